/- Part 1 of the proof of the statement FnPatchDo; the last part states it. No condition. -/
import Derived.Test.YtechafkfchmggaaGreatRows
import Derived.WalkKit
import Derived.ProofKit
import Derived.OpenShut
import Derived.ShutString
import Derived.ChangeOld
import Derived.Below
import Derived.SizedLaws
import Derived.Test.YtechafkfchmggaaGreatMGC2
import Derived.Test.YtechafkfchmggaaGreatMGC3
import Derived.Test.YtechafkfchmggaaGreatMGC4
import Derived.Test.YtechafkfchmggaaGreatMGC20
section
set_option linter.unusedVariables false
set_option linter.unusedSimpArgs false
namespace Go.Proofs.YtechafkfchmggaaGreat.E
open Go Go.RowKit
set_option linter.unusedVariables false
set_option maxRecDepth 100000
namespace impl_PatchData_1
def sin : Sig := ⟨[], [.agg [.val I false, .val I false]]⟩
def sout : Sig := ⟨[], [.one (.val .bool false)]⟩
noncomputable def G {β : Type} (S : Sl) (a0 : Int) (a1 : Int) (K : Bool → Option β) : Option β := impl_PatchOk.G S a0 a1 (fun y1 => K (!y1))
noncomputable def o : Orac := ⟨135, sin, sout, fun s K => G sl0 s.2.1.1 s.2.1.2.1 (fun x0 => K ((), (x0, ())))⟩
noncomputable def C : Ctx := ⟨tyT, [impl_PatchOk.o], [], 6, 0⟩
theorem ctx : CtxOk Tryz.prog C := ⟨tyOk, all1 impl_PatchOk.ok (all0)⟩
theorem eG (β : Type) (s : sin.den) (K : sout.den → Option β) : evalFn C Tryz.f135 sin sout s K = o.F s K := by kernel_rfl
theorem ok : OracOk Tryz.prog o := fn_ok mixed Tryz.func135 (by kernel_rfl) ctx (c := bodyC Tryz.f135) (by kernel_rfl) (all0) (by kernel_rfl) (by kernel_rfl) (by kernel_rfl) (Nat.le_of_ble_eq_true (by kernel_rfl)) eG (by kernel_rfl) (Nat.le_of_ble_eq_true (by kernel_rfl))
end impl_PatchData_1
end Go.Proofs.YtechafkfchmggaaGreat.E
end
section
set_option linter.unusedVariables false
set_option linter.unusedSimpArgs false
namespace Go.Proofs.YtechafkfchmggaaGreat.E
open Go Go.RowKit
set_option linter.unusedVariables false
set_option maxRecDepth 100000
namespace slices_IndexFunc_Simpl_Patch_impl_Patch
def sin : Sig := ⟨[], [.one (.val (.sl (.pair I (.pair I .unit))) false), .one (.ref (.fn 135 []))]⟩
def sout : Sig := ⟨[], [.one (.val I false)]⟩
def h2 : SS := ⟨[0, 1, 7, 8], ⟨[], [.one (.val (.sl (.pair I (.pair I .unit))) false), .one (.ref (.fn 135 [])), .one (.val I false), .one (.val I false)]⟩⟩
def x2 : SS := ⟨[], ⟨[], []⟩⟩
def y2 : SS := ⟨[4], ⟨[], [.one (.val I false)]⟩⟩
noncomputable def b2 {β : Type} (S : Sl) (L : (List (Int × (Int × Unit))) → Int → Int → Option β) (kx : Option β) (kr : Int → Option β) (s0 : (List (Int × (Int × Unit)))) (s1 : Int) (s2 : Int) : Option β := bif (S.lt s2 s1) then (bif (S.ir s2 s0.length) then (impl_PatchData_1.G S ((List.getD s0 (Int.toNat s2) (0, (0, ()))).1) ((List.getD s0 (Int.toNat s2) (0, (0, ()))).2.1) (fun y1 => bif y1 then (kr s2) else (L s0 s1 (S.w (s2 + 1))))) else (none)) else (kx)
noncomputable def r2 {β : Type} (S : Sl) (n : Nat) (kx : x2.sig.den → Option β) (kr : y2.sig.den → Option β) (s : h2.sig.den) : Option β := rounds (fun L kx kr s => b2 S (fun x0 x1 x2 => L ((), (x0, (x1, (x2, ()))))) (kx ((), ())) (fun x0 => kr ((), (x0, ()))) s.2.1 s.2.2.1 s.2.2.2.1) kx kr n s
noncomputable def l2 {β : Type} (S : Sl) (n : Nat) (kx : Option β) (kr : Int → Option β) (s0 : (List (Int × (Int × Unit)))) (s1 : Int) (s2 : Int) : Option β := r2 S n (fun s => kx) (fun s => kr s.2.1) ((), (s0, (s1, (s2, ()))))
theorem t2 {β : Type} (S : Sl) (n : Nat) (kx : Option β) (kr : Int → Option β) (s0 : (List (Int × (Int × Unit)))) (s1 : Int) (s2 : Int) : l2 S (n + 1) kx kr s0 s1 s2 = b2 S (l2 S n kx kr) kx kr s0 s1 s2 := by kernel_rfl
noncomputable def G {β : Type} (S : Sl) (a0 : (List (Int × (Int × Unit)))) (K : Int → Option β) : Option β := l2 S S.n (K (-1)) (fun y1 => K y1) a0 (a0.length : Int) 0
noncomputable def o : Orac := ⟨179, sin, sout, fun s K => G sl0 s.2.1 (fun x0 => K ((), (x0, ())))⟩
noncomputable def C : Ctx := ⟨tyT, [impl_PatchData_1.o], [⟨2, 0, h2, x2, y2, fun s kx kr => r2 sl0 sl0.n kx kr s⟩], 19, 0⟩
theorem ctx : CtxOk Tryz.prog C := ⟨tyOk, all1 impl_PatchData_1.ok (all0)⟩
theorem e2 (β : Type) (L : h2.sig.den → Option β) (kx : x2.sig.den → Option β) (kr : y2.sig.den → Option β) (s : h2.sig.den) : evalBody C (nthC (loopsOf (bodyC Tryz.f179)) 0) 0 h2 x2 y2 L kx kr s = b2 sl0 (fun x0 x1 x2 => L ((), (x0, (x1, (x2, ()))))) (kx ((), ())) (fun x0 => kr ((), (x0, ()))) s.2.1 s.2.2.1 s.2.2.2.1 := by kernel_rfl
theorem g2 : LS Tryz.prog C ⟨2, 0, h2, x2, y2, fun s kx kr => r2 sl0 sl0.n kx kr s⟩ (loopsOf (bodyC Tryz.f179)) := LS.at (i := 0) (by kernel_rfl) (loop_good mixed ctx (ctx_nat ctx) (N := sl0.n) (fun _ _ _ _ => rfl) e2 (all1 (LS.none (by kernel_rfl)) (all0)))
theorem eG (β : Type) (s : sin.den) (K : sout.den → Option β) : evalFn C Tryz.f179 sin sout s K = o.F s K := by kernel_rfl
theorem ok : OracOk Tryz.prog o := fn_ok mixed Tryz.func179 (by kernel_rfl) ctx (c := bodyC Tryz.f179) (by kernel_rfl) (all1 g2 (all0)) (by kernel_rfl) (by kernel_rfl) (by kernel_rfl) (Nat.le_of_ble_eq_true (by kernel_rfl)) eG (by kernel_rfl) (Nat.le_of_ble_eq_true (by kernel_rfl))
end slices_IndexFunc_Simpl_Patch_impl_Patch
end Go.Proofs.YtechafkfchmggaaGreat.E
end
section
set_option linter.unusedVariables false
set_option linter.unusedSimpArgs false
namespace Go.Proofs.YtechafkfchmggaaGreat.E
open Go Go.RowKit
set_option linter.unusedVariables false
set_option maxRecDepth 100000
namespace slices_ContainsFunc_Simpl_Patch_impl_Patch
def sin : Sig := ⟨[], [.one (.val (.sl (.pair I (.pair I .unit))) false), .one (.ref (.fn 135 []))]⟩
def sout : Sig := ⟨[], [.one (.val .bool false)]⟩
noncomputable def G {β : Type} (S : Sl) (a0 : (List (Int × (Int × Unit)))) (K : Bool → Option β) : Option β := slices_IndexFunc_Simpl_Patch_impl_Patch.G S a0 (fun y1 => K (S.le 0 y1))
noncomputable def o : Orac := ⟨134, sin, sout, fun s K => G sl0 s.2.1 (fun x0 => K ((), (x0, ())))⟩
noncomputable def C : Ctx := ⟨tyT, [slices_IndexFunc_Simpl_Patch_impl_Patch.o], [], 9, 0⟩
theorem ctx : CtxOk Tryz.prog C := ⟨tyOk, all1 slices_IndexFunc_Simpl_Patch_impl_Patch.ok (all0)⟩
theorem eG (β : Type) (s : sin.den) (K : sout.den → Option β) : evalFn C Tryz.f134 sin sout s K = o.F s K := by kernel_rfl
theorem ok : OracOk Tryz.prog o := fn_ok mixed Tryz.func134 (by kernel_rfl) ctx (c := bodyC Tryz.f134) (by kernel_rfl) (all0) (by kernel_rfl) (by kernel_rfl) (by kernel_rfl) (Nat.le_of_ble_eq_true (by kernel_rfl)) eG (by kernel_rfl) (Nat.le_of_ble_eq_true (by kernel_rfl))
end slices_ContainsFunc_Simpl_Patch_impl_Patch
end Go.Proofs.YtechafkfchmggaaGreat.E
end
section
set_option linter.unusedVariables false
set_option linter.unusedSimpArgs false
namespace Go.Proofs.YtechafkfchmggaaGreat.E
open Go Go.RowKit
set_option linter.unusedVariables false
set_option maxRecDepth 100000
namespace impl_PatchData
def sin : Sig := ⟨[], [.one (.val (.sl I) false), .one (.val (.sl (.pair I (.pair I .unit))) false)]⟩
def sout : Sig := ⟨[.buf I false], [.one (.ref (.own 0))]⟩
def h5 : SS := ⟨[5, 20, 21, 22], ⟨[.box [.val (.arr 4 I) false]], [.one (.ref (.ptr 0)), .one (.val (.sl (.pair I (.pair I .unit))) false), .one (.val I false), .one (.val I false)]⟩⟩
def x5 : SS := ⟨[5], ⟨[.box [.val (.arr 4 I) false]], [.one (.ref (.ptr 0))]⟩⟩
def y5 : SS := ⟨[], ⟨[], []⟩⟩
noncomputable def b5 {β : Type} (S : Sl) (L : (List Int) → (List (Int × (Int × Unit))) → Int → Int → Option β) (kx : (List Int) → Option β) (kr : Option β) (s0 : (List Int)) (s1 : (List (Int × (Int × Unit)))) (s2 : Int) (s3 : Int) : Option β := bif (S.lt s3 s2) then (bif (S.ir s3 s1.length) then (bif (S.ir ((List.getD s1 (Int.toNat s3) (0, (0, ()))).1) 4) then (impl_element_plus.G S (List.getD s0 (Int.toNat ((List.getD s1 (Int.toNat s3) (0, (0, ()))).1)) 0) ((List.getD s1 (Int.toNat s3) (0, (0, ()))).2.1) (fun y1 => bif (S.ir ((List.getD s1 (Int.toNat s3) (0, (0, ()))).1) 4) then (L (List.set s0 (Int.toNat ((List.getD s1 (Int.toNat s3) (0, (0, ()))).1)) y1) s1 s2 (S.w (s3 + 1))) else (none))) else (none)) else (none)) else (kx s0)
noncomputable def r5 {β : Type} (S : Sl) (n : Nat) (kx : x5.sig.den → Option β) (kr : y5.sig.den → Option β) (s : h5.sig.den) : Option β := rounds (fun L kx kr s => b5 S (fun x0 x1 x2 x3 => L (((x0, ()), ()), (x1, (x2, (x3, ()))))) (fun x0 => kx (((x0, ()), ()), ())) (kr ((), ())) s.1.1.1 s.2.1 s.2.2.1 s.2.2.2.1) kx kr n s
noncomputable def l5 {β : Type} (S : Sl) (n : Nat) (kx : (List Int) → Option β) (kr : Option β) (s0 : (List Int)) (s1 : (List (Int × (Int × Unit)))) (s2 : Int) (s3 : Int) : Option β := r5 S n (fun s => kx s.1.1.1) (fun s => kr) (((s0, ()), ()), (s1, (s2, (s3, ()))))
theorem t5 {β : Type} (S : Sl) (n : Nat) (kx : (List Int) → Option β) (kr : Option β) (s0 : (List Int)) (s1 : (List (Int × (Int × Unit)))) (s2 : Int) (s3 : Int) : l5 S (n + 1) kx kr s0 s1 s2 s3 = b5 S (l5 S n kx kr) kx kr s0 s1 s2 s3 := by kernel_rfl
noncomputable def G {β : Type} (S : Sl) (a0 : (List Int)) (a1 : (List (Int × (Int × Unit)))) (K : (List Int) → Option β) : Option β := impl_vectorOf.G S a0 (fun y1 y2 => bif (!y2) then (K []) else (slices_ContainsFunc_Simpl_Patch_impl_Patch.G S a1 (fun y3 => bif y3 then (K []) else (l5 S S.n (fun y4 => impl_vector_list.G S y4 (fun y5 => K y5)) none y1 a1 (a1.length : Int) 0))))
noncomputable def o : Orac := ⟨64, sin, sout, fun s K => G sl0 s.2.1 s.2.2.1 (fun x0 => K ((x0, ()), ()))⟩
noncomputable def C : Ctx := ⟨tyT, [impl_element_plus.o, impl_vectorOf.o, impl_vector_list.o, slices_ContainsFunc_Simpl_Patch_impl_Patch.o], [⟨5, 0, h5, x5, y5, fun s kx kr => r5 sl0 sl0.n kx kr s⟩], 39, 0⟩
theorem ctx : CtxOk Tryz.prog C := ⟨tyOk, all1 impl_element_plus.ok (all1 impl_vectorOf.ok (all1 impl_vector_list.ok (all1 slices_ContainsFunc_Simpl_Patch_impl_Patch.ok (all0))))⟩
theorem e5 (β : Type) (L : h5.sig.den → Option β) (kx : x5.sig.den → Option β) (kr : y5.sig.den → Option β) (s : h5.sig.den) : evalBody C (nthC (loopsOf (bodyC Tryz.f64)) 0) 0 h5 x5 y5 L kx kr s = b5 sl0 (fun x0 x1 x2 x3 => L (((x0, ()), ()), (x1, (x2, (x3, ()))))) (fun x0 => kx (((x0, ()), ()), ())) (kr ((), ())) s.1.1.1 s.2.1 s.2.2.1 s.2.2.2.1 := by kernel_rfl
theorem g5 : LS Tryz.prog C ⟨5, 0, h5, x5, y5, fun s kx kr => r5 sl0 sl0.n kx kr s⟩ (loopsOf (bodyC Tryz.f64)) := LS.at (i := 0) (by kernel_rfl) (loop_good mixed ctx (ctx_nat ctx) (N := sl0.n) (fun _ _ _ _ => rfl) e5 (all1 (LS.none (by kernel_rfl)) (all0)))
theorem eG (β : Type) (s : sin.den) (K : sout.den → Option β) : evalFn C Tryz.f64 sin sout s K = o.F s K := by kernel_rfl
theorem ok : OracOk Tryz.prog o := fn_ok mixed Tryz.func64 (by kernel_rfl) ctx (c := bodyC Tryz.f64) (by kernel_rfl) (all1 g5 (all0)) (by kernel_rfl) (by kernel_rfl) (by kernel_rfl) (Nat.le_of_ble_eq_true (by kernel_rfl)) eG (by kernel_rfl) (Nat.le_of_ble_eq_true (by kernel_rfl))
end impl_PatchData
end Go.Proofs.YtechafkfchmggaaGreat.E
end
section
set_option linter.unusedVariables false
set_option linter.unusedSimpArgs false
namespace Go.Proofs.YtechafkfchmggaaGreat.E
open Go Go.RowKit
set_option linter.unusedVariables false
set_option maxRecDepth 100000
namespace laws_lkOf
def sin : Sig := ⟨[], [.agg [.val I false, .val (.sl I) false, .val (.sl I) false, .val (.sl .bool) false], .one (.val I false)]⟩
def sout : Sig := ⟨[.buf .bool false], [.one (.ref (.own 0))]⟩
def h3 : SS := ⟨[1, 2, 5, 6], ⟨[.box [.val I false, .val (.sl I) false, .val (.sl I) false, .val (.sl .bool) false], .buf .bool false], [.one (.val I false), .one (.ref (.ptr 0)), .one (.ref (.own 1)), .one (.val I false)]⟩⟩
def x3 : SS := ⟨[5], ⟨[.buf .bool false], [.one (.ref (.own 0))]⟩⟩
def y3 : SS := ⟨[], ⟨[], []⟩⟩
noncomputable def b3 {β : Type} (S : Sl) (L : Int → (List Int) → (List Int) → (List Bool) → (List Bool) → Int → Int → Option β) (kx : (List Bool) → Option β) (kr : Option β) (s0 : Int) (s1 : (List Int)) (s2 : (List Int)) (s3 : (List Bool)) (s4 : (List Bool)) (s5 : Int) (s6 : Int) : Option β := bif (S.lt s6 (s3.length : Int)) then (bif (S.ir s6 s3.length) then (bif (List.getD s3 (Int.toNat s6) false) then (bif (S.ir s6 s2.length) then (bif (S.fw (s4 ++ [(S.eq (List.getD s2 (Int.toNat s6) 0) s5)]).length) then (L s0 s1 s2 s3 (s4 ++ [(S.eq (List.getD s2 (Int.toNat s6) 0) s5)]) s5 (S.w (s6 + 1))) else (none)) else (none)) else (bif (S.fw (s4 ++ [false]).length) then (L s0 s1 s2 s3 (s4 ++ [false]) s5 (S.w (s6 + 1))) else (none))) else (none)) else (kx s4)
noncomputable def r3 {β : Type} (S : Sl) (n : Nat) (kx : x3.sig.den → Option β) (kr : y3.sig.den → Option β) (s : h3.sig.den) : Option β := rounds (fun L kx kr s => b3 S (fun x0 x1 x2 x3 x4 x5 x6 => L (((x0, (x1, (x2, (x3, ())))), (x4, ())), (x5, (x6, ())))) (fun x0 => kx ((x0, ()), ())) (kr ((), ())) s.1.1.1 s.1.1.2.1 s.1.1.2.2.1 s.1.1.2.2.2.1 s.1.2.1 s.2.1 s.2.2.1) kx kr n s
noncomputable def l3 {β : Type} (S : Sl) (n : Nat) (kx : (List Bool) → Option β) (kr : Option β) (s0 : Int) (s1 : (List Int)) (s2 : (List Int)) (s3 : (List Bool)) (s4 : (List Bool)) (s5 : Int) (s6 : Int) : Option β := r3 S n (fun s => kx s.1.1) (fun s => kr) (((s0, (s1, (s2, (s3, ())))), (s4, ())), (s5, (s6, ())))
theorem t3 {β : Type} (S : Sl) (n : Nat) (kx : (List Bool) → Option β) (kr : Option β) (s0 : Int) (s1 : (List Int)) (s2 : (List Int)) (s3 : (List Bool)) (s4 : (List Bool)) (s5 : Int) (s6 : Int) : l3 S (n + 1) kx kr s0 s1 s2 s3 s4 s5 s6 = b3 S (l3 S n kx kr) kx kr s0 s1 s2 s3 s4 s5 s6 := by kernel_rfl
noncomputable def G {β : Type} (S : Sl) (a0 : Int) (a1 : (List Int)) (a2 : (List Int)) (a3 : (List Bool)) (a4 : Int) (K : (List Bool) → Option β) : Option β := l3 S S.n (fun y1 => K y1) none a0 a1 a2 a3 [] a4 0
noncomputable def o : Orac := ⟨50, sin, sout, fun s K => G sl0 s.2.1.1 s.2.1.2.1 s.2.1.2.2.1 s.2.1.2.2.2.1 s.2.2.1 (fun x0 => K ((x0, ()), ()))⟩
noncomputable def C : Ctx := ⟨tyT, [], [⟨3, 0, h3, x3, y3, fun s kx kr => r3 sl0 sl0.n kx kr s⟩], 33, 0⟩
theorem ctx : CtxOk Tryz.prog C := ⟨tyOk, all0⟩
theorem e3 (β : Type) (L : h3.sig.den → Option β) (kx : x3.sig.den → Option β) (kr : y3.sig.den → Option β) (s : h3.sig.den) : evalBody C (nthC (loopsOf (bodyC Tryz.f50)) 0) 0 h3 x3 y3 L kx kr s = b3 sl0 (fun x0 x1 x2 x3 x4 x5 x6 => L (((x0, (x1, (x2, (x3, ())))), (x4, ())), (x5, (x6, ())))) (fun x0 => kx ((x0, ()), ())) (kr ((), ())) s.1.1.1 s.1.1.2.1 s.1.1.2.2.1 s.1.1.2.2.2.1 s.1.2.1 s.2.1 s.2.2.1 := by kernel_rfl
theorem g3 : LS Tryz.prog C ⟨3, 0, h3, x3, y3, fun s kx kr => r3 sl0 sl0.n kx kr s⟩ (loopsOf (bodyC Tryz.f50)) := LS.at (i := 0) (by kernel_rfl) (loop_good mixed ctx (ctx_nat ctx) (N := sl0.n) (fun _ _ _ _ => rfl) e3 (all1 (LS.none (by kernel_rfl)) (all0)))
theorem eG (β : Type) (s : sin.den) (K : sout.den → Option β) : evalFn C Tryz.f50 sin sout s K = o.F s K := by kernel_rfl
theorem ok : OracOk Tryz.prog o := fn_ok mixed Tryz.func50 (by kernel_rfl) ctx (c := bodyC Tryz.f50) (by kernel_rfl) (all1 g3 (all0)) (by kernel_rfl) (by kernel_rfl) (by kernel_rfl) (Nat.le_of_ble_eq_true (by kernel_rfl)) eG (by kernel_rfl) (Nat.le_of_ble_eq_true (by kernel_rfl))
end laws_lkOf
end Go.Proofs.YtechafkfchmggaaGreat.E
end
section
set_option linter.unusedVariables false
set_option linter.unusedSimpArgs false
namespace Go.Proofs.YtechafkfchmggaaGreat.E
open Go Go.RowKit
set_option linter.unusedVariables false
set_option maxRecDepth 100000
namespace laws_lkBools
def sin : Sig := ⟨[], [.one (.val (.sl .bool) false), .one (.val (.sl .bool) false)]⟩
def sout : Sig := ⟨[], [.one (.val .bool false)]⟩
def h4 : SS := ⟨[0, 1, 5], ⟨[], [.one (.val (.sl .bool) false), .one (.val (.sl .bool) false), .one (.val I false)]⟩⟩
def x4 : SS := ⟨[], ⟨[], []⟩⟩
def y4 : SS := ⟨[4], ⟨[], [.one (.val .bool false)]⟩⟩
noncomputable def b4 {β : Type} (S : Sl) (L : (List Bool) → (List Bool) → Int → Option β) (kx : Option β) (kr : Bool → Option β) (s0 : (List Bool)) (s1 : (List Bool)) (s2 : Int) : Option β := bif (S.lt s2 (s0.length : Int)) then (bif (S.ir s2 s0.length) then (bif (S.ir s2 s1.length) then (bif ((List.getD s0 (Int.toNat s2) false) != (List.getD s1 (Int.toNat s2) false)) then (kr false) else (L s0 s1 (S.w (s2 + 1)))) else (none)) else (none)) else (kx)
noncomputable def r4 {β : Type} (S : Sl) (n : Nat) (kx : x4.sig.den → Option β) (kr : y4.sig.den → Option β) (s : h4.sig.den) : Option β := rounds (fun L kx kr s => b4 S (fun x0 x1 x2 => L ((), (x0, (x1, (x2, ()))))) (kx ((), ())) (fun x0 => kr ((), (x0, ()))) s.2.1 s.2.2.1 s.2.2.2.1) kx kr n s
noncomputable def l4 {β : Type} (S : Sl) (n : Nat) (kx : Option β) (kr : Bool → Option β) (s0 : (List Bool)) (s1 : (List Bool)) (s2 : Int) : Option β := r4 S n (fun s => kx) (fun s => kr s.2.1) ((), (s0, (s1, (s2, ()))))
theorem t4 {β : Type} (S : Sl) (n : Nat) (kx : Option β) (kr : Bool → Option β) (s0 : (List Bool)) (s1 : (List Bool)) (s2 : Int) : l4 S (n + 1) kx kr s0 s1 s2 = b4 S (l4 S n kx kr) kx kr s0 s1 s2 := by kernel_rfl
noncomputable def G {β : Type} (S : Sl) (a0 : (List Bool)) (a1 : (List Bool)) (K : Bool → Option β) : Option β := bif (!S.eq (a0.length : Int) (a1.length : Int)) then (K false) else (l4 S S.n (K true) (fun y1 => K y1) a0 a1 0)
noncomputable def o : Orac := ⟨105, sin, sout, fun s K => G sl0 s.2.1 s.2.2.1 (fun x0 => K ((), (x0, ())))⟩
noncomputable def C : Ctx := ⟨tyT, [], [⟨4, 0, h4, x4, y4, fun s kx kr => r4 sl0 sl0.n kx kr s⟩], 26, 0⟩
theorem ctx : CtxOk Tryz.prog C := ⟨tyOk, all0⟩
theorem e4 (β : Type) (L : h4.sig.den → Option β) (kx : x4.sig.den → Option β) (kr : y4.sig.den → Option β) (s : h4.sig.den) : evalBody C (nthC (loopsOf (bodyC Tryz.f105)) 0) 0 h4 x4 y4 L kx kr s = b4 sl0 (fun x0 x1 x2 => L ((), (x0, (x1, (x2, ()))))) (kx ((), ())) (fun x0 => kr ((), (x0, ()))) s.2.1 s.2.2.1 s.2.2.2.1 := by kernel_rfl
theorem g4 : LS Tryz.prog C ⟨4, 0, h4, x4, y4, fun s kx kr => r4 sl0 sl0.n kx kr s⟩ (loopsOf (bodyC Tryz.f105)) := LS.at (i := 0) (by kernel_rfl) (loop_good mixed ctx (ctx_nat ctx) (N := sl0.n) (fun _ _ _ _ => rfl) e4 (all1 (LS.none (by kernel_rfl)) (all0)))
theorem eG (β : Type) (s : sin.den) (K : sout.den → Option β) : evalFn C Tryz.f105 sin sout s K = o.F s K := by kernel_rfl
theorem ok : OracOk Tryz.prog o := fn_ok mixed Tryz.func105 (by kernel_rfl) ctx (c := bodyC Tryz.f105) (by kernel_rfl) (all1 g4 (all0)) (by kernel_rfl) (by kernel_rfl) (by kernel_rfl) (Nat.le_of_ble_eq_true (by kernel_rfl)) eG (by kernel_rfl) (Nat.le_of_ble_eq_true (by kernel_rfl))
end laws_lkBools
end Go.Proofs.YtechafkfchmggaaGreat.E
end
section
set_option linter.unusedVariables false
set_option linter.unusedSimpArgs false
namespace Go.Proofs.YtechafkfchmggaaGreat.E
open Go Go.RowKit
set_option linter.unusedVariables false
set_option maxRecDepth 100000
namespace laws_lkInts
def sin : Sig := ⟨[], [.one (.val (.sl I) false), .one (.val (.sl I) false)]⟩
def sout : Sig := ⟨[], [.one (.val .bool false)]⟩
def h4 : SS := ⟨[0, 1, 5], ⟨[], [.one (.val (.sl I) false), .one (.val (.sl I) false), .one (.val I false)]⟩⟩
def x4 : SS := ⟨[], ⟨[], []⟩⟩
def y4 : SS := ⟨[4], ⟨[], [.one (.val .bool false)]⟩⟩
noncomputable def b4 {β : Type} (S : Sl) (L : (List Int) → (List Int) → Int → Option β) (kx : Option β) (kr : Bool → Option β) (s0 : (List Int)) (s1 : (List Int)) (s2 : Int) : Option β := bif (S.lt s2 (s0.length : Int)) then (bif (S.ir s2 s0.length) then (bif (S.ir s2 s1.length) then (bif (!S.eq (List.getD s0 (Int.toNat s2) 0) (List.getD s1 (Int.toNat s2) 0)) then (kr false) else (L s0 s1 (S.w (s2 + 1)))) else (none)) else (none)) else (kx)
noncomputable def r4 {β : Type} (S : Sl) (n : Nat) (kx : x4.sig.den → Option β) (kr : y4.sig.den → Option β) (s : h4.sig.den) : Option β := rounds (fun L kx kr s => b4 S (fun x0 x1 x2 => L ((), (x0, (x1, (x2, ()))))) (kx ((), ())) (fun x0 => kr ((), (x0, ()))) s.2.1 s.2.2.1 s.2.2.2.1) kx kr n s
noncomputable def l4 {β : Type} (S : Sl) (n : Nat) (kx : Option β) (kr : Bool → Option β) (s0 : (List Int)) (s1 : (List Int)) (s2 : Int) : Option β := r4 S n (fun s => kx) (fun s => kr s.2.1) ((), (s0, (s1, (s2, ()))))
theorem t4 {β : Type} (S : Sl) (n : Nat) (kx : Option β) (kr : Bool → Option β) (s0 : (List Int)) (s1 : (List Int)) (s2 : Int) : l4 S (n + 1) kx kr s0 s1 s2 = b4 S (l4 S n kx kr) kx kr s0 s1 s2 := by kernel_rfl
noncomputable def G {β : Type} (S : Sl) (a0 : (List Int)) (a1 : (List Int)) (K : Bool → Option β) : Option β := bif (!S.eq (a0.length : Int) (a1.length : Int)) then (K false) else (l4 S S.n (K true) (fun y1 => K y1) a0 a1 0)
noncomputable def o : Orac := ⟨46, sin, sout, fun s K => G sl0 s.2.1 s.2.2.1 (fun x0 => K ((), (x0, ())))⟩
noncomputable def C : Ctx := ⟨tyT, [], [⟨4, 0, h4, x4, y4, fun s kx kr => r4 sl0 sl0.n kx kr s⟩], 26, 0⟩
theorem ctx : CtxOk Tryz.prog C := ⟨tyOk, all0⟩
theorem e4 (β : Type) (L : h4.sig.den → Option β) (kx : x4.sig.den → Option β) (kr : y4.sig.den → Option β) (s : h4.sig.den) : evalBody C (nthC (loopsOf (bodyC Tryz.f46)) 0) 0 h4 x4 y4 L kx kr s = b4 sl0 (fun x0 x1 x2 => L ((), (x0, (x1, (x2, ()))))) (kx ((), ())) (fun x0 => kr ((), (x0, ()))) s.2.1 s.2.2.1 s.2.2.2.1 := by kernel_rfl
theorem g4 : LS Tryz.prog C ⟨4, 0, h4, x4, y4, fun s kx kr => r4 sl0 sl0.n kx kr s⟩ (loopsOf (bodyC Tryz.f46)) := LS.at (i := 0) (by kernel_rfl) (loop_good mixed ctx (ctx_nat ctx) (N := sl0.n) (fun _ _ _ _ => rfl) e4 (all1 (LS.none (by kernel_rfl)) (all0)))
theorem eG (β : Type) (s : sin.den) (K : sout.den → Option β) : evalFn C Tryz.f46 sin sout s K = o.F s K := by kernel_rfl
theorem ok : OracOk Tryz.prog o := fn_ok mixed Tryz.func46 (by kernel_rfl) ctx (c := bodyC Tryz.f46) (by kernel_rfl) (all1 g4 (all0)) (by kernel_rfl) (by kernel_rfl) (by kernel_rfl) (Nat.le_of_ble_eq_true (by kernel_rfl)) eG (by kernel_rfl) (Nat.le_of_ble_eq_true (by kernel_rfl))
end laws_lkInts
end Go.Proofs.YtechafkfchmggaaGreat.E
end
section
set_option linter.unusedVariables false
set_option linter.unusedSimpArgs false
namespace Go.Proofs.YtechafkfchmggaaGreat.E
open Go Go.RowKit
set_option linter.unusedVariables false
set_option maxRecDepth 100000
namespace laws_lkStripe
def sin : Sig := ⟨[], [.agg [.val I false, .val (.sl I) false, .val (.sl I) false, .val (.sl .bool) false], .agg [.val I false, .val (.sl I) false, .val (.sl I) false, .val (.sl .bool) false]]⟩
def sout : Sig := ⟨[], [.one (.val .bool false)]⟩
noncomputable def G {β : Type} (S : Sl) (a0 : Int) (a1 : (List Int)) (a2 : (List Int)) (a3 : (List Bool)) (a4 : Int) (a5 : (List Int)) (a6 : (List Int)) (a7 : (List Bool)) (K : Bool → Option β) : Option β := bif (S.eq a0 a4) then (laws_lkInts.G S a1 a5 (fun y1 => bif y1 then (laws_lkInts.G S a2 a6 (fun y2 => bif y2 then (laws_lkBools.G S a3 a7 (fun y3 => K y3)) else (K false))) else (K false))) else (K false)
noncomputable def o : Orac := ⟨39, sin, sout, fun s K => G sl0 s.2.1.1 s.2.1.2.1 s.2.1.2.2.1 s.2.1.2.2.2.1 s.2.2.1.1 s.2.2.1.2.1 s.2.2.1.2.2.1 s.2.2.1.2.2.2.1 (fun x0 => K ((), (x0, ())))⟩
noncomputable def C : Ctx := ⟨tyT, [laws_lkBools.o, laws_lkInts.o], [], 31, 0⟩
theorem ctx : CtxOk Tryz.prog C := ⟨tyOk, all1 laws_lkBools.ok (all1 laws_lkInts.ok (all0))⟩
theorem eG (β : Type) (s : sin.den) (K : sout.den → Option β) : evalFn C Tryz.f39 sin sout s K = o.F s K := by kernel_rfl
theorem ok : OracOk Tryz.prog o := fn_ok mixed Tryz.func39 (by kernel_rfl) ctx (c := bodyC Tryz.f39) (by kernel_rfl) (all0) (by kernel_rfl) (by kernel_rfl) (by kernel_rfl) (Nat.le_of_ble_eq_true (by kernel_rfl)) eG (by kernel_rfl) (Nat.le_of_ble_eq_true (by kernel_rfl))
end laws_lkStripe
end Go.Proofs.YtechafkfchmggaaGreat.E
end
section
set_option linter.unusedVariables false
set_option linter.unusedSimpArgs false
namespace Go.Proofs.YtechafkfchmggaaGreat.E
open Go Go.RowKit
set_option linter.unusedVariables false
set_option maxRecDepth 100000
namespace spec_l92Patch
def sin : Sig := ⟨[.box [.val (.sl (.int .u8)) false, .val I false]], [.one (.ref (.ptr 0))]⟩
def sout : Sig := ⟨[.box [.val (.sl (.int .u8)) false, .val I false]], [.agg [.val I false, .val I false]]⟩
noncomputable def G {β : Type} (S : Sl) (a0 : (List Int)) (a1 : Int) (K : (List Int) → Int → Int → Int → Option β) : Option β := spec_l6Rd_pick.G S a0 a1 4 (fun y1 y2 y3 => spec_l6Rd_pick.G S y1 y2 30 (fun y4 y5 y6 => spec_l6Rd_pick.G S y4 y5 40 (fun y7 y8 y9 => K y7 y8 y3 (S.w ((S.w ((1 : Int) + y6)) - (S.w ((S.w (Int.tdiv y9 39)) * 31)))))))
noncomputable def o : Orac := ⟨133, sin, sout, fun s K => G sl0 s.1.1.1 s.1.1.2.1 (fun x0 x1 x2 x3 => K (((x0, (x1, ())), ()), ((x2, (x3, ())), ())))⟩
noncomputable def C : Ctx := ⟨tyT, [spec_l6Rd_pick.o], [], 14, 1⟩
theorem ctx : CtxOk Tryz.prog C := ⟨tyOk, all1 spec_l6Rd_pick.ok (all0)⟩
theorem eG (β : Type) (s : sin.den) (K : sout.den → Option β) : evalFn C Tryz.f133 sin sout s K = o.F s K := by kernel_rfl
theorem ok : OracOk Tryz.prog o := fn_ok mixed Tryz.func133 (by kernel_rfl) ctx (c := bodyC Tryz.f133) (by kernel_rfl) (all0) (by kernel_rfl) (by kernel_rfl) (by kernel_rfl) (Nat.le_of_ble_eq_true (by kernel_rfl)) eG (by kernel_rfl) (Nat.le_of_ble_eq_true (by kernel_rfl))
end spec_l92Patch
end Go.Proofs.YtechafkfchmggaaGreat.E
end
section
set_option linter.unusedVariables false
set_option linter.unusedSimpArgs false
namespace Go.Proofs.YtechafkfchmggaaGreat.E
open Go Go.RowKit
set_option linter.unusedVariables false
set_option maxRecDepth 100000
namespace spec_DrawPatchDo
def sin : Sig := ⟨[], [.one (.val (.sl (.int .u8)) false)]⟩
def sout : Sig := ⟨[.buf I false, .buf I false, .buf .bool false, .buf .bool false], [.agg [.val I false, .ref (.own 0), .ref (.own 1), .ref (.own 2)], .agg [.val I false, .val I false], .one (.ref (.own 3))]⟩
noncomputable def G {β : Type} (S : Sl) (a0 : (List Int)) (K : (List Int) → (List Int) → (List Bool) → (List Bool) → Int → Int → Int → Option β) : Option β := spec_l6Open.G S a0 (fun y1 y2 => spec_l92Stripe.G S y1 y2 (fun y3 y4 y5 y6 y7 y8 => spec_l92Patch.G S y3 y4 (fun y9 y10 y11 y12 => spec_l92Which.G S y9 y10 (fun y13 y14 y15 => K y5 y6 y7 y15 y8 y11 y12))))
noncomputable def o : Orac := ⟨63, sin, sout, fun s K => G sl0 s.2.1 (fun x0 x1 x2 x3 x4 x5 x6 => K ((x0, (x1, (x2, (x3, ())))), ((x4, ()), ((x5, (x6, ())), ()))))⟩
noncomputable def C : Ctx := ⟨tyT, [spec_l6Open.o, spec_l92Patch.o, spec_l92Stripe.o, spec_l92Which.o], [], 14, 0⟩
theorem ctx : CtxOk Tryz.prog C := ⟨tyOk, all1 spec_l6Open.ok (all1 spec_l92Patch.ok (all1 spec_l92Stripe.ok (all1 spec_l92Which.ok (all0))))⟩
theorem eG (β : Type) (s : sin.den) (K : sout.den → Option β) : evalFn C Tryz.f63 sin sout s K = o.F s K := by kernel_rfl
theorem ok : OracOk Tryz.prog o := fn_ok mixed Tryz.func63 (by kernel_rfl) ctx (c := bodyC Tryz.f63) (by kernel_rfl) (all0) (by kernel_rfl) (by kernel_rfl) (by kernel_rfl) (Nat.le_of_ble_eq_true (by kernel_rfl)) eG (by kernel_rfl) (Nat.le_of_ble_eq_true (by kernel_rfl))
end spec_DrawPatchDo
end Go.Proofs.YtechafkfchmggaaGreat.E
end
section
set_option linter.unusedVariables false
set_option linter.unusedSimpArgs false
namespace Go.Proofs.YtechafkfchmggaaGreat.E
open Go Go.RowKit
set_option linter.unusedVariables false
set_option maxRecDepth 100000
namespace laws_FnPatchDo
def sin : Sig := ⟨[], [.one (.val (.sl (.int .u8)) false)]⟩
def sout : Sig := ⟨[], [.one (.val .bool false)]⟩
def h11 : SS := ⟨[3, 4, 5, 8, 10, 13, 14], ⟨[.box [.val I false, .ref (.own 6), .ref (.own 7), .ref (.own 8)], .box [.val I false, .val I false], .buf .bool false, .box [.val I false, .ref (.own 9), .ref (.own 10), .ref (.own 11)], .buf I false, .buf .bool false, .buf I false, .buf I false, .buf .bool false, .buf I false, .buf I false, .buf .bool false], [.one (.ref (.ptr 0)), .one (.ref (.ptr 1)), .one (.ref (.own 2)), .one (.ref (.ptr 3)), .one (.ref (.own 4)), .one (.ref (.own 5)), .one (.val I false)]⟩⟩
def x11 : SS := ⟨[3, 4, 8, 10, 13], ⟨[.box [.val I false, .ref (.own 5), .ref (.own 6), .ref (.own 7)], .box [.val I false, .val I false], .box [.val I false, .ref (.own 8), .ref (.own 9), .ref (.own 10)], .buf I false, .buf .bool false, .buf I false, .buf I false, .buf .bool false, .buf I false, .buf I false, .buf .bool false], [.one (.ref (.ptr 0)), .one (.ref (.ptr 1)), .one (.ref (.ptr 2)), .one (.ref (.own 3)), .one (.ref (.own 4))]⟩⟩
def y11 : SS := ⟨[], ⟨[], []⟩⟩
noncomputable def b11 {β : Type} (S : Sl) (L : Int → Int → Int → (List Bool) → Int → (List Int) → (List Bool) → (List Int) → (List Int) → (List Bool) → (List Int) → (List Int) → (List Bool) → Int → Option β) (kx : Int → Int → Int → Int → (List Int) → (List Bool) → (List Int) → (List Int) → (List Bool) → (List Int) → (List Int) → (List Bool) → Option β) (kr : Option β) (s0 : Int) (s1 : Int) (s2 : Int) (s3 : (List Bool)) (s4 : Int) (s5 : (List Int)) (s6 : (List Bool)) (s7 : (List Int)) (s8 : (List Int)) (s9 : (List Bool)) (s10 : (List Int)) (s11 : (List Int)) (s12 : (List Bool)) (s13 : Int) : Option β := bif (S.lt s13 (s6.length : Int)) then (bif (S.ir s13 s6.length) then (bif (List.getD s6 (Int.toNat s13) false) then (bif (S.ir s13 s3.length) then (bif (S.ir s13 s6.length) then (L s0 s1 s2 s3 s4 s5 (List.set s6 (Int.toNat s13) (List.getD s3 (Int.toNat s13) false)) s7 s8 s9 s10 s11 s12 (S.w (s13 + 1))) else (none)) else (none)) else (bif (S.ir s13 s6.length) then (L s0 s1 s2 s3 s4 s5 (List.set s6 (Int.toNat s13) false) s7 s8 s9 s10 s11 s12 (S.w (s13 + 1))) else (none))) else (none)) else (kx s0 s1 s2 s4 s5 s6 s7 s8 s9 s10 s11 s12)
noncomputable def r11 {β : Type} (S : Sl) (n : Nat) (kx : x11.sig.den → Option β) (kr : y11.sig.den → Option β) (s : h11.sig.den) : Option β := rounds (fun L kx kr s => b11 S (fun x0 x1 x2 x3 x4 x5 x6 x7 x8 x9 x10 x11 x12 x13 => L (((x0, ()), ((x1, (x2, ())), (x3, ((x4, ()), (x5, (x6, (x7, (x8, (x9, (x10, (x11, (x12, ())))))))))))), (x13, ()))) (fun x0 x1 x2 x3 x4 x5 x6 x7 x8 x9 x10 x11 => kx (((x0, ()), ((x1, (x2, ())), ((x3, ()), (x4, (x5, (x6, (x7, (x8, (x9, (x10, (x11, ()))))))))))), ())) (kr ((), ())) s.1.1.1 s.1.2.1.1 s.1.2.1.2.1 s.1.2.2.1 s.1.2.2.2.1.1 s.1.2.2.2.2.1 s.1.2.2.2.2.2.1 s.1.2.2.2.2.2.2.1 s.1.2.2.2.2.2.2.2.1 s.1.2.2.2.2.2.2.2.2.1 s.1.2.2.2.2.2.2.2.2.2.1 s.1.2.2.2.2.2.2.2.2.2.2.1 s.1.2.2.2.2.2.2.2.2.2.2.2.1 s.2.1) kx kr n s
noncomputable def l11 {β : Type} (S : Sl) (n : Nat) (kx : Int → Int → Int → Int → (List Int) → (List Bool) → (List Int) → (List Int) → (List Bool) → (List Int) → (List Int) → (List Bool) → Option β) (kr : Option β) (s0 : Int) (s1 : Int) (s2 : Int) (s3 : (List Bool)) (s4 : Int) (s5 : (List Int)) (s6 : (List Bool)) (s7 : (List Int)) (s8 : (List Int)) (s9 : (List Bool)) (s10 : (List Int)) (s11 : (List Int)) (s12 : (List Bool)) (s13 : Int) : Option β := r11 S n (fun s => kx s.1.1.1 s.1.2.1.1 s.1.2.1.2.1 s.1.2.2.1.1 s.1.2.2.2.1 s.1.2.2.2.2.1 s.1.2.2.2.2.2.1 s.1.2.2.2.2.2.2.1 s.1.2.2.2.2.2.2.2.1 s.1.2.2.2.2.2.2.2.2.1 s.1.2.2.2.2.2.2.2.2.2.1 s.1.2.2.2.2.2.2.2.2.2.2.1) (fun s => kr) (((s0, ()), ((s1, (s2, ())), (s3, ((s4, ()), (s5, (s6, (s7, (s8, (s9, (s10, (s11, (s12, ())))))))))))), (s13, ()))
theorem t11 {β : Type} (S : Sl) (n : Nat) (kx : Int → Int → Int → Int → (List Int) → (List Bool) → (List Int) → (List Int) → (List Bool) → (List Int) → (List Int) → (List Bool) → Option β) (kr : Option β) (s0 : Int) (s1 : Int) (s2 : Int) (s3 : (List Bool)) (s4 : Int) (s5 : (List Int)) (s6 : (List Bool)) (s7 : (List Int)) (s8 : (List Int)) (s9 : (List Bool)) (s10 : (List Int)) (s11 : (List Int)) (s12 : (List Bool)) (s13 : Int) : l11 S (n + 1) kx kr s0 s1 s2 s3 s4 s5 s6 s7 s8 s9 s10 s11 s12 s13 = b11 S (l11 S n kx kr) kx kr s0 s1 s2 s3 s4 s5 s6 s7 s8 s9 s10 s11 s12 s13 := by kernel_rfl
noncomputable def G {β : Type} (S : Sl) (a0 : (List Int)) (K : Bool → Option β) : Option β := bif (S.lt 1048576 (a0.length : Int)) then (K true) else (spec_DrawPatchDo.G S a0 (fun y1 y2 y3 y4 y5 y6 y7 => spec_PatchDo.G S y5 y1 y2 y3 y6 y7 y4 (fun y8 y9 y10 y11 y12 => impl_PatchDo.G S y5 y1 y2 y3 y6 y7 y4 (fun y13 y14 y15 y16 y17 => bif (y17 != y12) then (bif (y17 == y12) then (laws_lkStripe.G S y16 y13 y14 y15 y11 y8 y9 y10 (fun y18 => K y18)) else (K false)) else (laws_lkStripe.G S y16 y13 y14 y15 y11 y8 y9 y10 (fun y19 => bif (!y19) then (bif (y17 == y12) then (laws_lkStripe.G S y16 y13 y14 y15 y11 y8 y9 y10 (fun y20 => K y20)) else (K false)) else (bif (!y17) then (bif (y17 == y12) then (laws_lkStripe.G S y16 y13 y14 y15 y11 y8 y9 y10 (fun y21 => K y21)) else (K false)) else (impl_StripeRead.G S y5 y1 y2 y3 (fun y22 y23 y24 => laws_lkOf.G S y5 y1 y2 y3 y23 (fun y25 => l11 S S.n (fun y26 y27 y28 y29 y30 y31 y32 y33 y34 y35 y36 y37 => impl_PatchData.G S y30 [(y27, (y28, ()))] (fun y38 => impl_StripeWrite.G S y26 y32 y33 y34 y38 y31 (fun y39 y40 y41 y42 y43 => bif y43 then (laws_lkStripe.G S y29 y35 y36 y37 y42 y39 y40 y41 (fun y44 => bif y44 then (impl_StripeOk.G S y29 y35 y36 y37 (fun y45 => K y45)) else (K false))) else (K false)))) none y5 y6 y7 y4 y16 y22 y25 y1 y2 y3 y13 y14 y15 0))))))))))
noncomputable def o : Orac := ⟨13, sin, sout, fun s K => G sl0 s.2.1 (fun x0 => K ((), (x0, ())))⟩
noncomputable def C : Ctx := ⟨tyT, [impl_PatchData.o, impl_PatchDo.o, impl_StripeOk.o, impl_StripeRead.o, impl_StripeWrite.o, laws_lkOf.o, laws_lkStripe.o, spec_DrawPatchDo.o, spec_PatchDo.o], [⟨11, 0, h11, x11, y11, fun s kx kr => r11 sl0 sl0.n kx kr s⟩], 109, 0⟩
theorem ctx : CtxOk Tryz.prog C := ⟨tyOk, all1 impl_PatchData.ok (all1 impl_PatchDo.ok (all1 impl_StripeOk.ok (all1 impl_StripeRead.ok (all1 impl_StripeWrite.ok (all1 laws_lkOf.ok (all1 laws_lkStripe.ok (all1 spec_DrawPatchDo.ok (all1 spec_PatchDo.ok (all0)))))))))⟩
theorem e11 (β : Type) (L : h11.sig.den → Option β) (kx : x11.sig.den → Option β) (kr : y11.sig.den → Option β) (s : h11.sig.den) : evalBody C (nthC (loopsOf (bodyC Tryz.f13)) 0) 0 h11 x11 y11 L kx kr s = b11 sl0 (fun x0 x1 x2 x3 x4 x5 x6 x7 x8 x9 x10 x11 x12 x13 => L (((x0, ()), ((x1, (x2, ())), (x3, ((x4, ()), (x5, (x6, (x7, (x8, (x9, (x10, (x11, (x12, ())))))))))))), (x13, ()))) (fun x0 x1 x2 x3 x4 x5 x6 x7 x8 x9 x10 x11 => kx (((x0, ()), ((x1, (x2, ())), ((x3, ()), (x4, (x5, (x6, (x7, (x8, (x9, (x10, (x11, ()))))))))))), ())) (kr ((), ())) s.1.1.1 s.1.2.1.1 s.1.2.1.2.1 s.1.2.2.1 s.1.2.2.2.1.1 s.1.2.2.2.2.1 s.1.2.2.2.2.2.1 s.1.2.2.2.2.2.2.1 s.1.2.2.2.2.2.2.2.1 s.1.2.2.2.2.2.2.2.2.1 s.1.2.2.2.2.2.2.2.2.2.1 s.1.2.2.2.2.2.2.2.2.2.2.1 s.1.2.2.2.2.2.2.2.2.2.2.2.1 s.2.1 := by kernel_rfl
theorem g11 : LS Tryz.prog C ⟨11, 0, h11, x11, y11, fun s kx kr => r11 sl0 sl0.n kx kr s⟩ (loopsOf (bodyC Tryz.f13)) := LS.at (i := 0) (by kernel_rfl) (loop_good mixed ctx (ctx_nat ctx) (N := sl0.n) (fun _ _ _ _ => rfl) e11 (all1 (LS.none (by kernel_rfl)) (all0)))
theorem eG (β : Type) (s : sin.den) (K : sout.den → Option β) : evalFn C Tryz.f13 sin sout s K = o.F s K := by kernel_rfl
theorem ok : OracOk Tryz.prog o := fn_ok mixed Tryz.func13 (by kernel_rfl) ctx (c := bodyC Tryz.f13) (by kernel_rfl) (all1 g11 (all0)) (by kernel_rfl) (by kernel_rfl) (by kernel_rfl) (Nat.le_of_ble_eq_true (by kernel_rfl)) eG (by kernel_rfl) (Nat.le_of_ble_eq_true (by kernel_rfl))
end laws_FnPatchDo
end Go.Proofs.YtechafkfchmggaaGreat.E
end
section
set_option linter.unusedVariables false
set_option linter.unusedSimpArgs false
namespace Go.Proofs.YtechafkfchmggaaGreat.E
open Go Go.RowKit
set_option linter.unusedVariables false
set_option maxRecDepth 100000
theorem lkInts_l {β : Type} (l : List Int) (hl : l.length ≤ 1000000) (kx : Option β) (kr : Bool → Option β) (d : Nat) : ∀ (i n : Nat), i + d = l.length → d < n → laws_lkInts.l4 sl1 n kx kr l l (i : Int) = kx := by
  induction d with
  | zero =>
    intro i n hi hn
    obtain ⟨n, rfl⟩ : ∃ m, n = m + 1 := ⟨n - 1, by omega⟩
    rw [laws_lkInts.t4]; exact cF (ltF (by omega)) rfl
  | succ d ih =>
    intro i n hi hn
    obtain ⟨n, rfl⟩ : ∃ m, n = m + 1 := ⟨n - 1, by omega⟩
    rw [laws_lkInts.t4]
    unfold laws_lkInts.b4
    refine cT (ltT (by omega)) (cT (irT (by omega) (by omega)) (cT (irT (by omega) (by omega)) (cF (neF rfl) ?_)))
    rw [w_succ (by omega)]
    exact ih (i + 1) n (by omega) (by omega)
theorem lkInts_same {β : Type} (l : List Int) (hl : l.length ≤ 1000000) (K : Bool → Option β) : laws_lkInts.G sl1 l l K = K true := by
  unfold laws_lkInts.G
  exact cF (neF rfl) (lkInts_l l hl _ _ l.length 0 sl1.n (by omega) (by rw [rounds_n]; omega))
end Go.Proofs.YtechafkfchmggaaGreat.E
end
section
set_option linter.unusedVariables false
set_option linter.unusedSimpArgs false
namespace Go.Proofs.YtechafkfchmggaaGreat.E
open Go Go.RowKit
set_option linter.unusedVariables false
set_option maxRecDepth 100000
theorem lkBools_l {β : Type} (l : List Bool) (hl : l.length ≤ 1048576) (kx : Option β) (kr : Bool → Option β) (d : Nat) : ∀ (i n : Nat), i + d = l.length → d < n → laws_lkBools.l4 sl1 n kx kr l l (i : Int) = kx := by
  induction d with
  | zero =>
    intro i n hi hn
    obtain ⟨n, rfl⟩ : ∃ m, n = m + 1 := ⟨n - 1, by omega⟩
    rw [laws_lkBools.t4]; exact cF (ltF (by omega)) rfl
  | succ d ih =>
    intro i n hi hn
    obtain ⟨n, rfl⟩ : ∃ m, n = m + 1 := ⟨n - 1, by omega⟩
    rw [laws_lkBools.t4]
    unfold laws_lkBools.b4
    rw [w_succ (by omega)]
    exact cT (ltT (by omega)) (cT (irT (by omega) (by omega)) (cT (irT (by omega) (by omega)) (cF (bne_self_eq_false _) (ih (i + 1) n (by omega) (by omega)))))
theorem lkBools_same {β : Type} {l : List Bool} (hl : l.length ≤ 1048576) (K : Bool → Option β) : laws_lkBools.G sl1 l l K = K true := by
  unfold laws_lkBools.G
  exact cF (neF rfl) (lkBools_l l hl _ _ l.length 0 sl1.n (by omega) (by rw [rounds_n]; omega))
theorem lkStripe_same {β : Type} (kind : Int) {vals vers : List Int} {there : List Bool} (h1 : vals.length ≤ 1000000) (h2 : vers.length ≤ 1000000) (h3 : there.length ≤ 1000000) (K : Bool → Option β) : laws_lkStripe.G sl1 kind vals vers there kind vals vers there K = K true := by
  unfold laws_lkStripe.G
  exact cT (eqT rfl) ((lkInts_same _ h1 _).trans (cT rfl ((lkInts_same _ h2 _).trans (cT rfl (lkBools_same (by omega) _)))))
end Go.Proofs.YtechafkfchmggaaGreat.E
end
section
set_option linter.unusedVariables false
set_option linter.unusedSimpArgs false
namespace Go.Proofs.YtechafkfchmggaaGreat.E
open Go Go.RowKit
set_option linter.unusedVariables false
set_option maxRecDepth 100000
theorem lkOf_l {β : Type} (kx : List Bool → Option β) (kr : Option β) (kind : Int) (vals vers : List Int) (there : List Bool) (v : Int) (h : there.length ≤ vers.length) (hl : there.length ≤ 1000) (d : Nat) : ∀ (i n : Nat) (acc : List Bool), i + d = there.length → acc.length = i → d < n → laws_lkOf.l3 sl1 n kx kr kind vals vers there acc v (i : Int) = kx (acc ++ List.zipWith (fun t x => t && (x == v)) (there.drop i) (vers.drop i)) := by
  induction d with
  | zero =>
    intro i n acc hi ha hn
    obtain ⟨n, rfl⟩ : ∃ m, n = m + 1 := ⟨n - 1, by omega⟩
    rw [laws_lkOf.t3, List.drop_of_length_le (by omega : there.length ≤ i), List.zipWith_nil_left, List.append_nil]; exact cF (ltF (by omega)) rfl
  | succ d ih =>
    intro i n acc hi ha hn
    obtain ⟨n, rfl⟩ : ∃ m, n = m + 1 := ⟨n - 1, by omega⟩
    have h1 : i < there.length := by omega
    have h2 : i < vers.length := by omega
    have hn := ih (i + 1) n (acc ++ [there[i] && vers[i] == v]) (by omega) (by rw [List.length_append, List.length_singleton, ha]) (by omega)
    rw [List.append_assoc] at hn
    rw [laws_lkOf.t3]
    unfold laws_lkOf.b3
    refine cT (ltT (by omega)) (cT (irT (by omega) (by omega)) ?_)
    rw [getN there i h1, getN vers i h2, w_succ (by omega), List.drop_eq_getElem_cons h1, List.drop_eq_getElem_cons h2, List.zipWith_cons_cons]
    cases c : there[i]
    · rw [c, Bool.false_and] at hn
      rw [Bool.false_and]
      exact cF rfl (cT (fwT (by simp; omega)) hn)
    · rw [c, Bool.true_and] at hn
      rw [Bool.true_and]
      exact cT rfl (cT (irT (by omega) (by omega)) (cT (fwT (by simp; omega)) hn))
theorem lkOf_G {β : Type} (kind : Int) (vals vers : List Int) (there : List Bool) (v : Int) (h : there.length ≤ vers.length) (hl : there.length ≤ 1000) (K : List Bool → Option β) : laws_lkOf.G sl1 kind vals vers there v K = K (ofV vers there v) :=
  (lkOf_l K none kind vals vers there v h hl there.length 0 sl1.n [] (by omega) rfl (by rw [rounds_n]; omega)).trans rfl
end Go.Proofs.YtechafkfchmggaaGreat.E
end
section
set_option linter.unusedVariables false
set_option linter.unusedSimpArgs false
namespace Go.Proofs.YtechafkfchmggaaGreat.E
open Go Go.RowKit
set_option linter.unusedVariables false
set_option maxRecDepth 100000
theorem setAll_congr {α : Type} {D E : Nat → α} : ∀ (s : List Nat) (r : List α), (∀ a ∈ s, D a = E a) → setAll D s r = setAll E s r
  | [], r, _ => rfl
  | a :: s, r, h => by
    rw [setAll, setAll, h a List.mem_cons_self]
    exact setAll_congr s _ fun b hb => h b (List.mem_cons_of_mem _ hb)
theorem add_step (u0 u1 u2 u3 d0 d1 d2 d3 e0 e1 e2 e3 : Int) : u0 * (d0 + e0) + u1 * (d1 + e1) + u2 * (d2 + e2) + u3 * (d3 + e3) = (u0 * d0 + u1 * d1 + u2 * d2 + u3 * d3) + (u0 * e0 + u1 * e1 + u2 * e2 + u3 * e3) := by
  simp only [Int.mul_add]
  omega
theorem dotM_add {u d e w : List Int} (hw : ∀ c, c < 4 → Cg (w.getD c 0) (d.getD c 0 + e.getD c 0)) : (dotM u d + dotM u e) % 31 = dotM u w := by
  refine Cg.same ?_ (by omega) (dotM_El _ _)
  refine (Cg.mod _).trans ((Cg.add (Cg.mod _) (Cg.mod _)).trans (Cg.symm ((Cg.mod _).trans ?_)))
  rw [← add_step]
  exact Cg.add (Cg.add (Cg.add (Cg.mul (Cg.refl _) (hw 0 (by omega))) (Cg.mul (Cg.refl _) (hw 1 (by omega)))) (Cg.mul (Cg.refl _) (hw 2 (by omega)))) (Cg.mul (Cg.refl _) (hw 3 (by omega)))
theorem patchData_G {β : Type} {d : List Int} (hd : V4 d) {at_ : Nat} (ha : at_ < 4) {dif : Int} (hdif : 1 ≤ dif ∧ dif ≤ 30) (K : List Int → Option β) : impl_PatchData.G sl1 d [((at_ : Int), (dif, ()))] K = K (d.set at_ ((d.getD at_ 0 + dif) % 31)) := by
  have hv := V4_vec hd
  have hl := hd.len
  have hp : patchOk (at_ : Int) dif = true := by unfold patchOk; rw [inV_iff.2 ⟨by omega, by omega⟩, inV_iff.2 hdif]; rfl
  have he := hd.at ha
  unfold impl_PatchData.G
  refine (vector_G d (by omega) _).trans ?_
  rw [hv]
  refine cF rfl ?_
  unfold slices_ContainsFunc_Simpl_Patch_impl_Patch.G slices_IndexFunc_Simpl_Patch_impl_Patch.G
  rw [n5, slices_IndexFunc_Simpl_Patch_impl_Patch.t2]
  unfold slices_IndexFunc_Simpl_Patch_impl_Patch.b2 impl_PatchData_1.G
  refine cT rfl (cT rfl ((patchOkI_G (at_ : Int) dif _).trans ?_))
  rw [hp]
  refine cF rfl ?_
  rw [slices_IndexFunc_Simpl_Patch_impl_Patch.t2]
  refine cF rfl (cF rfl ?_)
  rw [impl_PatchData.t5]
  unfold impl_PatchData.b5
  refine cT rfl (cT rfl (cT (irT (by show (0 : Int) ≤ (at_ : Int); omega) (by show (at_ : Int) < ((4 : Nat) : Int); omega)) ?_))
  show impl_element_plus.G sl1 (List.getD d (Int.toNat (at_ : Int)) 0) dif _ = _
  rw [getC (0 : Int)]
  refine (plus_G (by omega) (by omega) _).trans (cT (irT (by show (0 : Int) ≤ (at_ : Int); omega) (by show (at_ : Int) < ((4 : Nat) : Int); omega)) ?_)
  rw [impl_PatchData.t5]
  refine cF rfl ?_
  show impl_vector_list.G sl1 (List.set d (Int.toNat (at_ : Int)) _) _ = _
  rw [Int.toNat_natCast]
  exact list_G (hd.set _ (El.mod _)) _
theorem some_E (k a d' k16 : Int) (data vals vers : List Int) (there : List Bool) (A B : List Int) (C : List Bool) {which : List Bool} (hw : which.length = 8) (sm : List Bool) (d : Nat) : ∀ (i n : Nat) (c : List Bool), i + d = 8 → d < n → c.length = 8 → (∀ j, j < 8 → c.getD j false = if j < i then sm.getD j false && which.getD j false else sm.getD j false) →
    ∃ R : List Bool, R.length = 8 ∧ (∀ j, j < 8 → R.getD j false = (sm.getD j false && which.getD j false)) ∧ ∀ (β : Type) (kx : Int → Int → Int → Int → List Int → List Bool → List Int → List Int → List Bool → List Int → List Int → List Bool → Option β) (kr : Option β),
      laws_FnPatchDo.l11 sl1 n kx kr k a d' which k16 data c vals vers there A B C (i : Int) = kx k a d' k16 data R vals vers there A B C := by
  induction d with
  | zero =>
    intro i n c hi hn hc hj
    obtain ⟨n, rfl⟩ : ∃ m, n = m + 1 := ⟨n - 1, by omega⟩
    exact ⟨c, hc, fun j h => by rw [hj j h, if_pos (by omega)], fun β kx kr => by rw [laws_FnPatchDo.t11]; exact cF (ltF (by omega)) rfl⟩
  | succ d ih =>
    intro i n c hi hn hc hj
    obtain ⟨n, rfl⟩ : ∃ m, n = m + 1 := ⟨n - 1, by omega⟩
    obtain ⟨R, r1, r2, r3⟩ := ih (i + 1) n (c.set i (sm.getD i false && which.getD i false)) (by omega) (by omega) (by rw [List.length_set]; exact hc) (fun j h => by
      rw [getD_set _ _ _ _ _ (by omega)]
      by_cases e : i = j
      · subst e; rw [if_pos rfl, if_pos (by omega)]
      · rw [if_neg e, hj j h]
        by_cases l : j < i
        · rw [if_pos l, if_pos (by omega)]
        · rw [if_neg l, if_neg (by omega)])
    refine ⟨R, r1, r2, fun β kx kr => ?_⟩
    have hci : c.getD i false = sm.getD i false := by rw [hj i (by omega), if_neg (by omega)]
    have r3 := r3 β kx kr
    rw [laws_FnPatchDo.t11]
    unfold laws_FnPatchDo.b11
    rw [w_succ (by omega)]
    simp only [getC, Int.toNat_natCast]
    refine cT (ltT (by omega)) (cT (irT (by omega) (by omega)) ?_)
    rw [hci]
    cases cs : sm.getD i false
    · rw [cs, Bool.false_and] at r3
      exact cF rfl (cT (irT (by omega) (by omega)) r3)
    · rw [cs, Bool.true_and] at r3
      exact cT rfl (cT (irT (by omega) (by omega)) (cT (irT (by omega) (by omega)) r3))
theorem drawPatch {l : List Int} (hl : ∀ x ∈ l, 0 ≤ x ∧ x ≤ 255) : ∃ kind vals vers there which at_ dif, Sd kind vals vers there ∧ which.length = 8 ∧ ∀ (β : Type) (K : List Int → List Int → List Bool → List Bool → Int → Int → Int → Option β), spec_DrawPatchDo.G sl1 l K = K vals vers there which kind at_ dif := by
  obtain ⟨b, hb, ho⟩ := open_G hl
  obtain ⟨q, kind, vals, vers, there, q0, q1, hs, h⟩ := stripe_S hb (p := 0) (by omega) (by omega)
  obtain ⟨a, a0, a1, ea⟩ := pick_S hb (p := q) 4
  obtain ⟨c, c0, c1, ec⟩ := pick_S hb (p := q + 1) 30
  obtain ⟨e, e0, e1, ee⟩ := pick_S hb (p := q + 1 + 1) 40
  obtain ⟨w, q'', _, _, hw, h'⟩ := which_G hb (p := q + 1 + 1 + 1) (by omega) (by omega)
  exact ⟨kind, vals, vers, there, w, a, _, hs, hw, fun β K => (ho _ _).trans ((h _ _).trans ((ea _ _).trans ((ec _ _).trans ((ee _ _).trans (h' _ _)))))⟩
end Go.Proofs.YtechafkfchmggaaGreat.E
namespace Go.Proofs.YtechafkfchmggaaGreat.Pure.FnPatchDo
open Go Go.Proofs.YtechafkfchmggaaGreat.E
theorem pure {β : Type} (l : List Int) (hl : ∀ x ∈ l, 0 ≤ x ∧ x ≤ 255) (K : Bool → Option β) : laws_FnPatchDo.G sl1 l K = K true := by
  obtain ⟨kind, vals, vers, there, which, at_, dif, hs, hw, hd⟩ := drawPatch hl
  have l1 := hs.l1
  have l2 := hs.l2
  have l3 := hs.l3
  unfold laws_FnPatchDo.G
  by_cases h : 1048576 < (l.length : Int)
  · exact cT (ltT h) rfl
  obtain ⟨m1, m2, m3⟩ := patchV_len (N := 8) (kind := kind) (at_ := at_) (dif := dif) (which := which) (Nat.le_of_eq l1) (Nat.le_of_eq l2) (Nat.le_of_eq l3)
  have same := fun {γ : Type} (K : Bool → Option γ) => lkStripe_same (patchV kind vals vers there at_ dif which).2.1 (Nat.le_trans m1 (by omega)) (Nat.le_trans m2 (by omega)) (Nat.le_trans m3 (by omega)) K
  refine cF (ltF (by omega)) ((hd _ _).trans ((patchS_G kind vals vers there at_ dif which (by omega) _).trans ((patchI_G kind vals vers there at_ dif which _).trans (cF (bne_self_eq_false _) ((same _).trans (cF rfl ?_))))))
  cases ok : (patchV kind vals vers there at_ dif which).2.2
  · exact cT rfl (cT rfl (same _))
  have facts : stripeV kind vals vers there = true ∧ patchOk at_ dif = true ∧ (readL kind vers there).isSome = true ∧ topV vers 0 < 99 ∧ patchV kind vals vers there at_ dif which = ((setAll (patD vals (allV kind (difV at_.toNat dif))) (patL vers there which ((readL kind vers there).getD 0) 0 8) vals, setAll (fun _ => topV vers 0 + 1) (patL vers there which ((readL kind vers there).getD 0) 0 8) vers, there), kind, true) := by
    unfold patchV at ok ⊢
    cases c1 : stripeV kind vals vers there && (patchOk at_ dif && decide (which.length = 8))
    · rw [c1] at ok; cases ok
    · cases c2 : (readL kind vers there).isSome && decide (topV vers 0 < 99)
      · rw [c1, c2] at ok; cases ok
      · simp only [Bool.and_eq_true, decide_eq_true_eq] at c1 c2
        exact ⟨c1.1, c1.2.1, c2.1, c2.2, rfl⟩
  obtain ⟨cs, cp, hr, ht, e⟩ := facts
  obtain ⟨hk, hf, h1, h2, h3, _⟩ := stripe_iff.1 cs
  obtain ⟨d, hT, er⟩ := stripeRead_E cs
  obtain ⟨v, hv⟩ := Option.isSome_iff_exists.1 hr
  unfold Tells at hT
  rw [hv] at hT er e
  have hT : Told1 kind vals vers there v d := hT
  unfold patchOk at cp
  rw [Bool.and_eq_true, inV_iff, inV_iff] at cp
  obtain ⟨a, rfl⟩ := Int.eq_ofNat_of_zero_le cp.1.1
  have ha : a < 4 := by omega
  obtain ⟨R, r1, r2, r3⟩ := some_E kind (a : Int) dif kind d vals vers there (patchV kind vals vers there (a : Int) dif which).1.1 (patchV kind vals vers there (a : Int) dif which).1.2.1 (patchV kind vals vers there (a : Int) dif which).1.2.2 hw (ofV vers there v) 8 0 sl1.n (ofV vers there v) (by omega) (by rw [rounds_n]; omega) (ofV_len h2 h3) (fun j hj => by rw [if_neg (by omega)])
  have k16 : (patchV kind vals vers there (a : Int) dif which).2.1 = kind := by rw [e]
  have hd2 : V4 (d.set a ((d.getD a 0 + dif) % 31)) := hT.1.set _ (El.mod _)
  have hpat : thereL R 0 8 = patL vers there which v 0 8 := by
    unfold thereL patL
    rw [← List.range_eq_range']
    refine List.filter_congr fun j hj => ?_
    have hj := List.mem_range.1 hj
    rw [r2 j hj, ofV_at h2 h3 v hj]
    unfold patP notV
    rw [Bool.not_not, Bool.and_comm, Bool.and_comm (there.getD j false)]
  have ew : writeV kind vals vers there (d.set a ((d.getD a 0 + dif) % 31)) R = (writeF kind (d.set a ((d.getD a 0 + dif) % 31)) R (topV vers 0 + 1) 8 0 vals vers there, kind, true) := by
    unfold writeV
    rw [cs, V4_vec hd2, decide_eq_true r1, decide_eq_false (show ¬ 99 ≤ topV vers 0 by omega)]; rfl
  have mem : ∀ j ∈ patL vers there which v 0 8, j < 8 ∧ j ∈ ofL vers there v := fun j hj => by
    rw [← pat_of] at hj
    have := (List.mem_filter.1 hj).1
    exact ⟨(ofL_mem'.1 this).1, this⟩
  have eF : writeF kind (d.set a ((d.getD a 0 + dif) % 31)) R (topV vers 0 + 1) 8 0 vals vers there = (setAll (patD vals (allV kind (difV a dif))) (patL vers there which v 0 8) vals, setAll (fun _ => topV vers 0 + 1) (patL vers there which v 0 8) vers, there) := by
    rw [writeF_set, hpat, setAll_same (patL vers there which v 0 8) there (fun j hj => by
      obtain ⟨q1, q2⟩ := mem j hj
      exact ⟨by omega, (ofL_mem'.1 q2).2.1⟩)]
    rw [setAll_congr (E := patD vals (allV kind (difV a dif))) (patL vers there which v 0 8) vals fun j hj => ?_]
    obtain ⟨q1, q2⟩ := mem j hj
    unfold patD
    rw [allV_at hk hd2 q1, allV_at hk (difV_V4 cp.2) q1, hT.2 j q2]
    refine (dotM_add fun c hc => ?_).symm
    have hl := hT.1.len
    unfold difV
    rw [getD_set _ _ _ _ _ (by omega), getD_set _ _ _ _ _ (by simp; omega)]
    by_cases ec : a = c
    · subst ec
      rw [if_pos rfl, if_pos rfl]
      exact Cg.mod _
    · rw [if_neg ec, if_neg ec]
      have z : (List.replicate 4 (0 : Int)).getD c 0 = 0 := by
        match c, hc with
        | 0, _ => rfl
        | 1, _ => rfl
        | 2, _ => rfl
        | 3, _ => rfl
      rw [z]
      exact ⟨0, by omega⟩
  have hx := stripe_write cs (V4_vec hd2) ht (which := R)
  rw [Int.toNat_natCast] at e
  rw [eF] at hx ew
  refine cF rfl ((er _ _).trans ((lkOf_G kind vals vers there _ (by omega) (by omega) _).trans ?_))
  rw [k16]
  refine (r3 _ _ _).trans ((patchData_G hT.1 ha cp.2 _).trans ((implWrite_G kind vals vers there _ R (by rw [List.length_set, hT.1.len]; omega) _).trans ?_))
  rw [ew, e]
  refine cT rfl ((lkStripe_same kind (by rw [setAll_len]; omega) (by rw [setAll_len]; omega) (show there.length ≤ 1000000 by omega) _).trans (cT rfl ((stripeI_G _ _ _ _ _).trans ?_)))
  show K (stripeV kind (setAll (patD vals (allV kind (difV a dif))) (patL vers there which v 0 8) vals) (setAll (fun _ => topV vers 0 + 1) (patL vers there which v 0 8) vers) there) = _
  rw [hx]
end Go.Proofs.YtechafkfchmggaaGreat.Pure.FnPatchDo
end
section
set_option linter.unusedVariables false
set_option linter.unusedSimpArgs false
namespace Go.Proofs.YtechafkfchmggaaGreat.fnPatchDo
open Go.ChangeShapes Go.WideShapes Go.ChangeAt Go.RowKit
open Go.ChangeMaps (open_string shut_string)
set_option linter.unusedVariables false
theorem own : ownKnob Tryz.prog.godebug = none := by kernel_rfl
theorem laidOut : laidOutB Tryz.prog = true := by kernel_rfl
set_option maxRecDepth 100000 in
theorem lifted (os : Os) (started : os.Started) (H : Type) (enc : TypeId × Value → H) :
    ReturnsInHanded {} Tryz.checked os 13 .any (Rows.fnPatchDoSpec.pre6 enc Tryz.prog Tryz.f13 Rows.fnPatchDoRow.domain false) (Rows.fnPatchDoSpec.post enc Tryz.prog Tryz.f13 false true false false) := by
  refine returnsInHanded_of_change_sized (C := Tryz.checked) own started (by kernel_rfl) Tryz.func13
    (ChangeSpec.witness6 (enc := enc) (C := Tryz.checked) false ⟨#[], #[.slice none 0 0], []⟩ 8 (by kernel_rfl) (by kernel_rfl) (by kernel_rfl) (by kernel_rfl)) ?_
  intro W base args ds gs before hval0 hW hcnd hsz0 _
  have hval : ∀ (j : Nat) t v, Tryz.f13.params[j]? = some t → args[j]? = some v → Value.okWide Tryz.prog W .any base t v := hval0
  have hW' := hW
  obtain ⟨p, q, hA0, hV, rfl, hfz, hnd⟩ := hW
  have hA : DataW.TrodAll enc Tryz.prog W 0 (fun _ => true) true Tryz.f13.params.toList args.toList ds p := hA0
  rw [Tryz.params13] at hA hval
  obtain ⟨v0, vs0, d0, ds0, p0, q0, hargs, rfl, rfl, h0, r0⟩ := trodAll_cons hA
  obtain ⟨rfl, rfl, rfl⟩ := trodAll_nil r0
  obtain rfl : args = #[v0] := by cases args; simp_all
  obtain ⟨rfl, rfl⟩ := trodVars_none hV
  obtain ⟨a0, len0, cap0, rfl⟩ := okWide_slice Tryz.underlying40 (hval 0 40 v0 rfl rfl)
  have k0 := h0
  have lt0 : ∀ x ∈ p0, x.block < W.heap.size := by obtain ⟨m, hm⟩ := k0; exact DataW.trod_lt m _ _ _ hm
  obtain ⟨z0, w0, b0⟩ : ∃ zs, E.IsRowK .u8 W a0 len0 cap0 zs ∧ (∀ x ∈ zs, (Lit.int .u8 x).wf = true) := by
    obtain ⟨fuel, hf⟩ := h0
    rcases open_ints Tryz.underlying40 Tryz.underlying5 (by kernel_rfl) hf with ⟨hcs, _⟩ | ⟨x, l, c, zs, hcs, _, hl, hm, hz, _, hcell, hwz⟩
    · simp [Value.cells] at hcs
      obtain ⟨rfl, rfl, rfl⟩ := hcs
      exact ⟨[], .inl ⟨rfl, rfl, rfl, rfl⟩, by simp⟩
    · simp [Value.cells] at hcs
      obtain ⟨rfl, rfl, rfl⟩ := hcs
      exact ⟨zs, .inr ⟨_, rfl, hl, by simpa using hz, hcell⟩, hwz⟩
  clear hA0 hval0 hsz0
  have hp := Pure.FnPatchDo.pure (z0.take len0) (fun x hx => E.byte_wf (b0 x (List.mem_of_mem_take hx))) (fun b => some ((), (b, ())))
  rw [← E.sl_eq] at hp
  refine (E.law_bytes E.laws_FnPatchDo.ok w0 hp).mono fun e W' ⟨he, bel⟩ => ?_
  subst he
  exact ⟨_, rfl, _, _, _, [], _, [], hW', trodAll_mk1 (shut_bool Tryz.underlying4 _), (trodAll_cons_mk (Below.trod laidOut (by kernel_rfl) (of_decide_eq_true (by kernel_rfl)) k0 bel lt0) trodAll_mk0), rfl, bel.frame _, fun h => by cases h⟩
theorem closed : joinedFacts Tryz.prog 13 Tryz.f13 Rows.fnPatchDoSpec Rows.fnPatchDoRow = true := by
  unfold joinedFacts
  rw [Head.make, Head.final, Head.enter]
  kernel_rfl
theorem over : Rows.fnPatchDoRow.holds Tryz.pinned (OpenSpec.ofChange Rows.fnPatchDoSpec) :=
  OpenClaim.holds_of_wide 13 Tryz.f13 rfl rfl rfl rfl rfl rfl rfl ⟨rfl, rfl, rfl, rfl, rfl⟩ rfl rfl rfl rfl rfl (by kernel_rfl) Tryz.func13 closed
    (of_decide_eq_true (by kernel_rfl)) (by unfold Func.isWrapper; first | (rw [if_pos (by decide +kernel)]; kernel_rfl) | (rw [if_neg (by decide +kernel)]; exact ⟨rfl, rfl⟩))
    (fun os started H enc _ => lifted os started H enc)
theorem proved : Rows.FnPatchDoSaid := over
#print axioms proved
end Go.Proofs.YtechafkfchmggaaGreat.fnPatchDo
end
