/- Part 1 of the proof of the statement FnPatchHalf; the last part states it. No condition. -/
import Derived.Test.YtnbighmbgmjbkaaGreatRows
import Derived.WalkKit
import Derived.ProofKit
import Derived.OpenShut
import Derived.ShutString
import Derived.ChangeOld
import Derived.Below
import Derived.SizedLaws
import Derived.Test.YtnbighmbgmjbkaaGreatMGW2
import Derived.Test.YtnbighmbgmjbkaaGreatMGW3
import Derived.Test.YtnbighmbgmjbkaaGreatMGW4
import Derived.Test.YtnbighmbgmjbkaaGreatMGW11
section
set_option linter.unusedVariables false
set_option linter.unusedSimpArgs false
namespace Go.Proofs.YtnbighmbgmjbkaaGreat.E
open Go Go.RowKit
set_option linter.unusedVariables false
set_option maxRecDepth 100000
namespace impl_PatchOk
def sin : Sig := ⟨[], [.agg [.val I false, .val I false]]⟩
def sout : Sig := ⟨[], [.one (.val .bool false)]⟩
noncomputable def G {β : Type} (S : Sl) (a0 : Int) (a1 : Int) (K : Bool → Option β) : Option β := impl_within.G S a0 0 3 (fun y1 => bif y1 then (impl_within.G S a1 1 30 (fun y2 => K y2)) else (K false))
noncomputable def o : Orac := ⟨104, sin, sout, fun s K => G sl0 s.2.1.1 s.2.1.2.1 (fun x0 => K ((), (x0, ())))⟩
noncomputable def C : Ctx := ⟨tyT, [impl_within.o], [], 11, 0⟩
theorem ctx : CtxOk Tryz.prog C := ⟨tyOk, all1 impl_within.ok (all0)⟩
theorem eG (β : Type) (s : sin.den) (K : sout.den → Option β) : evalFn C Tryz.f104 sin sout s K = o.F s K := by kernel_rfl
theorem ok : OracOk Tryz.prog o := fn_ok mixed Tryz.func104 (by kernel_rfl) ctx (c := bodyC Tryz.f104) (by kernel_rfl) (all0) (by kernel_rfl) (by kernel_rfl) (by kernel_rfl) (Nat.le_of_ble_eq_true (by kernel_rfl)) eG (by kernel_rfl) (Nat.le_of_ble_eq_true (by kernel_rfl))
end impl_PatchOk
end Go.Proofs.YtnbighmbgmjbkaaGreat.E
end
section
set_option linter.unusedVariables false
set_option linter.unusedSimpArgs false
namespace Go.Proofs.YtnbighmbgmjbkaaGreat.E
open Go Go.RowKit
set_option linter.unusedVariables false
set_option maxRecDepth 100000
namespace impl_PatchData_1
def sin : Sig := ⟨[], [.agg [.val I false, .val I false]]⟩
def sout : Sig := ⟨[], [.one (.val .bool false)]⟩
noncomputable def G {β : Type} (S : Sl) (a0 : Int) (a1 : Int) (K : Bool → Option β) : Option β := impl_PatchOk.G S a0 a1 (fun y1 => K (!y1))
noncomputable def o : Orac := ⟨108, sin, sout, fun s K => G sl0 s.2.1.1 s.2.1.2.1 (fun x0 => K ((), (x0, ())))⟩
noncomputable def C : Ctx := ⟨tyT, [impl_PatchOk.o], [], 6, 0⟩
theorem ctx : CtxOk Tryz.prog C := ⟨tyOk, all1 impl_PatchOk.ok (all0)⟩
theorem eG (β : Type) (s : sin.den) (K : sout.den → Option β) : evalFn C Tryz.f108 sin sout s K = o.F s K := by kernel_rfl
theorem ok : OracOk Tryz.prog o := fn_ok mixed Tryz.func108 (by kernel_rfl) ctx (c := bodyC Tryz.f108) (by kernel_rfl) (all0) (by kernel_rfl) (by kernel_rfl) (by kernel_rfl) (Nat.le_of_ble_eq_true (by kernel_rfl)) eG (by kernel_rfl) (Nat.le_of_ble_eq_true (by kernel_rfl))
end impl_PatchData_1
end Go.Proofs.YtnbighmbgmjbkaaGreat.E
end
section
set_option linter.unusedVariables false
set_option linter.unusedSimpArgs false
namespace Go.Proofs.YtnbighmbgmjbkaaGreat.E
open Go Go.RowKit
set_option linter.unusedVariables false
set_option maxRecDepth 100000
namespace slices_IndexFunc_Simpl_Patch_impl_Patch
def sin : Sig := ⟨[], [.one (.val (.sl (.pair I (.pair I .unit))) false), .one (.ref (.fn 108 []))]⟩
def sout : Sig := ⟨[], [.one (.val I false)]⟩
def h2 : SS := ⟨[0, 1, 7, 8], ⟨[], [.one (.val (.sl (.pair I (.pair I .unit))) false), .one (.ref (.fn 108 [])), .one (.val I false), .one (.val I false)]⟩⟩
def x2 : SS := ⟨[], ⟨[], []⟩⟩
def y2 : SS := ⟨[4], ⟨[], [.one (.val I false)]⟩⟩
noncomputable def b2 {β : Type} (S : Sl) (L : (List (Int × (Int × Unit))) → Int → Int → Option β) (kx : Option β) (kr : Int → Option β) (s0 : (List (Int × (Int × Unit)))) (s1 : Int) (s2 : Int) : Option β := bif (S.lt s2 s1) then (bif (S.ir s2 s0.length) then (impl_PatchData_1.G S ((List.getD s0 (Int.toNat s2) (0, (0, ()))).1) ((List.getD s0 (Int.toNat s2) (0, (0, ()))).2.1) (fun y1 => bif y1 then (kr s2) else (L s0 s1 (S.w (s2 + 1))))) else (none)) else (kx)
noncomputable def r2 {β : Type} (S : Sl) (n : Nat) (kx : x2.sig.den → Option β) (kr : y2.sig.den → Option β) (s : h2.sig.den) : Option β := rounds (fun L kx kr s => b2 S (fun x0 x1 x2 => L ((), (x0, (x1, (x2, ()))))) (kx ((), ())) (fun x0 => kr ((), (x0, ()))) s.2.1 s.2.2.1 s.2.2.2.1) kx kr n s
noncomputable def l2 {β : Type} (S : Sl) (n : Nat) (kx : Option β) (kr : Int → Option β) (s0 : (List (Int × (Int × Unit)))) (s1 : Int) (s2 : Int) : Option β := r2 S n (fun s => kx) (fun s => kr s.2.1) ((), (s0, (s1, (s2, ()))))
theorem t2 {β : Type} (S : Sl) (n : Nat) (kx : Option β) (kr : Int → Option β) (s0 : (List (Int × (Int × Unit)))) (s1 : Int) (s2 : Int) : l2 S (n + 1) kx kr s0 s1 s2 = b2 S (l2 S n kx kr) kx kr s0 s1 s2 := by kernel_rfl
noncomputable def G {β : Type} (S : Sl) (a0 : (List (Int × (Int × Unit)))) (K : Int → Option β) : Option β := l2 S S.n (K (-1)) (fun y1 => K y1) a0 (a0.length : Int) 0
noncomputable def o : Orac := ⟨186, sin, sout, fun s K => G sl0 s.2.1 (fun x0 => K ((), (x0, ())))⟩
noncomputable def C : Ctx := ⟨tyT, [impl_PatchData_1.o], [⟨2, 0, h2, x2, y2, fun s kx kr => r2 sl0 sl0.n kx kr s⟩], 19, 0⟩
theorem ctx : CtxOk Tryz.prog C := ⟨tyOk, all1 impl_PatchData_1.ok (all0)⟩
theorem e2 (β : Type) (L : h2.sig.den → Option β) (kx : x2.sig.den → Option β) (kr : y2.sig.den → Option β) (s : h2.sig.den) : evalBody C (nthC (loopsOf (bodyC Tryz.f186)) 0) 0 h2 x2 y2 L kx kr s = b2 sl0 (fun x0 x1 x2 => L ((), (x0, (x1, (x2, ()))))) (kx ((), ())) (fun x0 => kr ((), (x0, ()))) s.2.1 s.2.2.1 s.2.2.2.1 := by kernel_rfl
theorem g2 : LS Tryz.prog C ⟨2, 0, h2, x2, y2, fun s kx kr => r2 sl0 sl0.n kx kr s⟩ (loopsOf (bodyC Tryz.f186)) := LS.at (i := 0) (by kernel_rfl) (loop_good mixed ctx (ctx_nat ctx) (N := sl0.n) (fun _ _ _ _ => rfl) e2 (all1 (LS.none (by kernel_rfl)) (all0)))
theorem eG (β : Type) (s : sin.den) (K : sout.den → Option β) : evalFn C Tryz.f186 sin sout s K = o.F s K := by kernel_rfl
theorem ok : OracOk Tryz.prog o := fn_ok mixed Tryz.func186 (by kernel_rfl) ctx (c := bodyC Tryz.f186) (by kernel_rfl) (all1 g2 (all0)) (by kernel_rfl) (by kernel_rfl) (by kernel_rfl) (Nat.le_of_ble_eq_true (by kernel_rfl)) eG (by kernel_rfl) (Nat.le_of_ble_eq_true (by kernel_rfl))
end slices_IndexFunc_Simpl_Patch_impl_Patch
end Go.Proofs.YtnbighmbgmjbkaaGreat.E
end
section
set_option linter.unusedVariables false
set_option linter.unusedSimpArgs false
namespace Go.Proofs.YtnbighmbgmjbkaaGreat.E
open Go Go.RowKit
set_option linter.unusedVariables false
set_option maxRecDepth 100000
namespace slices_ContainsFunc_Simpl_Patch_impl_Patch
def sin : Sig := ⟨[], [.one (.val (.sl (.pair I (.pair I .unit))) false), .one (.ref (.fn 108 []))]⟩
def sout : Sig := ⟨[], [.one (.val .bool false)]⟩
noncomputable def G {β : Type} (S : Sl) (a0 : (List (Int × (Int × Unit)))) (K : Bool → Option β) : Option β := slices_IndexFunc_Simpl_Patch_impl_Patch.G S a0 (fun y1 => K (S.le 0 y1))
noncomputable def o : Orac := ⟨107, sin, sout, fun s K => G sl0 s.2.1 (fun x0 => K ((), (x0, ())))⟩
noncomputable def C : Ctx := ⟨tyT, [slices_IndexFunc_Simpl_Patch_impl_Patch.o], [], 9, 0⟩
theorem ctx : CtxOk Tryz.prog C := ⟨tyOk, all1 slices_IndexFunc_Simpl_Patch_impl_Patch.ok (all0)⟩
theorem eG (β : Type) (s : sin.den) (K : sout.den → Option β) : evalFn C Tryz.f107 sin sout s K = o.F s K := by kernel_rfl
theorem ok : OracOk Tryz.prog o := fn_ok mixed Tryz.func107 (by kernel_rfl) ctx (c := bodyC Tryz.f107) (by kernel_rfl) (all0) (by kernel_rfl) (by kernel_rfl) (by kernel_rfl) (Nat.le_of_ble_eq_true (by kernel_rfl)) eG (by kernel_rfl) (Nat.le_of_ble_eq_true (by kernel_rfl))
end slices_ContainsFunc_Simpl_Patch_impl_Patch
end Go.Proofs.YtnbighmbgmjbkaaGreat.E
end
section
set_option linter.unusedVariables false
set_option linter.unusedSimpArgs false
namespace Go.Proofs.YtnbighmbgmjbkaaGreat.E
open Go Go.RowKit
set_option linter.unusedVariables false
set_option maxRecDepth 100000
namespace impl_PatchData
def sin : Sig := ⟨[], [.one (.val (.sl I) false), .one (.val (.sl (.pair I (.pair I .unit))) false)]⟩
def sout : Sig := ⟨[.buf I false], [.one (.ref (.own 0))]⟩
def h5 : SS := ⟨[5, 20, 21, 22], ⟨[.box [.val (.arr 4 I) false]], [.one (.ref (.ptr 0)), .one (.val (.sl (.pair I (.pair I .unit))) false), .one (.val I false), .one (.val I false)]⟩⟩
def x5 : SS := ⟨[5], ⟨[.box [.val (.arr 4 I) false]], [.one (.ref (.ptr 0))]⟩⟩
def y5 : SS := ⟨[], ⟨[], []⟩⟩
noncomputable def b5 {β : Type} (S : Sl) (L : (List Int) → (List (Int × (Int × Unit))) → Int → Int → Option β) (kx : (List Int) → Option β) (kr : Option β) (s0 : (List Int)) (s1 : (List (Int × (Int × Unit)))) (s2 : Int) (s3 : Int) : Option β := bif (S.lt s3 s2) then (bif (S.ir s3 s1.length) then (bif (S.ir ((List.getD s1 (Int.toNat s3) (0, (0, ()))).1) 4) then (impl_element_plus.G S (List.getD s0 (Int.toNat ((List.getD s1 (Int.toNat s3) (0, (0, ()))).1)) 0) ((List.getD s1 (Int.toNat s3) (0, (0, ()))).2.1) (fun y1 => bif (S.ir ((List.getD s1 (Int.toNat s3) (0, (0, ()))).1) 4) then (L (List.set s0 (Int.toNat ((List.getD s1 (Int.toNat s3) (0, (0, ()))).1)) y1) s1 s2 (S.w (s3 + 1))) else (none))) else (none)) else (none)) else (kx s0)
noncomputable def r5 {β : Type} (S : Sl) (n : Nat) (kx : x5.sig.den → Option β) (kr : y5.sig.den → Option β) (s : h5.sig.den) : Option β := rounds (fun L kx kr s => b5 S (fun x0 x1 x2 x3 => L (((x0, ()), ()), (x1, (x2, (x3, ()))))) (fun x0 => kx (((x0, ()), ()), ())) (kr ((), ())) s.1.1.1 s.2.1 s.2.2.1 s.2.2.2.1) kx kr n s
noncomputable def l5 {β : Type} (S : Sl) (n : Nat) (kx : (List Int) → Option β) (kr : Option β) (s0 : (List Int)) (s1 : (List (Int × (Int × Unit)))) (s2 : Int) (s3 : Int) : Option β := r5 S n (fun s => kx s.1.1.1) (fun s => kr) (((s0, ()), ()), (s1, (s2, (s3, ()))))
theorem t5 {β : Type} (S : Sl) (n : Nat) (kx : (List Int) → Option β) (kr : Option β) (s0 : (List Int)) (s1 : (List (Int × (Int × Unit)))) (s2 : Int) (s3 : Int) : l5 S (n + 1) kx kr s0 s1 s2 s3 = b5 S (l5 S n kx kr) kx kr s0 s1 s2 s3 := by kernel_rfl
noncomputable def G {β : Type} (S : Sl) (a0 : (List Int)) (a1 : (List (Int × (Int × Unit)))) (K : (List Int) → Option β) : Option β := impl_vectorOf.G S a0 (fun y1 y2 => bif (!y2) then (K []) else (slices_ContainsFunc_Simpl_Patch_impl_Patch.G S a1 (fun y3 => bif y3 then (K []) else (l5 S S.n (fun y4 => impl_vector_list.G S y4 (fun y5 => K y5)) none y1 a1 (a1.length : Int) 0))))
noncomputable def o : Orac := ⟨31, sin, sout, fun s K => G sl0 s.2.1 s.2.2.1 (fun x0 => K ((x0, ()), ()))⟩
noncomputable def C : Ctx := ⟨tyT, [impl_element_plus.o, impl_vectorOf.o, impl_vector_list.o, slices_ContainsFunc_Simpl_Patch_impl_Patch.o], [⟨5, 0, h5, x5, y5, fun s kx kr => r5 sl0 sl0.n kx kr s⟩], 39, 0⟩
theorem ctx : CtxOk Tryz.prog C := ⟨tyOk, all1 impl_element_plus.ok (all1 impl_vectorOf.ok (all1 impl_vector_list.ok (all1 slices_ContainsFunc_Simpl_Patch_impl_Patch.ok (all0))))⟩
theorem e5 (β : Type) (L : h5.sig.den → Option β) (kx : x5.sig.den → Option β) (kr : y5.sig.den → Option β) (s : h5.sig.den) : evalBody C (nthC (loopsOf (bodyC Tryz.f31)) 0) 0 h5 x5 y5 L kx kr s = b5 sl0 (fun x0 x1 x2 x3 => L (((x0, ()), ()), (x1, (x2, (x3, ()))))) (fun x0 => kx (((x0, ()), ()), ())) (kr ((), ())) s.1.1.1 s.2.1 s.2.2.1 s.2.2.2.1 := by kernel_rfl
theorem g5 : LS Tryz.prog C ⟨5, 0, h5, x5, y5, fun s kx kr => r5 sl0 sl0.n kx kr s⟩ (loopsOf (bodyC Tryz.f31)) := LS.at (i := 0) (by kernel_rfl) (loop_good mixed ctx (ctx_nat ctx) (N := sl0.n) (fun _ _ _ _ => rfl) e5 (all1 (LS.none (by kernel_rfl)) (all0)))
theorem eG (β : Type) (s : sin.den) (K : sout.den → Option β) : evalFn C Tryz.f31 sin sout s K = o.F s K := by kernel_rfl
theorem ok : OracOk Tryz.prog o := fn_ok mixed Tryz.func31 (by kernel_rfl) ctx (c := bodyC Tryz.f31) (by kernel_rfl) (all1 g5 (all0)) (by kernel_rfl) (by kernel_rfl) (by kernel_rfl) (Nat.le_of_ble_eq_true (by kernel_rfl)) eG (by kernel_rfl) (Nat.le_of_ble_eq_true (by kernel_rfl))
end impl_PatchData
end Go.Proofs.YtnbighmbgmjbkaaGreat.E
end
section
set_option linter.unusedVariables false
set_option linter.unusedSimpArgs false
namespace Go.Proofs.YtnbighmbgmjbkaaGreat.E
open Go Go.RowKit
set_option linter.unusedVariables false
set_option maxRecDepth 100000
namespace impl_FieldSum
def sin : Sig := ⟨[], [.one (.val I false), .one (.val I false)]⟩
def sout : Sig := ⟨[], [.one (.val I false)]⟩
noncomputable def G {β : Type} (S : Sl) (a0 : Int) (a1 : Int) (K : Int → Option β) : Option β := impl_FieldOk.G S a0 (fun y1 => bif (!y1) then (K 0) else (impl_FieldOk.G S a1 (fun y2 => bif (!y2) then (K 0) else (impl_element_plus.G S a0 a1 (fun y3 => K y3)))))
noncomputable def o : Orac := ⟨79, sin, sout, fun s K => G sl0 s.2.1 s.2.2.1 (fun x0 => K ((), (x0, ())))⟩
noncomputable def C : Ctx := ⟨tyT, [impl_FieldOk.o, impl_element_plus.o], [], 16, 0⟩
theorem ctx : CtxOk Tryz.prog C := ⟨tyOk, all1 impl_FieldOk.ok (all1 impl_element_plus.ok (all0))⟩
theorem eG (β : Type) (s : sin.den) (K : sout.den → Option β) : evalFn C Tryz.f79 sin sout s K = o.F s K := by kernel_rfl
theorem ok : OracOk Tryz.prog o := fn_ok mixed Tryz.func79 (by kernel_rfl) ctx (c := bodyC Tryz.f79) (by kernel_rfl) (all0) (by kernel_rfl) (by kernel_rfl) (by kernel_rfl) (Nat.le_of_ble_eq_true (by kernel_rfl)) eG (by kernel_rfl) (Nat.le_of_ble_eq_true (by kernel_rfl))
end impl_FieldSum
end Go.Proofs.YtnbighmbgmjbkaaGreat.E
end
section
set_option linter.unusedVariables false
set_option linter.unusedSimpArgs false
namespace Go.Proofs.YtnbighmbgmjbkaaGreat.E
open Go Go.RowKit
set_option linter.unusedVariables false
set_option maxRecDepth 100000
namespace impl_PatchRow
def sin : Sig := ⟨[], [.one (.val I false), .agg [.val I false, .val I false]]⟩
def sout : Sig := ⟨[.buf I false], [.one (.ref (.own 0))]⟩
noncomputable def G {β : Type} (S : Sl) (a0 : Int) (a1 : Int) (a2 : Int) (K : (List Int) → Option β) : Option β := impl_kindOk.G S a0 (fun y1 => bif (!y1) then (K []) else (impl_PatchOk.G S a1 a2 (fun y2 => bif (!y2) then (K []) else (impl_unit.G S a1 (fun y3 => impl_vector_times.G S y3 a2 (fun y4 => impl_encode.G S a0 y4 (fun y5 => K y5)))))))
noncomputable def o : Orac := ⟨105, sin, sout, fun s K => G sl0 s.2.1 s.2.2.1.1 s.2.2.1.2.1 (fun x0 => K ((x0, ()), ()))⟩
noncomputable def C : Ctx := ⟨tyT, [impl_PatchOk.o, impl_encode.o, impl_kindOk.o, impl_unit.o, impl_vector_times.o], [], 21, 0⟩
theorem ctx : CtxOk Tryz.prog C := ⟨tyOk, all1 impl_PatchOk.ok (all1 impl_encode.ok (all1 impl_kindOk.ok (all1 impl_unit.ok (all1 impl_vector_times.ok (all0)))))⟩
theorem eG (β : Type) (s : sin.den) (K : sout.den → Option β) : evalFn C Tryz.f105 sin sout s K = o.F s K := by kernel_rfl
theorem ok : OracOk Tryz.prog o := fn_ok mixed Tryz.func105 (by kernel_rfl) ctx (c := bodyC Tryz.f105) (by kernel_rfl) (all0) (by kernel_rfl) (by kernel_rfl) (by kernel_rfl) (Nat.le_of_ble_eq_true (by kernel_rfl)) eG (by kernel_rfl) (Nat.le_of_ble_eq_true (by kernel_rfl))
end impl_PatchRow
end Go.Proofs.YtnbighmbgmjbkaaGreat.E
end
section
set_option linter.unusedVariables false
set_option linter.unusedSimpArgs false
namespace Go.Proofs.YtnbighmbgmjbkaaGreat.E
open Go Go.RowKit
set_option linter.unusedVariables false
set_option maxRecDepth 100000
namespace impl_PatchDo
def sin : Sig := ⟨[], [.agg [.val I false, .val (.sl I) false, .val (.sl I) false, .val (.sl .bool) false], .agg [.val I false, .val I false], .one (.val (.sl .bool) false)]⟩
def sout : Sig := ⟨[.buf I false, .buf I false, .buf .bool false], [.agg [.val I false, .ref (.own 0), .ref (.own 1), .ref (.own 2)], .one (.val .bool false)]⟩
def h9 : SS := ⟨[2, 3, 6, 8, 12, 51, 52, 53], ⟨[.box [.val I false, .val (.sl I) false, .val (.sl I) false, .val (.sl .bool) false], .box [.val I false, .ref .e0, .ref .e0, .ref .e0], .box [.val I false, .ref (.own 5), .ref (.own 6), .ref (.own 7)], .buf I false, .buf I false, .buf I false, .buf I false, .buf .bool false], [.one (.val (.sl .bool) false), .one (.ref (.ptr 0)), .one (.ref (.ptr 1)), .one (.ref (.ptr 2)), .one (.ref (.own 3)), .one (.ref (.own 4)), .one (.val I false), .one (.val I false)]⟩⟩
def x9 : SS := ⟨[6, 8], ⟨[.box [.val I false, .ref .e0, .ref .e0, .ref .e0], .box [.val I false, .ref (.own 2), .ref (.own 3), .ref (.own 4)], .buf I false, .buf I false, .buf .bool false], [.one (.ref (.ptr 0)), .one (.ref (.ptr 1))]⟩⟩
def y9 : SS := ⟨[], ⟨[], []⟩⟩
noncomputable def b9 {β : Type} (S : Sl) (L : Int → (List Int) → (List Int) → (List Bool) → Int → Int → (List Int) → (List Int) → (List Int) → (List Int) → (List Bool) → (List Bool) → Int → Int → Option β) (kx : Int → Int → (List Int) → (List Int) → (List Bool) → Option β) (kr : Option β) (s0 : Int) (s1 : (List Int)) (s2 : (List Int)) (s3 : (List Bool)) (s4 : Int) (s5 : Int) (s6 : (List Int)) (s7 : (List Int)) (s8 : (List Int)) (s9 : (List Int)) (s10 : (List Bool)) (s11 : (List Bool)) (s12 : Int) (s13 : Int) : Option β := bif (S.lt s13 s12) then (bif (S.ir s13 s7.length) then (bif (S.ir (List.getD s7 (Int.toNat s13) 0) s11.length) then (bif (List.getD s11 (Int.toNat (List.getD s7 (Int.toNat s13) 0)) false) then (bif (S.ir (List.getD s7 (Int.toNat s13) 0) s1.length) then (bif (S.ir (List.getD s7 (Int.toNat s13) 0) s6.length) then (impl_FieldSum.G S (List.getD s1 (Int.toNat (List.getD s7 (Int.toNat s13) 0)) 0) (List.getD s6 (Int.toNat (List.getD s7 (Int.toNat s13) 0)) 0) (fun y1 => impl_Stripe_top.G S s0 s1 s2 s3 (fun y2 => impl_Stripe_put.G S s8 s9 s10 s5 (List.getD s7 (Int.toNat s13) 0) y1 (S.w (y2 + 1)) (fun y3 y4 y5 => L s0 s1 s2 s3 s4 s5 s6 s7 y3 y4 y5 s11 s12 (S.w (s13 + 1)))))) else (none)) else (none)) else (L s0 s1 s2 s3 s4 s5 s6 s7 s8 s9 s10 s11 s12 (S.w (s13 + 1)))) else (none)) else (none)) else (kx s4 s5 s8 s9 s10)
noncomputable def r9 {β : Type} (S : Sl) (n : Nat) (kx : x9.sig.den → Option β) (kr : y9.sig.den → Option β) (s : h9.sig.den) : Option β := rounds (fun L kx kr s => b9 S (fun x0 x1 x2 x3 x4 x5 x6 x7 x8 x9 x10 x11 x12 x13 => L (((x0, (x1, (x2, (x3, ())))), ((x4, ()), ((x5, ()), (x6, (x7, (x8, (x9, (x10, ())))))))), (x11, (x12, (x13, ()))))) (fun x0 x1 x2 x3 x4 => kx (((x0, ()), ((x1, ()), (x2, (x3, (x4, ()))))), ())) (kr ((), ())) s.1.1.1 s.1.1.2.1 s.1.1.2.2.1 s.1.1.2.2.2.1 s.1.2.1.1 s.1.2.2.1.1 s.1.2.2.2.1 s.1.2.2.2.2.1 s.1.2.2.2.2.2.1 s.1.2.2.2.2.2.2.1 s.1.2.2.2.2.2.2.2.1 s.2.1 s.2.2.1 s.2.2.2.1) kx kr n s
noncomputable def l9 {β : Type} (S : Sl) (n : Nat) (kx : Int → Int → (List Int) → (List Int) → (List Bool) → Option β) (kr : Option β) (s0 : Int) (s1 : (List Int)) (s2 : (List Int)) (s3 : (List Bool)) (s4 : Int) (s5 : Int) (s6 : (List Int)) (s7 : (List Int)) (s8 : (List Int)) (s9 : (List Int)) (s10 : (List Bool)) (s11 : (List Bool)) (s12 : Int) (s13 : Int) : Option β := r9 S n (fun s => kx s.1.1.1 s.1.2.1.1 s.1.2.2.1 s.1.2.2.2.1 s.1.2.2.2.2.1) (fun s => kr) (((s0, (s1, (s2, (s3, ())))), ((s4, ()), ((s5, ()), (s6, (s7, (s8, (s9, (s10, ())))))))), (s11, (s12, (s13, ()))))
theorem t9 {β : Type} (S : Sl) (n : Nat) (kx : Int → Int → (List Int) → (List Int) → (List Bool) → Option β) (kr : Option β) (s0 : Int) (s1 : (List Int)) (s2 : (List Int)) (s3 : (List Bool)) (s4 : Int) (s5 : Int) (s6 : (List Int)) (s7 : (List Int)) (s8 : (List Int)) (s9 : (List Int)) (s10 : (List Bool)) (s11 : (List Bool)) (s12 : Int) (s13 : Int) : l9 S (n + 1) kx kr s0 s1 s2 s3 s4 s5 s6 s7 s8 s9 s10 s11 s12 s13 = b9 S (l9 S n kx kr) kx kr s0 s1 s2 s3 s4 s5 s6 s7 s8 s9 s10 s11 s12 s13 := by kernel_rfl
noncomputable def G {β : Type} (S : Sl) (a0 : Int) (a1 : (List Int)) (a2 : (List Int)) (a3 : (List Bool)) (a4 : Int) (a5 : Int) (a6 : (List Bool)) (K : (List Int) → (List Int) → (List Bool) → Int → Bool → Option β) : Option β := impl_StripeOk.G S a0 a1 a2 a3 (fun y1 => bif (!y1) then (K [] [] [] 0 false) else (impl_PatchOk.G S a4 a5 (fun y2 => bif (!y2) then (K [] [] [] 0 false) else (bif (!S.eq (a6.length : Int) 8) then (K [] [] [] 0 false) else (impl_Stripe_copied.G S a0 a1 a2 a3 (fun y3 y4 y5 y6 => impl_Stripe_read.G S a0 a1 a2 a3 (fun y7 y8 y9 => bif (!y9) then (K y3 y4 y5 y6 false) else (impl_Stripe_top.G S a0 a1 a2 a3 (fun y10 => bif (S.eq y10 99) then (K y3 y4 y5 y6 false) else (impl_PatchRow.G S a0 a4 a5 (fun y11 => impl_Stripe_of.G S a0 a1 a2 a3 y8 (fun y12 => l9 S S.n (fun y13 y14 y15 y16 y17 => K y15 y16 y17 y14 true) none a0 a1 a2 a3 0 y6 y11 y12 y3 y4 y5 a6 (y12.length : Int) 0))))))))))))
noncomputable def o : Orac := ⟨30, sin, sout, fun s K => G sl0 s.2.1.1 s.2.1.2.1 s.2.1.2.2.1 s.2.1.2.2.2.1 s.2.2.1.1 s.2.2.1.2.1 s.2.2.2.1 (fun x0 x1 x2 x3 x4 => K ((x0, (x1, (x2, ()))), ((x3, ()), (x4, ()))))⟩
noncomputable def C : Ctx := ⟨tyT, [impl_FieldSum.o, impl_PatchOk.o, impl_PatchRow.o, impl_StripeOk.o, impl_Stripe_copied.o, impl_Stripe_of.o, impl_Stripe_put.o, impl_Stripe_read.o, impl_Stripe_top.o], [⟨9, 0, h9, x9, y9, fun s kx kr => r9 sl0 sl0.n kx kr s⟩], 79, 0⟩
theorem ctx : CtxOk Tryz.prog C := ⟨tyOk, all1 impl_FieldSum.ok (all1 impl_PatchOk.ok (all1 impl_PatchRow.ok (all1 impl_StripeOk.ok (all1 impl_Stripe_copied.ok (all1 impl_Stripe_of.ok (all1 impl_Stripe_put.ok (all1 impl_Stripe_read.ok (all1 impl_Stripe_top.ok (all0)))))))))⟩
theorem e9 (β : Type) (L : h9.sig.den → Option β) (kx : x9.sig.den → Option β) (kr : y9.sig.den → Option β) (s : h9.sig.den) : evalBody C (nthC (loopsOf (bodyC Tryz.f30)) 0) 0 h9 x9 y9 L kx kr s = b9 sl0 (fun x0 x1 x2 x3 x4 x5 x6 x7 x8 x9 x10 x11 x12 x13 => L (((x0, (x1, (x2, (x3, ())))), ((x4, ()), ((x5, ()), (x6, (x7, (x8, (x9, (x10, ())))))))), (x11, (x12, (x13, ()))))) (fun x0 x1 x2 x3 x4 => kx (((x0, ()), ((x1, ()), (x2, (x3, (x4, ()))))), ())) (kr ((), ())) s.1.1.1 s.1.1.2.1 s.1.1.2.2.1 s.1.1.2.2.2.1 s.1.2.1.1 s.1.2.2.1.1 s.1.2.2.2.1 s.1.2.2.2.2.1 s.1.2.2.2.2.2.1 s.1.2.2.2.2.2.2.1 s.1.2.2.2.2.2.2.2.1 s.2.1 s.2.2.1 s.2.2.2.1 := by kernel_rfl
theorem g9 : LS Tryz.prog C ⟨9, 0, h9, x9, y9, fun s kx kr => r9 sl0 sl0.n kx kr s⟩ (loopsOf (bodyC Tryz.f30)) := LS.at (i := 0) (by kernel_rfl) (loop_good mixed ctx (ctx_nat ctx) (N := sl0.n) (fun _ _ _ _ => rfl) e9 (all1 (LS.none (by kernel_rfl)) (all0)))
theorem eG (β : Type) (s : sin.den) (K : sout.den → Option β) : evalFn C Tryz.f30 sin sout s K = o.F s K := by kernel_rfl
theorem ok : OracOk Tryz.prog o := fn_ok mixed Tryz.func30 (by kernel_rfl) ctx (c := bodyC Tryz.f30) (by kernel_rfl) (all1 g9 (all0)) (by kernel_rfl) (by kernel_rfl) (by kernel_rfl) (Nat.le_of_ble_eq_true (by kernel_rfl)) eG (by kernel_rfl) (Nat.le_of_ble_eq_true (by kernel_rfl))
end impl_PatchDo
end Go.Proofs.YtnbighmbgmjbkaaGreat.E
end
section
set_option linter.unusedVariables false
set_option linter.unusedSimpArgs false
namespace Go.Proofs.YtnbighmbgmjbkaaGreat.E
open Go Go.RowKit
set_option linter.unusedVariables false
set_option maxRecDepth 100000
namespace spec_l92Patch
def sin : Sig := ⟨[.box [.val (.sl (.int .u8)) false, .val I false]], [.one (.ref (.ptr 0))]⟩
def sout : Sig := ⟨[.box [.val (.sl (.int .u8)) false, .val I false]], [.agg [.val I false, .val I false]]⟩
noncomputable def G {β : Type} (S : Sl) (a0 : (List Int)) (a1 : Int) (K : (List Int) → Int → Int → Int → Option β) : Option β := spec_l6Rd_pick.G S a0 a1 4 (fun y1 y2 y3 => spec_l6Rd_pick.G S y1 y2 30 (fun y4 y5 y6 => spec_l6Rd_pick.G S y4 y5 40 (fun y7 y8 y9 => K y7 y8 y3 (S.w ((S.w ((1 : Int) + y6)) - (S.w ((S.w (Int.tdiv y9 39)) * 31)))))))
noncomputable def o : Orac := ⟨99, sin, sout, fun s K => G sl0 s.1.1.1 s.1.1.2.1 (fun x0 x1 x2 x3 => K (((x0, (x1, ())), ()), ((x2, (x3, ())), ())))⟩
noncomputable def C : Ctx := ⟨tyT, [spec_l6Rd_pick.o], [], 14, 1⟩
theorem ctx : CtxOk Tryz.prog C := ⟨tyOk, all1 spec_l6Rd_pick.ok (all0)⟩
theorem eG (β : Type) (s : sin.den) (K : sout.den → Option β) : evalFn C Tryz.f99 sin sout s K = o.F s K := by kernel_rfl
theorem ok : OracOk Tryz.prog o := fn_ok mixed Tryz.func99 (by kernel_rfl) ctx (c := bodyC Tryz.f99) (by kernel_rfl) (all0) (by kernel_rfl) (by kernel_rfl) (by kernel_rfl) (Nat.le_of_ble_eq_true (by kernel_rfl)) eG (by kernel_rfl) (Nat.le_of_ble_eq_true (by kernel_rfl))
end spec_l92Patch
end Go.Proofs.YtnbighmbgmjbkaaGreat.E
end
section
set_option linter.unusedVariables false
set_option linter.unusedSimpArgs false
namespace Go.Proofs.YtnbighmbgmjbkaaGreat.E
open Go Go.RowKit
set_option linter.unusedVariables false
set_option maxRecDepth 100000
namespace spec_DrawPatchDo
def sin : Sig := ⟨[], [.one (.val (.sl (.int .u8)) false)]⟩
def sout : Sig := ⟨[.buf I false, .buf I false, .buf .bool false, .buf .bool false], [.agg [.val I false, .ref (.own 0), .ref (.own 1), .ref (.own 2)], .agg [.val I false, .val I false], .one (.ref (.own 3))]⟩
noncomputable def G {β : Type} (S : Sl) (a0 : (List Int)) (K : (List Int) → (List Int) → (List Bool) → (List Bool) → Int → Int → Int → Option β) : Option β := spec_l6Open.G S a0 (fun y1 y2 => spec_l92Stripe.G S y1 y2 (fun y3 y4 y5 y6 y7 y8 => spec_l92Patch.G S y3 y4 (fun y9 y10 y11 y12 => spec_l92Which.G S y9 y10 (fun y13 y14 y15 => K y5 y6 y7 y15 y8 y11 y12))))
noncomputable def o : Orac := ⟨28, sin, sout, fun s K => G sl0 s.2.1 (fun x0 x1 x2 x3 x4 x5 x6 => K ((x0, (x1, (x2, (x3, ())))), ((x4, ()), ((x5, (x6, ())), ()))))⟩
noncomputable def C : Ctx := ⟨tyT, [spec_l6Open.o, spec_l92Patch.o, spec_l92Stripe.o, spec_l92Which.o], [], 14, 0⟩
theorem ctx : CtxOk Tryz.prog C := ⟨tyOk, all1 spec_l6Open.ok (all1 spec_l92Patch.ok (all1 spec_l92Stripe.ok (all1 spec_l92Which.ok (all0))))⟩
theorem eG (β : Type) (s : sin.den) (K : sout.den → Option β) : evalFn C Tryz.f28 sin sout s K = o.F s K := by kernel_rfl
theorem ok : OracOk Tryz.prog o := fn_ok mixed Tryz.func28 (by kernel_rfl) ctx (c := bodyC Tryz.f28) (by kernel_rfl) (all0) (by kernel_rfl) (by kernel_rfl) (by kernel_rfl) (Nat.le_of_ble_eq_true (by kernel_rfl)) eG (by kernel_rfl) (Nat.le_of_ble_eq_true (by kernel_rfl))
end spec_DrawPatchDo
end Go.Proofs.YtnbighmbgmjbkaaGreat.E
end
section
set_option linter.unusedVariables false
set_option linter.unusedSimpArgs false
namespace Go.Proofs.YtnbighmbgmjbkaaGreat.E
open Go Go.RowKit
set_option linter.unusedVariables false
set_option maxRecDepth 100000
namespace spec_FieldSum
def sin : Sig := ⟨[], [.one (.val I false), .one (.val I false)]⟩
def sout : Sig := ⟨[], [.one (.val I false)]⟩
noncomputable def G {β : Type} (S : Sl) (a0 : Int) (a1 : Int) (K : Int → Option β) : Option β := spec_FieldOk.G S a0 (fun y1 => bif (!y1) then (K 0) else (spec_FieldOk.G S a1 (fun y2 => bif (!y2) then (K 0) else (K (Int.tmod (S.w (a0 + a1)) 31)))))
noncomputable def o : Orac := ⟨103, sin, sout, fun s K => G sl0 s.2.1 s.2.2.1 (fun x0 => K ((), (x0, ())))⟩
noncomputable def C : Ctx := ⟨tyT, [spec_FieldOk.o], [], 17, 0⟩
theorem ctx : CtxOk Tryz.prog C := ⟨tyOk, all1 spec_FieldOk.ok (all0)⟩
theorem eG (β : Type) (s : sin.den) (K : sout.den → Option β) : evalFn C Tryz.f103 sin sout s K = o.F s K := by kernel_rfl
theorem ok : OracOk Tryz.prog o := fn_ok mixed Tryz.func103 (by kernel_rfl) ctx (c := bodyC Tryz.f103) (by kernel_rfl) (all0) (by kernel_rfl) (by kernel_rfl) (by kernel_rfl) (Nat.le_of_ble_eq_true (by kernel_rfl)) eG (by kernel_rfl) (Nat.le_of_ble_eq_true (by kernel_rfl))
end spec_FieldSum
end Go.Proofs.YtnbighmbgmjbkaaGreat.E
end
section
set_option linter.unusedVariables false
set_option linter.unusedSimpArgs false
namespace Go.Proofs.YtnbighmbgmjbkaaGreat.E
open Go Go.RowKit
set_option linter.unusedVariables false
set_option maxRecDepth 100000
namespace spec_PatchOk
def sin : Sig := ⟨[], [.agg [.val I false, .val I false]]⟩
def sout : Sig := ⟨[], [.one (.val .bool false)]⟩
noncomputable def G {β : Type} (S : Sl) (a0 : Int) (a1 : Int) (K : Bool → Option β) : Option β := spec_l6In.G S a0 0 3 (fun y1 => bif y1 then (spec_l6In.G S a1 1 30 (fun y2 => K y2)) else (K false))
noncomputable def o : Orac := ⟨100, sin, sout, fun s K => G sl0 s.2.1.1 s.2.1.2.1 (fun x0 => K ((), (x0, ())))⟩
noncomputable def C : Ctx := ⟨tyT, [spec_l6In.o], [], 11, 0⟩
theorem ctx : CtxOk Tryz.prog C := ⟨tyOk, all1 spec_l6In.ok (all0)⟩
theorem eG (β : Type) (s : sin.den) (K : sout.den → Option β) : evalFn C Tryz.f100 sin sout s K = o.F s K := by kernel_rfl
theorem ok : OracOk Tryz.prog o := fn_ok mixed Tryz.func100 (by kernel_rfl) ctx (c := bodyC Tryz.f100) (by kernel_rfl) (all0) (by kernel_rfl) (by kernel_rfl) (by kernel_rfl) (Nat.le_of_ble_eq_true (by kernel_rfl)) eG (by kernel_rfl) (Nat.le_of_ble_eq_true (by kernel_rfl))
end spec_PatchOk
end Go.Proofs.YtnbighmbgmjbkaaGreat.E
end
section
set_option linter.unusedVariables false
set_option linter.unusedSimpArgs false
namespace Go.Proofs.YtnbighmbgmjbkaaGreat.E
open Go Go.RowKit
set_option linter.unusedVariables false
set_option maxRecDepth 100000
namespace spec_l3Tidy_
def sin : Sig := ⟨[.buf (.sl I) false], [.one (.ref (.own 0))]⟩
def sout : Sig := ⟨[.buf (.sl I) false], [.one (.val (.sl (.sl I)) false)]⟩
def h3 : SS := ⟨[0, 3, 4], ⟨[.buf (.sl I) false], [.one (.ref (.own 0)), .one (.val (.sl (.sl I)) false), .one (.val I false)]⟩⟩
def x3 : SS := ⟨[3], ⟨[.buf (.sl I) false], [.one (.val (.sl (.sl I)) false)]⟩⟩
def y3 : SS := ⟨[], ⟨[], []⟩⟩
noncomputable def b3 {β : Type} (S : Sl) (L : (List (List Int)) → (List (List Int)) → Int → Option β) (kx : (List (List Int)) → (List (List Int)) → Option β) (kr : Option β) (s0 : (List (List Int))) (s1 : (List (List Int))) (s2 : Int) : Option β := bif (S.lt s2 (s0.length : Int)) then (bif (S.ir s2 s0.length) then (spec_l3Add.G S s1 (List.getD s0 (Int.toNat s2) []) (fun y1 => L s0 y1 (S.w (s2 + 1)))) else (none)) else (kx s0 s1)
noncomputable def r3 {β : Type} (S : Sl) (n : Nat) (kx : x3.sig.den → Option β) (kr : y3.sig.den → Option β) (s : h3.sig.den) : Option β := rounds (fun L kx kr s => b3 S (fun x0 x1 x2 => L ((x0, ()), (x1, (x2, ())))) (fun x0 x1 => kx ((x0, ()), (x1, ()))) (kr ((), ())) s.1.1 s.2.1 s.2.2.1) kx kr n s
noncomputable def l3 {β : Type} (S : Sl) (n : Nat) (kx : (List (List Int)) → (List (List Int)) → Option β) (kr : Option β) (s0 : (List (List Int))) (s1 : (List (List Int))) (s2 : Int) : Option β := r3 S n (fun s => kx s.1.1 s.2.1) (fun s => kr) ((s0, ()), (s1, (s2, ())))
theorem t3 {β : Type} (S : Sl) (n : Nat) (kx : (List (List Int)) → (List (List Int)) → Option β) (kr : Option β) (s0 : (List (List Int))) (s1 : (List (List Int))) (s2 : Int) : l3 S (n + 1) kx kr s0 s1 s2 = b3 S (l3 S n kx kr) kx kr s0 s1 s2 := by kernel_rfl
noncomputable def G {β : Type} (S : Sl) (a0 : (List (List Int))) (K : (List (List Int)) → (List (List Int)) → Option β) : Option β := l3 S S.n (fun y1 y2 => K y1 y2) none a0 [] 0
noncomputable def o : Orac := ⟨214, sin, sout, fun s K => G sl0 s.1.1 (fun x0 x1 => K ((x0, ()), (x1, ())))⟩
noncomputable def C : Ctx := ⟨tyT, [spec_l3Add.o], [⟨3, 0, h3, x3, y3, fun s kx kr => r3 sl0 sl0.n kx kr s⟩], 19, 1⟩
theorem ctx : CtxOk Tryz.prog C := ⟨tyOk, all1 spec_l3Add.ok (all0)⟩
theorem e3 (β : Type) (L : h3.sig.den → Option β) (kx : x3.sig.den → Option β) (kr : y3.sig.den → Option β) (s : h3.sig.den) : evalBody C (nthC (loopsOf (bodyC Tryz.f214)) 0) 0 h3 x3 y3 L kx kr s = b3 sl0 (fun x0 x1 x2 => L ((x0, ()), (x1, (x2, ())))) (fun x0 x1 => kx ((x0, ()), (x1, ()))) (kr ((), ())) s.1.1 s.2.1 s.2.2.1 := by kernel_rfl
theorem g3 : LS Tryz.prog C ⟨3, 0, h3, x3, y3, fun s kx kr => r3 sl0 sl0.n kx kr s⟩ (loopsOf (bodyC Tryz.f214)) := LS.at (i := 0) (by kernel_rfl) (loop_good mixed ctx (ctx_nat ctx) (N := sl0.n) (fun _ _ _ _ => rfl) e3 (all1 (LS.none (by kernel_rfl)) (all0)))
theorem eG (β : Type) (s : sin.den) (K : sout.den → Option β) : evalFn C Tryz.f214 sin sout s K = o.F s K := by kernel_rfl
theorem ok : OracOk Tryz.prog o := fn_ok mixed Tryz.func214 (by kernel_rfl) ctx (c := bodyC Tryz.f214) (by kernel_rfl) (all1 g3 (all0)) (by kernel_rfl) (by kernel_rfl) (by kernel_rfl) (Nat.le_of_ble_eq_true (by kernel_rfl)) eG (by kernel_rfl) (Nat.le_of_ble_eq_true (by kernel_rfl))
end spec_l3Tidy_
end Go.Proofs.YtnbighmbgmjbkaaGreat.E
end
section
set_option linter.unusedVariables false
set_option linter.unusedSimpArgs false
namespace Go.Proofs.YtnbighmbgmjbkaaGreat.E
open Go Go.RowKit
set_option linter.unusedVariables false
set_option maxRecDepth 100000
namespace spec_l4Rows
def sin : Sig := ⟨[], [.one (.val I false), .one (.val (.sl .bool) false)]⟩
def sout : Sig := ⟨[.buf (.sl I) false], [.one (.ref (.own 0))]⟩
def h3 : SS := ⟨[0, 1, 5, 6], ⟨[.buf (.sl I) false], [.one (.val I false), .one (.val (.sl .bool) false), .one (.ref (.own 0)), .one (.val I false)]⟩⟩
def x3 : SS := ⟨[5], ⟨[.buf (.sl I) false], [.one (.ref (.own 0))]⟩⟩
def y3 : SS := ⟨[], ⟨[], []⟩⟩
noncomputable def b3 {β : Type} (S : Sl) (L : (List (List Int)) → Int → (List Bool) → Int → Option β) (kx : (List (List Int)) → Option β) (kr : Option β) (s0 : (List (List Int))) (s1 : Int) (s2 : (List Bool)) (s3 : Int) : Option β := bif (S.lt s3 8) then (bif (S.ir s3 s2.length) then (bif (List.getD s2 (Int.toNat s3) false) then (spec_l4Row.G S s1 s3 (fun y1 => bif (S.fw (s0 ++ [y1]).length) then (L (s0 ++ [y1]) s1 s2 (S.w (s3 + 1))) else (none))) else (L s0 s1 s2 (S.w (s3 + 1)))) else (none)) else (kx s0)
noncomputable def r3 {β : Type} (S : Sl) (n : Nat) (kx : x3.sig.den → Option β) (kr : y3.sig.den → Option β) (s : h3.sig.den) : Option β := rounds (fun L kx kr s => b3 S (fun x0 x1 x2 x3 => L ((x0, ()), (x1, (x2, (x3, ()))))) (fun x0 => kx ((x0, ()), ())) (kr ((), ())) s.1.1 s.2.1 s.2.2.1 s.2.2.2.1) kx kr n s
noncomputable def l3 {β : Type} (S : Sl) (n : Nat) (kx : (List (List Int)) → Option β) (kr : Option β) (s0 : (List (List Int))) (s1 : Int) (s2 : (List Bool)) (s3 : Int) : Option β := r3 S n (fun s => kx s.1.1) (fun s => kr) ((s0, ()), (s1, (s2, (s3, ()))))
theorem t3 {β : Type} (S : Sl) (n : Nat) (kx : (List (List Int)) → Option β) (kr : Option β) (s0 : (List (List Int))) (s1 : Int) (s2 : (List Bool)) (s3 : Int) : l3 S (n + 1) kx kr s0 s1 s2 s3 = b3 S (l3 S n kx kr) kx kr s0 s1 s2 s3 := by kernel_rfl
noncomputable def G {β : Type} (S : Sl) (a0 : Int) (a1 : (List Bool)) (K : (List (List Int)) → Option β) : Option β := l3 S S.n (fun y1 => K y1) none [] a0 a1 0
noncomputable def o : Orac := ⟨215, sin, sout, fun s K => G sl0 s.2.1 s.2.2.1 (fun x0 => K ((x0, ()), ()))⟩
noncomputable def C : Ctx := ⟨tyT, [spec_l4Row.o], [⟨3, 0, h3, x3, y3, fun s kx kr => r3 sl0 sl0.n kx kr s⟩], 23, 0⟩
theorem ctx : CtxOk Tryz.prog C := ⟨tyOk, all1 spec_l4Row.ok (all0)⟩
theorem e3 (β : Type) (L : h3.sig.den → Option β) (kx : x3.sig.den → Option β) (kr : y3.sig.den → Option β) (s : h3.sig.den) : evalBody C (nthC (loopsOf (bodyC Tryz.f215)) 0) 0 h3 x3 y3 L kx kr s = b3 sl0 (fun x0 x1 x2 x3 => L ((x0, ()), (x1, (x2, (x3, ()))))) (fun x0 => kx ((x0, ()), ())) (kr ((), ())) s.1.1 s.2.1 s.2.2.1 s.2.2.2.1 := by kernel_rfl
theorem g3 : LS Tryz.prog C ⟨3, 0, h3, x3, y3, fun s kx kr => r3 sl0 sl0.n kx kr s⟩ (loopsOf (bodyC Tryz.f215)) := LS.at (i := 0) (by kernel_rfl) (loop_good mixed ctx (ctx_nat ctx) (N := sl0.n) (fun _ _ _ _ => rfl) e3 (all1 (LS.none (by kernel_rfl)) (all0)))
theorem eG (β : Type) (s : sin.den) (K : sout.den → Option β) : evalFn C Tryz.f215 sin sout s K = o.F s K := by kernel_rfl
theorem ok : OracOk Tryz.prog o := fn_ok mixed Tryz.func215 (by kernel_rfl) ctx (c := bodyC Tryz.f215) (by kernel_rfl) (all1 g3 (all0)) (by kernel_rfl) (by kernel_rfl) (by kernel_rfl) (Nat.le_of_ble_eq_true (by kernel_rfl)) eG (by kernel_rfl) (Nat.le_of_ble_eq_true (by kernel_rfl))
end spec_l4Rows
end Go.Proofs.YtnbighmbgmjbkaaGreat.E
end
section
set_option linter.unusedVariables false
set_option linter.unusedSimpArgs false
namespace Go.Proofs.YtnbighmbgmjbkaaGreat.E
open Go Go.RowKit
set_option linter.unusedVariables false
set_option maxRecDepth 100000
namespace spec_CodeBears
def sin : Sig := ⟨[], [.one (.val I false), .one (.val (.sl .bool) false)]⟩
def sout : Sig := ⟨[], [.one (.val .bool false)]⟩
noncomputable def G {β : Type} (S : Sl) (a0 : Int) (a1 : (List Bool)) (K : Bool → Option β) : Option β := spec_l4Kind.G S a0 (fun y1 => bif y1 then (bif (S.eq (a1.length : Int) 8) then (spec_l4Rows.G S a0 a1 (fun y2 => spec_l3Tidy_.G S y2 (fun y3 y4 => K (S.eq (y4.length : Int) 4)))) else (K false)) else (K false))
noncomputable def o : Orac := ⟨180, sin, sout, fun s K => G sl0 s.2.1 s.2.2.1 (fun x0 => K ((), (x0, ())))⟩
noncomputable def C : Ctx := ⟨tyT, [spec_l3Tidy_.o, spec_l4Kind.o, spec_l4Rows.o], [], 20, 0⟩
theorem ctx : CtxOk Tryz.prog C := ⟨tyOk, all1 spec_l3Tidy_.ok (all1 spec_l4Kind.ok (all1 spec_l4Rows.ok (all0)))⟩
theorem eG (β : Type) (s : sin.den) (K : sout.den → Option β) : evalFn C Tryz.f180 sin sout s K = o.F s K := by kernel_rfl
theorem ok : OracOk Tryz.prog o := fn_ok mixed Tryz.func180 (by kernel_rfl) ctx (c := bodyC Tryz.f180) (by kernel_rfl) (all0) (by kernel_rfl) (by kernel_rfl) (by kernel_rfl) (Nat.le_of_ble_eq_true (by kernel_rfl)) eG (by kernel_rfl) (Nat.le_of_ble_eq_true (by kernel_rfl))
end spec_CodeBears
end Go.Proofs.YtnbighmbgmjbkaaGreat.E
end
section
set_option linter.unusedVariables false
set_option linter.unusedSimpArgs false
namespace Go.Proofs.YtnbighmbgmjbkaaGreat.E
open Go Go.RowKit
set_option linter.unusedVariables false
set_option maxRecDepth 100000
namespace spec_VecUnit
def sin : Sig := ⟨[], [.one (.val I false)]⟩
def sout : Sig := ⟨[.buf I false], [.one (.ref (.own 0)), .one (.val .bool false)]⟩
noncomputable def G {β : Type} (S : Sl) (a0 : Int) (K : (List Int) → Bool → Option β) : Option β := spec_l6In.G S a0 0 3 (fun y1 => bif (!y1) then (K [] false) else (bif ((S.le 0 4) && (S.le 4 4) && S.fw (Int.toNat 4)) then (bif (S.ir a0 (List.replicate (Int.toNat 4) (0 : Int)).length) then (K (List.set (List.replicate (Int.toNat 4) (0 : Int)) (Int.toNat a0) 1) true) else (none)) else (none)))
noncomputable def o : Orac := ⟨236, sin, sout, fun s K => G sl0 s.2.1 (fun x0 x1 => K ((x0, ()), (x1, ())))⟩
noncomputable def C : Ctx := ⟨tyT, [spec_l6In.o], [], 14, 0⟩
theorem ctx : CtxOk Tryz.prog C := ⟨tyOk, all1 spec_l6In.ok (all0)⟩
theorem eG (β : Type) (s : sin.den) (K : sout.den → Option β) : evalFn C Tryz.f236 sin sout s K = o.F s K := by kernel_rfl
theorem ok : OracOk Tryz.prog o := fn_ok mixed Tryz.func236 (by kernel_rfl) ctx (c := bodyC Tryz.f236) (by kernel_rfl) (all0) (by kernel_rfl) (by kernel_rfl) (by kernel_rfl) (Nat.le_of_ble_eq_true (by kernel_rfl)) eG (by kernel_rfl) (Nat.le_of_ble_eq_true (by kernel_rfl))
end spec_VecUnit
end Go.Proofs.YtnbighmbgmjbkaaGreat.E
end
section
set_option linter.unusedVariables false
set_option linter.unusedSimpArgs false
namespace Go.Proofs.YtnbighmbgmjbkaaGreat.E
open Go Go.RowKit
set_option linter.unusedVariables false
set_option maxRecDepth 100000
namespace spec_l13Data
def sin : Sig := ⟨[], [.one (.val I false), .one (.val (.sl I) false), .one (.val (.sl I) false)]⟩
def sout : Sig := ⟨[.buf I false], [.one (.ref (.own 0))]⟩
def h14 : SS := ⟨[1, 2, 7, 9, 10, 13, 15, 16], ⟨[.buf (.sl I) false, .buf I false], [.one (.val (.sl I) false), .one (.val (.sl I) false), .one (.ref (.own 0)), .one (.ref (.own 1)), .one (.val I false), .one (.val (.sl I) true), .one (.val I false), .one (.val I false)]⟩⟩
def x14 : SS := ⟨[1, 2, 7, 9, 10, 15], ⟨[.buf (.sl I) false, .buf I false], [.one (.val (.sl I) false), .one (.val (.sl I) false), .one (.ref (.own 0)), .one (.ref (.own 1)), .one (.val I false), .one (.val I false)]⟩⟩
def y14 : SS := ⟨[], ⟨[], []⟩⟩
noncomputable def b14 {β : Type} (S : Sl) (L : (List (List Int)) → (List Int) → (List Int) → (List Int) → Int → (List Int) → Int → Int → Option β) (kx : (List (List Int)) → (List Int) → (List Int) → (List Int) → Int → Int → Option β) (kr : Option β) (s0 : (List (List Int))) (s1 : (List Int)) (s2 : (List Int)) (s3 : (List Int)) (s4 : Int) (s5 : (List Int)) (s6 : Int) (s7 : Int) : Option β := bif (S.lt s7 (s3.length : Int)) then (bif (S.ir s7 s5.length) then (bif (S.ir s7 s3.length) then (bif (S.ir (List.getD s3 (Int.toNat s7) 0) s2.length) then (L s0 s1 s2 s3 s4 s5 (Int.tmod (S.w (s6 + (S.w ((List.getD s5 (Int.toNat s7) 0) * (List.getD s2 (Int.toNat (List.getD s3 (Int.toNat s7) 0)) 0))))) 31) (S.w (s7 + 1))) else (none)) else (none)) else (none)) else (kx s0 s1 s2 s3 s4 s6)
noncomputable def r14 {β : Type} (S : Sl) (n : Nat) (kx : x14.sig.den → Option β) (kr : y14.sig.den → Option β) (s : h14.sig.den) : Option β := rounds (fun L kx kr s => b14 S (fun x0 x1 x2 x3 x4 x5 x6 x7 => L ((x0, (x1, ())), (x2, (x3, (x4, (x5, (x6, (x7, ())))))))) (fun x0 x1 x2 x3 x4 x5 => kx ((x0, (x1, ())), (x2, (x3, (x4, (x5, ())))))) (kr ((), ())) s.1.1 s.1.2.1 s.2.1 s.2.2.1 s.2.2.2.1 s.2.2.2.2.1 s.2.2.2.2.2.1 s.2.2.2.2.2.2.1) kx kr n s
noncomputable def l14 {β : Type} (S : Sl) (n : Nat) (kx : (List (List Int)) → (List Int) → (List Int) → (List Int) → Int → Int → Option β) (kr : Option β) (s0 : (List (List Int))) (s1 : (List Int)) (s2 : (List Int)) (s3 : (List Int)) (s4 : Int) (s5 : (List Int)) (s6 : Int) (s7 : Int) : Option β := r14 S n (fun s => kx s.1.1 s.1.2.1 s.2.1 s.2.2.1 s.2.2.2.1 s.2.2.2.2.1) (fun s => kr) ((s0, (s1, ())), (s2, (s3, (s4, (s5, (s6, (s7, ())))))))
theorem t14 {β : Type} (S : Sl) (n : Nat) (kx : (List (List Int)) → (List Int) → (List Int) → (List Int) → Int → Int → Option β) (kr : Option β) (s0 : (List (List Int))) (s1 : (List Int)) (s2 : (List Int)) (s3 : (List Int)) (s4 : Int) (s5 : (List Int)) (s6 : Int) (s7 : Int) : l14 S (n + 1) kx kr s0 s1 s2 s3 s4 s5 s6 s7 = b14 S (l14 S n kx kr) kx kr s0 s1 s2 s3 s4 s5 s6 s7 := by kernel_rfl
def h8 : SS := ⟨[1, 2, 7, 9, 10], ⟨[.buf (.sl I) false, .buf I false], [.one (.val (.sl I) false), .one (.val (.sl I) false), .one (.ref (.own 0)), .one (.ref (.own 1)), .one (.val I false)]⟩⟩
def x8 : SS := ⟨[9], ⟨[.buf I false], [.one (.ref (.own 0))]⟩⟩
def y8 : SS := ⟨[], ⟨[], []⟩⟩
noncomputable def b8 {β : Type} (S : Sl) (L : (List (List Int)) → (List Int) → (List Int) → (List Int) → Int → Option β) (kx : (List Int) → Option β) (kr : Option β) (s0 : (List (List Int))) (s1 : (List Int)) (s2 : (List Int)) (s3 : (List Int)) (s4 : Int) : Option β := bif (S.lt s4 4) then (spec_VecUnit.G S s4 (fun y1 y2 => spec_l3By.G S s0 y1 (fun y3 y4 => l14 S S.n (fun y5 y6 y7 y8 y9 y10 => bif (S.fw (y6 ++ [y10]).length) then (L y5 (y6 ++ [y10]) y7 y8 (S.w (y9 + 1))) else (none)) none s0 s1 s2 s3 s4 y3 0 0))) else (kx s1)
noncomputable def r8 {β : Type} (S : Sl) (n : Nat) (kx : x8.sig.den → Option β) (kr : y8.sig.den → Option β) (s : h8.sig.den) : Option β := rounds (fun L kx kr s => b8 S (fun x0 x1 x2 x3 x4 => L ((x0, (x1, ())), (x2, (x3, (x4, ()))))) (fun x0 => kx ((x0, ()), ())) (kr ((), ())) s.1.1 s.1.2.1 s.2.1 s.2.2.1 s.2.2.2.1) kx kr n s
noncomputable def l8 {β : Type} (S : Sl) (n : Nat) (kx : (List Int) → Option β) (kr : Option β) (s0 : (List (List Int))) (s1 : (List Int)) (s2 : (List Int)) (s3 : (List Int)) (s4 : Int) : Option β := r8 S n (fun s => kx s.1.1) (fun s => kr) ((s0, (s1, ())), (s2, (s3, (s4, ()))))
theorem t8 {β : Type} (S : Sl) (n : Nat) (kx : (List Int) → Option β) (kr : Option β) (s0 : (List (List Int))) (s1 : (List Int)) (s2 : (List Int)) (s3 : (List Int)) (s4 : Int) : l8 S (n + 1) kx kr s0 s1 s2 s3 s4 = b8 S (l8 S n kx kr) kx kr s0 s1 s2 s3 s4 := by kernel_rfl
def h3 : SS := ⟨[0, 1, 2, 7, 8], ⟨[.buf (.sl I) false], [.one (.val I false), .one (.val (.sl I) false), .one (.val (.sl I) false), .one (.ref (.own 0)), .one (.val I false)]⟩⟩
def x3 : SS := ⟨[1, 2, 7], ⟨[.buf (.sl I) false], [.one (.val (.sl I) false), .one (.val (.sl I) false), .one (.ref (.own 0))]⟩⟩
def y3 : SS := ⟨[], ⟨[], []⟩⟩
noncomputable def b3 {β : Type} (S : Sl) (L : (List (List Int)) → Int → (List Int) → (List Int) → Int → Option β) (kx : (List (List Int)) → (List Int) → (List Int) → Option β) (kr : Option β) (s0 : (List (List Int))) (s1 : Int) (s2 : (List Int)) (s3 : (List Int)) (s4 : Int) : Option β := bif (S.lt s4 (s3.length : Int)) then (bif (S.ir s4 s3.length) then (spec_l4Row.G S s1 (List.getD s3 (Int.toNat s4) 0) (fun y1 => bif (S.fw (s0 ++ [y1]).length) then (L (s0 ++ [y1]) s1 s2 s3 (S.w (s4 + 1))) else (none))) else (none)) else (kx s0 s2 s3)
noncomputable def r3 {β : Type} (S : Sl) (n : Nat) (kx : x3.sig.den → Option β) (kr : y3.sig.den → Option β) (s : h3.sig.den) : Option β := rounds (fun L kx kr s => b3 S (fun x0 x1 x2 x3 x4 => L ((x0, ()), (x1, (x2, (x3, (x4, ())))))) (fun x0 x1 x2 => kx ((x0, ()), (x1, (x2, ())))) (kr ((), ())) s.1.1 s.2.1 s.2.2.1 s.2.2.2.1 s.2.2.2.2.1) kx kr n s
noncomputable def l3 {β : Type} (S : Sl) (n : Nat) (kx : (List (List Int)) → (List Int) → (List Int) → Option β) (kr : Option β) (s0 : (List (List Int))) (s1 : Int) (s2 : (List Int)) (s3 : (List Int)) (s4 : Int) : Option β := r3 S n (fun s => kx s.1.1 s.2.1 s.2.2.1) (fun s => kr) ((s0, ()), (s1, (s2, (s3, (s4, ())))))
theorem t3 {β : Type} (S : Sl) (n : Nat) (kx : (List (List Int)) → (List Int) → (List Int) → Option β) (kr : Option β) (s0 : (List (List Int))) (s1 : Int) (s2 : (List Int)) (s3 : (List Int)) (s4 : Int) : l3 S (n + 1) kx kr s0 s1 s2 s3 s4 = b3 S (l3 S n kx kr) kx kr s0 s1 s2 s3 s4 := by kernel_rfl
noncomputable def G {β : Type} (S : Sl) (a0 : Int) (a1 : (List Int)) (a2 : (List Int)) (K : (List Int) → Option β) : Option β := l3 S S.n (fun y1 y2 y3 => l8 S S.n (fun y4 => K y4) none y1 [] y2 y3 0) none [] a0 a1 a2 0
noncomputable def o : Orac := ⟨216, sin, sout, fun s K => G sl0 s.2.1 s.2.2.1 s.2.2.2.1 (fun x0 => K ((x0, ()), ()))⟩
noncomputable def C : Ctx := ⟨tyT, [spec_VecUnit.o, spec_l3By.o, spec_l4Row.o], [⟨3, 0, h3, x3, y3, fun s kx kr => r3 sl0 sl0.n kx kr s⟩, ⟨8, 2, h8, x8, y8, fun s kx kr => r8 sl0 sl0.n kx kr s⟩, ⟨14, 4, h14, x14, y14, fun s kx kr => r14 sl0 sl0.n kx kr s⟩], 75, 0⟩
theorem ctx : CtxOk Tryz.prog C := ⟨tyOk, all1 spec_VecUnit.ok (all1 spec_l3By.ok (all1 spec_l4Row.ok (all0)))⟩
theorem e14 (β : Type) (L : h14.sig.den → Option β) (kx : x14.sig.den → Option β) (kr : y14.sig.den → Option β) (s : h14.sig.den) : evalBody C (nthC (loopsOf (bodyC Tryz.f216)) 2) 4 h14 x14 y14 L kx kr s = b14 sl0 (fun x0 x1 x2 x3 x4 x5 x6 x7 => L ((x0, (x1, ())), (x2, (x3, (x4, (x5, (x6, (x7, ())))))))) (fun x0 x1 x2 x3 x4 x5 => kx ((x0, (x1, ())), (x2, (x3, (x4, (x5, ())))))) (kr ((), ())) s.1.1 s.1.2.1 s.2.1 s.2.2.1 s.2.2.2.1 s.2.2.2.2.1 s.2.2.2.2.2.1 s.2.2.2.2.2.2.1 := by kernel_rfl
theorem g14 : LS Tryz.prog C ⟨14, 4, h14, x14, y14, fun s kx kr => r14 sl0 sl0.n kx kr s⟩ (loopsOf (bodyC Tryz.f216)) := LS.at (i := 2) (by kernel_rfl) (loop_good mixed ctx (ctx_nat ctx) (N := sl0.n) (fun _ _ _ _ => rfl) e14 (all1 (LS.none (by kernel_rfl)) (all1 (LS.none (by kernel_rfl)) (all1 (LS.none (by kernel_rfl)) (all0)))))
theorem e8 (β : Type) (L : h8.sig.den → Option β) (kx : x8.sig.den → Option β) (kr : y8.sig.den → Option β) (s : h8.sig.den) : evalBody C (nthC (loopsOf (bodyC Tryz.f216)) 1) 2 h8 x8 y8 L kx kr s = b8 sl0 (fun x0 x1 x2 x3 x4 => L ((x0, (x1, ())), (x2, (x3, (x4, ()))))) (fun x0 => kx ((x0, ()), ())) (kr ((), ())) s.1.1 s.1.2.1 s.2.1 s.2.2.1 s.2.2.2.1 := by kernel_rfl
theorem g8 : LS Tryz.prog C ⟨8, 2, h8, x8, y8, fun s kx kr => r8 sl0 sl0.n kx kr s⟩ (loopsOf (bodyC Tryz.f216)) := LS.at (i := 1) (by kernel_rfl) (loop_good mixed ctx (ctx_nat ctx) (N := sl0.n) (fun _ _ _ _ => rfl) e8 (all1 (LS.none (by kernel_rfl)) (all1 (LS.none (by kernel_rfl)) (all1 ((g14).sub (nthC_mem (by kernel_rfl))) (all0)))))
theorem e3 (β : Type) (L : h3.sig.den → Option β) (kx : x3.sig.den → Option β) (kr : y3.sig.den → Option β) (s : h3.sig.den) : evalBody C (nthC (loopsOf (bodyC Tryz.f216)) 0) 0 h3 x3 y3 L kx kr s = b3 sl0 (fun x0 x1 x2 x3 x4 => L ((x0, ()), (x1, (x2, (x3, (x4, ())))))) (fun x0 x1 x2 => kx ((x0, ()), (x1, (x2, ())))) (kr ((), ())) s.1.1 s.2.1 s.2.2.1 s.2.2.2.1 s.2.2.2.2.1 := by kernel_rfl
theorem g3 : LS Tryz.prog C ⟨3, 0, h3, x3, y3, fun s kx kr => r3 sl0 sl0.n kx kr s⟩ (loopsOf (bodyC Tryz.f216)) := LS.at (i := 0) (by kernel_rfl) (loop_good mixed ctx (ctx_nat ctx) (N := sl0.n) (fun _ _ _ _ => rfl) e3 (all1 (LS.none (by kernel_rfl)) (all1 (LS.none (by kernel_rfl)) (all1 (LS.none (by kernel_rfl)) (all0)))))
theorem eG (β : Type) (s : sin.den) (K : sout.den → Option β) : evalFn C Tryz.f216 sin sout s K = o.F s K := by kernel_rfl
theorem ok : OracOk Tryz.prog o := fn_ok mixed Tryz.func216 (by kernel_rfl) ctx (c := bodyC Tryz.f216) (by kernel_rfl) (all1 g3 (all1 g8 (all1 g14 (all0)))) (by kernel_rfl) (by kernel_rfl) (by kernel_rfl) (Nat.le_of_ble_eq_true (by kernel_rfl)) eG (by kernel_rfl) (Nat.le_of_ble_eq_true (by kernel_rfl))
end spec_l13Data
end Go.Proofs.YtnbighmbgmjbkaaGreat.E
end
section
set_option linter.unusedVariables false
set_option linter.unusedSimpArgs false
namespace Go.Proofs.YtnbighmbgmjbkaaGreat.E
open Go Go.RowKit
set_option linter.unusedVariables false
set_option maxRecDepth 100000
namespace spec_l3First
def sin : Sig := ⟨[], [.one (.val (.sl (.sl I)) false)]⟩
def sout : Sig := ⟨[.buf I false], [.one (.ref (.own 0))]⟩
def h3 : SS := ⟨[0, 3, 4], ⟨[.buf I false], [.one (.val (.sl (.sl I)) false), .one (.ref (.own 0)), .one (.val I false)]⟩⟩
def x3 : SS := ⟨[3], ⟨[.buf I false], [.one (.ref (.own 0))]⟩⟩
def y3 : SS := ⟨[], ⟨[], []⟩⟩
noncomputable def b3 {β : Type} (S : Sl) (L : (List Int) → (List (List Int)) → Int → Option β) (kx : (List Int) → Option β) (kr : Option β) (s0 : (List Int)) (s1 : (List (List Int))) (s2 : Int) : Option β := bif (S.lt s2 (s1.length : Int)) then (bif ((S.le 0 0) && (S.le 0 s2) && (S.le s2 (s1.length : Int)) && (S.le (s1.length : Int) (s1.length : Int))) then (bif (S.ir s2 s1.length) then (spec_l3Has.G S (cutL s1 (Int.toNat 0) (Int.toNat s2)) (List.getD s1 (Int.toNat s2) []) (fun y1 => bif (!y1) then (bif (S.fw (s0 ++ [s2]).length) then (L (s0 ++ [s2]) s1 (S.w (s2 + 1))) else (none)) else (L s0 s1 (S.w (s2 + 1))))) else (none)) else (none)) else (kx s0)
noncomputable def r3 {β : Type} (S : Sl) (n : Nat) (kx : x3.sig.den → Option β) (kr : y3.sig.den → Option β) (s : h3.sig.den) : Option β := rounds (fun L kx kr s => b3 S (fun x0 x1 x2 => L ((x0, ()), (x1, (x2, ())))) (fun x0 => kx ((x0, ()), ())) (kr ((), ())) s.1.1 s.2.1 s.2.2.1) kx kr n s
noncomputable def l3 {β : Type} (S : Sl) (n : Nat) (kx : (List Int) → Option β) (kr : Option β) (s0 : (List Int)) (s1 : (List (List Int))) (s2 : Int) : Option β := r3 S n (fun s => kx s.1.1) (fun s => kr) ((s0, ()), (s1, (s2, ())))
theorem t3 {β : Type} (S : Sl) (n : Nat) (kx : (List Int) → Option β) (kr : Option β) (s0 : (List Int)) (s1 : (List (List Int))) (s2 : Int) : l3 S (n + 1) kx kr s0 s1 s2 = b3 S (l3 S n kx kr) kx kr s0 s1 s2 := by kernel_rfl
noncomputable def G {β : Type} (S : Sl) (a0 : (List (List Int))) (K : (List Int) → Option β) : Option β := l3 S S.n (fun y1 => K y1) none [] a0 0
noncomputable def o : Orac := ⟨237, sin, sout, fun s K => G sl0 s.2.1 (fun x0 => K ((x0, ()), ()))⟩
noncomputable def C : Ctx := ⟨tyT, [spec_l3Has.o], [⟨3, 0, h3, x3, y3, fun s kx kr => r3 sl0 sl0.n kx kr s⟩], 26, 0⟩
theorem ctx : CtxOk Tryz.prog C := ⟨tyOk, all1 spec_l3Has.ok (all0)⟩
theorem e3 (β : Type) (L : h3.sig.den → Option β) (kx : x3.sig.den → Option β) (kr : y3.sig.den → Option β) (s : h3.sig.den) : evalBody C (nthC (loopsOf (bodyC Tryz.f237)) 0) 0 h3 x3 y3 L kx kr s = b3 sl0 (fun x0 x1 x2 => L ((x0, ()), (x1, (x2, ())))) (fun x0 => kx ((x0, ()), ())) (kr ((), ())) s.1.1 s.2.1 s.2.2.1 := by kernel_rfl
theorem g3 : LS Tryz.prog C ⟨3, 0, h3, x3, y3, fun s kx kr => r3 sl0 sl0.n kx kr s⟩ (loopsOf (bodyC Tryz.f237)) := LS.at (i := 0) (by kernel_rfl) (loop_good mixed ctx (ctx_nat ctx) (N := sl0.n) (fun _ _ _ _ => rfl) e3 (all1 (LS.none (by kernel_rfl)) (all0)))
theorem eG (β : Type) (s : sin.den) (K : sout.den → Option β) : evalFn C Tryz.f237 sin sout s K = o.F s K := by kernel_rfl
theorem ok : OracOk Tryz.prog o := fn_ok mixed Tryz.func237 (by kernel_rfl) ctx (c := bodyC Tryz.f237) (by kernel_rfl) (all1 g3 (all0)) (by kernel_rfl) (by kernel_rfl) (by kernel_rfl) (Nat.le_of_ble_eq_true (by kernel_rfl)) eG (by kernel_rfl) (Nat.le_of_ble_eq_true (by kernel_rfl))
end spec_l3First
end Go.Proofs.YtnbighmbgmjbkaaGreat.E
end
section
set_option linter.unusedVariables false
set_option linter.unusedSimpArgs false
namespace Go.Proofs.YtnbighmbgmjbkaaGreat.E
open Go Go.RowKit
set_option linter.unusedVariables false
set_option maxRecDepth 100000
namespace spec_l13From
def sin : Sig := ⟨[], [.one (.val I false), .one (.val (.sl .bool) false)]⟩
def sout : Sig := ⟨[.buf I false], [.one (.ref (.own 0))]⟩
def h10 : SS := ⟨[5, 7, 8, 9], ⟨[.buf I false, .buf I false, .buf I false], [.one (.ref (.own 0)), .one (.ref (.own 1)), .one (.ref (.own 2)), .one (.val I false)]⟩⟩
def x10 : SS := ⟨[8], ⟨[.buf I false], [.one (.ref (.own 0))]⟩⟩
def y10 : SS := ⟨[], ⟨[], []⟩⟩
noncomputable def b10 {β : Type} (S : Sl) (L : (List Int) → (List Int) → (List Int) → Int → Option β) (kx : (List Int) → Option β) (kr : Option β) (s0 : (List Int)) (s1 : (List Int)) (s2 : (List Int)) (s3 : Int) : Option β := bif (S.lt s3 (s1.length : Int)) then (bif (S.ir s3 s1.length) then (bif (S.ir (List.getD s1 (Int.toNat s3) 0) s0.length) then (bif (S.fw (s2 ++ [(List.getD s0 (Int.toNat (List.getD s1 (Int.toNat s3) 0)) 0)]).length) then (L s0 s1 (s2 ++ [(List.getD s0 (Int.toNat (List.getD s1 (Int.toNat s3) 0)) 0)]) (S.w (s3 + 1))) else (none)) else (none)) else (none)) else (kx s2)
noncomputable def r10 {β : Type} (S : Sl) (n : Nat) (kx : x10.sig.den → Option β) (kr : y10.sig.den → Option β) (s : h10.sig.den) : Option β := rounds (fun L kx kr s => b10 S (fun x0 x1 x2 x3 => L ((x0, (x1, (x2, ()))), (x3, ()))) (fun x0 => kx ((x0, ()), ())) (kr ((), ())) s.1.1 s.1.2.1 s.1.2.2.1 s.2.1) kx kr n s
noncomputable def l10 {β : Type} (S : Sl) (n : Nat) (kx : (List Int) → Option β) (kr : Option β) (s0 : (List Int)) (s1 : (List Int)) (s2 : (List Int)) (s3 : Int) : Option β := r10 S n (fun s => kx s.1.1) (fun s => kr) ((s0, (s1, (s2, ()))), (s3, ()))
theorem t10 {β : Type} (S : Sl) (n : Nat) (kx : (List Int) → Option β) (kr : Option β) (s0 : (List Int)) (s1 : (List Int)) (s2 : (List Int)) (s3 : Int) : l10 S (n + 1) kx kr s0 s1 s2 s3 = b10 S (l10 S n kx kr) kx kr s0 s1 s2 s3 := by kernel_rfl
def h3 : SS := ⟨[0, 1, 5, 6], ⟨[.buf I false], [.one (.val I false), .one (.val (.sl .bool) false), .one (.ref (.own 0)), .one (.val I false)]⟩⟩
def x3 : SS := ⟨[0, 1, 5], ⟨[.buf I false], [.one (.val I false), .one (.val (.sl .bool) false), .one (.ref (.own 0))]⟩⟩
def y3 : SS := ⟨[], ⟨[], []⟩⟩
noncomputable def b3 {β : Type} (S : Sl) (L : (List Int) → Int → (List Bool) → Int → Option β) (kx : (List Int) → Int → (List Bool) → Option β) (kr : Option β) (s0 : (List Int)) (s1 : Int) (s2 : (List Bool)) (s3 : Int) : Option β := bif (S.lt s3 8) then (bif (S.ir s3 s2.length) then (bif (List.getD s2 (Int.toNat s3) false) then (bif (S.fw (s0 ++ [s3]).length) then (L (s0 ++ [s3]) s1 s2 (S.w (s3 + 1))) else (none)) else (L s0 s1 s2 (S.w (s3 + 1)))) else (none)) else (kx s0 s1 s2)
noncomputable def r3 {β : Type} (S : Sl) (n : Nat) (kx : x3.sig.den → Option β) (kr : y3.sig.den → Option β) (s : h3.sig.den) : Option β := rounds (fun L kx kr s => b3 S (fun x0 x1 x2 x3 => L ((x0, ()), (x1, (x2, (x3, ()))))) (fun x0 x1 x2 => kx ((x0, ()), (x1, (x2, ())))) (kr ((), ())) s.1.1 s.2.1 s.2.2.1 s.2.2.2.1) kx kr n s
noncomputable def l3 {β : Type} (S : Sl) (n : Nat) (kx : (List Int) → Int → (List Bool) → Option β) (kr : Option β) (s0 : (List Int)) (s1 : Int) (s2 : (List Bool)) (s3 : Int) : Option β := r3 S n (fun s => kx s.1.1 s.2.1 s.2.2.1) (fun s => kr) ((s0, ()), (s1, (s2, (s3, ()))))
theorem t3 {β : Type} (S : Sl) (n : Nat) (kx : (List Int) → Int → (List Bool) → Option β) (kr : Option β) (s0 : (List Int)) (s1 : Int) (s2 : (List Bool)) (s3 : Int) : l3 S (n + 1) kx kr s0 s1 s2 s3 = b3 S (l3 S n kx kr) kx kr s0 s1 s2 s3 := by kernel_rfl
noncomputable def G {β : Type} (S : Sl) (a0 : Int) (a1 : (List Bool)) (K : (List Int) → Option β) : Option β := l3 S S.n (fun y1 y2 y3 => spec_l4Rows.G S y2 y3 (fun y4 => spec_l3First.G S y4 (fun y5 => l10 S S.n (fun y6 => K y6) none y1 y5 [] 0))) none [] a0 a1 0
noncomputable def o : Orac := ⟨217, sin, sout, fun s K => G sl0 s.2.1 s.2.2.1 (fun x0 => K ((x0, ()), ()))⟩
noncomputable def C : Ctx := ⟨tyT, [spec_l3First.o, spec_l4Rows.o], [⟨3, 0, h3, x3, y3, fun s kx kr => r3 sl0 sl0.n kx kr s⟩, ⟨10, 2, h10, x10, y10, fun s kx kr => r10 sl0 sl0.n kx kr s⟩], 45, 0⟩
theorem ctx : CtxOk Tryz.prog C := ⟨tyOk, all1 spec_l3First.ok (all1 spec_l4Rows.ok (all0))⟩
theorem e10 (β : Type) (L : h10.sig.den → Option β) (kx : x10.sig.den → Option β) (kr : y10.sig.den → Option β) (s : h10.sig.den) : evalBody C (nthC (loopsOf (bodyC Tryz.f217)) 1) 2 h10 x10 y10 L kx kr s = b10 sl0 (fun x0 x1 x2 x3 => L ((x0, (x1, (x2, ()))), (x3, ()))) (fun x0 => kx ((x0, ()), ())) (kr ((), ())) s.1.1 s.1.2.1 s.1.2.2.1 s.2.1 := by kernel_rfl
theorem g10 : LS Tryz.prog C ⟨10, 2, h10, x10, y10, fun s kx kr => r10 sl0 sl0.n kx kr s⟩ (loopsOf (bodyC Tryz.f217)) := LS.at (i := 1) (by kernel_rfl) (loop_good mixed ctx (ctx_nat ctx) (N := sl0.n) (fun _ _ _ _ => rfl) e10 (all1 (LS.none (by kernel_rfl)) (all1 (LS.none (by kernel_rfl)) (all0))))
theorem e3 (β : Type) (L : h3.sig.den → Option β) (kx : x3.sig.den → Option β) (kr : y3.sig.den → Option β) (s : h3.sig.den) : evalBody C (nthC (loopsOf (bodyC Tryz.f217)) 0) 0 h3 x3 y3 L kx kr s = b3 sl0 (fun x0 x1 x2 x3 => L ((x0, ()), (x1, (x2, (x3, ()))))) (fun x0 x1 x2 => kx ((x0, ()), (x1, (x2, ())))) (kr ((), ())) s.1.1 s.2.1 s.2.2.1 s.2.2.2.1 := by kernel_rfl
theorem g3 : LS Tryz.prog C ⟨3, 0, h3, x3, y3, fun s kx kr => r3 sl0 sl0.n kx kr s⟩ (loopsOf (bodyC Tryz.f217)) := LS.at (i := 0) (by kernel_rfl) (loop_good mixed ctx (ctx_nat ctx) (N := sl0.n) (fun _ _ _ _ => rfl) e3 (all1 (LS.none (by kernel_rfl)) (all1 (LS.none (by kernel_rfl)) (all0))))
theorem eG (β : Type) (s : sin.den) (K : sout.den → Option β) : evalFn C Tryz.f217 sin sout s K = o.F s K := by kernel_rfl
theorem ok : OracOk Tryz.prog o := fn_ok mixed Tryz.func217 (by kernel_rfl) ctx (c := bodyC Tryz.f217) (by kernel_rfl) (all1 g3 (all1 g10 (all0))) (by kernel_rfl) (by kernel_rfl) (by kernel_rfl) (Nat.le_of_ble_eq_true (by kernel_rfl)) eG (by kernel_rfl) (Nat.le_of_ble_eq_true (by kernel_rfl))
end spec_l13From
end Go.Proofs.YtnbighmbgmjbkaaGreat.E
end
section
set_option linter.unusedVariables false
set_option linter.unusedSimpArgs false
namespace Go.Proofs.YtnbighmbgmjbkaaGreat.E
open Go Go.RowKit
set_option linter.unusedVariables false
set_option maxRecDepth 100000
namespace spec_l13Read
def sin : Sig := ⟨[], [.one (.val I false), .one (.val (.sl I) false), .one (.val (.sl .bool) false)]⟩
def sout : Sig := ⟨[.buf I false], [.one (.ref (.own 0)), .one (.val .bool false)]⟩
noncomputable def G {β : Type} (S : Sl) (a0 : Int) (a1 : (List Int)) (a2 : (List Bool)) (K : (List Int) → Bool → Option β) : Option β := spec_CodeBears.G S a0 a2 (fun y1 => bif (!y1) then (K [] false) else (spec_l4Fits.G S a0 a1 a2 (fun y2 => bif (!y2) then (K [] false) else (spec_l13From.G S a0 a2 (fun y3 => spec_l13Data.G S a0 a1 y3 (fun y4 => K y4 true))))))
noncomputable def o : Orac := ⟨181, sin, sout, fun s K => G sl0 s.2.1 s.2.2.1 s.2.2.2.1 (fun x0 x1 => K ((x0, ()), (x1, ())))⟩
noncomputable def C : Ctx := ⟨tyT, [spec_CodeBears.o, spec_l13Data.o, spec_l13From.o, spec_l4Fits.o], [], 26, 0⟩
theorem ctx : CtxOk Tryz.prog C := ⟨tyOk, all1 spec_CodeBears.ok (all1 spec_l13Data.ok (all1 spec_l13From.ok (all1 spec_l4Fits.ok (all0))))⟩
theorem eG (β : Type) (s : sin.den) (K : sout.den → Option β) : evalFn C Tryz.f181 sin sout s K = o.F s K := by kernel_rfl
theorem ok : OracOk Tryz.prog o := fn_ok mixed Tryz.func181 (by kernel_rfl) ctx (c := bodyC Tryz.f181) (by kernel_rfl) (all0) (by kernel_rfl) (by kernel_rfl) (by kernel_rfl) (Nat.le_of_ble_eq_true (by kernel_rfl)) eG (by kernel_rfl) (Nat.le_of_ble_eq_true (by kernel_rfl))
end spec_l13Read
end Go.Proofs.YtnbighmbgmjbkaaGreat.E
end
section
set_option linter.unusedVariables false
set_option linter.unusedSimpArgs false
namespace Go.Proofs.YtnbighmbgmjbkaaGreat.E
open Go Go.RowKit
set_option linter.unusedVariables false
set_option maxRecDepth 100000
namespace spec_l21Read
def sin : Sig := ⟨[], [.agg [.val I false, .val (.sl I) false, .val (.sl I) false, .val (.sl .bool) false]]⟩
def sout : Sig := ⟨[.buf I false], [.one (.ref (.own 0)), .one (.val I false), .one (.val .bool false)]⟩
def h2 : SS := ⟨[1, 5], ⟨[.box [.val I false, .val (.sl I) false, .val (.sl I) false, .val (.sl .bool) false]], [.one (.ref (.ptr 0)), .one (.val I false)]⟩⟩
def x2 : SS := ⟨[], ⟨[], []⟩⟩
def y2 : SS := ⟨[2, 3, 4], ⟨[.buf I false], [.one (.ref (.own 0)), .one (.val I false), .one (.val .bool false)]⟩⟩
noncomputable def b2 {β : Type} (S : Sl) (L : Int → (List Int) → (List Int) → (List Bool) → Int → Option β) (kx : Option β) (kr : (List Int) → Int → Bool → Option β) (s0 : Int) (s1 : (List Int)) (s2 : (List Int)) (s3 : (List Bool)) (s4 : Int) : Option β := bif (S.lt 0 s4) then (spec_l21Of.G S s0 s1 s2 s3 s4 (fun y1 => spec_CodeBears.G S s0 y1 (fun y2 => bif y2 then (spec_l21Of.G S s0 s1 s2 s3 s4 (fun y3 => spec_l13Read.G S s0 s1 y3 (fun y4 y5 => kr y4 s4 y5))) else (L s0 s1 s2 s3 (S.w (s4 - 1)))))) else (kx)
noncomputable def r2 {β : Type} (S : Sl) (n : Nat) (kx : x2.sig.den → Option β) (kr : y2.sig.den → Option β) (s : h2.sig.den) : Option β := rounds (fun L kx kr s => b2 S (fun x0 x1 x2 x3 x4 => L (((x0, (x1, (x2, (x3, ())))), ()), (x4, ()))) (kx ((), ())) (fun x0 x1 x2 => kr ((x0, ()), (x1, (x2, ())))) s.1.1.1 s.1.1.2.1 s.1.1.2.2.1 s.1.1.2.2.2.1 s.2.1) kx kr n s
noncomputable def l2 {β : Type} (S : Sl) (n : Nat) (kx : Option β) (kr : (List Int) → Int → Bool → Option β) (s0 : Int) (s1 : (List Int)) (s2 : (List Int)) (s3 : (List Bool)) (s4 : Int) : Option β := r2 S n (fun s => kx) (fun s => kr s.1.1 s.2.1 s.2.2.1) (((s0, (s1, (s2, (s3, ())))), ()), (s4, ()))
theorem t2 {β : Type} (S : Sl) (n : Nat) (kx : Option β) (kr : (List Int) → Int → Bool → Option β) (s0 : Int) (s1 : (List Int)) (s2 : (List Int)) (s3 : (List Bool)) (s4 : Int) : l2 S (n + 1) kx kr s0 s1 s2 s3 s4 = b2 S (l2 S n kx kr) kx kr s0 s1 s2 s3 s4 := by kernel_rfl
noncomputable def G {β : Type} (S : Sl) (a0 : Int) (a1 : (List Int)) (a2 : (List Int)) (a3 : (List Bool)) (K : (List Int) → Int → Bool → Option β) : Option β := spec_l21Top.G S a0 a1 a2 a3 (fun y1 => l2 S S.n (K [] 0 false) (fun y2 y3 y4 => K y2 y3 y4) a0 a1 a2 a3 y1)
noncomputable def o : Orac := ⟨101, sin, sout, fun s K => G sl0 s.2.1.1 s.2.1.2.1 s.2.1.2.2.1 s.2.1.2.2.2.1 (fun x0 x1 x2 => K ((x0, ()), (x1, (x2, ()))))⟩
noncomputable def C : Ctx := ⟨tyT, [spec_CodeBears.o, spec_l13Read.o, spec_l21Of.o, spec_l21Top.o], [⟨2, 0, h2, x2, y2, fun s kx kr => r2 sl0 sl0.n kx kr s⟩], 35, 0⟩
theorem ctx : CtxOk Tryz.prog C := ⟨tyOk, all1 spec_CodeBears.ok (all1 spec_l13Read.ok (all1 spec_l21Of.ok (all1 spec_l21Top.ok (all0))))⟩
theorem e2 (β : Type) (L : h2.sig.den → Option β) (kx : x2.sig.den → Option β) (kr : y2.sig.den → Option β) (s : h2.sig.den) : evalBody C (nthC (loopsOf (bodyC Tryz.f101)) 0) 0 h2 x2 y2 L kx kr s = b2 sl0 (fun x0 x1 x2 x3 x4 => L (((x0, (x1, (x2, (x3, ())))), ()), (x4, ()))) (kx ((), ())) (fun x0 x1 x2 => kr ((x0, ()), (x1, (x2, ())))) s.1.1.1 s.1.1.2.1 s.1.1.2.2.1 s.1.1.2.2.2.1 s.2.1 := by kernel_rfl
theorem g2 : LS Tryz.prog C ⟨2, 0, h2, x2, y2, fun s kx kr => r2 sl0 sl0.n kx kr s⟩ (loopsOf (bodyC Tryz.f101)) := LS.at (i := 0) (by kernel_rfl) (loop_good mixed ctx (ctx_nat ctx) (N := sl0.n) (fun _ _ _ _ => rfl) e2 (all1 (LS.none (by kernel_rfl)) (all0)))
theorem eG (β : Type) (s : sin.den) (K : sout.den → Option β) : evalFn C Tryz.f101 sin sout s K = o.F s K := by kernel_rfl
theorem ok : OracOk Tryz.prog o := fn_ok mixed Tryz.func101 (by kernel_rfl) ctx (c := bodyC Tryz.f101) (by kernel_rfl) (all1 g2 (all0)) (by kernel_rfl) (by kernel_rfl) (by kernel_rfl) (Nat.le_of_ble_eq_true (by kernel_rfl)) eG (by kernel_rfl) (Nat.le_of_ble_eq_true (by kernel_rfl))
end spec_l21Read
end Go.Proofs.YtnbighmbgmjbkaaGreat.E
end
section
set_option linter.unusedVariables false
set_option linter.unusedSimpArgs false
namespace Go.Proofs.YtnbighmbgmjbkaaGreat.E
open Go Go.RowKit
set_option linter.unusedVariables false
set_option maxRecDepth 100000
namespace spec_l22Row
def sin : Sig := ⟨[], [.one (.val I false), .agg [.val I false, .val I false]]⟩
def sout : Sig := ⟨[.buf I false], [.one (.ref (.own 0))]⟩
noncomputable def G {β : Type} (S : Sl) (a0 : Int) (a1 : Int) (a2 : Int) (K : (List Int) → Option β) : Option β := bif ((S.le 0 4) && (S.le 4 4) && S.fw (Int.toNat 4)) then (bif (S.ir a1 (List.replicate (Int.toNat 4) (0 : Int)).length) then (spec_l4All.G S a0 (List.set (List.replicate (Int.toNat 4) (0 : Int)) (Int.toNat a1) a2) (fun y1 => K y1)) else (none)) else (none)
noncomputable def o : Orac := ⟨102, sin, sout, fun s K => G sl0 s.2.1 s.2.2.1.1 s.2.2.1.2.1 (fun x0 => K ((x0, ()), ()))⟩
noncomputable def C : Ctx := ⟨tyT, [spec_l4All.o], [], 16, 0⟩
theorem ctx : CtxOk Tryz.prog C := ⟨tyOk, all1 spec_l4All.ok (all0)⟩
theorem eG (β : Type) (s : sin.den) (K : sout.den → Option β) : evalFn C Tryz.f102 sin sout s K = o.F s K := by kernel_rfl
theorem ok : OracOk Tryz.prog o := fn_ok mixed Tryz.func102 (by kernel_rfl) ctx (c := bodyC Tryz.f102) (by kernel_rfl) (all0) (by kernel_rfl) (by kernel_rfl) (by kernel_rfl) (Nat.le_of_ble_eq_true (by kernel_rfl)) eG (by kernel_rfl) (Nat.le_of_ble_eq_true (by kernel_rfl))
end spec_l22Row
end Go.Proofs.YtnbighmbgmjbkaaGreat.E
end
section
set_option linter.unusedVariables false
set_option linter.unusedSimpArgs false
namespace Go.Proofs.YtnbighmbgmjbkaaGreat.E
open Go Go.RowKit
set_option linter.unusedVariables false
set_option maxRecDepth 100000
namespace spec_PatchDo
def sin : Sig := ⟨[], [.agg [.val I false, .val (.sl I) false, .val (.sl I) false, .val (.sl .bool) false], .agg [.val I false, .val I false], .one (.val (.sl .bool) false)]⟩
def sout : Sig := ⟨[.buf I false, .buf I false, .buf .bool false], [.agg [.val I false, .ref (.own 0), .ref (.own 1), .ref (.own 2)], .one (.val .bool false)]⟩
def h9 : SS := ⟨[2, 3, 6, 8, 10, 12, 13], ⟨[.box [.val I false, .val (.sl I) false, .val (.sl I) false, .val (.sl .bool) false], .box [.val I false, .ref .e0, .ref .e0, .ref .e0], .box [.val I false, .ref (.own 4), .ref (.own 5), .ref (.own 6)], .buf I false, .buf I false, .buf I false, .buf .bool false], [.one (.val (.sl .bool) false), .one (.ref (.ptr 0)), .one (.ref (.ptr 1)), .one (.ref (.ptr 2)), .one (.val I false), .one (.ref (.own 3)), .one (.val I false)]⟩⟩
def x9 : SS := ⟨[6, 8], ⟨[.box [.val I false, .ref .e0, .ref .e0, .ref .e0], .box [.val I false, .ref (.own 2), .ref (.own 3), .ref (.own 4)], .buf I false, .buf I false, .buf .bool false], [.one (.ref (.ptr 0)), .one (.ref (.ptr 1))]⟩⟩
def y9 : SS := ⟨[], ⟨[], []⟩⟩
noncomputable def b9 {β : Type} (S : Sl) (L : Int → (List Int) → (List Int) → (List Bool) → Int → Int → (List Int) → (List Int) → (List Int) → (List Bool) → (List Bool) → Int → Int → Option β) (kx : Int → Int → (List Int) → (List Int) → (List Bool) → Option β) (kr : Option β) (s0 : Int) (s1 : (List Int)) (s2 : (List Int)) (s3 : (List Bool)) (s4 : Int) (s5 : Int) (s6 : (List Int)) (s7 : (List Int)) (s8 : (List Int)) (s9 : (List Bool)) (s10 : (List Bool)) (s11 : Int) (s12 : Int) : Option β := bif (S.lt s12 8) then (bif (S.ir s12 s10.length) then (bif (List.getD s10 (Int.toNat s12) false) then (bif (S.ir s12 s3.length) then (bif (List.getD s3 (Int.toNat s12) false) then (bif (S.ir s12 s2.length) then (bif (S.eq (List.getD s2 (Int.toNat s12) 0) s11) then (bif (S.ir s12 s1.length) then (bif (S.ir s12 s6.length) then (spec_FieldSum.G S (List.getD s1 (Int.toNat s12) 0) (List.getD s6 (Int.toNat s12) 0) (fun y1 => bif (S.ir s12 s7.length) then (spec_l21Top.G S s0 s1 s2 s3 (fun y2 => bif (S.ir s12 s8.length) then (L s0 s1 s2 s3 s4 s5 s6 (List.set s7 (Int.toNat s12) y1) (List.set s8 (Int.toNat s12) (S.w (y2 + 1))) s9 s10 s11 (S.w (s12 + 1))) else (none))) else (none))) else (none)) else (none)) else (L s0 s1 s2 s3 s4 s5 s6 s7 s8 s9 s10 s11 (S.w (s12 + 1)))) else (none)) else (L s0 s1 s2 s3 s4 s5 s6 s7 s8 s9 s10 s11 (S.w (s12 + 1)))) else (none)) else (L s0 s1 s2 s3 s4 s5 s6 s7 s8 s9 s10 s11 (S.w (s12 + 1)))) else (none)) else (kx s4 s5 s7 s8 s9)
noncomputable def r9 {β : Type} (S : Sl) (n : Nat) (kx : x9.sig.den → Option β) (kr : y9.sig.den → Option β) (s : h9.sig.den) : Option β := rounds (fun L kx kr s => b9 S (fun x0 x1 x2 x3 x4 x5 x6 x7 x8 x9 x10 x11 x12 => L (((x0, (x1, (x2, (x3, ())))), ((x4, ()), ((x5, ()), (x6, (x7, (x8, (x9, ()))))))), (x10, (x11, (x12, ()))))) (fun x0 x1 x2 x3 x4 => kx (((x0, ()), ((x1, ()), (x2, (x3, (x4, ()))))), ())) (kr ((), ())) s.1.1.1 s.1.1.2.1 s.1.1.2.2.1 s.1.1.2.2.2.1 s.1.2.1.1 s.1.2.2.1.1 s.1.2.2.2.1 s.1.2.2.2.2.1 s.1.2.2.2.2.2.1 s.1.2.2.2.2.2.2.1 s.2.1 s.2.2.1 s.2.2.2.1) kx kr n s
noncomputable def l9 {β : Type} (S : Sl) (n : Nat) (kx : Int → Int → (List Int) → (List Int) → (List Bool) → Option β) (kr : Option β) (s0 : Int) (s1 : (List Int)) (s2 : (List Int)) (s3 : (List Bool)) (s4 : Int) (s5 : Int) (s6 : (List Int)) (s7 : (List Int)) (s8 : (List Int)) (s9 : (List Bool)) (s10 : (List Bool)) (s11 : Int) (s12 : Int) : Option β := r9 S n (fun s => kx s.1.1.1 s.1.2.1.1 s.1.2.2.1 s.1.2.2.2.1 s.1.2.2.2.2.1) (fun s => kr) (((s0, (s1, (s2, (s3, ())))), ((s4, ()), ((s5, ()), (s6, (s7, (s8, (s9, ()))))))), (s10, (s11, (s12, ()))))
theorem t9 {β : Type} (S : Sl) (n : Nat) (kx : Int → Int → (List Int) → (List Int) → (List Bool) → Option β) (kr : Option β) (s0 : Int) (s1 : (List Int)) (s2 : (List Int)) (s3 : (List Bool)) (s4 : Int) (s5 : Int) (s6 : (List Int)) (s7 : (List Int)) (s8 : (List Int)) (s9 : (List Bool)) (s10 : (List Bool)) (s11 : Int) (s12 : Int) : l9 S (n + 1) kx kr s0 s1 s2 s3 s4 s5 s6 s7 s8 s9 s10 s11 s12 = b9 S (l9 S n kx kr) kx kr s0 s1 s2 s3 s4 s5 s6 s7 s8 s9 s10 s11 s12 := by kernel_rfl
noncomputable def G {β : Type} (S : Sl) (a0 : Int) (a1 : (List Int)) (a2 : (List Int)) (a3 : (List Bool)) (a4 : Int) (a5 : Int) (a6 : (List Bool)) (K : (List Int) → (List Int) → (List Bool) → Int → Bool → Option β) : Option β := spec_StripeOk.G S a0 a1 a2 a3 (fun y1 => bif (!y1) then (K [] [] [] 0 false) else (spec_PatchOk.G S a4 a5 (fun y2 => bif (!y2) then (K [] [] [] 0 false) else (bif (!S.eq (a6.length : Int) 8) then (K [] [] [] 0 false) else (spec_l21Copy.G S a0 a1 a2 a3 (fun y3 y4 y5 y6 => spec_l21Read.G S a0 a1 a2 a3 (fun y7 y8 y9 => bif (!y9) then (K y3 y4 y5 y6 false) else (spec_l21Top.G S a0 a1 a2 a3 (fun y10 => bif (S.le 99 y10) then (K y3 y4 y5 y6 false) else (spec_l22Row.G S a0 a4 a5 (fun y11 => l9 S S.n (fun y12 y13 y14 y15 y16 => K y14 y15 y16 y13 true) none a0 a1 a2 a3 0 y6 y11 y3 y4 y5 a6 y8 0)))))))))))
noncomputable def o : Orac := ⟨29, sin, sout, fun s K => G sl0 s.2.1.1 s.2.1.2.1 s.2.1.2.2.1 s.2.1.2.2.2.1 s.2.2.1.1 s.2.2.1.2.1 s.2.2.2.1 (fun x0 x1 x2 x3 x4 => K ((x0, (x1, (x2, ()))), ((x3, ()), (x4, ()))))⟩
noncomputable def C : Ctx := ⟨tyT, [spec_FieldSum.o, spec_PatchOk.o, spec_StripeOk.o, spec_l21Copy.o, spec_l21Read.o, spec_l21Top.o, spec_l22Row.o], [⟨9, 0, h9, x9, y9, fun s kx kr => r9 sl0 sl0.n kx kr s⟩], 94, 0⟩
theorem ctx : CtxOk Tryz.prog C := ⟨tyOk, all1 spec_FieldSum.ok (all1 spec_PatchOk.ok (all1 spec_StripeOk.ok (all1 spec_l21Copy.ok (all1 spec_l21Read.ok (all1 spec_l21Top.ok (all1 spec_l22Row.ok (all0)))))))⟩
theorem e9 (β : Type) (L : h9.sig.den → Option β) (kx : x9.sig.den → Option β) (kr : y9.sig.den → Option β) (s : h9.sig.den) : evalBody C (nthC (loopsOf (bodyC Tryz.f29)) 0) 0 h9 x9 y9 L kx kr s = b9 sl0 (fun x0 x1 x2 x3 x4 x5 x6 x7 x8 x9 x10 x11 x12 => L (((x0, (x1, (x2, (x3, ())))), ((x4, ()), ((x5, ()), (x6, (x7, (x8, (x9, ()))))))), (x10, (x11, (x12, ()))))) (fun x0 x1 x2 x3 x4 => kx (((x0, ()), ((x1, ()), (x2, (x3, (x4, ()))))), ())) (kr ((), ())) s.1.1.1 s.1.1.2.1 s.1.1.2.2.1 s.1.1.2.2.2.1 s.1.2.1.1 s.1.2.2.1.1 s.1.2.2.2.1 s.1.2.2.2.2.1 s.1.2.2.2.2.2.1 s.1.2.2.2.2.2.2.1 s.2.1 s.2.2.1 s.2.2.2.1 := by kernel_rfl
theorem g9 : LS Tryz.prog C ⟨9, 0, h9, x9, y9, fun s kx kr => r9 sl0 sl0.n kx kr s⟩ (loopsOf (bodyC Tryz.f29)) := LS.at (i := 0) (by kernel_rfl) (loop_good mixed ctx (ctx_nat ctx) (N := sl0.n) (fun _ _ _ _ => rfl) e9 (all1 (LS.none (by kernel_rfl)) (all0)))
theorem eG (β : Type) (s : sin.den) (K : sout.den → Option β) : evalFn C Tryz.f29 sin sout s K = o.F s K := by kernel_rfl
theorem ok : OracOk Tryz.prog o := fn_ok mixed Tryz.func29 (by kernel_rfl) ctx (c := bodyC Tryz.f29) (by kernel_rfl) (all1 g9 (all0)) (by kernel_rfl) (by kernel_rfl) (by kernel_rfl) (Nat.le_of_ble_eq_true (by kernel_rfl)) eG (by kernel_rfl) (Nat.le_of_ble_eq_true (by kernel_rfl))
end spec_PatchDo
end Go.Proofs.YtnbighmbgmjbkaaGreat.E
end
section
set_option linter.unusedVariables false
set_option linter.unusedSimpArgs false
namespace Go.Proofs.YtnbighmbgmjbkaaGreat.E
open Go Go.RowKit
set_option linter.unusedVariables false
set_option maxRecDepth 100000
namespace laws_FnPatchHalf
def sin : Sig := ⟨[], [.one (.val (.sl (.int .u8)) false)]⟩
def sout : Sig := ⟨[], [.one (.val .bool false)]⟩
noncomputable def G {β : Type} (S : Sl) (a0 : (List Int)) (K : Bool → Option β) : Option β := bif (S.lt 1048576 (a0.length : Int)) then (K true) else (spec_DrawPatchDo.G S a0 (fun y1 y2 y3 y4 y5 y6 y7 => spec_PatchDo.G S y5 y1 y2 y3 y6 y7 y4 (fun y8 y9 y10 y11 y12 => impl_PatchDo.G S y5 y1 y2 y3 y6 y7 y4 (fun y13 y14 y15 y16 y17 => bif (y17 != y12) then (bif (y17 == y12) then (laws_lkStripe.G S y16 y13 y14 y15 y11 y8 y9 y10 (fun y18 => K y18)) else (K false)) else (laws_lkStripe.G S y16 y13 y14 y15 y11 y8 y9 y10 (fun y19 => bif (!y19) then (bif (y17 == y12) then (laws_lkStripe.G S y16 y13 y14 y15 y11 y8 y9 y10 (fun y20 => K y20)) else (K false)) else (bif (!y17) then (bif (y17 == y12) then (laws_lkStripe.G S y16 y13 y14 y15 y11 y8 y9 y10 (fun y21 => K y21)) else (K false)) else (impl_StripeRead.G S y5 y1 y2 y3 (fun y22 y23 y24 => impl_StripeRead.G S y16 y13 y14 y15 (fun y25 y26 y27 => bif (!y27) then (K true) else (bif (S.lt y26 y23) then (K true) else (bif (S.eq y26 y23) then (laws_lkInts.G S y25 y22 (fun y28 => K y28)) else (impl_PatchData.G S y22 [(y6, (y7, ()))] (fun y29 => laws_lkInts.G S y25 y29 (fun y30 => bif y30 then (impl_StripeTop.G S y5 y1 y2 y3 (fun y31 => K (S.eq y26 (S.w (y31 + 1))))) else (K false))))))))))))))))
noncomputable def o : Orac := ⟨4, sin, sout, fun s K => G sl0 s.2.1 (fun x0 => K ((), (x0, ())))⟩
noncomputable def C : Ctx := ⟨tyT, [impl_PatchData.o, impl_PatchDo.o, impl_StripeRead.o, impl_StripeTop.o, laws_lkInts.o, laws_lkStripe.o, spec_DrawPatchDo.o, spec_PatchDo.o], [], 98, 0⟩
theorem ctx : CtxOk Tryz.prog C := ⟨tyOk, all1 impl_PatchData.ok (all1 impl_PatchDo.ok (all1 impl_StripeRead.ok (all1 impl_StripeTop.ok (all1 laws_lkInts.ok (all1 laws_lkStripe.ok (all1 spec_DrawPatchDo.ok (all1 spec_PatchDo.ok (all0))))))))⟩
noncomputable def Cg (g0 : {β : Type} → ((List Int)) → ((List (Int × (Int × Unit)))) → ((List Int) → Option β) → Option β) (g1 : {β : Type} → (Int) → ((List Int)) → ((List Int)) → ((List Bool)) → (Int) → (Int) → ((List Bool)) → ((List Int) → (List Int) → (List Bool) → Int → Bool → Option β) → Option β) (g2 : {β : Type} → (Int) → ((List Int)) → ((List Int)) → ((List Bool)) → ((List Int) → Int → Bool → Option β) → Option β) (g3 : {β : Type} → (Int) → ((List Int)) → ((List Int)) → ((List Bool)) → (Int → Option β) → Option β) (g4 : {β : Type} → ((List Int)) → ((List Int)) → (Bool → Option β) → Option β) (g5 : {β : Type} → (Int) → ((List Int)) → ((List Int)) → ((List Bool)) → (Int) → ((List Int)) → ((List Int)) → ((List Bool)) → (Bool → Option β) → Option β) (g6 : {β : Type} → ((List Int)) → ((List Int) → (List Int) → (List Bool) → (List Bool) → Int → Int → Int → Option β) → Option β) (g7 : {β : Type} → (Int) → ((List Int)) → ((List Int)) → ((List Bool)) → (Int) → (Int) → ((List Bool)) → ((List Int) → (List Int) → (List Bool) → Int → Bool → Option β) → Option β) : Ctx := ⟨tyT, [⟨31, impl_PatchData.sin, impl_PatchData.sout, fun s K => g0 s.2.1 s.2.2.1 (fun x0 => K ((x0, ()), ()))⟩, ⟨30, impl_PatchDo.sin, impl_PatchDo.sout, fun s K => g1 s.2.1.1 s.2.1.2.1 s.2.1.2.2.1 s.2.1.2.2.2.1 s.2.2.1.1 s.2.2.1.2.1 s.2.2.2.1 (fun x0 x1 x2 x3 x4 => K ((x0, (x1, (x2, ()))), ((x3, ()), (x4, ()))))⟩, ⟨24, impl_StripeRead.sin, impl_StripeRead.sout, fun s K => g2 s.2.1.1 s.2.1.2.1 s.2.1.2.2.1 s.2.1.2.2.2.1 (fun x0 x1 x2 => K ((x0, ()), (x1, (x2, ()))))⟩, ⟨27, impl_StripeTop.sin, impl_StripeTop.sout, fun s K => g3 s.2.1.1 s.2.1.2.1 s.2.1.2.2.1 s.2.1.2.2.2.1 (fun x0 => K ((), (x0, ())))⟩, ⟨26, laws_lkInts.sin, laws_lkInts.sout, fun s K => g4 s.2.1 s.2.2.1 (fun x0 => K ((), (x0, ())))⟩, ⟨23, laws_lkStripe.sin, laws_lkStripe.sout, fun s K => g5 s.2.1.1 s.2.1.2.1 s.2.1.2.2.1 s.2.1.2.2.2.1 s.2.2.1.1 s.2.2.1.2.1 s.2.2.1.2.2.1 s.2.2.1.2.2.2.1 (fun x0 => K ((), (x0, ())))⟩, ⟨28, spec_DrawPatchDo.sin, spec_DrawPatchDo.sout, fun s K => g6 s.2.1 (fun x0 x1 x2 x3 x4 x5 x6 => K ((x0, (x1, (x2, (x3, ())))), ((x4, ()), ((x5, (x6, ())), ()))))⟩, ⟨29, spec_PatchDo.sin, spec_PatchDo.sout, fun s K => g7 s.2.1.1 s.2.1.2.1 s.2.1.2.2.1 s.2.1.2.2.2.1 s.2.2.1.1 s.2.2.1.2.1 s.2.2.2.1 (fun x0 x1 x2 x3 x4 => K ((x0, (x1, (x2, ()))), ((x3, ()), (x4, ()))))⟩], [], 98, 0⟩
noncomputable def bc {α : Type} (b : Bool) (x y : α) : α := Bool.rec (motive := fun _ => α) y x b
noncomputable def Gg (g0 : {β : Type} → ((List Int)) → ((List (Int × (Int × Unit)))) → ((List Int) → Option β) → Option β) (g1 : {β : Type} → (Int) → ((List Int)) → ((List Int)) → ((List Bool)) → (Int) → (Int) → ((List Bool)) → ((List Int) → (List Int) → (List Bool) → Int → Bool → Option β) → Option β) (g2 : {β : Type} → (Int) → ((List Int)) → ((List Int)) → ((List Bool)) → ((List Int) → Int → Bool → Option β) → Option β) (g3 : {β : Type} → (Int) → ((List Int)) → ((List Int)) → ((List Bool)) → (Int → Option β) → Option β) (g4 : {β : Type} → ((List Int)) → ((List Int)) → (Bool → Option β) → Option β) (g5 : {β : Type} → (Int) → ((List Int)) → ((List Int)) → ((List Bool)) → (Int) → ((List Int)) → ((List Int)) → ((List Bool)) → (Bool → Option β) → Option β) (g6 : {β : Type} → ((List Int)) → ((List Int) → (List Int) → (List Bool) → (List Bool) → Int → Int → Int → Option β) → Option β) (g7 : {β : Type} → (Int) → ((List Int)) → ((List Int)) → ((List Bool)) → (Int) → (Int) → ((List Bool)) → ((List Int) → (List Int) → (List Bool) → Int → Bool → Option β) → Option β) {β : Type} (S : Sl) (a0 : (List Int)) (K : Bool → Option β) : Option β := bc ((S.lt 1048576 (a0.length : Int))) (K true) (g6 a0 (fun y1 y2 y3 y4 y5 y6 y7 => g7 y5 y1 y2 y3 y6 y7 y4 (fun y8 y9 y10 y11 y12 => g1 y5 y1 y2 y3 y6 y7 y4 (fun y13 y14 y15 y16 y17 => bc ((y17 != y12)) (bc ((y17 == y12)) (g5 y16 y13 y14 y15 y11 y8 y9 y10 (fun y18 => K y18)) (K false)) (g5 y16 y13 y14 y15 y11 y8 y9 y10 (fun y19 => bc ((!y19)) (bc ((y17 == y12)) (g5 y16 y13 y14 y15 y11 y8 y9 y10 (fun y20 => K y20)) (K false)) (bc ((!y17)) (bc ((y17 == y12)) (g5 y16 y13 y14 y15 y11 y8 y9 y10 (fun y21 => K y21)) (K false)) (g2 y5 y1 y2 y3 (fun y22 y23 y24 => g2 y16 y13 y14 y15 (fun y25 y26 y27 => bc ((!y27)) (K true) (bc ((S.lt y26 y23)) (K true) (bc ((S.eq y26 y23)) (g4 y25 y22 (fun y28 => K y28)) (g0 y22 [(y6, (y7, ()))] (fun y29 => g4 y25 y29 (fun y30 => bc (y30) (g3 y5 y1 y2 y3 (fun y31 => K (S.eq y26 (S.w (y31 + 1))))) (K false))))))))))))))))
theorem eGg (g0 : {β : Type} → ((List Int)) → ((List (Int × (Int × Unit)))) → ((List Int) → Option β) → Option β) (g1 : {β : Type} → (Int) → ((List Int)) → ((List Int)) → ((List Bool)) → (Int) → (Int) → ((List Bool)) → ((List Int) → (List Int) → (List Bool) → Int → Bool → Option β) → Option β) (g2 : {β : Type} → (Int) → ((List Int)) → ((List Int)) → ((List Bool)) → ((List Int) → Int → Bool → Option β) → Option β) (g3 : {β : Type} → (Int) → ((List Int)) → ((List Int)) → ((List Bool)) → (Int → Option β) → Option β) (g4 : {β : Type} → ((List Int)) → ((List Int)) → (Bool → Option β) → Option β) (g5 : {β : Type} → (Int) → ((List Int)) → ((List Int)) → ((List Bool)) → (Int) → ((List Int)) → ((List Int)) → ((List Bool)) → (Bool → Option β) → Option β) (g6 : {β : Type} → ((List Int)) → ((List Int) → (List Int) → (List Bool) → (List Bool) → Int → Int → Int → Option β) → Option β) (g7 : {β : Type} → (Int) → ((List Int)) → ((List Int)) → ((List Bool)) → (Int) → (Int) → ((List Bool)) → ((List Int) → (List Int) → (List Bool) → Int → Bool → Option β) → Option β) (β : Type) (s : sin.den) (K : sout.den → Option β) : evalFn (Cg g0 g1 g2 g3 g4 g5 g6 g7) Tryz.f4 sin sout s K = Gg g0 g1 g2 g3 g4 g5 g6 g7 sl0 s.2.1 (fun x0 => K ((), (x0, ()))) := by kernel_rfl
theorem eG (β : Type) (s : sin.den) (K : sout.den → Option β) : evalFn C Tryz.f4 sin sout s K = o.F s K := by
 have h := eGg (impl_PatchData.G sl0) (impl_PatchDo.G sl0) (impl_StripeRead.G sl0) (impl_StripeTop.G sl0) (laws_lkInts.G sl0) (laws_lkStripe.G sl0) (spec_DrawPatchDo.G sl0) (spec_PatchDo.G sl0) β s K
 have hc : Cg (impl_PatchData.G sl0) (impl_PatchDo.G sl0) (impl_StripeRead.G sl0) (impl_StripeTop.G sl0) (laws_lkInts.G sl0) (laws_lkStripe.G sl0) (spec_DrawPatchDo.G sl0) (spec_PatchDo.G sl0) = C := by kernel_rfl
 rw [hc] at h
 exact h.trans (by kernel_rfl)
theorem ok : OracOk Tryz.prog o := fn_ok mixed Tryz.func4 (by kernel_rfl) ctx (c := bodyC Tryz.f4) (by kernel_rfl) (all0) (by kernel_rfl) (by kernel_rfl) (by kernel_rfl) (Nat.le_of_ble_eq_true (by kernel_rfl)) eG (by kernel_rfl) (Nat.le_of_ble_eq_true (by kernel_rfl))
end laws_FnPatchHalf
end Go.Proofs.YtnbighmbgmjbkaaGreat.E
end
section
set_option linter.unusedVariables false
set_option linter.unusedSimpArgs false
namespace Go.Proofs.YtnbighmbgmjbkaaGreat.E
open Go Go.RowKit
set_option linter.unusedVariables false
set_option maxRecDepth 100000
noncomputable def tidyN (kind : Int) (sh : List Nat) : Option Nat := spec_l3Tidy_.G sl1 (rowsF kind sh) fun _ t => some t.length
def eqN : List Nat → List Nat → Bool
 | [], [] => true
 | a :: s, b :: t => Nat.beq a b && eqN s t
 | _, _ => false
theorem eqN_eq : ∀ {s t : List Nat}, eqN s t = true → s = t
 | [], [], _ => rfl
 | [], _ :: _, h => by cases h
 | _ :: _, [], h => by cases h
 | a :: s, b :: t, h => by
  rw [eqN, Bool.and_eq_true] at h
  rw [Nat.eq_of_beq_eq_true h.1, eqN_eq h.2]
noncomputable def leafT (kind : Int) (sh I : List Nat) : Bool :=
 (match tidyN kind sh with
  | some n => bif Nat.beq n 4 then covL kind sh else !covL kind sh
  | none => false) && (bif covL kind sh then (invT kind).any (fun e => eqN e.1 I) else true)
noncomputable def walkT (kind : Int) : Nat → Nat → List Nat → List Nat → Bool
 | 0, _, sh, I => leafT kind sh I
 | d + 1, i, sh, I => walkT kind d (i + 1) sh I && (match hasF kind sh i with
  | some true => walkT kind d (i + 1) (sh ++ [i]) I
  | some false => walkT kind d (i + 1) (sh ++ [i]) (I ++ [i])
  | none => false)
theorem walkT_step {kind : Int} {d i : Nat} {sh I : List Nat} (h1 : hasF kind sh i = some false) (h3 : walkT kind d (i + 1) sh I = true) (h4 : walkT kind d (i + 1) (sh ++ [i]) (I ++ [i]) = true) : walkT kind (d + 1) i sh I = true := by
 unfold walkT
 rw [h1, h3, h4]; rfl
def eqZ : List Int → List Int → Bool
 | [], [] => true
 | a :: s, b :: t => (a == b) && eqZ s t
 | _, _ => false
theorem eqZ_eq : ∀ {s t : List Int}, eqZ s t = true → s = t
 | [], [], _ => rfl
 | [], _ :: _, h => by cases h
 | _ :: _, [], h => by cases h
 | a :: s, b :: t, h => by
  rw [eqZ, Bool.and_eq_true] at h
  rw [beq_iff_eq.1 h.1, eqZ_eq h.2]
def unit4 (i : Nat) : List Int := (List.replicate 4 0).set i 1
noncomputable def byE (kind : Int) (e : List Nat × List (List Int)) : Bool := [0, 1, 2, 3].all fun i => match spec_l3By.G sl1 (rowsF kind e.1) (unit4 i) (fun a b => some (a, b)) with
 | some (r, b) => b && eqZ r (e.2.getD i [])
 | none => false
end Go.Proofs.YtnbighmbgmjbkaaGreat.E
end
section
set_option linter.unusedVariables false
set_option linter.unusedSimpArgs false
namespace Go.Proofs.YtnbighmbgmjbkaaGreat.E
open Go Go.RowKit
set_option linter.unusedVariables false
set_option maxRecDepth 100000
theorem wk1_n : walkT 1 5 3 [] [] = true := by kernel_rfl
theorem wk1_0 : walkT 1 5 3 [0] [0] = true := by kernel_rfl
theorem wk1_1 : walkT 1 5 3 [1] [1] = true := by kernel_rfl
theorem wk1_01 : walkT 1 5 3 [0, 1] [0, 1] = true := by kernel_rfl
end Go.Proofs.YtnbighmbgmjbkaaGreat.E
end
section
set_option linter.unusedVariables false
set_option linter.unusedSimpArgs false
namespace Go.Proofs.YtnbighmbgmjbkaaGreat.E
open Go Go.RowKit
set_option linter.unusedVariables false
set_option maxRecDepth 100000
theorem wk1_2 : walkT 1 5 3 [2] [2] = true := by kernel_rfl
theorem wk1_02 : walkT 1 5 3 [0, 2] [0, 2] = true := by kernel_rfl
theorem wk1_12 : walkT 1 5 3 [1, 2] [1, 2] = true := by kernel_rfl
theorem wk1_012 : walkT 1 5 3 [0, 1, 2] [0, 1, 2] = true := by kernel_rfl
end Go.Proofs.YtnbighmbgmjbkaaGreat.E
end
section
set_option linter.unusedVariables false
set_option linter.unusedSimpArgs false
namespace Go.Proofs.YtnbighmbgmjbkaaGreat.E
open Go Go.RowKit
set_option linter.unusedVariables false
set_option maxRecDepth 100000
theorem wk2_n : walkT 2 5 3 [] [] = true := by kernel_rfl
theorem wk2_0 : walkT 2 5 3 [0] [0] = true := by kernel_rfl
theorem wk2_1 : walkT 2 5 3 [1] [1] = true := by kernel_rfl
theorem wk2_01 : walkT 2 5 3 [0, 1] [0, 1] = true := by kernel_rfl
end Go.Proofs.YtnbighmbgmjbkaaGreat.E
end
section
set_option linter.unusedVariables false
set_option linter.unusedSimpArgs false
namespace Go.Proofs.YtnbighmbgmjbkaaGreat.E
open Go Go.RowKit
set_option linter.unusedVariables false
set_option maxRecDepth 100000
theorem wk2_2 : walkT 2 5 3 [2] [2] = true := by kernel_rfl
theorem wk2_02 : walkT 2 5 3 [0, 2] [0, 2] = true := by kernel_rfl
theorem wk2_12 : walkT 2 5 3 [1, 2] [1, 2] = true := by kernel_rfl
theorem wk2_012 : walkT 2 5 3 [0, 1, 2] [0, 1, 2] = true := by kernel_rfl
end Go.Proofs.YtnbighmbgmjbkaaGreat.E
end
section
set_option linter.unusedVariables false
set_option linter.unusedSimpArgs false
namespace Go.Proofs.YtnbighmbgmjbkaaGreat.E
open Go Go.RowKit
set_option linter.unusedVariables false
set_option maxRecDepth 100000
theorem by1_0 : (invT1.take 10).all (byE 1) = true := by kernel_rfl
theorem by1_1 : ((invT1.drop 10).take 10).all (byE 1) = true := by kernel_rfl
theorem by1_2 : (((invT1.drop 10).drop 10).take 10).all (byE 1) = true := by kernel_rfl
theorem by1_3 : ((((invT1.drop 10).drop 10).drop 10).take 10).all (byE 1) = true := by kernel_rfl
end Go.Proofs.YtnbighmbgmjbkaaGreat.E
end
section
set_option linter.unusedVariables false
set_option linter.unusedSimpArgs false
namespace Go.Proofs.YtnbighmbgmjbkaaGreat.E
open Go Go.RowKit
set_option linter.unusedVariables false
set_option maxRecDepth 100000
theorem by1_4 : (((((invT1.drop 10).drop 10).drop 10).drop 10).take 10).all (byE 1) = true := by kernel_rfl
theorem by1_5 : ((((((invT1.drop 10).drop 10).drop 10).drop 10).drop 10).take 10).all (byE 1) = true := by kernel_rfl
theorem by1_6 : ((((((invT1.drop 10).drop 10).drop 10).drop 10).drop 10).drop 10).all (byE 1) = true := by kernel_rfl
end Go.Proofs.YtnbighmbgmjbkaaGreat.E
end
section
set_option linter.unusedVariables false
set_option linter.unusedSimpArgs false
namespace Go.Proofs.YtnbighmbgmjbkaaGreat.E
open Go Go.RowKit
set_option linter.unusedVariables false
set_option maxRecDepth 100000
theorem by2_0 : (invT2.take 10).all (byE 2) = true := by kernel_rfl
theorem by2_1 : ((invT2.drop 10).take 10).all (byE 2) = true := by kernel_rfl
theorem by2_2 : (((invT2.drop 10).drop 10).take 10).all (byE 2) = true := by kernel_rfl
theorem by2_3 : ((((invT2.drop 10).drop 10).drop 10).take 10).all (byE 2) = true := by kernel_rfl
end Go.Proofs.YtnbighmbgmjbkaaGreat.E
end
section
set_option linter.unusedVariables false
set_option linter.unusedSimpArgs false
namespace Go.Proofs.YtnbighmbgmjbkaaGreat.E
open Go Go.RowKit
set_option linter.unusedVariables false
set_option maxRecDepth 100000
theorem by2_4 : (((((invT2.drop 10).drop 10).drop 10).drop 10).take 10).all (byE 2) = true := by kernel_rfl
theorem by2_5 : ((((((invT2.drop 10).drop 10).drop 10).drop 10).drop 10).take 10).all (byE 2) = true := by kernel_rfl
theorem by2_6 : ((((((invT2.drop 10).drop 10).drop 10).drop 10).drop 10).drop 10).all (byE 2) = true := by kernel_rfl
end Go.Proofs.YtnbighmbgmjbkaaGreat.E
end
section
set_option linter.unusedVariables false
set_option linter.unusedSimpArgs false
namespace Go.Proofs.YtnbighmbgmjbkaaGreat.E
open Go Go.RowKit
set_option linter.unusedVariables false
set_option maxRecDepth 100000
theorem wk_1 : walkT 1 8 0 [] [] = true := (walkT_step (by kernel_rfl) (walkT_step (by kernel_rfl) (walkT_step (by kernel_rfl) wk1_n wk1_2) (walkT_step (by kernel_rfl) wk1_1 wk1_12)) (walkT_step (by kernel_rfl) (walkT_step (by kernel_rfl) wk1_0 wk1_02) (walkT_step (by kernel_rfl) wk1_01 wk1_012)))
theorem wk_2 : walkT 2 8 0 [] [] = true := (walkT_step (by kernel_rfl) (walkT_step (by kernel_rfl) (walkT_step (by kernel_rfl) wk2_n wk2_2) (walkT_step (by kernel_rfl) wk2_1 wk2_12)) (walkT_step (by kernel_rfl) (walkT_step (by kernel_rfl) wk2_0 wk2_02) (walkT_step (by kernel_rfl) wk2_01 wk2_012)))
theorem wk_k {kind : Int} (hk : kind = 1 ∨ kind = 2) : walkT kind 8 0 [] [] = true := by
 rcases hk with rfl | rfl
 ·exact wk_1
 ·exact wk_2
theorem all_cut {α : Type} {p : α → Bool} {T : List α} {n : Nat} (h1 : (T.take n).all p = true) (h2 : (T.drop n).all p = true) : T.all p = true := by
 rw [← List.take_append_drop n T, List.all_append, h1, h2]; rfl
theorem by_k {kind : Int} (hk : kind = 1 ∨ kind = 2) {e : List Nat × List (List Int)} (he : e ∈ invT kind) : byE kind e = true := by
 rcases hk with rfl | rfl
 ·exact List.all_eq_true.1 (all_cut by1_0 (all_cut by1_1 (all_cut by1_2 (all_cut by1_3 (all_cut by1_4 (all_cut by1_5 by1_6)))))) e he
 ·exact List.all_eq_true.1 (all_cut by2_0 (all_cut by2_1 (all_cut by2_2 (all_cut by2_3 (all_cut by2_4 (all_cut by2_5 by2_6)))))) e he
noncomputable def smallE (e : List Nat × List (List Int)) : Bool := e.2.all fun r => Nat.beq r.length 4 && r.all fun x => inV x 0 30
theorem small_1 : invT1.all smallE = true := by kernel_rfl
theorem small_2 : invT2.all smallE = true := by kernel_rfl
theorem small_k {kind : Int} (hk : kind = 1 ∨ kind = 2) {e : List Nat × List (List Int)} (he : e ∈ invT kind) : smallE e = true := by
 rcases hk with rfl | rfl
 ·exact List.all_eq_true.1 small_1 e he
 ·exact List.all_eq_true.1 small_2 e he
theorem mat_1 : (invT1.all fun e => Nat.beq e.2.length 4) = true := by kernel_rfl
theorem mat_2 : (invT2.all fun e => Nat.beq e.2.length 4) = true := by kernel_rfl
theorem mat_k {kind : Int} (hk : kind = 1 ∨ kind = 2) {e : List Nat × List (List Int)} (he : e ∈ invT kind) : e.2.length = 4 := by
 rcases hk with rfl | rfl
 ·exact Nat.eq_of_beq_eq_true (List.all_eq_true.1 mat_1 e he)
 ·exact Nat.eq_of_beq_eq_true (List.all_eq_true.1 mat_2 e he)
end Go.Proofs.YtnbighmbgmjbkaaGreat.E
end
section
set_option linter.unusedVariables false
set_option linter.unusedSimpArgs false
namespace Go.Proofs.YtnbighmbgmjbkaaGreat.E
open Go Go.RowKit
set_option linter.unusedVariables false
set_option maxRecDepth 100000
noncomputable def firstL (kind : Int) : List Nat → List Nat → List Nat
 | _, [] => []
 | p, a :: r => match hasF kind p a with
  | some true => firstL kind (p ++ [a]) r
  | _ => a :: firstL kind (p ++ [a]) r
def okL (kind : Int) : List Nat → List Nat → Prop
 | _, [] => True
 | p, a :: r => (∃ b, hasF kind p a = some b) ∧ okL kind (p ++ [a]) r
theorem walk_leaf {kind : Int} (d : Nat) : ∀ (i : Nat) (sh I : List Nat), walkT kind d i sh I = true → ∀ f : Nat → Bool, leafT kind (sh ++ (List.range' i d).filter f) (I ++ firstL kind sh ((List.range' i d).filter f)) = true ∧ okL kind sh ((List.range' i d).filter f) := by
 induction d with
 | zero => intro i sh I h f; rw [List.range'_zero, List.filter_nil, List.append_nil, firstL, List.append_nil]; exact ⟨h, trivial⟩
 | succ d ih =>
  intro i sh I h f
  unfold walkT at h
  rw [Bool.and_eq_true] at h
  rw [List.range'_succ, List.filter_cons]
  cases f i with
  | false => exact ih (i + 1) sh I h.1 f
  | true =>
   have h2 := h.2
   split at h2
   ·rename_i hh
    obtain ⟨q1, q2⟩ := ih (i + 1) (sh ++ [i]) I h2 f
    rw [if_pos rfl, firstL, hh]
    rw [List.append_assoc] at q1
    exact ⟨q1, ⟨true, hh⟩, q2⟩
   ·rename_i hh
    obtain ⟨q1, q2⟩ := ih (i + 1) (sh ++ [i]) (I ++ [i]) h2 f
    rw [if_pos rfl, firstL, hh]
    rw [List.append_assoc, List.append_assoc] at q1
    exact ⟨q1, ⟨false, hh⟩, q2⟩
   ·cases h2
theorem leaf_k {kind : Int} (hk : kind = 1 ∨ kind = 2) (th : List Bool) : leafT kind (thereL th 0 8) (firstL kind [] (thereL th 0 8)) = true ∧ okL kind [] (thereL th 0 8) := by
 have h := walk_leaf 8 0 [] [] (wk_k hk) (fun a => th.getD a false)
 exact h
theorem tidy_nat {β : Type} (m : List (List Int)) (K : List (List Int) → List (List Int) → Option β) : spec_l3Tidy_.G sl1 m K = (spec_l3Tidy_.G sl1 m (fun a b => some (a, b))).bind (fun r => K r.1 r.2) := by
 have h : ∀ {γ : Type} (K : List (List Int) → List (List Int) → Option γ), spec_l3Tidy_.G sl0 m K = (spec_l3Tidy_.G sl0 m (fun a b => some ((a, ()), (b, ())))).bind (fun y => K y.1.1 y.2.1) := fun K => spec_l3Tidy_.ok.nat ((m, ()), ()) (fun y => K y.1.1 y.2.1)
 rw [sl_eq] at h
 rw [h K, h (fun a b => some (a, b)), Option.bind_assoc]; rfl
theorem rowsF_app (kind : Int) (a b : List Nat) : rowsF kind (a ++ b) = rowsF kind a ++ rowsF kind b := List.map_append
theorem rowsF_len (kind : Int) (a : List Nat) : (rowsF kind a).length = a.length := List.length_map _
theorem rows_l {β : Type} {kind : Int} (hk : kind = 1 ∨ kind = 2) {th : List Bool} (h8 : th.length = 8) (kx : List (List Int) → Option β) (kr : Option β) (d : Nat) : ∀ (i n : Nat) (acc : List Nat), i + d = 8 → acc.length ≤ i → d < n →
  spec_l4Rows.l3 sl1 n kx kr (rowsF kind acc) kind th (i : Int) = kx (rowsF kind (acc ++ thereL th i d)) := by
 induction d with
 | zero =>
  intro i n acc hi ha hn
  obtain ⟨n, rfl⟩ : ∃ m, n = m + 1 := ⟨n - 1, by omega⟩
  rw [spec_l4Rows.t3, show thereL th i 0 = [] from rfl, List.append_nil]; exact cF (ltF (by omega)) rfl
 | succ d ih =>
  intro i n acc hi ha hn
  obtain ⟨n, rfl⟩ : ∃ m, n = m + 1 := ⟨n - 1, by omega⟩
  rw [spec_l4Rows.t3]
  unfold spec_l4Rows.b3
  refine cT (ltT (by omega)) (cT (irT (by omega) (by omega)) ?_)
  rw [getC false, w_succ (by omega)]
  cases ct : th.getD i false
  ·have e : thereL th i (d + 1) = thereL th (i + 1) d := by unfold thereL; rw [List.range'_succ, List.filter_cons_of_neg (by rw [ct]; exact Bool.false_ne_true)]
   rw [e]
   exact cF rfl (ih (i + 1) n acc (by omega) (by omega) (by omega))
  ·have e : thereL th i (d + 1) = i :: thereL th (i + 1) d := by unfold thereL; rw [List.range'_succ]; exact List.filter_cons_of_pos (p := fun a => th.getD a false) ct
   have hn := ih (i + 1) n (acc ++ [i]) (by omega) (by rw [List.length_append, List.length_singleton]; omega) (by omega)
   rw [List.append_assoc, rowsF_app kind acc [i]] at hn
   rw [e]
   exact cT rfl ((row_G hk (by omega) _).trans (cT (fwT (by rw [List.length_append, rowsF_len, List.length_singleton]; omega)) hn))
theorem rows_G {β : Type} {kind : Int} (hk : kind = 1 ∨ kind = 2) {th : List Bool} (h8 : th.length = 8) (K : List (List Int) → Option β) : spec_l4Rows.G sl1 kind th K = K (rowsF kind (thereL th 0 8)) :=
 rows_l hk h8 (fun y => K y) none 8 0 sl1.n [] (by omega) (by simp) (by rw [rounds_n]; omega)
theorem codeBears_G {β : Type} {kind : Int} (hk : kind = 1 ∨ kind = 2) {th : List Bool} (h8 : th.length = 8) (K : Bool → Option β) : spec_CodeBears.G sl1 kind th K = K (covL kind (thereL th 0 8)) := by
 have hl := (leaf_k hk th).1
 unfold leafT at hl
 rw [Bool.and_eq_true] at hl
 unfold spec_CodeBears.G
 refine (spec_kind _ _).trans ?_
 rw [inV_iff.2 (show 1 ≤ kind ∧ kind ≤ 2 by omega)]
 refine cT rfl (cT (eqT (by omega)) ((rows_G hk h8 _).trans ((tidy_nat _ _).trans ?_)))
 have h1 := hl.1
 unfold tidyN at h1
 rw [tidy_nat] at h1
 cases ht : spec_l3Tidy_.G sl1 (rowsF kind (thereL th 0 8)) (fun a b => some (a, b)) with
 | none => rw [ht] at h1; cases h1
 | some r =>
  rw [ht] at h1
  obtain ⟨a, b⟩ := r
  show K (sl1.eq (b.length : Int) 4) = _
  congr 1
  have h1 : (bif Nat.beq b.length 4 then covL kind (thereL th 0 8) else !covL kind (thereL th 0 8)) = true := h1
  by_cases c : b.length = 4
  ·rw [eqT (by omega)]
   rw [c] at h1
   exact h1.symm
  ·rw [eqF (by omega)]
   cases cb : Nat.beq b.length 4
   ·rw [cb] at h1
    cases cc : covL kind (thereL th 0 8)
    ·rfl
    ·rw [cc] at h1; cases h1
   ·exact absurd (Nat.eq_of_beq_eq_true cb) c
noncomputable def idxL (kind : Int) : List Nat → List Nat → Nat → List Nat
 | _, [], _ => []
 | p, a :: r, j => match hasF kind p a with
  | some true => idxL kind (p ++ [a]) r (j + 1)
  | _ => j :: idxL kind (p ++ [a]) r (j + 1)
theorem idxL_spec (kind : Int) : ∀ (r p : List Nat), (∀ j ∈ idxL kind p r p.length, j < p.length + r.length) ∧ (idxL kind p r p.length).map (fun j => (p ++ r).getD j 0) = firstL kind p r
 | [], p => by unfold idxL firstL; simp
 | a :: r, p => by
  obtain ⟨h1, h2⟩ := idxL_spec kind r (p ++ [a])
  rw [List.length_append, List.length_singleton] at h1 h2
  rw [List.append_assoc] at h2
  unfold idxL firstL
  have hg : (p ++ a :: r).getD p.length 0 = a := by simp
  rw [List.length_cons]
  split
  ·exact ⟨fun j hj => by have := h1 j hj; omega, h2⟩
  ·refine ⟨fun j hj => ?_, ?_⟩
   ·rcases List.mem_cons.1 hj with rfl | hj
    ·omega
    ·have := h1 j hj; omega
   ·rw [List.map_cons, hg]
    exact congrArg _ h2
theorem first_l {β : Type} (kind : Int) (sh : List Nat) (hl : sh.length ≤ 8) (kx : List Int → Option β) (kr : Option β) : ∀ (r p : List Nat) (acc : List Nat) (n : Nat), p ++ r = sh → acc.length ≤ p.length → r.length < n → okL kind p r →
  spec_l3First.l3 sl1 n kx kr (shI acc) (rowsF kind sh) (p.length : Int) = kx (shI (acc ++ idxL kind p r p.length))
 | [], p, acc, n, hs, ha, hn, ho => by
  obtain ⟨n, rfl⟩ : ∃ m, n = m + 1 := ⟨n - 1, by omega⟩
  rw [List.append_nil] at hs
  rw [spec_l3First.t3, idxL, List.append_nil]; exact cF (ltF (by rw [rowsF_len, hs]; omega)) rfl
 | a :: r, p, acc, n, hs, ha, hn, ho => by
  rw [List.length_cons] at hn
  obtain ⟨n, rfl⟩ : ∃ m, n = m + 1 := ⟨n - 1, by omega⟩
  obtain ⟨⟨b, hb⟩, ho⟩ := ho
  have hsl : sh.length = p.length + 1 + r.length := by rw [← hs]; simp; omega
  have eg : List.getD (rowsF kind sh) (Int.toNat (p.length : Int)) [] = rowS kind (a : Int) := by
   rw [Int.toNat_natCast, ← hs, rowsF_app]
   unfold rowsF
   rw [List.map_cons]
   exact getD_mid _ _ _ _ _ (by rw [List.length_map])
  have ec : cutL (rowsF kind sh) (Int.toNat 0) (Int.toNat (p.length : Int)) = rowsF kind p := by
   unfold cutL
   rw [Int.toNat_natCast, ← hs, rowsF_app]
   show ((rowsF kind p ++ rowsF kind (a :: r)).take p.length).drop 0 = _
   rw [List.drop_zero, List.take_append_of_le_length (by rw [rowsF_len]; omega), List.take_of_length_le (by rw [rowsF_len]; omega)]
  have next := fun acc ha => first_l kind sh hl kx kr r (p ++ [a]) acc n (by rw [List.append_assoc]; exact hs) ha (by omega) ho
  simp only [List.length_append, List.length_singleton] at next
  rw [spec_l3First.t3, idxL]
  unfold spec_l3First.b3
  rw [eg, ec, w_succ (by omega), hb]
  have hlr : (rowsF kind sh).length = sh.length := rowsF_len kind sh
  refine cT (ltT (by omega)) (cT (andT (andT (andT rfl (leT (by omega))) (leT (by omega))) (leT (by omega))) (cT (irT (by omega) (by omega)) ((has_nat _ _ _).trans ?_)))
  change (hasF kind p a).bind _ = _
  rw [hb]
  cases b
  ·refine cT (fwT (by rw [List.length_append, shI_len, List.length_singleton]; omega)) ?_
   have e := next (acc ++ [p.length]) (by simp; omega)
   rw [List.append_assoc, shI_app acc [p.length]] at e
   exact e
  ·exact next acc (by omega)
theorem pick_l {β : Type} (sh F : List Nat) (hF : ∀ j ∈ F, j < sh.length) (h8 : F.length ≤ 8) (kx : List Int → Option β) (kr : Option β) (d : Nat) : ∀ (i n : Nat) (acc : List Nat), i + d = F.length → acc.length ≤ i → d < n →
  spec_l13From.l10 sl1 n kx kr (shI sh) (shI F) (shI acc) (i : Int) = kx (shI (acc ++ (F.drop i).map fun j => sh.getD j 0)) := by
 induction d with
 | zero =>
  intro i n acc hi ha hn
  obtain ⟨n, rfl⟩ : ∃ m, n = m + 1 := ⟨n - 1, by omega⟩
  rw [spec_l13From.t10, List.drop_of_length_le (by omega), List.map_nil, List.append_nil]; exact cF (ltF (by rw [shI_len]; omega)) rfl
 | succ d ih =>
  intro i n acc hi ha hn
  obtain ⟨n, rfl⟩ : ∃ m, n = m + 1 := ⟨n - 1, by omega⟩
  have h1 : i < F.length := by omega
  have h2 := hF _ (List.getElem_mem h1)
  have e := ih (i + 1) n (acc ++ [sh.getD F[i] 0]) (by omega) (by simp; omega) (by omega)
  rw [List.append_assoc, shI_app acc [sh.getD F[i] 0]] at e
  rw [spec_l13From.t10, List.drop_eq_getElem_cons h1, List.map_cons]
  unfold spec_l13From.b10
  rw [shI_get h1, w_succ (by omega), shI_get h2]
  have eg : sh.getD F[i] 0 = sh[F[i]] := by rw [List.getD_eq_getElem?_getD, List.getElem?_eq_getElem h2]; rfl
  rw [eg] at e ⊢
  exact cT (ltT (by rw [shI_len]; omega)) (cT (irT (by omega) (by rw [shI_len]; omega)) (cT (irT (by omega) (by rw [shI_len]; omega)) (cT (fwT (by rw [List.length_append, shI_len, List.length_singleton]; omega)) e)))
theorem flag13_l {β : Type} (kind : Int) {th : List Bool} (h8 : th.length = 8) (kx : List Int → Int → List Bool → Option β) (kr : Option β) (d : Nat) : ∀ (i n : Nat) (acc : List Nat), i + d = 8 → acc.length ≤ i → d < n →
  spec_l13From.l3 sl1 n kx kr (shI acc) kind th (i : Int) = kx (shI (acc ++ thereL th i d)) kind th := by
 induction d with
 | zero =>
  intro i n acc hi ha hn
  obtain ⟨n, rfl⟩ : ∃ m, n = m + 1 := ⟨n - 1, by omega⟩
  rw [spec_l13From.t3, show thereL th i 0 = [] from rfl, List.append_nil]; exact cF (ltF (by omega)) rfl
 | succ d ih =>
  intro i n acc hi ha hn
  obtain ⟨n, rfl⟩ : ∃ m, n = m + 1 := ⟨n - 1, by omega⟩
  rw [spec_l13From.t3]
  unfold spec_l13From.b3
  refine cT (ltT (by omega)) (cT (irT (by omega) (by omega)) ?_)
  rw [getC false, w_succ (by omega)]
  cases ct : th.getD i false
  ·have e : thereL th i (d + 1) = thereL th (i + 1) d := by unfold thereL; rw [List.range'_succ, List.filter_cons_of_neg (by rw [ct]; exact Bool.false_ne_true)]
   rw [e]
   exact cF rfl (ih (i + 1) n acc (by omega) (by omega) (by omega))
  ·have e : thereL th i (d + 1) = i :: thereL th (i + 1) d := by unfold thereL; rw [List.range'_succ]; exact List.filter_cons_of_pos (p := fun a => th.getD a false) ct
   have hn := ih (i + 1) n (acc ++ [i]) (by omega) (by rw [List.length_append, List.length_singleton]; omega) (by omega)
   rw [List.append_assoc, shI_app acc [i]] at hn
   rw [e]
   exact cT rfl (cT (fwT (by rw [List.length_append, shI_len, List.length_singleton]; omega)) hn)
theorem from_G {β : Type} {kind : Int} (hk : kind = 1 ∨ kind = 2) {th : List Bool} (h8 : th.length = 8) (K : List Int → Option β) : spec_l13From.G sl1 kind th K = K (shI (firstL kind [] (thereL th 0 8))) := by
 have ho := (leaf_k hk th).2
 have hl := thereL_len th
 obtain ⟨q1, q2⟩ := idxL_spec kind (thereL th 0 8) []
 have q3 : (idxL kind [] (thereL th 0 8) 0).length ≤ 8 := by
  have h : ∀ (r p : List Nat) (j : Nat), (idxL kind p r j).length ≤ r.length := by
   intro r
   induction r with
   | nil => intro p j; exact Nat.le_refl _
   | cons a r ih =>
    intro p j
    unfold idxL
    split
    ·exact Nat.le_succ_of_le (ih _ _)
    ·exact Nat.succ_le_succ (ih _ _)
  exact Nat.le_trans (h _ _ _) hl
 unfold spec_l13From.G
 refine (flag13_l kind h8 _ none 8 0 sl1.n [] (by omega) (by simp) (by rw [rounds_n]; omega)).trans ((rows_G hk h8 _).trans ?_)
 unfold spec_l3First.G
 refine (first_l kind (thereL th 0 8) hl _ none (thereL th 0 8) [] [] sl1.n (by simp) (by simp) (by rw [rounds_n]; omega) ho).trans ?_
 refine (pick_l (thereL th 0 8) (idxL kind [] (thereL th 0 8) 0) (fun j hj => by have := q1 j hj; simpa using this) q3 _ none (idxL kind [] (thereL th 0 8) 0).length 0 sl1.n [] (by omega) (by simp) (by rw [rounds_n]; omega)).trans ?_
 rw [List.drop_zero, List.nil_append]
 exact congrArg (fun x => K (shI x)) q2
end Go.Proofs.YtnbighmbgmjbkaaGreat.E
end
section
set_option linter.unusedVariables false
set_option linter.unusedSimpArgs false
namespace Go.Proofs.YtnbighmbgmjbkaaGreat.E
open Go Go.RowKit
set_option linter.unusedVariables false
set_option maxRecDepth 100000
theorem unit_G {β : Type} {i : Nat} (hi : i < 4) (K : List Int → Bool → Option β) : spec_VecUnit.G sl1 (i : Int) K = K (unit4 i) true := by
 match i, hi with
 | 0, _ => refine keq ?_; kernel_rfl
 | 1, _ => refine keq ?_; kernel_rfl
 | 2, _ => refine keq ?_; kernel_rfl
 | 3, _ => refine keq ?_; kernel_rfl
theorem by_G {β : Type} {kind : Int} (hk : kind = 1 ∨ kind = 2) {e : List Nat × List (List Int)} (he : e ∈ invT kind) {i : Nat} (hi : i < 4) (K : List Int → Bool → Option β) : spec_l3By.G sl1 (rowsF kind e.1) (unit4 i) K = K (e.2.getD i []) true := by
 have h := by_k hk he
 unfold byE at h
 have h := List.all_eq_true.1 h i (by match i, hi with
  | 0, _ => simp
  | 1, _ => simp
  | 2, _ => simp
  | 3, _ => simp)
 rw [by_nat]
 split at h
 ·rename_i r b hr
  rw [hr]
  rw [Bool.and_eq_true] at h
  rw [eqZ_eq h.2, h.1]; rfl
 ·cases h
theorem sum14_l {β : Type} (kx : List (List Int) → List Int → List Int → List Int → Int → Int → Option β) (kr : Option β) (rows : List (List Int)) (out : List Int) {vals : List Int} (hv : L8 vals) (B : List Nat) (hB : ∀ b ∈ B, b < 8) (h8 : B.length ≤ 8) (s4 : Int) (r : List Int) (hr : ∀ x ∈ r, 0 ≤ x ∧ x ≤ 30) (hl : r.length = B.length) (d : Nat) :
  ∀ (j n : Nat) (v : Int), j + d = B.length → d < n → 0 ≤ v ∧ v ≤ 30 → spec_l13Data.l14 sl1 n kx kr rows out vals (shI B) s4 r v (j : Int) = kx rows out vals (shI B) s4 (sumF (r.drop j) ((B.drop j).map fun (b : Nat) => vals.getD b 0) v) := by
 induction d with
 | zero =>
  intro j n v hj hn hv'
  obtain ⟨n, rfl⟩ : ∃ m, n = m + 1 := ⟨n - 1, by omega⟩
  rw [spec_l13Data.t14, List.drop_of_length_le (by omega : B.length ≤ j), List.drop_of_length_le (by omega : r.length ≤ j)]; exact cF (ltF (by rw [shI_len]; omega)) rfl
 | succ d ih =>
  intro j n v hj hn hv'
  obtain ⟨n, rfl⟩ : ∃ m, n = m + 1 := ⟨n - 1, by omega⟩
  have j1 : j < B.length := by omega
  have j2 : j < r.length := by omega
  have b8 := hB _ (List.getElem_mem j1)
  have m := mod31 hv' (hr _ (List.getElem_mem j2)) (hv.at b8)
  have e := ih (j + 1) n (Int.tmod (v + r[j] * vals.getD B[j] 0) 31) (by omega) (by omega) m.2
  rw [spec_l13Data.t14, List.drop_eq_getElem_cons j1, List.drop_eq_getElem_cons j2, List.map_cons, sumF]
  unfold spec_l13Data.b14
  rw [shI_get j1, w_succ (by omega), getN r j j2, Int.toNat_natCast, m.1]
  exact cT (ltT (by rw [shI_len]; omega)) (cT (irT (by omega) (by omega)) (cT (irT (by omega) (by rw [shI_len]; omega)) (cT (irT (by omega) (by rw [hv.1]; omega)) e)))
theorem num13_l {β : Type} (kx : List Int → Option β) (kr : Option β) {kind : Int} (hk : kind = 1 ∨ kind = 2) {e : List Nat × List (List Int)} (he : e ∈ invT kind) {vals : List Int} (hv : L8 vals) (hB : ∀ b ∈ e.1, b < 8) (h4 : e.1.length = 4) (hM : ∀ i, i < 4 → (e.2.getD i []).length = 4 ∧ ∀ x ∈ e.2.getD i [], 0 ≤ x ∧ x ≤ 30) (d : Nat) :
  ∀ (i n : Nat), i + d = 4 → d < n → spec_l13Data.l8 sl1 n kx kr (rowsF kind e.1) ((List.range i).map fun c => sumF (e.2.getD c []) (e.1.map fun (b : Nat) => vals.getD b 0) 0) vals (shI e.1) (i : Int) = kx ((List.range 4).map fun c => sumF (e.2.getD c []) (e.1.map fun (b : Nat) => vals.getD b 0) 0) := by
 induction d with
 | zero =>
  intro i n hi hn
  obtain ⟨n, rfl⟩ : ∃ m, n = m + 1 := ⟨n - 1, by omega⟩
  obtain rfl : i = 4 := by omega
  rw [spec_l13Data.t8]; exact cF (ltF (by omega)) rfl
 | succ d ih =>
  intro i n hi hn
  obtain ⟨n, rfl⟩ : ∃ m, n = m + 1 := ⟨n - 1, by omega⟩
  have e1 := ih (i + 1) n (by omega) (by omega)
  rw [List.range_succ, List.map_append] at e1
  obtain ⟨q1, q2⟩ := hM i (by omega)
  rw [spec_l13Data.t8]
  unfold spec_l13Data.b8
  refine cT (ltT (by omega)) ((unit_G (by omega) _).trans ((by_G hk he (by omega) _).trans ((sum14_l _ none _ _ hv e.1 hB (by omega) (i : Int) (e.2.getD i []) q2 (by omega) e.1.length 0 sl1.n 0 (by omega) (by rw [rounds_n]; omega) (by omega)).trans ?_)))
  rw [List.drop_zero, List.drop_zero, w_succ (by omega)]
  exact cT (fwT (by simp; omega)) e1
theorem rows13_l {β : Type} (kx : List (List Int) → List Int → List Int → Option β) (kr : Option β) {kind : Int} (hk : kind = 1 ∨ kind = 2) (vals : List Int) (B : List Nat) (hB : ∀ b ∈ B, b < 8) (h8 : B.length ≤ 8) (d : Nat) : ∀ (i n : Nat), i + d = B.length → d < n →
  spec_l13Data.l3 sl1 n kx kr (rowsF kind (B.take i)) kind vals (shI B) (i : Int) = kx (rowsF kind B) vals (shI B) := by
 induction d with
 | zero =>
  intro i n hi hn
  obtain ⟨n, rfl⟩ : ∃ m, n = m + 1 := ⟨n - 1, by omega⟩
  rw [spec_l13Data.t3, List.take_of_length_le (by omega)]; exact cF (ltF (by rw [shI_len]; omega)) rfl
 | succ d ih =>
  intro i n hi hn
  obtain ⟨n, rfl⟩ : ∃ m, n = m + 1 := ⟨n - 1, by omega⟩
  have h1 : i < B.length := by omega
  have e := ih (i + 1) n (by omega) (by omega)
  rw [List.take_succ_eq_append_getElem h1, rowsF_app] at e
  rw [spec_l13Data.t3]
  unfold spec_l13Data.b3
  rw [shI_get h1, w_succ (by omega)]
  exact cT (ltT (by rw [shI_len]; omega)) (cT (irT (by omega) (by rw [shI_len]; omega)) ((row_G hk (hB _ (List.getElem_mem h1)) _).trans (cT (fwT (by rw [List.length_append, rowsF_len, List.length_take, List.length_singleton]; omega)) e)))
theorem num_sum {m v0 v1 v2 v3 : Int} {r : List Int} (hl : r.length = 4) (hr : ∀ x ∈ r, 0 ≤ x ∧ x ≤ 30) (h0 : 0 ≤ v0 ∧ v0 ≤ 30) (h1 : 0 ≤ v1 ∧ v1 ≤ 30) (h2 : 0 ≤ v2 ∧ v2 ≤ 30) (h3 : 0 ≤ v3 ∧ v3 ≤ 30) :
  sumF r [v0, v1, v2, v3] 0 = (r.getD 0 0 * v0 + r.getD 1 0 * v1 + r.getD 2 0 * v2 + r.getD 3 0 * v3) % 31 := by
 refine Cg.same ?_ (sumF_El _ _ _ hr (fun x hx => ?_) (by omega)) (by omega)
 ·refine (sumF_cg _ _ _).trans (Cg.symm ((Cg.mod _).trans ?_))
  match r, hl with
  | [a, b, c, d], _ =>
   refine ⟨0, ?_⟩
   show a * v0 + b * v1 + c * v2 + d * v3 = 0 + (a * v0 + (b * v1 + (c * v2 + (d * v3 + 0)))) + 31 * 0
   omega
 ·simp only [List.mem_cons, List.not_mem_nil, or_false] at hx
  rcases hx with rfl | rfl | rfl | rfl <;> assumption
theorem data13_G {β : Type} {kind : Int} (hk : kind = 1 ∨ kind = 2) {e : List Nat × List (List Int)} (he : e ∈ invT kind) {vals : List Int} (hv : L8 vals) {d : List Int} (hd : V4 d) (h : ∀ b ∈ e.1, vals.getD b 0 = dotM (rowS kind (b : Int)) d) (K : List Int → Option β) : spec_l13Data.G sl1 kind vals (shI e.1) K = K d := by
 have hx := ent_k hk he
 unfold entOk at hx
 simp only [Bool.and_eq_true] at hx
 have h4 : e.1.length = 4 := Nat.eq_of_beq_eq_true hx.1.1
 have hB : ∀ b ∈ e.1, b < 8 := fun b hb => by
  have := List.all_eq_true.1 hx.1.2 b hb
  simpa using this
 have hs := small_k hk he
 unfold smallE at hs
 have back := num_back hk he hd
 have hM : ∀ i, i < 4 → (e.2.getD i []).length = 4 ∧ ∀ x ∈ e.2.getD i [], 0 ≤ x ∧ x ≤ 30 := fun i hi => by
  have := by_k hk he
  unfold byE at this
  by_cases c : i < e.2.length
  ·have hm : e.2.getD i [] ∈ e.2 := by rw [List.getD_eq_getElem?_getD, List.getElem?_eq_getElem c]; exact List.getElem_mem c
   have := List.all_eq_true.1 hs _ hm
   simp only [Bool.and_eq_true] at this
   exact ⟨Nat.eq_of_beq_eq_true this.1, fun x hx => inV_iff.1 (List.all_eq_true.1 this.2 x hx)⟩
  ·exfalso
   have hlen := mat_k hk he
   omega
 have hg : ∀ i, i < 4 → vals.getD (e.1.getD i 0) 0 = dotM (rowS kind ((e.1.getD i 0 : Nat) : Int)) d := fun i hi => h _ (ent_mem hk he hi)
 unfold spec_l13Data.G
 refine (rows13_l _ none hk vals e.1 hB (by omega) e.1.length 0 sl1.n (by omega) (by rw [rounds_n]; omega)).trans ((num13_l (fun y => K y) none hk he hv hB h4 hM 4 0 sl1.n (by omega) (by rw [rounds_n]; omega)).trans ?_)
 congr 1
 rw [← back]
 have em : (e.1.map fun (b : Nat) => vals.getD b 0) = [vals.getD (e.1.getD 0 0) 0, vals.getD (e.1.getD 1 0) 0, vals.getD (e.1.getD 2 0) 0, vals.getD (e.1.getD 3 0) 0] := by
  match e.1, h4 with
  | [a, b, c, d], _ => rfl
 have el : ∀ i, i < 4 → 0 ≤ vals.getD (e.1.getD i 0) 0 ∧ vals.getD (e.1.getD i 0) 0 ≤ 30 := fun i hi => hv.at (hB _ (ent_mem hk he hi))
 rw [em]
 have s := fun c (hc : c < 4) => num_sum (m := 0) (hM c hc).1 (hM c hc).2 (el 0 (by omega)) (el 1 (by omega)) (el 2 (by omega)) (el 3 (by omega))
 rw [hg 0 (by omega), hg 1 (by omega), hg 2 (by omega), hg 3 (by omega)] at s ⊢
 show [sumF (e.2.getD 0 []) _ 0, sumF (e.2.getD 1 []) _ 0, sumF (e.2.getD 2 []) _ 0, sumF (e.2.getD 3 []) _ 0] = _
 rw [s 0 (by omega), s 1 (by omega), s 2 (by omega), s 3 (by omega)]
 rfl
theorem cov_of {kind : Int} {vers : List Int} {there : List Bool} (h2 : vers.length = 8) (h3 : there.length = 8) (v : Int) : covL kind (thereL (ofV vers there v) 0 8) = covV kind vers there v := by
 have m : ∀ b, b ∈ thereL (ofV vers there v) 0 8 ↔ b ∈ ofL vers there v := fun b => thereL_mem.trans (ofL_mem h2 h3).symm
 rw [Bool.eq_iff_iff]
 exact ⟨covL_mono fun b hb => (m b).1 hb, covL_mono fun b hb => (m b).2 hb⟩
theorem read13_E {kind : Int} {vals vers : List Int} {there : List Bool} (h : stripeV kind vals vers there = true) {v : Int} (hc : covV kind vers there v = true) :
  ∃ d, Told1 kind vals vers there v d ∧ ∀ (β : Type) (K : List Int → Bool → Option β), spec_l13Read.G sl1 kind vals (ofV vers there v) K = K d true := by
 obtain ⟨hk, hf, h1, h2, h3, ho⟩ := stripe_iff.1 h
 obtain ⟨d, d1, d2⟩ := told_of h (cov_in hk hc)
 refine ⟨d, ⟨d1, d2⟩, fun β K => ?_⟩
 have hl := (leaf_k hk (ofV vers there v)).1
 unfold leafT at hl
 rw [cov_of h2 h3, hc, Bool.and_eq_true] at hl
 obtain ⟨e, he, heq⟩ := List.any_eq_true.1 hl.2
 have heq := eqN_eq heq
 have fit : fitsV kind vals (ofV vers there v) = true := (fitsV_iff hk h1 hf).2 ⟨d, d1, fun a ha ta => d2 a ((ofL_mem h2 h3).2 ⟨ha, ta⟩)⟩
 unfold spec_l13Read.G
 refine (codeBears_G hk (ofV_len h2 h3) _).trans ?_
 rw [cov_of h2 h3, hc]
 refine cF rfl ((fits_G hk h1 hf (ofV_len h2 h3) _).trans ?_)
 rw [fit]
 refine cF rfl ((from_G hk (ofV_len h2 h3) _).trans ?_)
 rw [← heq]
 have sub : ∀ b ∈ e.1, b ∈ thereL (ofV vers there v) 0 8 := fun b hb => by
  have hs : ∀ (r p : List Nat), ∀ x ∈ firstL kind p r, x ∈ r := by
   intro r
   induction r with
   | nil => intro p x hx; cases hx
   | cons a r ih =>
    intro p x hx
    unfold firstL at hx
    split at hx
    ·exact List.mem_cons_of_mem _ (ih _ x hx)
    ·rcases List.mem_cons.1 hx with rfl | hx
     ·exact List.mem_cons_self
     ·exact List.mem_cons_of_mem _ (ih _ x hx)
  exact hs _ _ b (heq ▸ hb)
 exact data13_G hk he ⟨h1, hf⟩ d1 (fun b hb => d2 b ((ofL_mem h2 h3).2 (thereL_mem.1 (sub b hb)))) _
theorem down_l {β : Type} {kind : Int} (hk : kind = 1 ∨ kind = 2) (vals : List Int) {vers : List Int} {there : List Bool} (h2 : vers.length = 8) (h3 : there.length = 8) (D : Int → List Int) (hD : ∀ v, covV kind vers there v = true → ∀ (β : Type) (K : List Int → Bool → Option β), spec_l13Read.G sl1 kind vals (ofV vers there v) K = K (D v) true)
  (kx : Option β) (kr : List Int → Int → Bool → Option β) : ∀ (m n : Nat), m ≤ 1000 → m < n → spec_l21Read.l2 sl1 n kx kr kind vals vers there (m : Int) = match downF kind vers there m with
   | none => kx
   | some v => kr (D v) v true
 | 0, n, hm, hn => by
  obtain ⟨n, rfl⟩ : ∃ m, n = m + 1 := ⟨n - 1, by omega⟩
  rw [spec_l21Read.t2]; exact cF (ltF (by omega)) rfl
 | m + 1, n, hm, hn => by
  obtain ⟨n, rfl⟩ : ∃ m, n = m + 1 := ⟨n - 1, by omega⟩
  have e := down_l hk vals h2 h3 D hD kx kr m n (by omega) (by omega)
  rw [spec_l21Read.t2, downF]
  unfold spec_l21Read.b2
  have w1 : sl1.w (((m + 1 : Nat) : Int) - 1) = (m : Int) := by rw [wE (by omega) (by omega)]; omega
  rw [w1]
  refine cT (ltT (by omega)) ((of_G kind vals vers there _ (by omega) (by omega) _).trans ((codeBears_G hk (ofV_len h2 h3) _).trans ?_))
  rw [cov_of h2 h3]
  cases c : covV kind vers there ((m + 1 : Nat) : Int)
  ·exact cF rfl e
  ·exact cT rfl ((of_G kind vals vers there _ (by omega) (by omega) _).trans (hD _ c _ _))
theorem readS_E {kind : Int} {vals vers : List Int} {there : List Bool} (h : stripeV kind vals vers there = true) :
  ∃ d, Tells kind vals vers there d ∧ ∀ (β : Type) (K : List Int → Int → Bool → Option β), spec_l21Read.G sl1 kind vals vers there K = K d ((readL kind vers there).getD 0) (readL kind vers there).isSome := by
 obtain ⟨hk, hf, h1, h2, h3, ho⟩ := stripe_iff.1 h
 have ex := fun v (hv : covV kind vers there v = true) => read13_E h hv
 obtain ⟨D, hD⟩ : ∃ D : Int → List Int, ∀ v, covV kind vers there v = true → Told1 kind vals vers there v (D v) ∧ ∀ (β : Type) (K : List Int → Bool → Option β), spec_l13Read.G sl1 kind vals (ofV vers there v) K = K (D v) true := by
  classical
  refine ⟨fun v => if hv : covV kind vers there v = true then Classical.choose (ex v hv) else [], fun v hv => ?_⟩
  dsimp only
  rw [dif_pos hv]
  exact Classical.choose_spec (ex v hv)
 have t0 := (topV_ge vers 0).1
 have t9 : topV vers 0 ≤ 99 := topV_le vers 0 (by omega) fun x hx => by
  obtain ⟨a, ha, rfl⟩ := List.getElem_of_mem hx
  have e : vers.getD a 0 = vers[a] := by rw [List.getD_eq_getElem?_getD, List.getElem?_eq_getElem ha]; rfl
  have := ho a (by omega)
  rw [e] at this
  cases ct : there.getD a false
  ·have := (this.2 ct).2; omega
  ·exact ((this.1 ct).1).2
 have et : topV vers 0 = (((topV vers 0).toNat : Nat) : Int) := (Int.toNat_of_nonneg t0).symm
 have e := fun (β : Type) (kx : Option β) (kr : List Int → Int → Bool → Option β) => down_l hk vals h2 h3 D (fun v hv => (hD v hv).2) kx kr (topV vers 0).toNat sl1.n (by omega) (by rw [rounds_n]; omega)
 rw [down_read h, ← et] at e
 unfold Tells
 cases hr : readL kind vers there with
 | none =>
  rw [hr] at e
  exact ⟨[], rfl, fun β K => (top_G kind vals vers there (by omega) _).trans (e _ _ _)⟩
 | some v =>
  rw [hr] at e
  exact ⟨D v, (hD v (List.find?_some hr)).1, fun β K => (top_G kind vals vers there (by omega) _).trans (e _ _ _)⟩
end Go.Proofs.YtnbighmbgmjbkaaGreat.E
end
section
set_option linter.unusedVariables false
set_option linter.unusedSimpArgs false
namespace Go.Proofs.YtnbighmbgmjbkaaGreat.E
open Go Go.RowKit
set_option linter.unusedVariables false
set_option maxRecDepth 100000
def patchOk (at_ dif : Int) : Bool := inV at_ 0 3 && inV dif 1 30
theorem patchOkS_G {β : Type} (at_ dif : Int) (K : Bool → Option β) : spec_PatchOk.G sl1 at_ dif K = K (patchOk at_ dif) := by
 unfold spec_PatchOk.G patchOk
 refine (spec_in _ _ _ _).trans ?_
 cases inV at_ 0 3
 ·exact cF rfl rfl
 ·exact cT rfl ((spec_in _ _ _ _).trans rfl)
theorem patchOkI_G {β : Type} (at_ dif : Int) (K : Bool → Option β) : impl_PatchOk.G sl1 at_ dif K = K (patchOk at_ dif) := by
 unfold impl_PatchOk.G patchOk
 refine (impl_in _ _ _ _).trans ?_
 cases inV at_ 0 3
 ·exact cF rfl rfl
 ·exact cT rfl ((impl_in _ _ _ _).trans rfl)
theorem sumS_G {β : Type} {a b : Int} (ha : 0 ≤ a ∧ a ≤ 30) (hb : 0 ≤ b ∧ b ≤ 30) (K : Int → Option β) : spec_FieldSum.G sl1 a b K = K ((a + b) % 31) := by
 unfold spec_FieldSum.G
 refine (spec_field _ _).trans ?_
 rw [inV_iff.2 ha]
 refine cF rfl ((spec_field _ _).trans ?_)
 rw [inV_iff.2 hb, wE (by omega) (by omega), Int.tmod_eq_emod_of_nonneg (by omega)]
 exact cF rfl rfl
theorem sumI_G {β : Type} {a b : Int} (ha : 0 ≤ a ∧ a ≤ 30) (hb : 0 ≤ b ∧ b ≤ 30) (K : Int → Option β) : impl_FieldSum.G sl1 a b K = K ((a + b) % 31) := by
 unfold impl_FieldSum.G
 refine (impl_field _ _).trans ?_
 rw [inV_iff.2 ha]
 refine cF rfl ((impl_field _ _).trans ?_)
 rw [inV_iff.2 hb]
 exact cF rfl (plus_G (by omega) (by omega) _)
def difV (at_ : Nat) (dif : Int) : List Int := (List.replicate 4 0).set at_ dif
theorem difV_V4 {at_ : Nat} {dif : Int} (hd : 1 ≤ dif ∧ dif ≤ 30) : V4 (difV at_ dif) := V4.set V4.zero at_ ⟨by omega, by omega⟩
theorem rowS22_G {β : Type} {kind : Int} (hk : kind = 1 ∨ kind = 2) {at_ : Nat} (ha : at_ < 4) {dif : Int} (hd : 1 ≤ dif ∧ dif ≤ 30) (K : List Int → Option β) : spec_l22Row.G sl1 kind (at_ : Int) dif K = K (allV kind (difV at_ dif)) := by
 unfold spec_l22Row.G
 rw [Int.toNat_natCast]
 exact cT (by rfl) (cT (irT (by omega) (by show (at_ : Int) < (4 : Int); omega)) (all_G hk (V4_vec (difV_V4 hd)) _))
theorem scale_G {β : Type} {at_ : Nat} (ha : at_ < 4) {dif : Int} (hd : 1 ≤ dif ∧ dif ≤ 30) (K : List Int → Option β) : impl_unit.G sl1 (at_ : Int) (fun y3 => impl_vector_times.G sl1 y3 dif K) = K (difV at_ dif) := by
 have z : (0 : Int) * dif % 31 = 0 := by rw [Int.zero_mul]; rfl
 have o : (1 : Int) * dif % 31 = dif := by rw [Int.one_mul]; omega
 have e0 : El (0 : Int) := ⟨by omega, by omega⟩
 have e1 : El (1 : Int) := ⟨by omega, by omega⟩
 have ed : El dif := ⟨by omega, by omega⟩
 unfold impl_unit.G
 match at_, ha with
 | 0, _ => refine cT rfl ((vtimes_G (a := 1) (b := 0) (c := 0) (d := 0) e1 e0 e0 e0 ed K).trans ?_); rw [z, o]; rfl
 | 1, _ => refine cT rfl ((vtimes_G (a := 0) (b := 1) (c := 0) (d := 0) e0 e1 e0 e0 ed K).trans ?_); rw [z, o]; rfl
 | 2, _ => refine cT rfl ((vtimes_G (a := 0) (b := 0) (c := 1) (d := 0) e0 e0 e1 e0 ed K).trans ?_); rw [z, o]; rfl
 | 3, _ => refine cT rfl ((vtimes_G (a := 0) (b := 0) (c := 0) (d := 1) e0 e0 e0 e1 ed K).trans ?_); rw [z, o]; rfl
theorem rowI22_G {β : Type} {kind : Int} (hk : kind = 1 ∨ kind = 2) {at_ : Nat} (ha : at_ < 4) {dif : Int} (hd : 1 ≤ dif ∧ dif ≤ 30) (K : List Int → Option β) : impl_PatchRow.G sl1 kind (at_ : Int) dif K = K (allV kind (difV at_ dif)) := by
 unfold impl_PatchRow.G
 refine (impl_in kind 1 2 _).trans ?_
 rw [inV_iff.2 (show 1 ≤ kind ∧ kind ≤ 2 by omega)]
 refine cF rfl ((patchOkI_G _ _ _).trans ?_)
 rw [show patchOk (at_ : Int) dif = true by unfold patchOk; rw [inV_iff.2 ⟨by omega, by omega⟩, inV_iff.2 hd]; rfl]
 exact cF rfl ((scale_G ha hd _).trans (encode_G hk (difV_V4 hd) _))
def patP (vers : List Int) (there which : List Bool) (v : Int) (a : Nat) : Bool := which.getD a false && (!notV vers v a && there.getD a false)
def patL (vers : List Int) (there which : List Bool) (v : Int) (i n : Nat) : List Nat := (List.range' i n).filter (patP vers there which v)
def patD (vals row : List Int) (j : Nat) : Int := (vals.getD j 0 + row.getD j 0) % 31
theorem patS_l {β : Type} (kind : Int) {vals vers : List Int} {there which : List Bool} (h1 : vals.length = 8) (hf : ∀ x ∈ vals, 0 ≤ x ∧ x ≤ 30) (h2 : vers.length = 8) (h3 : there.length = 8) (hw : which.length = 8) {row : List Int} (hr : row.length = 8) (hrf : ∀ x ∈ row, 0 ≤ x ∧ x ≤ 30) (v : Int) (ht : topV vers 0 ≤ 99)
  (k4 k5 : Int) (c : List Bool) (kx : Int → Int → List Int → List Int → List Bool → Option β) (kr : Option β) (d : Nat) : ∀ (i n : Nat) (a b : List Int), i + d = 8 → d < n → a.length = 8 → b.length = 8 →
  spec_PatchDo.l9 sl1 n kx kr kind vals vers there k4 k5 row a b c which v (i : Int) = kx k4 k5 (setAll (patD vals row) (patL vers there which v i d) a) (setAll (fun _ => topV vers 0 + 1) (patL vers there which v i d) b) c := by
 have t0 := (topV_ge vers 0).1
 induction d with
 | zero =>
  intro i n a b hi hn ha hb
  obtain ⟨n, rfl⟩ : ∃ m, n = m + 1 := ⟨n - 1, by omega⟩
  rw [spec_PatchDo.t9]; exact cF (ltF (by omega)) rfl
 | succ d ih =>
  intro i n a b hi hn ha hb
  obtain ⟨n, rfl⟩ : ∃ m, n = m + 1 := ⟨n - 1, by omega⟩
  have skip : patP vers there which v i = false → patL vers there which v i (d + 1) = patL vers there which v (i + 1) d := fun h => by unfold patL; rw [List.range'_succ, List.filter_cons_of_neg (by rw [h]; exact Bool.false_ne_true)]
  have take : patP vers there which v i = true → patL vers there which v i (d + 1) = i :: patL vers there which v (i + 1) d := fun h => by unfold patL; rw [List.range'_succ, List.filter_cons_of_pos h]
  rw [spec_PatchDo.t9]
  unfold spec_PatchDo.b9
  rw [w_succ (by omega)]
  simp only [getC]
  refine cT (ltT (by omega)) (cT (irT (by omega) (by omega)) ?_)
  cases cw : which.getD i false
  ·rw [skip (by unfold patP; rw [cw]; rfl)]
   exact cF rfl (ih (i + 1) n a b (by omega) (by omega) ha hb)
  ·refine cT rfl (cT (irT (by omega) (by omega)) ?_)
   cases ct : there.getD i false
   ·rw [skip (by unfold patP; rw [ct, Bool.and_false, Bool.and_false])]
    exact cF rfl (ih (i + 1) n a b (by omega) (by omega) ha hb)
   ·refine cT rfl (cT (irT (by omega) (by omega)) ?_)
    by_cases cv : vers.getD i 0 = v
    ·rw [take (by unfold patP notV; rw [cw, ct, beq_iff_eq.2 cv]; rfl), setAll, setAll]
     refine cT (eqT cv) (cT (irT (by omega) (by omega)) (cT (irT (by omega) (by omega)) ((sumS_G (getD_in hf (by omega)) (getD_in hrf (by omega)) _).trans (cT (irT (by omega) (by omega)) ((top_G _ _ _ _ (by omega) _).trans (cT (irT (by omega) (by omega)) ?_))))))
     rw [wE (by omega) (by omega), Int.toNat_natCast]
     exact ih (i + 1) n _ _ (by omega) (by omega) (by rw [List.length_set]; exact ha) (by rw [List.length_set]; exact hb)
    ·rw [skip (by unfold patP notV; rw [beq_eq_false_iff_ne.2 cv]; simp)]
     exact cF (eqF cv) (ih (i + 1) n a b (by omega) (by omega) ha hb)
theorem patI_l {β : Type} {kind : Int} {vals vers : List Int} {there which : List Bool} (h : stripeV kind vals vers there = true) (hw : which.length = 8) {row : List Int} (hr : row.length = 8) (hrf : ∀ x ∈ row, 0 ≤ x ∧ x ≤ 30) (k4 k5 : Int)
  (sh : List Nat) (hs : ∀ a ∈ sh, a < 8) (h8 : sh.length ≤ 8) (kx : Int → Int → List Int → List Int → List Bool → Option β) (kr : Option β) (d : Nat) : ∀ (i n : Nat) (a b : List Int) (c : List Bool), i + d = sh.length → d < n → a.length = 8 → b.length = 8 → c.length = 8 →
  impl_PatchDo.l9 sl1 n kx kr kind vals vers there k4 k5 row (shI sh) a b c which ((shI sh).length : Int) (i : Int) = kx k4 k5 (setAll (patD vals row) ((sh.drop i).filter fun a => which.getD a false) a) (setAll (fun _ => topV vers 0 + 1) ((sh.drop i).filter fun a => which.getD a false) b) (setAll (fun _ => true) ((sh.drop i).filter fun a => which.getD a false) c) := by
 obtain ⟨hk, hf, h1, h2, h3, _⟩ := stripe_iff.1 h
 have t0 := (topV_ge vers 0).1
 have t9 := top_99 h
 induction d with
 | zero =>
  intro i n a b c hi hn ha hb hc
  obtain ⟨n, rfl⟩ : ∃ m, n = m + 1 := ⟨n - 1, by omega⟩
  rw [impl_PatchDo.t9, List.drop_of_length_le (by omega)]; exact cF (ltF (by rw [shI_len]; omega)) rfl
 | succ d ih =>
  intro i n a b c hi hn ha hb hc
  obtain ⟨n, rfl⟩ : ∃ m, n = m + 1 := ⟨n - 1, by omega⟩
  have hi1 : i < sh.length := by omega
  have h7 := hs _ (List.getElem_mem hi1)
  rw [impl_PatchDo.t9, List.drop_eq_getElem_cons hi1]
  unfold impl_PatchDo.b9 impl_Stripe_put.G
  rw [shI_get hi1, w_succ (by omega)]
  simp only [Int.toNat_natCast]
  refine cT (ltT (by rw [shI_len]; omega)) (cT (irT (by omega) (by rw [shI_len]; omega)) (cT (irT (by omega) (by omega)) ?_))
  cases cw : which.getD sh[i] false
  ·rw [List.filter_cons_of_neg (by rw [cw]; exact Bool.false_ne_true)]
   exact cF rfl (ih (i + 1) n a b c (by omega) (by omega) ha hb hc)
  ·rw [show (sh[i] :: sh.drop (i + 1)).filter (fun a => which.getD a false) = sh[i] :: (sh.drop (i + 1)).filter (fun a => which.getD a false) from List.filter_cons_of_pos (p := fun a => which.getD a false) cw, setAll, setAll, setAll]
   refine cT rfl (cT (irT (by omega) (by omega)) (cT (irT (by omega) (by omega)) ((sumI_G (getD_in hf (by omega)) (getD_in hrf (by omega)) _).trans ((topI_G h _).trans ?_))))
   rw [wE (by omega) (by omega)]
   exact cT (irT (by omega) (by omega)) (cT (irT (by omega) (by omega)) (cT (irT (by omega) (by omega)) (ih (i + 1) n _ _ _ (by omega) (by omega) (by rw [List.length_set]; exact ha) (by rw [List.length_set]; exact hb) (by rw [List.length_set]; exact hc))))
theorem pat_of (vers : List Int) (there which : List Bool) (v : Int) : (ofL vers there v).filter (fun a => which.getD a false) = patL vers there which v 0 8 := by
 unfold ofL patL patP
 rw [List.filter_filter, List.range_eq_range']
theorem setAll_same {x : Bool} : ∀ (s : List Nat) (r : List Bool), (∀ a ∈ s, a < r.length ∧ r.getD a false = x) → setAll (fun _ => x) s r = r
 | [], r, _ => rfl
 | a :: s, r, h => by
  have ha := h a List.mem_cons_self
  have e : r.set a x = r := by
   refine List.ext_getElem? fun i => ?_
   by_cases hi : a = i
   ·subst hi
    rw [List.getElem?_set_self ha.1, List.getElem?_eq_getElem ha.1]
    have := ha.2
    rw [List.getD_eq_getElem?_getD, List.getElem?_eq_getElem ha.1] at this
    exact congrArg some this.symm
   ·rw [List.getElem?_set_ne hi]
  rw [setAll, e]
  exact setAll_same s r fun b hb => h b (List.mem_cons_of_mem _ hb)
noncomputable def patchV (kind : Int) (vals vers : List Int) (there : List Bool) (at_ dif : Int) (which : List Bool) : (List Int × List Int × List Bool) × Int × Bool :=
 bif stripeV kind vals vers there && (patchOk at_ dif && decide (which.length = 8)) then
  (bif (readL kind vers there).isSome && decide (topV vers 0 < 99) then
   ((setAll (patD vals (allV kind (difV at_.toNat dif))) (patL vers there which ((readL kind vers there).getD 0) 0 8) vals, setAll (fun _ => topV vers 0 + 1) (patL vers there which ((readL kind vers there).getD 0) 0 8) vers, there), kind, true)
  else ((vals, vers, there), kind, false))
 else (([], [], []), 0, false)
theorem patchV_len {kind : Int} {vals vers : List Int} {there : List Bool} {at_ dif : Int} {which : List Bool} {N : Nat} (h1 : vals.length ≤ N) (h2 : vers.length ≤ N) (h3 : there.length ≤ N) :
  (patchV kind vals vers there at_ dif which).1.1.length ≤ N ∧ (patchV kind vals vers there at_ dif which).1.2.1.length ≤ N ∧ (patchV kind vals vers there at_ dif which).1.2.2.length ≤ N := by
 unfold patchV
 cases stripeV kind vals vers there && (patchOk at_ dif && decide (which.length = 8))
 ·simp
 ·cases (readL kind vers there).isSome && decide (topV vers 0 < 99)
  ·exact ⟨h1, h2, h3⟩
  ·refine ⟨?_, ?_, h3⟩
   ·show (setAll _ _ vals).length ≤ N; rw [setAll_len]; exact h1
   ·show (setAll _ _ vers).length ≤ N; rw [setAll_len]; exact h2
theorem patchS_G {β : Type} (kind : Int) (vals vers : List Int) (there : List Bool) (at_ dif : Int) (which : List Bool) (hl : vals.length ≤ 1000000000) (K : List Int → List Int → List Bool → Int → Bool → Option β) :
  spec_PatchDo.G sl1 kind vals vers there at_ dif which K = K (patchV kind vals vers there at_ dif which).1.1 (patchV kind vals vers there at_ dif which).1.2.1 (patchV kind vals vers there at_ dif which).1.2.2 (patchV kind vals vers there at_ dif which).2.1 (patchV kind vals vers there at_ dif which).2.2 := by
 unfold spec_PatchDo.G patchV
 refine (stripeOk_G kind vals vers there hl _).trans ?_
 cases cs : stripeV kind vals vers there
 ·exact cT rfl rfl
 refine cF rfl ((patchOkS_G _ _ _).trans ?_)
 cases cp : patchOk at_ dif
 ·exact cT rfl rfl
 refine cF rfl ?_
 by_cases cw : which.length = 8
 ·rw [decide_eq_true cw]
  obtain ⟨hk, hf, h1, h2, h3, _⟩ := stripe_iff.1 cs
  obtain ⟨d, _, hr⟩ := readS_E cs
  refine cF (neF (by omega)) ((copy_G (by omega) (by omega) (by omega) _).trans ((hr _ _).trans ?_))
  cases ho : (readL kind vers there).isSome
  ·exact cT rfl rfl
  refine cF rfl ((top_G _ _ _ _ (by omega) _).trans ?_)
  by_cases ct : topV vers 0 < 99
  ·rw [decide_eq_true ct]
   unfold patchOk at cp
   rw [Bool.and_eq_true, inV_iff, inV_iff] at cp
   obtain ⟨i, rfl⟩ := Int.eq_ofNat_of_zero_le cp.1.1
   rw [Int.toNat_natCast]
   refine cF (leF ct) ((rowS22_G hk (by omega) cp.2 _).trans ?_)
   exact patS_l kind h1 hf h2 h3 cw (allV_len _ _) (allV_in hk (V4_vec (difV_V4 cp.2))) _ (by omega) 0 kind there _ none 8 0 sl1.n vals vers (by omega) (by rw [rounds_n]; omega) h1 h2
  ·rw [decide_eq_false ct]
   exact cT (leT (by omega)) rfl
 ·rw [decide_eq_false cw]
  exact cT (neT (by omega)) rfl
theorem patchI_G {β : Type} (kind : Int) (vals vers : List Int) (there : List Bool) (at_ dif : Int) (which : List Bool) (K : List Int → List Int → List Bool → Int → Bool → Option β) :
  impl_PatchDo.G sl1 kind vals vers there at_ dif which K = K (patchV kind vals vers there at_ dif which).1.1 (patchV kind vals vers there at_ dif which).1.2.1 (patchV kind vals vers there at_ dif which).1.2.2 (patchV kind vals vers there at_ dif which).2.1 (patchV kind vals vers there at_ dif which).2.2 := by
 unfold impl_PatchDo.G patchV
 refine (stripeI_G kind vals vers there _).trans ?_
 cases cs : stripeV kind vals vers there
 ·exact cT rfl rfl
 refine cF rfl ((patchOkI_G _ _ _).trans ?_)
 cases cp : patchOk at_ dif
 ·exact cT rfl rfl
 refine cF rfl ?_
 by_cases cw : which.length = 8
 ·rw [decide_eq_true cw]
  obtain ⟨hk, hf, h1, h2, h3, _⟩ := stripe_iff.1 cs
  obtain ⟨d, _, hr⟩ := readI_E cs
  have t9 := top_99 cs
  refine cF (neF (by omega)) ((copied_G kind (by omega) (by omega) (by omega) _).trans ((hr _ _).trans ?_))
  cases ho : (readL kind vers there).isSome
  ·exact cT rfl rfl
  refine cF rfl ((topI_G cs _).trans ?_)
  by_cases ct : topV vers 0 < 99
  ·rw [decide_eq_true ct]
   unfold patchOk at cp
   rw [Bool.and_eq_true, inV_iff, inV_iff] at cp
   obtain ⟨i, rfl⟩ := Int.eq_ofNat_of_zero_le cp.1.1
   rw [Int.toNat_natCast]
   refine cF (eqF (by omega)) ((rowI22_G hk (by omega) cp.2 _).trans ((ofI_G kind vals h2 h3 _ _).trans ?_))
   have hol := ofL_len vers there ((readL kind vers there).getD 0)
   refine (patI_l cs cw (allV_len _ _) (allV_in hk (V4_vec (difV_V4 cp.2))) 0 kind (ofL vers there ((readL kind vers there).getD 0)) (fun a ha => (ofL_mem'.1 ha).1) hol _ none (ofL vers there ((readL kind vers there).getD 0)).length 0 sl1.n vals vers there (by omega) (by rw [rounds_n]; omega) h1 h2 h3).trans ?_
   rw [List.drop_zero, pat_of, setAll_same (patL vers there which ((readL kind vers there).getD 0) 0 8) there (fun a ha => by
    unfold patL patP at ha
    rw [List.mem_filter, ← List.range_eq_range', List.mem_range, Bool.and_eq_true, Bool.and_eq_true] at ha
    exact ⟨by omega, ha.2.2.2⟩)]
   rfl
  ·rw [decide_eq_false ct]
   exact cT (eqT (by omega)) rfl
 ·rw [decide_eq_false cw]
  exact cT (neT (by omega)) rfl
end Go.Proofs.YtnbighmbgmjbkaaGreat.E
end
section
set_option linter.unusedVariables false
set_option linter.unusedSimpArgs false
namespace Go.Proofs.YtnbighmbgmjbkaaGreat.E
open Go Go.RowKit
set_option linter.unusedVariables false
set_option maxRecDepth 100000
theorem setAll_congr {α : Type} {D E : Nat → α} : ∀ (s : List Nat) (r : List α), (∀ a ∈ s, D a = E a) → setAll D s r = setAll E s r
 | [], r, _ => rfl
 | a :: s, r, h => by
  rw [setAll, setAll, h a List.mem_cons_self]
  exact setAll_congr s _ fun b hb => h b (List.mem_cons_of_mem _ hb)
theorem add_step (u0 u1 u2 u3 d0 d1 d2 d3 e0 e1 e2 e3 : Int) : u0 * (d0 + e0) + u1 * (d1 + e1) + u2 * (d2 + e2) + u3 * (d3 + e3) = (u0 * d0 + u1 * d1 + u2 * d2 + u3 * d3) + (u0 * e0 + u1 * e1 + u2 * e2 + u3 * e3) := by
 simp only [Int.mul_add]
 omega
theorem dotM_add {u d e w : List Int} (hw : ∀ c, c < 4 → Cg (w.getD c 0) (d.getD c 0 + e.getD c 0)) : (dotM u d + dotM u e) % 31 = dotM u w := by
 refine Cg.same ?_ (by omega) (dotM_El _ _)
 refine (Cg.mod _).trans ((Cg.add (Cg.mod _) (Cg.mod _)).trans (Cg.symm ((Cg.mod _).trans ?_)))
 rw [← add_step]
 exact Cg.add (Cg.add (Cg.add (Cg.mul (Cg.refl _) (hw 0 (by omega))) (Cg.mul (Cg.refl _) (hw 1 (by omega)))) (Cg.mul (Cg.refl _) (hw 2 (by omega)))) (Cg.mul (Cg.refl _) (hw 3 (by omega)))
theorem patchData_G {β : Type} {d : List Int} (hd : V4 d) {at_ : Nat} (ha : at_ < 4) {dif : Int} (hdif : 1 ≤ dif ∧ dif ≤ 30) (K : List Int → Option β) : impl_PatchData.G sl1 d [((at_ : Int), (dif, ()))] K = K (d.set at_ ((d.getD at_ 0 + dif) % 31)) := by
 have hv := V4_vec hd
 have hl := hd.len
 have hp : patchOk (at_ : Int) dif = true := by unfold patchOk; rw [inV_iff.2 ⟨by omega, by omega⟩, inV_iff.2 hdif]; rfl
 have he := hd.at ha
 unfold impl_PatchData.G
 refine (vector_G d (by omega) _).trans ?_
 rw [hv]
 refine cF rfl ?_
 unfold slices_ContainsFunc_Simpl_Patch_impl_Patch.G slices_IndexFunc_Simpl_Patch_impl_Patch.G
 rw [n5, slices_IndexFunc_Simpl_Patch_impl_Patch.t2]
 unfold slices_IndexFunc_Simpl_Patch_impl_Patch.b2 impl_PatchData_1.G
 refine cT rfl (cT rfl ((patchOkI_G (at_ : Int) dif _).trans ?_))
 rw [hp]
 refine cF rfl ?_
 rw [slices_IndexFunc_Simpl_Patch_impl_Patch.t2]
 refine cF rfl (cF rfl ?_)
 rw [impl_PatchData.t5]
 unfold impl_PatchData.b5
 refine cT rfl (cT rfl (cT (irT (by show (0 : Int) ≤ (at_ : Int); omega) (by show (at_ : Int) < ((4 : Nat) : Int); omega)) ?_))
 show impl_element_plus.G sl1 (List.getD d (Int.toNat (at_ : Int)) 0) dif _ = _
 rw [getC (0 : Int)]
 refine (plus_G (by omega) (by omega) _).trans (cT (irT (by show (0 : Int) ≤ (at_ : Int); omega) (by show (at_ : Int) < ((4 : Nat) : Int); omega)) ?_)
 rw [impl_PatchData.t5]
 refine cF rfl ?_
 show impl_vector_list.G sl1 (List.set d (Int.toNat (at_ : Int)) _) _ = _
 rw [Int.toNat_natCast]
 exact list_G (hd.set _ (El.mod _)) _
theorem drawPatch {l : List Int} (hl : ∀ x ∈ l, 0 ≤ x ∧ x ≤ 255) : ∃ kind vals vers there which at_ dif, Sd kind vals vers there ∧ which.length = 8 ∧ ∀ (β : Type) (K : List Int → List Int → List Bool → List Bool → Int → Int → Int → Option β), spec_DrawPatchDo.G sl1 l K = K vals vers there which kind at_ dif := by
 obtain ⟨b, hb, ho⟩ := open_G hl
 obtain ⟨q, kind, vals, vers, there, q0, q1, hs, h⟩ := stripe_S hb (p := 0) (by omega) (by omega)
 obtain ⟨a, a0, a1, ea⟩ := pick_S hb (p := q) 4
 obtain ⟨c, c0, c1, ec⟩ := pick_S hb (p := q + 1) 30
 obtain ⟨e, e0, e1, ee⟩ := pick_S hb (p := q + 1 + 1) 40
 obtain ⟨w, q'', _, _, hw, h'⟩ := which_G hb (p := q + 1 + 1 + 1) (by omega) (by omega)
 exact ⟨kind, vals, vers, there, w, a, _, hs, hw, fun β K => (ho _ _).trans ((h _ _).trans ((ea _ _).trans ((ec _ _).trans ((ee _ _).trans (h' _ _)))))⟩
end Go.Proofs.YtnbighmbgmjbkaaGreat.E
end
section
set_option linter.unusedVariables false
set_option linter.unusedSimpArgs false
namespace Go.Proofs.YtnbighmbgmjbkaaGreat.E
open Go Go.RowKit
set_option linter.unusedVariables false
set_option maxRecDepth 100000
theorem patL_mem {vers : List Int} {there which : List Bool} {v : Int} {j : Nat} : j ∈ patL vers there which v 0 8 ↔ j < 8 ∧ which.getD j false = true ∧ there.getD j false = true ∧ vers.getD j 0 = v := by
 rw [← pat_of, List.mem_filter, ofL_mem']
 exact ⟨fun ⟨⟨a, b, c⟩, d⟩ => ⟨a, d, b, c⟩, fun ⟨a, d, b, c⟩ => ⟨⟨a, b, c⟩, d⟩⟩
theorem setAll_at {α : Type} (D : Nat → α) (s : List Nat) (r : List α) (d : α) {i : Nat} (hi : i < r.length) : (setAll D s r).getD i d = if i ∈ s then D i else r.getD i d := by
 rw [List.getD_eq_getElem?_getD, setAll_get D s r i hi, List.getD_eq_getElem?_getD]
 split <;> rfl
theorem patch_at {kind : Int} (hk : kind = 1 ∨ kind = 2) {d : List Int} (hd : V4 d) {a : Nat} (ha : a < 4) {dif : Int} (hdif : 1 ≤ dif ∧ dif ≤ 30) {vals : List Int} {j : Nat} (hj : j < 8) (hv : vals.getD j 0 = dotM (rowS kind (j : Int)) d) :
  patD vals (allV kind (difV a dif)) j = dotM (rowS kind (j : Int)) (d.set a ((d.getD a 0 + dif) % 31)) := by
 unfold patD
 rw [allV_at hk (difV_V4 hdif) hj, hv]
 refine dotM_add fun c hc => ?_
 have hl := hd.len
 unfold difV
 rw [getD_set _ _ _ _ _ (by omega), getD_set _ _ _ _ _ (by simp; omega)]
 by_cases ec : a = c
 ·subst ec
  rw [if_pos rfl, if_pos rfl]
  exact Cg.mod _
 ·rw [if_neg ec, if_neg ec]
  have z : (List.replicate 4 (0 : Int)).getD c 0 = 0 := by
   match c, hc with
   | 0, _ => rfl
   | 1, _ => rfl
   | 2, _ => rfl
   | 3, _ => rfl
  rw [z]
  exact ⟨0, by omega⟩
section
variable {kind : Int} {vals vers : List Int} {there which : List Bool} {v : Int} {d : List Int} {a : Nat} {dif : Int}
theorem patch_facts (cs : stripeV kind vals vers there = true) (hT : Told1 kind vals vers there v d) (ha : a < 4) (hdif : 1 ≤ dif ∧ dif ≤ 30) {j : Nat} (hj : j < 8) :
  (j ∈ patL vers there which v 0 8 → (setAll (patD vals (allV kind (difV a dif))) (patL vers there which v 0 8) vals).getD j 0 = dotM (rowS kind (j : Int)) (d.set a ((d.getD a 0 + dif) % 31)) ∧ (setAll (fun _ => topV vers 0 + 1) (patL vers there which v 0 8) vers).getD j 0 = topV vers 0 + 1) ∧
  (j ∉ patL vers there which v 0 8 → (setAll (patD vals (allV kind (difV a dif))) (patL vers there which v 0 8) vals).getD j 0 = vals.getD j 0 ∧ (setAll (fun _ => topV vers 0 + 1) (patL vers there which v 0 8) vers).getD j 0 = vers.getD j 0) := by
 obtain ⟨hk, hf, h1, h2, h3, ho⟩ := stripe_iff.1 cs
 rw [setAll_at _ _ _ _ (by omega), setAll_at _ _ _ _ (by omega)]
 constructor
 ·intro h
  rw [if_pos h, if_pos h]
  obtain ⟨_, _, q2, q3⟩ := patL_mem.1 h
  exact ⟨patch_at hk hT.1 ha hdif hj (hT.2 j (ofL_mem'.2 ⟨hj, q2, q3⟩)), rfl⟩
 ·intro h
  rw [if_neg h, if_neg h]
  exact ⟨rfl, rfl⟩
theorem patch_stripe (cs : stripeV kind vals vers there = true) (hT : Told1 kind vals vers there v d) (ha : a < 4) (hdif : 1 ≤ dif ∧ dif ≤ 30) (ht : topV vers 0 < 99) :
  stripeV kind (setAll (patD vals (allV kind (difV a dif))) (patL vers there which v 0 8) vals) (setAll (fun _ => topV vers 0 + 1) (patL vers there which v 0 8) vers) there = true := by
 obtain ⟨hk, hf, h1, h2, h3, ho⟩ := stripe_iff.1 cs
 have F := fun j (hj : j < 8) => patch_facts (which := which) cs hT ha hdif hj
 have t0 := (topV_ge vers 0).1
 have hd2 : V4 (d.set a ((d.getD a 0 + dif) % 31)) := hT.1.set _ (El.mod _)
 refine stripe_iff.2 ⟨hk, fun x hx => ?_, by rw [setAll_len]; exact h1, by rw [setAll_len]; exact h2, h3, fun i hi => ?_⟩
 ·obtain ⟨j, hj, rfl⟩ := List.getElem_of_mem hx
  rw [setAll_len] at hj
  have e : ∀ l : List Int, ∀ h : j < l.length, l.getD j 0 = l[j] := fun l h => by rw [List.getD_eq_getElem?_getD, List.getElem?_eq_getElem h]; rfl
  rw [← e]
  by_cases c : j ∈ patL vers there which v 0 8
  ·rw [((F j (by omega)).1 c).1]; exact dotM_El _ _
  ·rw [((F j (by omega)).2 c).1, e _ (by omega)]; exact hf _ (List.getElem_mem _)
 ·by_cases c : i ∈ patL vers there which v 0 8
  ·obtain ⟨f1, f2⟩ := (F i hi).1 c
   rw [f1, f2]
   obtain ⟨_, _, q2, _⟩ := patL_mem.1 c
   refine ⟨fun _ => ⟨by omega, _, hd2, fun b hb tb vb => ?_⟩, fun h => by rw [q2] at h; cases h⟩
   by_cases cb : b ∈ patL vers there which v 0 8
   ·exact ((F b hb).1 cb).1
   ·rw [((F b hb).2 cb).2] at vb
    have := ver_le (vers := vers) (a := b) (by omega)
    omega
  ·obtain ⟨f1, f2⟩ := (F i hi).2 c
   rw [f1, f2]
   refine ⟨fun ti => ?_, fun ti => (ho i hi).2 ti⟩
   obtain ⟨o1, e, o2, o3⟩ := (ho i hi).1 ti
   refine ⟨o1, e, o2, fun b hb tb vb => ?_⟩
   by_cases cb : b ∈ patL vers there which v 0 8
   ·rw [((F b hb).1 cb).2] at vb
    have := ver_le (vers := vers) (a := i) (by omega)
    omega
   ·obtain ⟨k1, k2⟩ := (F b hb).2 cb
    rw [k2] at vb
    rw [k1]
    exact o3 b hb tb vb
theorem patch_read (cs : stripeV kind vals vers there = true) (hr : readL kind vers there = some v) (hT : Told1 kind vals vers there v d) (ha : a < 4) (hdif : 1 ≤ dif ∧ dif ≤ 30) {w : Int} {e : List Int}
  (hw : readL kind (setAll (fun _ => topV vers 0 + 1) (patL vers there which v 0 8) vers) there = some w)
  (he : Told1 kind (setAll (patD vals (allV kind (difV a dif))) (patL vers there which v 0 8) vals) (setAll (fun _ => topV vers 0 + 1) (patL vers there which v 0 8) vers) there w e) :
  w < v ∨ (w = v ∧ e = d) ∨ (v < w ∧ w = topV vers 0 + 1 ∧ e = d.set a ((d.getD a 0 + dif) % 31)) := by
 obtain ⟨hk, hf, h1, h2, h3, ho⟩ := stripe_iff.1 cs
 have F := fun j (hj : j < 8) => patch_facts (which := which) cs hT ha hdif hj
 have hd2 : V4 (d.set a ((d.getD a 0 + dif) % 31)) := hT.1.set _ (El.mod _)
 have cx0 : covV kind (setAll (fun _ => topV vers 0 + 1) (patL vers there which v 0 8) vers) there w = true := List.find?_some hw
 have cx : covL kind (ofL (setAll (fun _ => topV vers 0 + 1) (patL vers there which v 0 8) vers) there w) = true := cx0
 by_cases c : w = topV vers 0 + 1
 ·refine .inr (.inr ⟨?_, c, ?_⟩)
  ·obtain ⟨i, hi, ti, rfl⟩ := versL_mem.1 (List.mem_of_find?_eq_some hr)
   have := ver_le (vers := vers) (a := i) (by omega)
   omega
  ·refine cov_uniq hk cx he.1 hd2 fun j hj => ?_
   obtain ⟨q1, q2, q3⟩ := ofL_mem'.1 hj
   by_cases cj : j ∈ patL vers there which v 0 8
   ·exact (he.2 j hj).symm.trans ((F j q1).1 cj).1
   ·rw [((F j q1).2 cj).2] at q3
    have := ver_le (vers := vers) (a := j) (by omega)
    omega
 ·have sub : ∀ j ∈ ofL (setAll (fun _ => topV vers 0 + 1) (patL vers there which v 0 8) vers) there w, j < 8 ∧ j ∈ ofL vers there w ∧ j ∉ patL vers there which v 0 8 := fun j hj => by
   obtain ⟨q1, q2, q3⟩ := ofL_mem'.1 hj
   by_cases cj : j ∈ patL vers there which v 0 8
   ·rw [((F j q1).1 cj).2] at q3; exact absurd q3.symm c
   ·rw [((F j q1).2 cj).2] at q3
    exact ⟨q1, ofL_mem'.2 ⟨q1, q2, q3⟩, cj⟩
  obtain ⟨u, hu, hle⟩ := readL_ge hk (vers := vers) (there := there) (v := w) (covL_mono (fun j hj => (sub j hj).2.1) cx)
  rw [hr] at hu
  obtain rfl := Option.some.inj hu
  by_cases cw : w = v
  ·subst cw
   refine .inr (.inl ⟨rfl, cov_uniq hk cx he.1 hT.1 fun j hj => ?_⟩)
   obtain ⟨q1, q2, q3⟩ := sub j hj
   exact (he.2 j hj).symm.trans (((F j q1).2 q3).1.trans (hT.2 j q2))
  ·exact .inl (by omega)
end
end Go.Proofs.YtnbighmbgmjbkaaGreat.E
namespace Go.Proofs.YtnbighmbgmjbkaaGreat.Pure.FnPatchHalf
open Go Go.Proofs.YtnbighmbgmjbkaaGreat.E
theorem pure {β : Type} (l : List Int) (hl : ∀ x ∈ l, 0 ≤ x ∧ x ≤ 255) (K : Bool → Option β) : laws_FnPatchHalf.G sl1 l K = K true := by
 obtain ⟨kind, vals, vers, there, which, at_, dif, hs, hw, hd⟩ := drawPatch hl
 have l1 := hs.l1
 have l2 := hs.l2
 have l3 := hs.l3
 unfold laws_FnPatchHalf.G
 by_cases h : 1048576 < (l.length : Int)
 ·exact cT (ltT h) rfl
 obtain ⟨m1, m2, m3⟩ := patchV_len (N := 8) (kind := kind) (at_ := at_) (dif := dif) (which := which) (Nat.le_of_eq l1) (Nat.le_of_eq l2) (Nat.le_of_eq l3)
 have same := fun {γ : Type} (K : Bool → Option γ) => lkStripe_same (patchV kind vals vers there at_ dif which).2.1 (Nat.le_trans m1 (by omega)) (Nat.le_trans m2 (by omega)) (Nat.le_trans m3 (by omega)) K
 refine cF (ltF (by omega)) ((hd _ _).trans ((patchS_G kind vals vers there at_ dif which (by omega) _).trans ((patchI_G kind vals vers there at_ dif which _).trans (cF (bne_self_eq_false _) ((same _).trans (cF rfl ?_))))))
 cases ok : (patchV kind vals vers there at_ dif which).2.2
 ·exact cT rfl (cT rfl (same _))
 have facts : stripeV kind vals vers there = true ∧ patchOk at_ dif = true ∧ (readL kind vers there).isSome = true ∧ topV vers 0 < 99 ∧ patchV kind vals vers there at_ dif which = ((setAll (patD vals (allV kind (difV at_.toNat dif))) (patL vers there which ((readL kind vers there).getD 0) 0 8) vals, setAll (fun _ => topV vers 0 + 1) (patL vers there which ((readL kind vers there).getD 0) 0 8) vers, there), kind, true) := by
  unfold patchV at ok ⊢
  cases c1 : stripeV kind vals vers there && (patchOk at_ dif && decide (which.length = 8))
  ·rw [c1] at ok; cases ok
  ·cases c2 : (readL kind vers there).isSome && decide (topV vers 0 < 99)
   ·rw [c1, c2] at ok; cases ok
   ·simp only [Bool.and_eq_true, decide_eq_true_eq] at c1 c2
    exact ⟨c1.1, c1.2.1, c2.1, c2.2, rfl⟩
 obtain ⟨cs, cp, hr, ht, e⟩ := facts
 obtain ⟨hk, hf, h1, h2, h3, _⟩ := stripe_iff.1 cs
 obtain ⟨d, hT, er⟩ := stripeRead_E cs
 obtain ⟨v, hv⟩ := Option.isSome_iff_exists.1 hr
 unfold Tells at hT
 rw [hv] at hT er e
 have hT : Told1 kind vals vers there v d := hT
 unfold patchOk at cp
 rw [Bool.and_eq_true, inV_iff, inV_iff] at cp
 obtain ⟨a, rfl⟩ := Int.eq_ofNat_of_zero_le cp.1.1
 have ha : a < 4 := by omega
 rw [Int.toNat_natCast] at e
 have e : patchV kind vals vers there (a : Int) dif which = ((setAll (patD vals (allV kind (difV a dif))) (patL vers there which v 0 8) vals, setAll (fun _ => topV vers 0 + 1) (patL vers there which v 0 8) vers, there), kind, true) := e
 have hx := patch_stripe (which := which) cs hT ha cp.2 ht
 obtain ⟨y, hY, ey⟩ := stripeRead_E hx
 have hl := hT.1.len
 have t0 := (topV_ge vers 0).1
 rw [e]
 refine cF rfl ((er _ _).trans ((ey _ _).trans ?_))
 unfold Tells at hY
 cases hw' : readL kind (setAll (fun _ => topV vers 0 + 1) (patL vers there which v 0 8) vers) there with
 | none => exact cT rfl rfl
 | some w =>
  rw [hw'] at hY
  have hY : Told1 kind (setAll (patD vals (allV kind (difV a dif))) (patL vers there which v 0 8) vals) (setAll (fun _ => topV vers 0 + 1) (patL vers there which v 0 8) vers) there w y := hY
  refine cF rfl ?_
  show (bif sl1.lt w v then _ else _) = _
  rcases patch_read cs hv hT ha cp.2 hw' hY with c | ⟨c, rfl⟩ | ⟨c, c2, rfl⟩
  ·exact cT (ltT c) rfl
  ·exact cF (ltF (by omega)) (cT (eqT c) (lkInts_same _ (by omega) _))
  ·refine cF (ltF (show v ≤ w by omega)) (cF (eqF (show w ≠ v by omega)) ((patchData_G hT.1 ha cp.2 _).trans ((lkInts_same _ (by have := hT.1.len; rw [List.length_set]; omega) _).trans (cT rfl ((stripeTop_G cs _).trans ?_)))))
   rw [wE (by omega) (by omega)]
   exact congrArg K (eqT c2)
end Go.Proofs.YtnbighmbgmjbkaaGreat.Pure.FnPatchHalf
end
section
set_option linter.unusedVariables false
set_option linter.unusedSimpArgs false
namespace Go.Proofs.YtnbighmbgmjbkaaGreat.fnPatchHalf
open Go.ChangeShapes Go.WideShapes Go.ChangeAt Go.RowKit
open Go.ChangeMaps (open_string shut_string)
set_option linter.unusedVariables false
theorem own : ownKnob Tryz.prog.godebug = none := by kernel_rfl
theorem laidOut : laidOutB Tryz.prog = true := by kernel_rfl
set_option maxRecDepth 100000 in
theorem lifted (os : Os) (started : os.Started) (H : Type) (enc : TypeId × Value → H) :
  ReturnsInHanded {} Tryz.checked os 4 .any (Rows.fnPatchHalfSpec.pre6 enc Tryz.prog Tryz.f4 Rows.fnPatchHalfRow.domain false) (Rows.fnPatchHalfSpec.post enc Tryz.prog Tryz.f4 false true false false) := by
 refine returnsInHanded_of_change_sized (C := Tryz.checked) own started (by kernel_rfl) Tryz.func4
  (ChangeSpec.witness6 (enc := enc) (C := Tryz.checked) false ⟨#[], #[.slice none 0 0], []⟩ 8 (by kernel_rfl) (by kernel_rfl) (by kernel_rfl) (by kernel_rfl)) ?_
 intro W base args ds gs before hval0 hW hcnd hsz0 _
 have hval : ∀ (j : Nat) t v, Tryz.f4.params[j]? = some t → args[j]? = some v → Value.okWide Tryz.prog W .any base t v := hval0
 have hW' := hW
 obtain ⟨p, q, hA0, hV, rfl, hfz, hnd⟩ := hW
 have hA : DataW.TrodAll enc Tryz.prog W 0 (fun _ => true) true Tryz.f4.params.toList args.toList ds p := hA0
 rw [Tryz.params4] at hA hval
 obtain ⟨v0, vs0, d0, ds0, p0, q0, hargs, rfl, rfl, h0, r0⟩ := trodAll_cons hA
 obtain ⟨rfl, rfl, rfl⟩ := trodAll_nil r0
 obtain rfl : args = #[v0] := by cases args; simp_all
 obtain ⟨rfl, rfl⟩ := trodVars_none hV
 obtain ⟨a0, len0, cap0, rfl⟩ := okWide_slice Tryz.underlying22 (hval 0 22 v0 rfl rfl)
 have k0 := h0
 have lt0 : ∀ x ∈ p0, x.block < W.heap.size := by obtain ⟨m, hm⟩ := k0; exact DataW.trod_lt m _ _ _ hm
 obtain ⟨z0, w0, b0⟩ : ∃ zs, E.IsRowK .u8 W a0 len0 cap0 zs ∧ (∀ x ∈ zs, (Lit.int .u8 x).wf = true) := by
  obtain ⟨fuel, hf⟩ := h0
  rcases open_ints Tryz.underlying22 Tryz.underlying5 (by kernel_rfl) hf with ⟨hcs, _⟩ | ⟨x, l, c, zs, hcs, _, hl, hm, hz, _, hcell, hwz⟩
  ·simp [Value.cells] at hcs
   obtain ⟨rfl, rfl, rfl⟩ := hcs
   exact ⟨[], .inl ⟨rfl, rfl, rfl, rfl⟩, by simp⟩
  ·simp [Value.cells] at hcs
   obtain ⟨rfl, rfl, rfl⟩ := hcs
   exact ⟨zs, .inr ⟨_, rfl, hl, by simpa using hz, hcell⟩, hwz⟩
 clear hA0 hval0 hsz0
 have hp := Pure.FnPatchHalf.pure (z0.take len0) (fun x hx => E.byte_wf (b0 x (List.mem_of_mem_take hx))) (fun b => some ((), (b, ())))
 rw [← E.sl_eq] at hp
 refine (E.law_bytes E.laws_FnPatchHalf.ok w0 hp).mono fun e W' ⟨he, bel⟩ => ?_
 subst he
 exact ⟨_, rfl, _, _, _, [], _, [], hW', trodAll_mk1 (shut_bool Tryz.underlying4 _), (trodAll_cons_mk (Below.trod laidOut (by kernel_rfl) (of_decide_eq_true (by kernel_rfl)) k0 bel lt0) trodAll_mk0), rfl, bel.frame _, fun h => by cases h⟩
theorem closed : joinedFacts Tryz.prog 4 Tryz.f4 Rows.fnPatchHalfSpec Rows.fnPatchHalfRow = true := by
 unfold joinedFacts
 rw [Head.make, Head.final, Head.enter]
 kernel_rfl
theorem over : Rows.fnPatchHalfRow.holds Tryz.pinned (OpenSpec.ofChange Rows.fnPatchHalfSpec) :=
 OpenClaim.holds_of_wide 4 Tryz.f4 rfl rfl rfl rfl rfl rfl rfl ⟨rfl, rfl, rfl, rfl, rfl⟩ rfl rfl rfl rfl rfl (by kernel_rfl) Tryz.func4 closed
  (of_decide_eq_true (by kernel_rfl)) (by unfold Func.isWrapper; first | (rw [if_pos (by decide +kernel)]; kernel_rfl) | (rw [if_neg (by decide +kernel)]; exact ⟨rfl, rfl⟩))
  (fun os started H enc _ => lifted os started H enc)
theorem proved : Rows.FnPatchHalfSaid := over
#print axioms proved
end Go.Proofs.YtnbighmbgmjbkaaGreat.fnPatchHalf
end
