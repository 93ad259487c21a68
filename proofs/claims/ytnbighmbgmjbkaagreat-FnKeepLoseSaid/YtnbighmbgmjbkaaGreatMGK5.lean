/- What the functions of several statements compute, step by step. No condition. -/
import Derived.Test.YtnbighmbgmjbkaaGreatRows
import Derived.WalkKit
import Derived.JoinedOf
import Derived.Test.YtnbighmbgmjbkaaGreatMGK2
import Derived.Test.YtnbighmbgmjbkaaGreatMGK3
import Derived.Test.YtnbighmbgmjbkaaGreatMGK4
section
set_option linter.unusedVariables false
set_option linter.unusedSimpArgs false
namespace Go.Proofs.YtnbighmbgmjbkaaGreat.E
open Go Go.RowKit
set_option linter.unusedVariables false
set_option maxRecDepth 100000
namespace spec_l41Sum
def sin : Sig := ⟨[], [.one (.val I false), .one (.val I false), .one (.val I false)]⟩
def sout : Sig := ⟨[], [.one (.val I false)]⟩
noncomputable def G {β : Type} (S : Sl) (a0 : Int) (a1 : Int) (a2 : Int) (K : Int → Option β) : Option β := K (S.w ((Int.tmod (S.w ((S.w ((S.w ((3 : Int) * a0)) + (S.w ((5 : Int) * a1)))) + (S.w ((7 : Int) * a2)))) 89) + 1))
noncomputable def o : Orac := ⟨206, sin, sout, fun s K => G sl0 s.2.1 s.2.2.1 s.2.2.2.1 (fun x0 => K ((), (x0, ())))⟩
noncomputable def C : Ctx := ⟨tyT, [], [], 17, 0⟩
theorem ctx : CtxOk Tryz.prog C := ⟨tyOk, all0⟩
theorem eG (β : Type) (s : sin.den) (K : sout.den → Option β) : evalFn C Tryz.f206 sin sout s K = o.F s K := by kernel_rfl
theorem ok : OracOk Tryz.prog o := fn_ok mixed Tryz.func206 (by kernel_rfl) ctx (c := bodyC Tryz.f206) (by kernel_rfl) (all0) (by kernel_rfl) (by kernel_rfl) (by kernel_rfl) (Nat.le_of_ble_eq_true (by kernel_rfl)) eG (by kernel_rfl) (Nat.le_of_ble_eq_true (by kernel_rfl))
end spec_l41Sum
end Go.Proofs.YtnbighmbgmjbkaaGreat.E
end
section
set_option linter.unusedVariables false
set_option linter.unusedSimpArgs false
namespace Go.Proofs.YtnbighmbgmjbkaaGreat.E
open Go Go.RowKit
set_option linter.unusedVariables false
set_option maxRecDepth 100000
namespace spec_RotWrite
def sin : Sig := ⟨[], [.agg [.val I false, .val (.sl I) false, .val (.sl I) false, .val (.sl .bool) false]]⟩
def sout : Sig := ⟨[.buf (.pair I (.pair I (.pair I .unit))) false], [.one (.ref (.own 0))]⟩
def h5 : SS := ⟨[1, 3, 4], ⟨[.box [.val I false, .val (.sl I) false, .val (.sl I) false, .val (.sl .bool) false], .buf (.pair I (.pair I (.pair I .unit))) false], [.one (.ref (.ptr 0)), .one (.ref (.own 1)), .one (.val I false)]⟩⟩
def x5 : SS := ⟨[3], ⟨[.buf (.pair I (.pair I (.pair I .unit))) false], [.one (.ref (.own 0))]⟩⟩
def y5 : SS := ⟨[], ⟨[], []⟩⟩
noncomputable def b5 {β : Type} (S : Sl) (L : Int → (List Int) → (List Int) → (List Bool) → (List (Int × (Int × (Int × Unit)))) → Int → Option β) (kx : (List (Int × (Int × (Int × Unit)))) → Option β) (kr : Option β) (s0 : Int) (s1 : (List Int)) (s2 : (List Int)) (s3 : (List Bool)) (s4 : (List (Int × (Int × (Int × Unit))))) (s5 : Int) : Option β := bif (S.lt s5 8) then (bif (S.ir s5 s3.length) then (bif (List.getD s3 (Int.toNat s5) false) then (bif (S.ir s5 s1.length) then (bif (S.ir s5 s2.length) then (bif (S.ir s5 s1.length) then (bif (S.ir s5 s2.length) then (spec_l41Sum.G S (List.getD s1 (Int.toNat s5) 0) (List.getD s2 (Int.toNat s5) 0) s5 (fun y1 => bif (S.fw (s4 ++ [((List.getD s1 (Int.toNat s5) 0), ((List.getD s2 (Int.toNat s5) 0), (y1, ())))]).length) then (L s0 s1 s2 s3 (s4 ++ [((List.getD s1 (Int.toNat s5) 0), ((List.getD s2 (Int.toNat s5) 0), (y1, ())))]) (S.w (s5 + 1))) else (none))) else (none)) else (none)) else (none)) else (none)) else (bif (S.fw (s4 ++ [(0, (0, (0, ())))]).length) then (L s0 s1 s2 s3 (s4 ++ [(0, (0, (0, ())))]) (S.w (s5 + 1))) else (none))) else (none)) else (kx s4)
noncomputable def r5 {β : Type} (S : Sl) (n : Nat) (kx : x5.sig.den → Option β) (kr : y5.sig.den → Option β) (s : h5.sig.den) : Option β := rounds (fun L kx kr s => b5 S (fun x0 x1 x2 x3 x4 x5 => L (((x0, (x1, (x2, (x3, ())))), (x4, ())), (x5, ()))) (fun x0 => kx ((x0, ()), ())) (kr ((), ())) s.1.1.1 s.1.1.2.1 s.1.1.2.2.1 s.1.1.2.2.2.1 s.1.2.1 s.2.1) kx kr n s
noncomputable def l5 {β : Type} (S : Sl) (n : Nat) (kx : (List (Int × (Int × (Int × Unit)))) → Option β) (kr : Option β) (s0 : Int) (s1 : (List Int)) (s2 : (List Int)) (s3 : (List Bool)) (s4 : (List (Int × (Int × (Int × Unit))))) (s5 : Int) : Option β := r5 S n (fun s => kx s.1.1) (fun s => kr) (((s0, (s1, (s2, (s3, ())))), (s4, ())), (s5, ()))
theorem t5 {β : Type} (S : Sl) (n : Nat) (kx : (List (Int × (Int × (Int × Unit)))) → Option β) (kr : Option β) (s0 : Int) (s1 : (List Int)) (s2 : (List Int)) (s3 : (List Bool)) (s4 : (List (Int × (Int × (Int × Unit))))) (s5 : Int) : l5 S (n + 1) kx kr s0 s1 s2 s3 s4 s5 = b5 S (l5 S n kx kr) kx kr s0 s1 s2 s3 s4 s5 := by kernel_rfl
noncomputable def G {β : Type} (S : Sl) (a0 : Int) (a1 : (List Int)) (a2 : (List Int)) (a3 : (List Bool)) (K : (List (Int × (Int × (Int × Unit)))) → Option β) : Option β := spec_StripeOk.G S a0 a1 a2 a3 (fun y1 => bif (!y1) then (K []) else (l5 S S.n (fun y2 => K y2) none a0 a1 a2 a3 [] 0))
noncomputable def o : Orac := ⟨160, sin, sout, fun s K => G sl0 s.2.1.1 s.2.1.2.1 s.2.1.2.2.1 s.2.1.2.2.2.1 (fun x0 => K ((x0, ()), ()))⟩
noncomputable def C : Ctx := ⟨tyT, [spec_StripeOk.o, spec_l41Sum.o], [⟨5, 0, h5, x5, y5, fun s kx kr => r5 sl0 sl0.n kx kr s⟩], 49, 0⟩
theorem ctx : CtxOk Tryz.prog C := ⟨tyOk, all1 spec_StripeOk.ok (all1 spec_l41Sum.ok (all0))⟩
theorem e5 (β : Type) (L : h5.sig.den → Option β) (kx : x5.sig.den → Option β) (kr : y5.sig.den → Option β) (s : h5.sig.den) : evalBody C (nthC (loopsOf (bodyC Tryz.f160)) 0) 0 h5 x5 y5 L kx kr s = b5 sl0 (fun x0 x1 x2 x3 x4 x5 => L (((x0, (x1, (x2, (x3, ())))), (x4, ())), (x5, ()))) (fun x0 => kx ((x0, ()), ())) (kr ((), ())) s.1.1.1 s.1.1.2.1 s.1.1.2.2.1 s.1.1.2.2.2.1 s.1.2.1 s.2.1 := by kernel_rfl
theorem g5 : LS Tryz.prog C ⟨5, 0, h5, x5, y5, fun s kx kr => r5 sl0 sl0.n kx kr s⟩ (loopsOf (bodyC Tryz.f160)) := LS.at (i := 0) (by kernel_rfl) (loop_good mixed ctx (ctx_nat ctx) (N := sl0.n) (fun _ _ _ _ => rfl) e5 (all1 (LS.none (by kernel_rfl)) (all0)))
theorem eG (β : Type) (s : sin.den) (K : sout.den → Option β) : evalFn C Tryz.f160 sin sout s K = o.F s K := by kernel_rfl
theorem ok : OracOk Tryz.prog o := fn_ok mixed Tryz.func160 (by kernel_rfl) ctx (c := bodyC Tryz.f160) (by kernel_rfl) (all1 g5 (all0)) (by kernel_rfl) (by kernel_rfl) (by kernel_rfl) (Nat.le_of_ble_eq_true (by kernel_rfl)) eG (by kernel_rfl) (Nat.le_of_ble_eq_true (by kernel_rfl))
end spec_RotWrite
end Go.Proofs.YtnbighmbgmjbkaaGreat.E
end
section
set_option linter.unusedVariables false
set_option linter.unusedSimpArgs false
namespace Go.Proofs.YtnbighmbgmjbkaaGreat.E
open Go Go.RowKit
set_option linter.unusedVariables false
set_option maxRecDepth 100000
namespace impl_shardOk
def sin : Sig := ⟨[], [.one (.val I false)]⟩
def sout : Sig := ⟨[], [.one (.val .bool false)]⟩
noncomputable def G {β : Type} (S : Sl) (a0 : Int) (K : Bool → Option β) : Option β := impl_within.G S a0 0 7 (fun y1 => K y1)
noncomputable def o : Orac := ⟨116, sin, sout, fun s K => G sl0 s.2.1 (fun x0 => K ((), (x0, ())))⟩
noncomputable def C : Ctx := ⟨tyT, [impl_within.o], [], 5, 0⟩
theorem ctx : CtxOk Tryz.prog C := ⟨tyOk, all1 impl_within.ok (all0)⟩
theorem eG (β : Type) (s : sin.den) (K : sout.den → Option β) : evalFn C Tryz.f116 sin sout s K = o.F s K := by kernel_rfl
theorem ok : OracOk Tryz.prog o := fn_ok mixed Tryz.func116 (by kernel_rfl) ctx (c := bodyC Tryz.f116) (by kernel_rfl) (all0) (by kernel_rfl) (by kernel_rfl) (by kernel_rfl) (Nat.le_of_ble_eq_true (by kernel_rfl)) eG (by kernel_rfl) (Nat.le_of_ble_eq_true (by kernel_rfl))
end impl_shardOk
end Go.Proofs.YtnbighmbgmjbkaaGreat.E
end
section
set_option linter.unusedVariables false
set_option linter.unusedSimpArgs false
namespace Go.Proofs.YtnbighmbgmjbkaaGreat.E
open Go Go.RowKit
set_option linter.unusedVariables false
set_option maxRecDepth 100000
namespace impl_StripeLose
def sin : Sig := ⟨[], [.agg [.val I false, .val (.sl I) false, .val (.sl I) false, .val (.sl .bool) false], .one (.val I false)]⟩
def sout : Sig := ⟨[.buf I false, .buf I false, .buf .bool false], [.agg [.val I false, .ref (.own 0), .ref (.own 1), .ref (.own 2)]]⟩
noncomputable def G {β : Type} (S : Sl) (a0 : Int) (a1 : (List Int)) (a2 : (List Int)) (a3 : (List Bool)) (a4 : Int) (K : (List Int) → (List Int) → (List Bool) → Int → Option β) : Option β := impl_StripeOk.G S a0 a1 a2 a3 (fun y1 => bif (!y1) then (K [] [] [] 0) else (impl_shardOk.G S a4 (fun y2 => bif (!y2) then (K [] [] [] 0) else (impl_Stripe_copied.G S a0 a1 a2 a3 (fun y3 y4 y5 y6 => impl_Stripe_drop.G S y3 y4 y5 y6 a4 (fun y7 y8 y9 => K y7 y8 y9 y6))))))
noncomputable def o : Orac := ⟨57, sin, sout, fun s K => G sl0 s.2.1.1 s.2.1.2.1 s.2.1.2.2.1 s.2.1.2.2.2.1 s.2.2.1 (fun x0 x1 x2 x3 => K ((x0, (x1, (x2, ()))), ((x3, ()), ())))⟩
noncomputable def C : Ctx := ⟨tyT, [impl_StripeOk.o, impl_Stripe_copied.o, impl_Stripe_drop.o, impl_shardOk.o], [], 21, 0⟩
theorem ctx : CtxOk Tryz.prog C := ⟨tyOk, all1 impl_StripeOk.ok (all1 impl_Stripe_copied.ok (all1 impl_Stripe_drop.ok (all1 impl_shardOk.ok (all0))))⟩
theorem eG (β : Type) (s : sin.den) (K : sout.den → Option β) : evalFn C Tryz.f57 sin sout s K = o.F s K := by kernel_rfl
theorem ok : OracOk Tryz.prog o := fn_ok mixed Tryz.func57 (by kernel_rfl) ctx (c := bodyC Tryz.f57) (by kernel_rfl) (all0) (by kernel_rfl) (by kernel_rfl) (by kernel_rfl) (Nat.le_of_ble_eq_true (by kernel_rfl)) eG (by kernel_rfl) (Nat.le_of_ble_eq_true (by kernel_rfl))
end impl_StripeLose
end Go.Proofs.YtnbighmbgmjbkaaGreat.E
end
section
set_option linter.unusedVariables false
set_option linter.unusedSimpArgs false
namespace Go.Proofs.YtnbighmbgmjbkaaGreat.E
open Go Go.RowKit
set_option linter.unusedVariables false
set_option maxRecDepth 100000
namespace impl_RotSum
def sin : Sig := ⟨[], [.one (.val I false), .one (.val I false), .one (.val I false)]⟩
def sout : Sig := ⟨[], [.one (.val I false)]⟩
noncomputable def G {β : Type} (S : Sl) (a0 : Int) (a1 : Int) (a2 : Int) (K : Int → Option β) : Option β := impl_FieldOk.G S a0 (fun y1 => bif (!y1) then (K 0) else (impl_versOk.G S a1 (fun y2 => bif (!y2) then (K 0) else (impl_shardOk.G S a2 (fun y3 => bif (!y3) then (K 0) else (K (S.w ((Int.tmod (S.w ((S.w ((S.w ((3 : Int) * a0)) + (S.w ((5 : Int) * a1)))) + (S.w ((7 : Int) * a2)))) 89) + 1))))))))
noncomputable def o : Orac := ⟨208, sin, sout, fun s K => G sl0 s.2.1 s.2.2.1 s.2.2.2.1 (fun x0 => K ((), (x0, ())))⟩
noncomputable def C : Ctx := ⟨tyT, [impl_FieldOk.o, impl_shardOk.o, impl_versOk.o], [], 30, 0⟩
theorem ctx : CtxOk Tryz.prog C := ⟨tyOk, all1 impl_FieldOk.ok (all1 impl_shardOk.ok (all1 impl_versOk.ok (all0)))⟩
theorem eG (β : Type) (s : sin.den) (K : sout.den → Option β) : evalFn C Tryz.f208 sin sout s K = o.F s K := by kernel_rfl
theorem ok : OracOk Tryz.prog o := fn_ok mixed Tryz.func208 (by kernel_rfl) ctx (c := bodyC Tryz.f208) (by kernel_rfl) (all0) (by kernel_rfl) (by kernel_rfl) (by kernel_rfl) (Nat.le_of_ble_eq_true (by kernel_rfl)) eG (by kernel_rfl) (Nat.le_of_ble_eq_true (by kernel_rfl))
end impl_RotSum
end Go.Proofs.YtnbighmbgmjbkaaGreat.E
end
section
set_option linter.unusedVariables false
set_option linter.unusedSimpArgs false
namespace Go.Proofs.YtnbighmbgmjbkaaGreat.E
open Go Go.RowKit
set_option linter.unusedVariables false
set_option maxRecDepth 100000
namespace impl_Disk_intact
def sin : Sig := ⟨[], [.agg [.val I false, .val I false, .val I false], .one (.val I false)]⟩
def sout : Sig := ⟨[], [.one (.val .bool false)]⟩
noncomputable def G {β : Type} (S : Sl) (a0 : Int) (a1 : Int) (a2 : Int) (a3 : Int) (K : Bool → Option β) : Option β := bif (!S.eq a2 0) then (impl_RotSum.G S a0 a1 a3 (fun y1 => K (S.eq a2 y1))) else (K false)
noncomputable def o : Orac := ⟨207, sin, sout, fun s K => G sl0 s.2.1.1 s.2.1.2.1 s.2.1.2.2.1 s.2.2.1 (fun x0 => K ((), (x0, ())))⟩
noncomputable def C : Ctx := ⟨tyT, [impl_RotSum.o], [], 19, 0⟩
theorem ctx : CtxOk Tryz.prog C := ⟨tyOk, all1 impl_RotSum.ok (all0)⟩
theorem eG (β : Type) (s : sin.den) (K : sout.den → Option β) : evalFn C Tryz.f207 sin sout s K = o.F s K := by kernel_rfl
theorem ok : OracOk Tryz.prog o := fn_ok mixed Tryz.func207 (by kernel_rfl) ctx (c := bodyC Tryz.f207) (by kernel_rfl) (all0) (by kernel_rfl) (by kernel_rfl) (by kernel_rfl) (Nat.le_of_ble_eq_true (by kernel_rfl)) eG (by kernel_rfl) (Nat.le_of_ble_eq_true (by kernel_rfl))
end impl_Disk_intact
end Go.Proofs.YtnbighmbgmjbkaaGreat.E
end
section
set_option linter.unusedVariables false
set_option linter.unusedSimpArgs false
namespace Go.Proofs.YtnbighmbgmjbkaaGreat.E
open Go Go.RowKit
set_option linter.unusedVariables false
set_option maxRecDepth 100000
namespace spec_RotSum
def sin : Sig := ⟨[], [.one (.val I false), .one (.val I false), .one (.val I false)]⟩
def sout : Sig := ⟨[], [.one (.val I false)]⟩
noncomputable def G {β : Type} (S : Sl) (a0 : Int) (a1 : Int) (a2 : Int) (K : Int → Option β) : Option β := spec_FieldOk.G S a0 (fun y1 => bif (!y1) then (K 0) else (spec_l6In.G S a1 1 99 (fun y2 => bif (!y2) then (K 0) else (spec_l6In.G S a2 0 7 (fun y3 => bif (!y3) then (K 0) else (spec_l41Sum.G S a0 a1 a2 (fun y4 => K y4)))))))
noncomputable def o : Orac := ⟨233, sin, sout, fun s K => G sl0 s.2.1 s.2.2.1 s.2.2.2.1 (fun x0 => K ((), (x0, ())))⟩
noncomputable def C : Ctx := ⟨tyT, [spec_FieldOk.o, spec_l41Sum.o, spec_l6In.o], [], 24, 0⟩
theorem ctx : CtxOk Tryz.prog C := ⟨tyOk, all1 spec_FieldOk.ok (all1 spec_l41Sum.ok (all1 spec_l6In.ok (all0)))⟩
theorem eG (β : Type) (s : sin.den) (K : sout.den → Option β) : evalFn C Tryz.f233 sin sout s K = o.F s K := by kernel_rfl
theorem ok : OracOk Tryz.prog o := fn_ok mixed Tryz.func233 (by kernel_rfl) ctx (c := bodyC Tryz.f233) (by kernel_rfl) (all0) (by kernel_rfl) (by kernel_rfl) (by kernel_rfl) (Nat.le_of_ble_eq_true (by kernel_rfl)) eG (by kernel_rfl) (Nat.le_of_ble_eq_true (by kernel_rfl))
end spec_RotSum
end Go.Proofs.YtnbighmbgmjbkaaGreat.E
end
section
set_option linter.unusedVariables false
set_option linter.unusedSimpArgs false
namespace Go.Proofs.YtnbighmbgmjbkaaGreat.E
open Go Go.RowKit
set_option linter.unusedVariables false
set_option maxRecDepth 100000
namespace spec_l41Good
def sin : Sig := ⟨[], [.agg [.val I false, .val I false, .val I false], .one (.val I false)]⟩
def sout : Sig := ⟨[], [.one (.val .bool false)]⟩
noncomputable def G {β : Type} (S : Sl) (a0 : Int) (a1 : Int) (a2 : Int) (a3 : Int) (K : Bool → Option β) : Option β := bif (S.lt 0 a2) then (spec_RotSum.G S a0 a1 a3 (fun y1 => K (S.eq y1 a2))) else (K false)
noncomputable def o : Orac := ⟨205, sin, sout, fun s K => G sl0 s.2.1.1 s.2.1.2.1 s.2.1.2.2.1 s.2.2.1 (fun x0 => K ((), (x0, ())))⟩
noncomputable def C : Ctx := ⟨tyT, [spec_RotSum.o], [], 19, 0⟩
theorem ctx : CtxOk Tryz.prog C := ⟨tyOk, all1 spec_RotSum.ok (all0)⟩
theorem eG (β : Type) (s : sin.den) (K : sout.den → Option β) : evalFn C Tryz.f205 sin sout s K = o.F s K := by kernel_rfl
theorem ok : OracOk Tryz.prog o := fn_ok mixed Tryz.func205 (by kernel_rfl) ctx (c := bodyC Tryz.f205) (by kernel_rfl) (all0) (by kernel_rfl) (by kernel_rfl) (by kernel_rfl) (Nat.le_of_ble_eq_true (by kernel_rfl)) eG (by kernel_rfl) (Nat.le_of_ble_eq_true (by kernel_rfl))
end spec_l41Good
end Go.Proofs.YtnbighmbgmjbkaaGreat.E
end
section
set_option linter.unusedVariables false
set_option linter.unusedSimpArgs false
namespace Go.Proofs.YtnbighmbgmjbkaaGreat.E
open Go Go.RowKit
set_option linter.unusedVariables false
set_option maxRecDepth 100000
abbrev Dk' := Int × Int × Int × Unit
def rotRaw (a b c : Int) : Int := sl1.w ((Int.tmod (sl1.w ((sl1.w ((sl1.w ((3 : Int) * a)) + (sl1.w ((5 : Int) * b)))) + (sl1.w ((7 : Int) * c)))) 89) + 1)
def rotV (a b c : Int) : Int := bif inV a 0 30 && (inV b 1 99 && inV c 0 7) then rotRaw a b c else 0
theorem rot_impl {β : Type} (a b c : Int) (K : Int → Option β) : impl_RotSum.G sl1 a b c K = K (rotV a b c) := by
 unfold impl_RotSum.G rotV
 refine (impl_field _ _).trans ?_
 cases h1 : inV a 0 30
 ·exact cT rfl rfl
 refine cF rfl ((impl_in b 1 99 _).trans ?_)
 cases h2 : inV b 1 99
 ·exact cT rfl rfl
 refine cF rfl ((impl_in c 0 7 _).trans ?_)
 cases h3 : inV c 0 7
 ·exact cT rfl rfl
 exact cF rfl rfl
theorem rot_spec {β : Type} (a b c : Int) (K : Int → Option β) : spec_RotSum.G sl1 a b c K = K (rotV a b c) := by
 unfold spec_RotSum.G rotV
 refine (spec_field _ _).trans ?_
 cases h1 : inV a 0 30
 ·exact cT rfl rfl
 refine cF rfl ((spec_in b 1 99 _).trans ?_)
 cases h2 : inV b 1 99
 ·exact cT rfl rfl
 refine cF rfl ((spec_in c 0 7 _).trans ?_)
 cases h3 : inV c 0 7
 ·exact cT rfl rfl
 exact cF rfl rfl
theorem rotV_pos (a b c : Int) : 0 ≤ rotV a b c := by
 unfold rotV
 cases h : inV a 0 30 && (inV b 1 99 && inV c 0 7)
 ·exact Int.le_refl _
 ·simp only [Bool.and_eq_true, inV_iff] at h
  obtain ⟨h1, h2, h3⟩ := h
  show 0 ≤ rotRaw a b c
  unfold rotRaw
  rw [wE (a := 3 * a) (by omega) (by omega), wE (a := 5 * b) (by omega) (by omega), wE (a := 7 * c) (by omega) (by omega), wE (a := 3 * a + 5 * b) (by omega) (by omega), wE (a := 3 * a + 5 * b + 7 * c) (by omega) (by omega)]
  have := tmod_in (a := 3 * a + 5 * b + 7 * c) (n := 89) (by omega) (by omega)
  rw [wE (by omega) (by omega)]; omega
def zeroD (d : Dk') : Bool := sl1.eq d.1 0 && (sl1.eq d.2.1 0 && (sl1.eq d.2.2.1 0 && true))
def goodV (d : Dk') (i : Int) : Bool := !(d.2.2.1 == 0) && (d.2.2.1 == rotV d.1 d.2.1 i)
theorem good_impl {β : Type} (d : Dk') (i : Int) (K : Bool → Option β) : impl_Disk_intact.G sl1 d.1 d.2.1 d.2.2.1 i K = K (goodV d i) := by
 unfold impl_Disk_intact.G goodV
 by_cases h : d.2.2.1 = 0
 ·rw [show (d.2.2.1 == 0) = true from beq_iff_eq.2 h]
  exact cF (neF h) rfl
 ·rw [show (d.2.2.1 == 0) = false from beq_eq_false_iff_ne.2 h]
  exact cT (neT h) ((rot_impl _ _ _ _).trans rfl)
theorem good_spec {β : Type} (d : Dk') (i : Int) (K : Bool → Option β) : spec_l41Good.G sl1 d.1 d.2.1 d.2.2.1 i K = K (goodV d i) := by
 unfold spec_l41Good.G goodV
 have hp := rotV_pos d.1 d.2.1 i
 by_cases h : 0 < d.2.2.1
 ·rw [show (d.2.2.1 == 0) = false from beq_eq_false_iff_ne.2 (by omega)]
  refine cT (ltT h) ((rot_spec _ _ _ _).trans ?_)
  rw [eq_def, Bool.not_false, Bool.true_and, Bool.beq_comm]
 ·refine cF (ltF (by omega)) ?_
  by_cases h0 : d.2.2.1 = 0
  ·rw [show (d.2.2.1 == 0) = true from beq_iff_eq.2 h0]; rfl
  ·rw [show (d.2.2.1 == rotV d.1 d.2.1 i) = false from beq_eq_false_iff_ne.2 (by omega), Bool.and_false]
end Go.Proofs.YtnbighmbgmjbkaaGreat.E
end
section
set_option linter.unusedVariables false
set_option linter.unusedSimpArgs false
namespace Go.Proofs.YtnbighmbgmjbkaaGreat.E
open Go Go.RowKit
set_option linter.unusedVariables false
set_option maxRecDepth 100000
namespace impl_blocks
def sin : Sig := ⟨[], [.agg [.val I false, .val (.sl I) false, .val (.sl I) false, .val (.sl .bool) false]]⟩
def sout : Sig := ⟨[.buf (.pair I (.pair I (.pair I .unit))) false], [.one (.ref (.own 0))]⟩
def h3 : SS := ⟨[1, 3, 9, 10, 11], ⟨[.box [.val I false, .val (.sl I) false, .val (.sl I) false, .val (.sl .bool) false], .buf (.pair I (.pair I (.pair I .unit))) false, .buf I false], [.one (.ref (.ptr 0)), .one (.ref (.own 1)), .one (.ref (.own 2)), .one (.val I false), .one (.val I false)]⟩⟩
def x3 : SS := ⟨[3], ⟨[.buf (.pair I (.pair I (.pair I .unit))) false], [.one (.ref (.own 0))]⟩⟩
def y3 : SS := ⟨[], ⟨[], []⟩⟩
noncomputable def b3 {β : Type} (S : Sl) (L : Int → (List Int) → (List Int) → (List Bool) → (List (Int × (Int × (Int × Unit)))) → (List Int) → Int → Int → Option β) (kx : (List (Int × (Int × (Int × Unit)))) → Option β) (kr : Option β) (s0 : Int) (s1 : (List Int)) (s2 : (List Int)) (s3 : (List Bool)) (s4 : (List (Int × (Int × (Int × Unit))))) (s5 : (List Int)) (s6 : Int) (s7 : Int) : Option β := bif (S.lt s7 s6) then (bif (S.ir s7 s5.length) then (bif (S.ir (List.getD s5 (Int.toNat s7) 0) s1.length) then (bif (S.ir (List.getD s5 (Int.toNat s7) 0) s2.length) then (bif (S.ir (List.getD s5 (Int.toNat s7) 0) s1.length) then (bif (S.ir (List.getD s5 (Int.toNat s7) 0) s2.length) then (impl_RotSum.G S (List.getD s1 (Int.toNat (List.getD s5 (Int.toNat s7) 0)) 0) (List.getD s2 (Int.toNat (List.getD s5 (Int.toNat s7) 0)) 0) (List.getD s5 (Int.toNat s7) 0) (fun y1 => bif (S.ir (List.getD s5 (Int.toNat s7) 0) s4.length) then (L s0 s1 s2 s3 (List.set s4 (Int.toNat (List.getD s5 (Int.toNat s7) 0)) ((List.getD s1 (Int.toNat (List.getD s5 (Int.toNat s7) 0)) 0), ((List.getD s2 (Int.toNat (List.getD s5 (Int.toNat s7) 0)) 0), (y1, ())))) s5 s6 (S.w (s7 + 1))) else (none))) else (none)) else (none)) else (none)) else (none)) else (none)) else (kx s4)
noncomputable def r3 {β : Type} (S : Sl) (n : Nat) (kx : x3.sig.den → Option β) (kr : y3.sig.den → Option β) (s : h3.sig.den) : Option β := rounds (fun L kx kr s => b3 S (fun x0 x1 x2 x3 x4 x5 x6 x7 => L (((x0, (x1, (x2, (x3, ())))), (x4, (x5, ()))), (x6, (x7, ())))) (fun x0 => kx ((x0, ()), ())) (kr ((), ())) s.1.1.1 s.1.1.2.1 s.1.1.2.2.1 s.1.1.2.2.2.1 s.1.2.1 s.1.2.2.1 s.2.1 s.2.2.1) kx kr n s
noncomputable def l3 {β : Type} (S : Sl) (n : Nat) (kx : (List (Int × (Int × (Int × Unit)))) → Option β) (kr : Option β) (s0 : Int) (s1 : (List Int)) (s2 : (List Int)) (s3 : (List Bool)) (s4 : (List (Int × (Int × (Int × Unit))))) (s5 : (List Int)) (s6 : Int) (s7 : Int) : Option β := r3 S n (fun s => kx s.1.1) (fun s => kr) (((s0, (s1, (s2, (s3, ())))), (s4, (s5, ()))), (s6, (s7, ())))
theorem t3 {β : Type} (S : Sl) (n : Nat) (kx : (List (Int × (Int × (Int × Unit)))) → Option β) (kr : Option β) (s0 : Int) (s1 : (List Int)) (s2 : (List Int)) (s3 : (List Bool)) (s4 : (List (Int × (Int × (Int × Unit))))) (s5 : (List Int)) (s6 : Int) (s7 : Int) : l3 S (n + 1) kx kr s0 s1 s2 s3 s4 s5 s6 s7 = b3 S (l3 S n kx kr) kx kr s0 s1 s2 s3 s4 s5 s6 s7 := by kernel_rfl
noncomputable def G {β : Type} (S : Sl) (a0 : Int) (a1 : (List Int)) (a2 : (List Int)) (a3 : (List Bool)) (K : (List (Int × (Int × (Int × Unit)))) → Option β) : Option β := bif ((S.le 0 8) && (S.le 8 8) && S.fw (Int.toNat 8)) then (impl_flagged.G S a3 (fun y1 => l3 S S.n (fun y2 => K y2) none a0 a1 a2 a3 (List.replicate (Int.toNat 8) ((0, (0, (0, ()))) : (Int × (Int × (Int × Unit))))) y1 (y1.length : Int) 0)) else (none)
noncomputable def o : Orac := ⟨165, sin, sout, fun s K => G sl0 s.2.1.1 s.2.1.2.1 s.2.1.2.2.1 s.2.1.2.2.2.1 (fun x0 => K ((x0, ()), ()))⟩
noncomputable def C : Ctx := ⟨tyT, [impl_RotSum.o, impl_flagged.o], [⟨3, 0, h3, x3, y3, fun s kx kr => r3 sl0 sl0.n kx kr s⟩], 43, 0⟩
theorem ctx : CtxOk Tryz.prog C := ⟨tyOk, all1 impl_RotSum.ok (all1 impl_flagged.ok (all0))⟩
theorem e3 (β : Type) (L : h3.sig.den → Option β) (kx : x3.sig.den → Option β) (kr : y3.sig.den → Option β) (s : h3.sig.den) : evalBody C (nthC (loopsOf (bodyC Tryz.f165)) 0) 0 h3 x3 y3 L kx kr s = b3 sl0 (fun x0 x1 x2 x3 x4 x5 x6 x7 => L (((x0, (x1, (x2, (x3, ())))), (x4, (x5, ()))), (x6, (x7, ())))) (fun x0 => kx ((x0, ()), ())) (kr ((), ())) s.1.1.1 s.1.1.2.1 s.1.1.2.2.1 s.1.1.2.2.2.1 s.1.2.1 s.1.2.2.1 s.2.1 s.2.2.1 := by kernel_rfl
theorem g3 : LS Tryz.prog C ⟨3, 0, h3, x3, y3, fun s kx kr => r3 sl0 sl0.n kx kr s⟩ (loopsOf (bodyC Tryz.f165)) := LS.at (i := 0) (by kernel_rfl) (loop_good mixed ctx (ctx_nat ctx) (N := sl0.n) (fun _ _ _ _ => rfl) e3 (all1 (LS.none (by kernel_rfl)) (all0)))
theorem eG (β : Type) (s : sin.den) (K : sout.den → Option β) : evalFn C Tryz.f165 sin sout s K = o.F s K := by kernel_rfl
theorem ok : OracOk Tryz.prog o := fn_ok mixed Tryz.func165 (by kernel_rfl) ctx (c := bodyC Tryz.f165) (by kernel_rfl) (all1 g3 (all0)) (by kernel_rfl) (by kernel_rfl) (by kernel_rfl) (Nat.le_of_ble_eq_true (by kernel_rfl)) eG (by kernel_rfl) (Nat.le_of_ble_eq_true (by kernel_rfl))
end impl_blocks
end Go.Proofs.YtnbighmbgmjbkaaGreat.E
end
section
set_option linter.unusedVariables false
set_option linter.unusedSimpArgs false
namespace Go.Proofs.YtnbighmbgmjbkaaGreat.E
open Go Go.RowKit
set_option linter.unusedVariables false
set_option maxRecDepth 100000
namespace impl_RotWrite
def sin : Sig := ⟨[], [.agg [.val I false, .val (.sl I) false, .val (.sl I) false, .val (.sl .bool) false]]⟩
def sout : Sig := ⟨[.buf (.pair I (.pair I (.pair I .unit))) false], [.one (.ref (.own 0))]⟩
noncomputable def G {β : Type} (S : Sl) (a0 : Int) (a1 : (List Int)) (a2 : (List Int)) (a3 : (List Bool)) (K : (List (Int × (Int × (Int × Unit)))) → Option β) : Option β := impl_StripeOk.G S a0 a1 a2 a3 (fun y1 => bif (!y1) then (K []) else (impl_blocks.G S a0 a1 a2 a3 (fun y2 => K y2)))
noncomputable def o : Orac := ⟨78, sin, sout, fun s K => G sl0 s.2.1.1 s.2.1.2.1 s.2.1.2.2.1 s.2.1.2.2.2.1 (fun x0 => K ((x0, ()), ()))⟩
noncomputable def C : Ctx := ⟨tyT, [impl_StripeOk.o, impl_blocks.o], [], 8, 0⟩
theorem ctx : CtxOk Tryz.prog C := ⟨tyOk, all1 impl_StripeOk.ok (all1 impl_blocks.ok (all0))⟩
theorem eG (β : Type) (s : sin.den) (K : sout.den → Option β) : evalFn C Tryz.f78 sin sout s K = o.F s K := by kernel_rfl
theorem ok : OracOk Tryz.prog o := fn_ok mixed Tryz.func78 (by kernel_rfl) ctx (c := bodyC Tryz.f78) (by kernel_rfl) (all0) (by kernel_rfl) (by kernel_rfl) (by kernel_rfl) (Nat.le_of_ble_eq_true (by kernel_rfl)) eG (by kernel_rfl) (Nat.le_of_ble_eq_true (by kernel_rfl))
end impl_RotWrite
end Go.Proofs.YtnbighmbgmjbkaaGreat.E
end
section
set_option linter.unusedVariables false
set_option linter.unusedSimpArgs false
namespace Go.Proofs.YtnbighmbgmjbkaaGreat.E
open Go Go.RowKit
set_option linter.unusedVariables false
set_option maxRecDepth 100000
namespace impl_Stripe_put
def sin : Sig := ⟨[.buf I false, .buf I false, .buf .bool false], [.agg [.val I false, .ref (.own 0), .ref (.own 1), .ref (.own 2)], .one (.val I false), .one (.val I false), .one (.val I false)]⟩
def sout : Sig := ⟨[.buf I false, .buf I false, .buf .bool false], []⟩
noncomputable def G {β : Type} (S : Sl) (a0 : (List Int)) (a1 : (List Int)) (a2 : (List Bool)) (a3 : Int) (a4 : Int) (a5 : Int) (a6 : Int) (K : (List Int) → (List Int) → (List Bool) → Option β) : Option β := bif (S.ir a4 a0.length) then (bif (S.ir a4 a1.length) then (bif (S.ir a4 a2.length) then (K (List.set a0 (Int.toNat a4) a5) (List.set a1 (Int.toNat a4) a6) (List.set a2 (Int.toNat a4) true)) else (none)) else (none)) else (none)
noncomputable def o : Orac := ⟨94, sin, sout, fun s K => G sl0 s.1.1 s.1.2.1 s.1.2.2.1 s.2.1.1 s.2.2.1 s.2.2.2.1 s.2.2.2.2.1 (fun x0 x1 x2 => K ((x0, (x1, (x2, ()))), ()))⟩
noncomputable def C : Ctx := ⟨tyT, [], [], 22, 3⟩
theorem ctx : CtxOk Tryz.prog C := ⟨tyOk, all0⟩
theorem eG (β : Type) (s : sin.den) (K : sout.den → Option β) : evalFn C Tryz.f94 sin sout s K = o.F s K := by kernel_rfl
theorem ok : OracOk Tryz.prog o := fn_ok mixed Tryz.func94 (by kernel_rfl) ctx (c := bodyC Tryz.f94) (by kernel_rfl) (all0) (by kernel_rfl) (by kernel_rfl) (by kernel_rfl) (Nat.le_of_ble_eq_true (by kernel_rfl)) eG (by kernel_rfl) (Nat.le_of_ble_eq_true (by kernel_rfl))
end impl_Stripe_put
end Go.Proofs.YtnbighmbgmjbkaaGreat.E
end
section
set_option linter.unusedVariables false
set_option linter.unusedSimpArgs false
namespace Go.Proofs.YtnbighmbgmjbkaaGreat.E
open Go Go.RowKit
set_option linter.unusedVariables false
set_option maxRecDepth 100000
namespace impl_StripeWrite
def sin : Sig := ⟨[], [.agg [.val I false, .val (.sl I) false, .val (.sl I) false, .val (.sl .bool) false], .one (.val (.sl I) false), .one (.val (.sl .bool) false)]⟩
def sout : Sig := ⟨[.buf I false, .buf I false, .buf .bool false], [.agg [.val I false, .ref (.own 0), .ref (.own 1), .ref (.own 2)], .one (.val .bool false)]⟩
def h9 : SS := ⟨[3, 6, 10, 11, 43, 44, 45], ⟨[.box [.val I false, .val (.sl I) false, .val (.sl I) false, .val (.sl .bool) false], .box [.val I false, .ref .e0, .ref .e0, .ref .e0], .box [.val I false, .ref (.own 5), .ref (.own 6), .ref (.own 7)], .buf I false, .buf I false, .buf I false, .buf I false, .buf .bool false], [.one (.ref (.ptr 0)), .one (.ref (.ptr 1)), .one (.ref (.ptr 2)), .one (.ref (.own 3)), .one (.ref (.own 4)), .one (.val I false), .one (.val I false)]⟩⟩
def x9 : SS := ⟨[6, 10], ⟨[.box [.val I false, .ref .e0, .ref .e0, .ref .e0], .box [.val I false, .ref (.own 2), .ref (.own 3), .ref (.own 4)], .buf I false, .buf I false, .buf .bool false], [.one (.ref (.ptr 0)), .one (.ref (.ptr 1))]⟩⟩
def y9 : SS := ⟨[], ⟨[], []⟩⟩
noncomputable def b9 {β : Type} (S : Sl) (L : Int → (List Int) → (List Int) → (List Bool) → Int → Int → (List Int) → (List Int) → (List Int) → (List Int) → (List Bool) → Int → Int → Option β) (kx : Int → Int → (List Int) → (List Int) → (List Bool) → Option β) (kr : Option β) (s0 : Int) (s1 : (List Int)) (s2 : (List Int)) (s3 : (List Bool)) (s4 : Int) (s5 : Int) (s6 : (List Int)) (s7 : (List Int)) (s8 : (List Int)) (s9 : (List Int)) (s10 : (List Bool)) (s11 : Int) (s12 : Int) : Option β := bif (S.lt s12 s11) then (bif (S.ir s12 s7.length) then (bif (S.ir (List.getD s7 (Int.toNat s12) 0) s6.length) then (impl_Stripe_top.G S s0 s1 s2 s3 (fun y1 => impl_Stripe_put.G S s8 s9 s10 s5 (List.getD s7 (Int.toNat s12) 0) (List.getD s6 (Int.toNat (List.getD s7 (Int.toNat s12) 0)) 0) (S.w (y1 + 1)) (fun y2 y3 y4 => L s0 s1 s2 s3 s4 s5 s6 s7 y2 y3 y4 s11 (S.w (s12 + 1))))) else (none)) else (none)) else (kx s4 s5 s8 s9 s10)
noncomputable def r9 {β : Type} (S : Sl) (n : Nat) (kx : x9.sig.den → Option β) (kr : y9.sig.den → Option β) (s : h9.sig.den) : Option β := rounds (fun L kx kr s => b9 S (fun x0 x1 x2 x3 x4 x5 x6 x7 x8 x9 x10 x11 x12 => L (((x0, (x1, (x2, (x3, ())))), ((x4, ()), ((x5, ()), (x6, (x7, (x8, (x9, (x10, ())))))))), (x11, (x12, ())))) (fun x0 x1 x2 x3 x4 => kx (((x0, ()), ((x1, ()), (x2, (x3, (x4, ()))))), ())) (kr ((), ())) s.1.1.1 s.1.1.2.1 s.1.1.2.2.1 s.1.1.2.2.2.1 s.1.2.1.1 s.1.2.2.1.1 s.1.2.2.2.1 s.1.2.2.2.2.1 s.1.2.2.2.2.2.1 s.1.2.2.2.2.2.2.1 s.1.2.2.2.2.2.2.2.1 s.2.1 s.2.2.1) kx kr n s
noncomputable def l9 {β : Type} (S : Sl) (n : Nat) (kx : Int → Int → (List Int) → (List Int) → (List Bool) → Option β) (kr : Option β) (s0 : Int) (s1 : (List Int)) (s2 : (List Int)) (s3 : (List Bool)) (s4 : Int) (s5 : Int) (s6 : (List Int)) (s7 : (List Int)) (s8 : (List Int)) (s9 : (List Int)) (s10 : (List Bool)) (s11 : Int) (s12 : Int) : Option β := r9 S n (fun s => kx s.1.1.1 s.1.2.1.1 s.1.2.2.1 s.1.2.2.2.1 s.1.2.2.2.2.1) (fun s => kr) (((s0, (s1, (s2, (s3, ())))), ((s4, ()), ((s5, ()), (s6, (s7, (s8, (s9, (s10, ())))))))), (s11, (s12, ())))
theorem t9 {β : Type} (S : Sl) (n : Nat) (kx : Int → Int → (List Int) → (List Int) → (List Bool) → Option β) (kr : Option β) (s0 : Int) (s1 : (List Int)) (s2 : (List Int)) (s3 : (List Bool)) (s4 : Int) (s5 : Int) (s6 : (List Int)) (s7 : (List Int)) (s8 : (List Int)) (s9 : (List Int)) (s10 : (List Bool)) (s11 : Int) (s12 : Int) : l9 S (n + 1) kx kr s0 s1 s2 s3 s4 s5 s6 s7 s8 s9 s10 s11 s12 = b9 S (l9 S n kx kr) kx kr s0 s1 s2 s3 s4 s5 s6 s7 s8 s9 s10 s11 s12 := by kernel_rfl
noncomputable def G {β : Type} (S : Sl) (a0 : Int) (a1 : (List Int)) (a2 : (List Int)) (a3 : (List Bool)) (a4 : (List Int)) (a5 : (List Bool)) (K : (List Int) → (List Int) → (List Bool) → Int → Bool → Option β) : Option β := impl_vectorOf.G S a4 (fun y1 y2 => bif (!y2) then (K [] [] [] 0 false) else (impl_StripeOk.G S a0 a1 a2 a3 (fun y3 => bif (!y3) then (K [] [] [] 0 false) else (bif (!S.eq (a5.length : Int) 8) then (K [] [] [] 0 false) else (impl_Stripe_copied.G S a0 a1 a2 a3 (fun y4 y5 y6 y7 => impl_Stripe_top.G S a0 a1 a2 a3 (fun y8 => bif (S.eq y8 99) then (K y4 y5 y6 y7 false) else (impl_encode.G S a0 y1 (fun y9 => impl_flagged.G S a5 (fun y10 => l9 S S.n (fun y11 y12 y13 y14 y15 => K y13 y14 y15 y12 true) none a0 a1 a2 a3 0 y7 y9 y10 y4 y5 y6 (y10.length : Int) 0))))))))))
noncomputable def o : Orac := ⟨22, sin, sout, fun s K => G sl0 s.2.1.1 s.2.1.2.1 s.2.1.2.2.1 s.2.1.2.2.2.1 s.2.2.1 s.2.2.2.1 (fun x0 x1 x2 x3 x4 => K ((x0, (x1, (x2, ()))), ((x3, ()), (x4, ()))))⟩
noncomputable def C : Ctx := ⟨tyT, [impl_StripeOk.o, impl_Stripe_copied.o, impl_Stripe_put.o, impl_Stripe_top.o, impl_encode.o, impl_flagged.o, impl_vectorOf.o], [⟨9, 0, h9, x9, y9, fun s kx kr => r9 sl0 sl0.n kx kr s⟩], 61, 0⟩
theorem ctx : CtxOk Tryz.prog C := ⟨tyOk, all1 impl_StripeOk.ok (all1 impl_Stripe_copied.ok (all1 impl_Stripe_put.ok (all1 impl_Stripe_top.ok (all1 impl_encode.ok (all1 impl_flagged.ok (all1 impl_vectorOf.ok (all0)))))))⟩
theorem e9 (β : Type) (L : h9.sig.den → Option β) (kx : x9.sig.den → Option β) (kr : y9.sig.den → Option β) (s : h9.sig.den) : evalBody C (nthC (loopsOf (bodyC Tryz.f22)) 0) 0 h9 x9 y9 L kx kr s = b9 sl0 (fun x0 x1 x2 x3 x4 x5 x6 x7 x8 x9 x10 x11 x12 => L (((x0, (x1, (x2, (x3, ())))), ((x4, ()), ((x5, ()), (x6, (x7, (x8, (x9, (x10, ())))))))), (x11, (x12, ())))) (fun x0 x1 x2 x3 x4 => kx (((x0, ()), ((x1, ()), (x2, (x3, (x4, ()))))), ())) (kr ((), ())) s.1.1.1 s.1.1.2.1 s.1.1.2.2.1 s.1.1.2.2.2.1 s.1.2.1.1 s.1.2.2.1.1 s.1.2.2.2.1 s.1.2.2.2.2.1 s.1.2.2.2.2.2.1 s.1.2.2.2.2.2.2.1 s.1.2.2.2.2.2.2.2.1 s.2.1 s.2.2.1 := by kernel_rfl
theorem g9 : LS Tryz.prog C ⟨9, 0, h9, x9, y9, fun s kx kr => r9 sl0 sl0.n kx kr s⟩ (loopsOf (bodyC Tryz.f22)) := LS.at (i := 0) (by kernel_rfl) (loop_good mixed ctx (ctx_nat ctx) (N := sl0.n) (fun _ _ _ _ => rfl) e9 (all1 (LS.none (by kernel_rfl)) (all0)))
theorem eG (β : Type) (s : sin.den) (K : sout.den → Option β) : evalFn C Tryz.f22 sin sout s K = o.F s K := by kernel_rfl
theorem ok : OracOk Tryz.prog o := fn_ok mixed Tryz.func22 (by kernel_rfl) ctx (c := bodyC Tryz.f22) (by kernel_rfl) (all1 g9 (all0)) (by kernel_rfl) (by kernel_rfl) (by kernel_rfl) (Nat.le_of_ble_eq_true (by kernel_rfl)) eG (by kernel_rfl) (Nat.le_of_ble_eq_true (by kernel_rfl))
end impl_StripeWrite
end Go.Proofs.YtnbighmbgmjbkaaGreat.E
end
section
set_option linter.unusedVariables false
set_option linter.unusedSimpArgs false
namespace Go.Proofs.YtnbighmbgmjbkaaGreat.E
open Go Go.RowKit
set_option linter.unusedVariables false
set_option maxRecDepth 100000
namespace impl_Keep_copied
def sin : Sig := ⟨[], [.agg [.val I false, .val (.sl I) false, .val (.sl I) false, .val (.sl .bool) false, .val .bool false, .val I false, .val (.sl I) false, .val I false]]⟩
def sout : Sig := ⟨[.buf I false, .buf I false, .buf .bool false, .buf I false], [.agg [.val I false, .ref (.own 0), .ref (.own 1), .ref (.own 2), .val .bool false, .val I false, .ref (.own 3), .val I false]]⟩
noncomputable def G {β : Type} (S : Sl) (a0 : Int) (a1 : (List Int)) (a2 : (List Int)) (a3 : (List Bool)) (a4 : Bool) (a5 : Int) (a6 : (List Int)) (a7 : Int) (K : (List Int) → (List Int) → (List Bool) → (List Int) → Int → Bool → Int → Int → Option β) : Option β := impl_Stripe_copied.G S a0 a1 a2 a3 (fun y1 y2 y3 y4 => slices_Clone_Sint_int.G S a6 (fun y5 => slices_Clip_Sint_int_.G S y5 (fun y6 => K y1 y2 y3 y6 y4 a4 a5 a7)))
noncomputable def o : Orac := ⟨117, sin, sout, fun s K => G sl0 s.2.1.1 s.2.1.2.1 s.2.1.2.2.1 s.2.1.2.2.2.1 s.2.1.2.2.2.2.1 s.2.1.2.2.2.2.2.1 s.2.1.2.2.2.2.2.2.1 s.2.1.2.2.2.2.2.2.2.1 (fun x0 x1 x2 x3 x4 x5 x6 x7 => K ((x0, (x1, (x2, (x3, ())))), ((x4, (x5, (x6, (x7, ())))), ())))⟩
noncomputable def C : Ctx := ⟨tyT, [impl_Stripe_copied.o, slices_Clip_Sint_int_.o, slices_Clone_Sint_int.o], [], 13, 0⟩
theorem ctx : CtxOk Tryz.prog C := ⟨tyOk, all1 impl_Stripe_copied.ok (all1 slices_Clip_Sint_int_.ok (all1 slices_Clone_Sint_int.ok (all0)))⟩
theorem eG (β : Type) (s : sin.den) (K : sout.den → Option β) : evalFn C Tryz.f117 sin sout s K = o.F s K := by kernel_rfl
theorem ok : OracOk Tryz.prog o := fn_ok mixed Tryz.func117 (by kernel_rfl) ctx (c := bodyC Tryz.f117) (by kernel_rfl) (all0) (by kernel_rfl) (by kernel_rfl) (by kernel_rfl) (Nat.le_of_ble_eq_true (by kernel_rfl)) eG (by kernel_rfl) (Nat.le_of_ble_eq_true (by kernel_rfl))
end impl_Keep_copied
end Go.Proofs.YtnbighmbgmjbkaaGreat.E
end
section
set_option linter.unusedVariables false
set_option linter.unusedSimpArgs false
namespace Go.Proofs.YtnbighmbgmjbkaaGreat.E
open Go Go.RowKit
set_option linter.unusedVariables false
set_option maxRecDepth 100000
theorem vec_l {b : List Int} (hb : Src b) (d : Nat) : ∀ (i n : Nat) (p : Int) (acc : List Int), i + d = 4 → acc.length = i → d < n → 0 ≤ p → p + 4 * d ≤ 900000 →
  ∃ (v : List Int) (q : Int), v.length = 4 ∧ p ≤ q ∧ q ≤ p + 4 * d ∧ ∀ (β : Type) (kx : List Int → Int → List Int → Option β) (kr : Option β), spec_l91Vec.l3 sl1 n kx kr b p acc (i : Int) = kx b q v := by
 induction d with
 | zero =>
  intro i n p acc hi ha hn hp hp2
  obtain ⟨n, rfl⟩ : ∃ m, n = m + 1 := ⟨n - 1, by omega⟩
  exact ⟨acc, p, by omega, by omega, by omega, fun β kx kr => by rw [spec_l91Vec.t3]; exact cF (ltF (by omega)) rfl⟩
 | succ d ih =>
  intro i n p acc hi ha hn hp hp2
  obtain ⟨n, rfl⟩ : ∃ m, n = m + 1 := ⟨n - 1, by omega⟩
  obtain ⟨v1, _, _, e1⟩ := pick_S hb (p := p) 4
  obtain ⟨v2, _, _, e2⟩ := pick_S hb (p := p + 1) 31
  obtain ⟨v3, _, _, e3⟩ := pick_S hb (p := p + 1 + 1) 31
  obtain ⟨v4, f0, f1, e4⟩ := pick_S hb (p := p + 1 + 1 + 1) 4
  obtain ⟨v, q, k1, k2, k3, k4⟩ := ih (i + 1) n (p + 1 + 1 + 1 + 1) (acc ++ [List.getD [0, v1, v2, v3] (Int.toNat v4) 0]) (by omega) (by rw [List.length_append, List.length_singleton]; omega) (by omega) (by omega) (by omega)
  refine ⟨v, q, k1, by omega, by omega, fun β kx kr => ?_⟩
  rw [spec_l91Vec.t3]
  unfold spec_l91Vec.b3
  refine cT (ltT (by omega)) ((e1 _ _).trans ((e2 _ _).trans ((e3 _ _).trans ((e4 _ _).trans (cT (irT f0 f1) (cT (fwT (by rw [List.length_append, List.length_singleton]; omega)) ?_))))))
  rw [w_succ (by omega)]
  exact k4 β kx kr
theorem vec_S {b : List Int} (hb : Src b) {p : Int} (hp : 0 ≤ p) (hp2 : p ≤ 800000) : ∃ (v : List Int) (q : Int), v.length ≤ 4 ∧ p ≤ q ∧ q ≤ p + 19 ∧ ∀ (β : Type) (K : List Int → Int → List Int → Option β), spec_l91Vec.G sl1 b p K = K b q v := by
 obtain ⟨v, q, k1, k2, k3, k4⟩ := vec_l hb 4 0 sl1.n p [] (by omega) rfl (by rw [rounds_n]; omega) hp (by omega)
 obtain ⟨a, a0, a1, ea⟩ := pick_S hb (p := q) 40
 by_cases h0 : a = 0
 ·refine ⟨cutL v 1 v.length, q + 1, ?_, by omega, by omega, fun β K => (k4 _ _ _).trans ((ea _ _).trans (cT (eqT h0) (cT (andT (andT (andT rfl (leT (by omega))) (leT (by omega))) (leT (by omega))) ?_)))⟩
  ·unfold cutL
   simp; omega
  ·rw [Int.toNat_natCast]; rfl
 by_cases h1 : a = 1
 ·obtain ⟨c, c0, c1, ec⟩ := pick_S hb (p := q + 1) (v.length : Int)
  obtain ⟨e, e0, e1, ee⟩ := pick_S hb (p := q + 1 + 1) 2
  exact ⟨v.set (Int.toNat c) (List.getD [(-1), 31] (Int.toNat e) 0), q + 1 + 1 + 1, by rw [List.length_set]; omega, by omega, by omega, fun β K => (k4 _ _ _).trans ((ea _ _).trans (cF (eqF h0) (cT (eqT h1) ((ec _ _).trans ((ee _ _).trans (cT (irT e0 e1) (cT (irT c0 c1) rfl)))))))⟩
 ·exact ⟨v, q + 1, by omega, by omega, by omega, fun β K => (k4 _ _ _).trans ((ea _ _).trans (cF (eqF h0) (cF (eqF h1) rfl)))⟩
end Go.Proofs.YtnbighmbgmjbkaaGreat.E
end
section
set_option linter.unusedVariables false
set_option linter.unusedSimpArgs false
namespace Go.Proofs.YtnbighmbgmjbkaaGreat.E
open Go Go.RowKit
set_option linter.unusedVariables false
set_option maxRecDepth 100000
theorem lkInts_l {β : Type} (l : List Int) (hl : l.length ≤ 1000000) (kx : Option β) (kr : Bool → Option β) (d : Nat) : ∀ (i n : Nat), i + d = l.length → d < n → laws_lkInts.l4 sl1 n kx kr l l (i : Int) = kx := by
 induction d with
 | zero =>
  intro i n hi hn
  obtain ⟨n, rfl⟩ : ∃ m, n = m + 1 := ⟨n - 1, by omega⟩
  rw [laws_lkInts.t4]; exact cF (ltF (by omega)) rfl
 | succ d ih =>
  intro i n hi hn
  obtain ⟨n, rfl⟩ : ∃ m, n = m + 1 := ⟨n - 1, by omega⟩
  rw [laws_lkInts.t4]
  unfold laws_lkInts.b4
  refine cT (ltT (by omega)) (cT (irT (by omega) (by omega)) (cT (irT (by omega) (by omega)) (cF (neF rfl) ?_)))
  rw [w_succ (by omega)]
  exact ih (i + 1) n (by omega) (by omega)
theorem lkInts_same {β : Type} (l : List Int) (hl : l.length ≤ 1000000) (K : Bool → Option β) : laws_lkInts.G sl1 l l K = K true := by
 unfold laws_lkInts.G
 exact cF (neF rfl) (lkInts_l l hl _ _ l.length 0 sl1.n (by omega) (by rw [rounds_n]; omega))
end Go.Proofs.YtnbighmbgmjbkaaGreat.E
end
section
set_option linter.unusedVariables false
set_option linter.unusedSimpArgs false
namespace Go.Proofs.YtnbighmbgmjbkaaGreat.Head
theorem strip (r : List (List Char)) : stripLifts liftWords ("cut".toList :: r) = ([], "cut".toList :: r) := by
 unfold liftWords
 repeat (rw [stripLifts, if_neg (by decide +kernel)])
 rw [stripLifts]
theorem words_of {ws : List (List Char)} (h : ws.head? = some "cut".toList) : ∃ r, ws = "cut".toList :: r := by
 cases ws with
 | nil => cases h
 | cons c r => exact ⟨r, by rw [Option.some.inj h]⟩
theorem lifts_of (P : Program) (l : List Char) (hl : P.initOrder.toList = l) (h : (behindMainWord (wordsSigns l)).head? = some "cut".toList) : P.headLifts = [] := by
 obtain ⟨r, hr⟩ := words_of h
 unfold Program.headLifts
 rw [hl, hr, strip]
 dsimp only
 split <;> rfl
theorem e1 : ("cut".toList == "gc".toList) = false := by decide +kernel
theorem e2 : ("cut".toList == "spec".toList) = false := by decide +kernel
theorem e3 : ("cut".toList == "carried".toList) = false := by decide +kernel
theorem e4 : (some "cut".toList == some "carried".toList) = false := by decide +kernel
theorem make_of (P : Program) (l : List Char) (hl : P.initOrder.toList = l) (h : (behindMainWord (wordsSigns l)).head? = some "cut".toList) : P.make = some .cut := by
 obtain ⟨r, hr⟩ := words_of h
 unfold Program.make
 rw [hl, hr]
 dsimp only
 rw [e1, e2]
 simp
theorem final_of (P : Program) (l : List Char) (hl : P.initOrder.toList = l) (h : (behindMainWord (wordsSigns l)).head? = some "cut".toList) : P.liftsFinal = false := by
 obtain ⟨r, hr⟩ := words_of h
 unfold Program.liftsFinal
 rw [hl, hr, lifts_of P l hl h]
 dsimp only [List.head?_cons]
 rw [e4]
 rfl
theorem enter_of (P : Program) (l : List Char) (hl : P.initOrder.toList = l) (h : (behindMainWord (wordsSigns l)).head? = some "cut".toList) (later : P.laysLater = false) (reflect : P.bearsReflect = false) (door : P.doorFits [] = true) : P.mayEnter = true := by
 obtain ⟨r, hr⟩ := words_of h
 unfold Program.mayEnter
 rw [hl, hr]
 dsimp only
 rw [strip]
 dsimp only
 rw [later, reflect, door, e1, e2, e3]
 simp
def signs : List Char := List.map Char.ofNat [104, 97, 114, 110, 101, 115, 115, 32, 99, 101, 57, 52, 57, 101, 97, 56, 48, 51, 51, 52, 97, 102, 98, 52, 53, 56, 97, 57, 49, 54, 57, 50, 55, 98, 57, 51, 99, 56, 98, 55, 102, 57, 97, 102, 52, 98, 56, 51, 101, 56, 101, 99, 48, 53, 50, 102, 101, 100, 52, 98, 54, 54, 48, 50, 52, 53, 50, 49, 102, 99, 98, 49, 32, 99, 117, 116, 32, 97, 116, 32, 108, 111, 111, 112, 46, 101, 120, 97, 109, 112, 108, 101, 47, 107, 101, 101, 108, 115, 111, 110, 47, 108, 97, 119, 115, 46, 70, 110, 87, 114, 105, 116, 101, 82, 101, 97, 100, 32, 108, 111, 111, 112, 46, 101, 120, 97, 109, 112, 108, 101, 47, 107, 101, 101, 108, 115, 111, 110, 47, 108, 97, 119, 115, 46, 70, 110, 80, 97, 116, 99, 104, 72, 97, 108, 102, 32, 108, 111, 111, 112, 46, 101, 120, 97, 109, 112, 108, 101, 47, 107, 101, 101, 108, 115, 111, 110, 47, 108, 97, 119, 115, 46, 70, 110, 75, 101, 101, 112, 82, 101, 97, 100, 32, 108, 111, 111, 112, 46, 101, 120, 97, 109, 112, 108, 101, 47, 107, 101, 101, 108, 115, 111, 110, 47, 108, 97, 119, 115, 46, 70, 110, 75, 101, 101, 112, 76, 111, 115, 101, 32, 108, 111, 111, 112, 46, 101, 120, 97, 109, 112, 108, 101, 47, 107, 101, 101, 108, 115, 111, 110, 47, 108, 97, 119, 115, 46, 70, 110, 75, 101, 101, 112, 70, 111, 114, 109, 32, 108, 111, 111, 112, 46, 101, 120, 97, 109, 112, 108, 101, 47, 107, 101, 101, 108, 115, 111, 110, 47, 108, 97, 119, 115, 46, 70, 110, 84, 117, 114, 110, 76, 101, 102, 116, 32, 108, 111, 111, 112, 46, 101, 120, 97, 109, 112, 108, 101, 47, 107, 101, 101, 108, 115, 111, 110, 47, 108, 97, 119, 115, 46, 70, 110, 66, 101, 103, 105, 110, 78, 111, 116, 32, 108, 111, 111, 112, 46, 101, 120, 97, 109, 112, 108, 101, 47, 107, 101, 101, 108, 115, 111, 110, 47, 108, 97, 119, 115, 46, 70, 110, 75, 101, 101, 112, 78, 101, 119, 32, 108, 111, 111, 112, 46, 101, 120, 97, 109, 112, 108, 101, 47, 107, 101, 101, 108, 115, 111, 110, 47, 108, 97, 119, 115, 46, 70, 110, 76, 111, 115, 101, 70, 101, 119, 32, 108, 111, 111, 112, 46, 101, 120, 97, 109, 112, 108, 101, 47, 107, 101, 101, 108, 115, 111, 110, 47, 108, 97, 119, 115, 46, 70, 110, 87, 114, 105, 116, 101, 65, 108, 108, 32, 108, 111, 111, 112, 46, 101, 120, 97, 109, 112, 108, 101, 47, 107, 101, 101, 108, 115, 111, 110, 47, 108, 97, 119, 115, 46, 70, 110, 77, 101, 110, 100, 32, 108, 111, 111, 112, 46, 101, 120, 97, 109, 112, 108, 101, 47, 107, 101, 101, 108, 115, 111, 110, 47, 108, 97, 119, 115, 46, 70, 110, 77, 101, 110, 100, 70, 97, 108, 115, 101, 32, 108, 111, 111, 112, 46, 101, 120, 97, 109, 112, 108, 101, 47, 107, 101, 101, 108, 115, 111, 110, 47, 108, 97, 119, 115, 46, 70, 110, 77, 101, 110, 100, 65, 108, 108, 32, 108, 111, 111, 112, 46, 101, 120, 97, 109, 112, 108, 101, 47, 107, 101, 101, 108, 115, 111, 110, 47, 108, 97, 119, 115, 46, 70, 110, 77, 101, 110, 100, 76, 111, 115, 116, 32, 108, 111, 111, 112, 46, 101, 120, 97, 109, 112, 108, 101, 47, 107, 101, 101, 108, 115, 111, 110, 47, 108, 97, 119, 115, 46, 70, 110, 69, 120, 97, 99, 116, 83, 116, 114, 105, 112, 101, 77, 101, 110, 100, 32, 108, 111, 111, 112, 46, 101, 120, 97, 109, 112, 108, 101, 47, 107, 101, 101, 108, 115, 111, 110, 47, 108, 97, 119, 115, 46, 70, 110, 69, 120, 97, 99, 116, 82, 111, 116, 77, 101, 110, 100, 32, 108, 111, 111, 112, 46, 101, 120, 97, 109, 112, 108, 101, 47, 107, 101, 101, 108, 115, 111, 110, 47, 108, 97, 119, 115, 46, 70, 110, 82, 111, 116, 70, 101, 119]
theorem order : Tryz.prog.initOrder = String.ofList signs := by kernel_rfl
theorem toL : Tryz.prog.initOrder.toList = signs := by rw [order]; exact String.toList_ofList
theorem words : (behindMainWord (wordsSigns signs)).head? = some "cut".toList := by kernel_rfl
theorem make : Tryz.prog.make = some .cut := make_of _ _ toL words
theorem final : Tryz.prog.liftsFinal = false := final_of _ _ toL words
theorem enter : Tryz.prog.mayEnter = true := enter_of _ _ toL words (by as_aux_lemma => kernel_rfl) (by as_aux_lemma => kernel_rfl) (by as_aux_lemma => kernel_rfl)
end Go.Proofs.YtnbighmbgmjbkaaGreat.Head
end
section
set_option linter.unusedVariables false
set_option linter.unusedSimpArgs false
namespace Go.Proofs.YtnbighmbgmjbkaaGreat.E
open Go Go.RowKit
set_option linter.unusedVariables false
set_option maxRecDepth 100000
namespace laws_lkBools
def sin : Sig := ⟨[], [.one (.val (.sl .bool) false), .one (.val (.sl .bool) false)]⟩
def sout : Sig := ⟨[], [.one (.val .bool false)]⟩
def h4 : SS := ⟨[0, 1, 5], ⟨[], [.one (.val (.sl .bool) false), .one (.val (.sl .bool) false), .one (.val I false)]⟩⟩
def x4 : SS := ⟨[], ⟨[], []⟩⟩
def y4 : SS := ⟨[4], ⟨[], [.one (.val .bool false)]⟩⟩
noncomputable def b4 {β : Type} (S : Sl) (L : (List Bool) → (List Bool) → Int → Option β) (kx : Option β) (kr : Bool → Option β) (s0 : (List Bool)) (s1 : (List Bool)) (s2 : Int) : Option β := bif (S.lt s2 (s0.length : Int)) then (bif (S.ir s2 s0.length) then (bif (S.ir s2 s1.length) then (bif ((List.getD s0 (Int.toNat s2) false) != (List.getD s1 (Int.toNat s2) false)) then (kr false) else (L s0 s1 (S.w (s2 + 1)))) else (none)) else (none)) else (kx)
noncomputable def r4 {β : Type} (S : Sl) (n : Nat) (kx : x4.sig.den → Option β) (kr : y4.sig.den → Option β) (s : h4.sig.den) : Option β := rounds (fun L kx kr s => b4 S (fun x0 x1 x2 => L ((), (x0, (x1, (x2, ()))))) (kx ((), ())) (fun x0 => kr ((), (x0, ()))) s.2.1 s.2.2.1 s.2.2.2.1) kx kr n s
noncomputable def l4 {β : Type} (S : Sl) (n : Nat) (kx : Option β) (kr : Bool → Option β) (s0 : (List Bool)) (s1 : (List Bool)) (s2 : Int) : Option β := r4 S n (fun s => kx) (fun s => kr s.2.1) ((), (s0, (s1, (s2, ()))))
theorem t4 {β : Type} (S : Sl) (n : Nat) (kx : Option β) (kr : Bool → Option β) (s0 : (List Bool)) (s1 : (List Bool)) (s2 : Int) : l4 S (n + 1) kx kr s0 s1 s2 = b4 S (l4 S n kx kr) kx kr s0 s1 s2 := by kernel_rfl
noncomputable def G {β : Type} (S : Sl) (a0 : (List Bool)) (a1 : (List Bool)) (K : Bool → Option β) : Option β := bif (!S.eq (a0.length : Int) (a1.length : Int)) then (K false) else (l4 S S.n (K true) (fun y1 => K y1) a0 a1 0)
noncomputable def o : Orac := ⟨95, sin, sout, fun s K => G sl0 s.2.1 s.2.2.1 (fun x0 => K ((), (x0, ())))⟩
noncomputable def C : Ctx := ⟨tyT, [], [⟨4, 0, h4, x4, y4, fun s kx kr => r4 sl0 sl0.n kx kr s⟩], 26, 0⟩
theorem ctx : CtxOk Tryz.prog C := ⟨tyOk, all0⟩
theorem e4 (β : Type) (L : h4.sig.den → Option β) (kx : x4.sig.den → Option β) (kr : y4.sig.den → Option β) (s : h4.sig.den) : evalBody C (nthC (loopsOf (bodyC Tryz.f95)) 0) 0 h4 x4 y4 L kx kr s = b4 sl0 (fun x0 x1 x2 => L ((), (x0, (x1, (x2, ()))))) (kx ((), ())) (fun x0 => kr ((), (x0, ()))) s.2.1 s.2.2.1 s.2.2.2.1 := by kernel_rfl
theorem g4 : LS Tryz.prog C ⟨4, 0, h4, x4, y4, fun s kx kr => r4 sl0 sl0.n kx kr s⟩ (loopsOf (bodyC Tryz.f95)) := LS.at (i := 0) (by kernel_rfl) (loop_good mixed ctx (ctx_nat ctx) (N := sl0.n) (fun _ _ _ _ => rfl) e4 (all1 (LS.none (by kernel_rfl)) (all0)))
theorem eG (β : Type) (s : sin.den) (K : sout.den → Option β) : evalFn C Tryz.f95 sin sout s K = o.F s K := by kernel_rfl
theorem ok : OracOk Tryz.prog o := fn_ok mixed Tryz.func95 (by kernel_rfl) ctx (c := bodyC Tryz.f95) (by kernel_rfl) (all1 g4 (all0)) (by kernel_rfl) (by kernel_rfl) (by kernel_rfl) (Nat.le_of_ble_eq_true (by kernel_rfl)) eG (by kernel_rfl) (Nat.le_of_ble_eq_true (by kernel_rfl))
end laws_lkBools
end Go.Proofs.YtnbighmbgmjbkaaGreat.E
end
section
set_option linter.unusedVariables false
set_option linter.unusedSimpArgs false
namespace Go.Proofs.YtnbighmbgmjbkaaGreat.E
open Go Go.RowKit
set_option linter.unusedVariables false
set_option maxRecDepth 100000
namespace laws_lkStripe
def sin : Sig := ⟨[], [.agg [.val I false, .val (.sl I) false, .val (.sl I) false, .val (.sl .bool) false], .agg [.val I false, .val (.sl I) false, .val (.sl I) false, .val (.sl .bool) false]]⟩
def sout : Sig := ⟨[], [.one (.val .bool false)]⟩
noncomputable def G {β : Type} (S : Sl) (a0 : Int) (a1 : (List Int)) (a2 : (List Int)) (a3 : (List Bool)) (a4 : Int) (a5 : (List Int)) (a6 : (List Int)) (a7 : (List Bool)) (K : Bool → Option β) : Option β := bif (S.eq a0 a4) then (laws_lkInts.G S a1 a5 (fun y1 => bif y1 then (laws_lkInts.G S a2 a6 (fun y2 => bif y2 then (laws_lkBools.G S a3 a7 (fun y3 => K y3)) else (K false))) else (K false))) else (K false)
noncomputable def o : Orac := ⟨23, sin, sout, fun s K => G sl0 s.2.1.1 s.2.1.2.1 s.2.1.2.2.1 s.2.1.2.2.2.1 s.2.2.1.1 s.2.2.1.2.1 s.2.2.1.2.2.1 s.2.2.1.2.2.2.1 (fun x0 => K ((), (x0, ())))⟩
noncomputable def C : Ctx := ⟨tyT, [laws_lkBools.o, laws_lkInts.o], [], 31, 0⟩
theorem ctx : CtxOk Tryz.prog C := ⟨tyOk, all1 laws_lkBools.ok (all1 laws_lkInts.ok (all0))⟩
theorem eG (β : Type) (s : sin.den) (K : sout.den → Option β) : evalFn C Tryz.f23 sin sout s K = o.F s K := by kernel_rfl
theorem ok : OracOk Tryz.prog o := fn_ok mixed Tryz.func23 (by kernel_rfl) ctx (c := bodyC Tryz.f23) (by kernel_rfl) (all0) (by kernel_rfl) (by kernel_rfl) (by kernel_rfl) (Nat.le_of_ble_eq_true (by kernel_rfl)) eG (by kernel_rfl) (Nat.le_of_ble_eq_true (by kernel_rfl))
end laws_lkStripe
end Go.Proofs.YtnbighmbgmjbkaaGreat.E
end
section
set_option linter.unusedVariables false
set_option linter.unusedSimpArgs false
namespace Go.Proofs.YtnbighmbgmjbkaaGreat.E
open Go Go.RowKit
set_option linter.unusedVariables false
set_option maxRecDepth 100000
namespace laws_lkKeep
def sin : Sig := ⟨[], [.agg [.val I false, .val (.sl I) false, .val (.sl I) false, .val (.sl .bool) false, .val .bool false, .val I false, .val (.sl I) false, .val I false], .agg [.val I false, .val (.sl I) false, .val (.sl I) false, .val (.sl .bool) false, .val .bool false, .val I false, .val (.sl I) false, .val I false]]⟩
def sout : Sig := ⟨[], [.one (.val .bool false)]⟩
noncomputable def G {β : Type} (S : Sl) (a0 : Int) (a1 : (List Int)) (a2 : (List Int)) (a3 : (List Bool)) (a4 : Bool) (a5 : Int) (a6 : (List Int)) (a7 : Int) (a8 : Int) (a9 : (List Int)) (a10 : (List Int)) (a11 : (List Bool)) (a12 : Bool) (a13 : Int) (a14 : (List Int)) (a15 : Int) (K : Bool → Option β) : Option β := laws_lkStripe.G S a0 a1 a2 a3 a8 a9 a10 a11 (fun y1 => bif y1 then (bif (a4 == a12) then (bif (S.eq a5 a13) then (laws_lkInts.G S a6 a14 (fun y2 => bif y2 then (K (S.eq a7 a15)) else (K false))) else (K false)) else (K false)) else (K false))
noncomputable def o : Orac := ⟨37, sin, sout, fun s K => G sl0 s.2.1.1 s.2.1.2.1 s.2.1.2.2.1 s.2.1.2.2.2.1 s.2.1.2.2.2.2.1 s.2.1.2.2.2.2.2.1 s.2.1.2.2.2.2.2.2.1 s.2.1.2.2.2.2.2.2.2.1 s.2.2.1.1 s.2.2.1.2.1 s.2.2.1.2.2.1 s.2.2.1.2.2.2.1 s.2.2.1.2.2.2.2.1 s.2.2.1.2.2.2.2.2.1 s.2.2.1.2.2.2.2.2.2.1 s.2.2.1.2.2.2.2.2.2.2.1 (fun x0 => K ((), (x0, ())))⟩
noncomputable def C : Ctx := ⟨tyT, [laws_lkInts.o, laws_lkStripe.o], [], 38, 0⟩
theorem ctx : CtxOk Tryz.prog C := ⟨tyOk, all1 laws_lkInts.ok (all1 laws_lkStripe.ok (all0))⟩
theorem eG (β : Type) (s : sin.den) (K : sout.den → Option β) : evalFn C Tryz.f37 sin sout s K = o.F s K := by kernel_rfl
theorem ok : OracOk Tryz.prog o := fn_ok mixed Tryz.func37 (by kernel_rfl) ctx (c := bodyC Tryz.f37) (by kernel_rfl) (all0) (by kernel_rfl) (by kernel_rfl) (by kernel_rfl) (Nat.le_of_ble_eq_true (by kernel_rfl)) eG (by kernel_rfl) (Nat.le_of_ble_eq_true (by kernel_rfl))
end laws_lkKeep
end Go.Proofs.YtnbighmbgmjbkaaGreat.E
end
