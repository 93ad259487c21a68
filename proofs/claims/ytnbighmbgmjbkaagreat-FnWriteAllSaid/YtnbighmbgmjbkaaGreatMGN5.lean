/- What the functions of several statements compute, step by step. No condition. -/
import Derived.Test.YtnbighmbgmjbkaaGreatRows
import Derived.WalkKit
import Derived.JoinedOf
import Derived.Test.YtnbighmbgmjbkaaGreatMGN2
import Derived.Test.YtnbighmbgmjbkaaGreatMGN3
import Derived.Test.YtnbighmbgmjbkaaGreatMGN4
section
set_option linter.unusedVariables false
set_option linter.unusedSimpArgs false
namespace Go.Proofs.YtnbighmbgmjbkaaGreat.E
open Go Go.RowKit
set_option linter.unusedVariables false
set_option maxRecDepth 100000
namespace spec_KeepOk
def sin : Sig := ⟨[], [.agg [.val I false, .val (.sl I) false, .val (.sl I) false, .val (.sl .bool) false, .val .bool false, .val I false, .val (.sl I) false, .val I false]]⟩
def sout : Sig := ⟨[], [.one (.val .bool false)]⟩
def h18 : SS := ⟨[1, 8, 9], ⟨[.box [.val I false, .val (.sl I) false, .val (.sl I) false, .val (.sl .bool) false, .val .bool false, .val I false, .val (.sl I) false, .val I false], .buf I false], [.one (.ref (.ptr 0)), .one (.ref (.own 1)), .one (.val I false)]⟩⟩
def x18 : SS := ⟨[], ⟨[], []⟩⟩
def y18 : SS := ⟨[2], ⟨[], [.one (.val .bool false)]⟩⟩
noncomputable def b18 {β : Type} (S : Sl) (L : Int → (List Int) → (List Int) → (List Bool) → Bool → Int → (List Int) → Int → (List Int) → Int → Option β) (kx : Option β) (kr : Bool → Option β) (s0 : Int) (s1 : (List Int)) (s2 : (List Int)) (s3 : (List Bool)) (s4 : Bool) (s5 : Int) (s6 : (List Int)) (s7 : Int) (s8 : (List Int)) (s9 : Int) : Option β := bif (S.lt s9 8) then (bif (S.ir s9 s2.length) then (bif (S.eq (List.getD s2 (Int.toNat s9) 0) s7) then (bif (S.ir s9 s3.length) then (bif (!(List.getD s3 (Int.toNat s9) false)) then (kr false) else (bif (S.ir s9 s1.length) then (bif (S.ir s9 s8.length) then (bif (!S.eq (List.getD s1 (Int.toNat s9) 0) (List.getD s8 (Int.toNat s9) 0)) then (kr false) else (L s0 s1 s2 s3 s4 s5 s6 s7 s8 (S.w (s9 + 1)))) else (none)) else (none))) else (none)) else (L s0 s1 s2 s3 s4 s5 s6 s7 s8 (S.w (s9 + 1)))) else (none)) else (kx)
noncomputable def r18 {β : Type} (S : Sl) (n : Nat) (kx : x18.sig.den → Option β) (kr : y18.sig.den → Option β) (s : h18.sig.den) : Option β := rounds (fun L kx kr s => b18 S (fun x0 x1 x2 x3 x4 x5 x6 x7 x8 x9 => L (((x0, (x1, (x2, (x3, (x4, (x5, (x6, (x7, ())))))))), (x8, ())), (x9, ()))) (kx ((), ())) (fun x0 => kr ((), (x0, ()))) s.1.1.1 s.1.1.2.1 s.1.1.2.2.1 s.1.1.2.2.2.1 s.1.1.2.2.2.2.1 s.1.1.2.2.2.2.2.1 s.1.1.2.2.2.2.2.2.1 s.1.1.2.2.2.2.2.2.2.1 s.1.2.1 s.2.1) kx kr n s
noncomputable def l18 {β : Type} (S : Sl) (n : Nat) (kx : Option β) (kr : Bool → Option β) (s0 : Int) (s1 : (List Int)) (s2 : (List Int)) (s3 : (List Bool)) (s4 : Bool) (s5 : Int) (s6 : (List Int)) (s7 : Int) (s8 : (List Int)) (s9 : Int) : Option β := r18 S n (fun s => kx) (fun s => kr s.2.1) (((s0, (s1, (s2, (s3, (s4, (s5, (s6, (s7, ())))))))), (s8, ())), (s9, ()))
theorem t18 {β : Type} (S : Sl) (n : Nat) (kx : Option β) (kr : Bool → Option β) (s0 : Int) (s1 : (List Int)) (s2 : (List Int)) (s3 : (List Bool)) (s4 : Bool) (s5 : Int) (s6 : (List Int)) (s7 : Int) (s8 : (List Int)) (s9 : Int) : l18 S (n + 1) kx kr s0 s1 s2 s3 s4 s5 s6 s7 s8 s9 = b18 S (l18 S n kx kr) kx kr s0 s1 s2 s3 s4 s5 s6 s7 s8 s9 := by kernel_rfl
def h7 : SS := ⟨[1, 3, 4], ⟨[.box [.val I false, .val (.sl I) false, .val (.sl I) false, .val (.sl .bool) false, .val .bool false, .val I false, .val (.sl I) false, .val I false], .box [.val I false, .ref (.own 2), .ref (.own 3), .ref (.own 4)], .buf I false, .buf I false, .buf .bool false], [.one (.ref (.ptr 0)), .one (.ref (.ptr 1)), .one (.val I false)]⟩⟩
def x7 : SS := ⟨[1, 3], ⟨[.box [.val I false, .val (.sl I) false, .val (.sl I) false, .val (.sl .bool) false, .val .bool false, .val I false, .val (.sl I) false, .val I false], .box [.val I false, .ref (.own 2), .ref (.own 3), .ref (.own 4)], .buf I false, .buf I false, .buf .bool false], [.one (.ref (.ptr 0)), .one (.ref (.ptr 1))]⟩⟩
def y7 : SS := ⟨[2], ⟨[], [.one (.val .bool false)]⟩⟩
noncomputable def b7 {β : Type} (S : Sl) (L : Int → (List Int) → (List Int) → (List Bool) → Bool → Int → (List Int) → Int → Int → (List Int) → (List Int) → (List Bool) → Int → Option β) (kx : Int → (List Int) → (List Int) → (List Bool) → Bool → Int → (List Int) → Int → Int → (List Int) → (List Int) → (List Bool) → Option β) (kr : Bool → Option β) (s0 : Int) (s1 : (List Int)) (s2 : (List Int)) (s3 : (List Bool)) (s4 : Bool) (s5 : Int) (s6 : (List Int)) (s7 : Int) (s8 : Int) (s9 : (List Int)) (s10 : (List Int)) (s11 : (List Bool)) (s12 : Int) : Option β := bif (S.lt s12 8) then (bif (S.ir s12 s11.length) then (bif (List.getD s11 (Int.toNat s12) false) then (bif (S.ir s12 s10.length) then (spec_l21Top.G S s8 s9 s10 s11 (fun y1 => bif (!S.eq (List.getD s10 (Int.toNat s12) 0) y1) then (kr false) else (L s0 s1 s2 s3 s4 s5 s6 s7 s8 s9 s10 s11 (S.w (s12 + 1))))) else (none)) else (L s0 s1 s2 s3 s4 s5 s6 s7 s8 s9 s10 s11 (S.w (s12 + 1)))) else (none)) else (kx s0 s1 s2 s3 s4 s5 s6 s7 s8 s9 s10 s11)
noncomputable def r7 {β : Type} (S : Sl) (n : Nat) (kx : x7.sig.den → Option β) (kr : y7.sig.den → Option β) (s : h7.sig.den) : Option β := rounds (fun L kx kr s => b7 S (fun x0 x1 x2 x3 x4 x5 x6 x7 x8 x9 x10 x11 x12 => L (((x0, (x1, (x2, (x3, (x4, (x5, (x6, (x7, ())))))))), ((x8, ()), (x9, (x10, (x11, ()))))), (x12, ()))) (fun x0 x1 x2 x3 x4 x5 x6 x7 x8 x9 x10 x11 => kx (((x0, (x1, (x2, (x3, (x4, (x5, (x6, (x7, ())))))))), ((x8, ()), (x9, (x10, (x11, ()))))), ())) (fun x0 => kr ((), (x0, ()))) s.1.1.1 s.1.1.2.1 s.1.1.2.2.1 s.1.1.2.2.2.1 s.1.1.2.2.2.2.1 s.1.1.2.2.2.2.2.1 s.1.1.2.2.2.2.2.2.1 s.1.1.2.2.2.2.2.2.2.1 s.1.2.1.1 s.1.2.2.1 s.1.2.2.2.1 s.1.2.2.2.2.1 s.2.1) kx kr n s
noncomputable def l7 {β : Type} (S : Sl) (n : Nat) (kx : Int → (List Int) → (List Int) → (List Bool) → Bool → Int → (List Int) → Int → Int → (List Int) → (List Int) → (List Bool) → Option β) (kr : Bool → Option β) (s0 : Int) (s1 : (List Int)) (s2 : (List Int)) (s3 : (List Bool)) (s4 : Bool) (s5 : Int) (s6 : (List Int)) (s7 : Int) (s8 : Int) (s9 : (List Int)) (s10 : (List Int)) (s11 : (List Bool)) (s12 : Int) : Option β := r7 S n (fun s => kx s.1.1.1 s.1.1.2.1 s.1.1.2.2.1 s.1.1.2.2.2.1 s.1.1.2.2.2.2.1 s.1.1.2.2.2.2.2.1 s.1.1.2.2.2.2.2.2.1 s.1.1.2.2.2.2.2.2.2.1 s.1.2.1.1 s.1.2.2.1 s.1.2.2.2.1 s.1.2.2.2.2.1) (fun s => kr s.2.1) (((s0, (s1, (s2, (s3, (s4, (s5, (s6, (s7, ())))))))), ((s8, ()), (s9, (s10, (s11, ()))))), (s12, ()))
theorem t7 {β : Type} (S : Sl) (n : Nat) (kx : Int → (List Int) → (List Int) → (List Bool) → Bool → Int → (List Int) → Int → Int → (List Int) → (List Int) → (List Bool) → Option β) (kr : Bool → Option β) (s0 : Int) (s1 : (List Int)) (s2 : (List Int)) (s3 : (List Bool)) (s4 : Bool) (s5 : Int) (s6 : (List Int)) (s7 : Int) (s8 : Int) (s9 : (List Int)) (s10 : (List Int)) (s11 : (List Bool)) (s12 : Int) : l7 S (n + 1) kx kr s0 s1 s2 s3 s4 s5 s6 s7 s8 s9 s10 s11 s12 = b7 S (l7 S n kx kr) kx kr s0 s1 s2 s3 s4 s5 s6 s7 s8 s9 s10 s11 s12 := by kernel_rfl
noncomputable def G {β : Type} (S : Sl) (a0 : Int) (a1 : (List Int)) (a2 : (List Int)) (a3 : (List Bool)) (a4 : Bool) (a5 : Int) (a6 : (List Int)) (a7 : Int) (K : Bool → Option β) : Option β := spec_l4Kind.G S a0 (fun y1 => bif (!y1) then (K false) else (spec_l4Vals.G S a1 a3 (fun y2 => bif (!y2) then (K false) else (bif (!S.eq (a2.length : Int) 8) then (K false) else (spec_l23Elder.G S a0 a1 a2 a3 a4 a5 a6 a7 (fun y3 y4 y5 y6 => spec_StripeOk.G S y6 y3 y4 y5 (fun y7 => bif (!y7) then (K false) else (l7 S S.n (fun y8 y9 y10 y11 y12 y13 y14 y15 y16 y17 y18 y19 => bif (!y12) then (spec_l21Read.G S y8 y9 y10 y11 (fun y20 y21 y22 => bif y22 then (bif (S.eq y13 0) then (bif (S.eq (y14.length : Int) 0) then (K (S.eq y15 0)) else (K false)) else (K false)) else (K false))) else (spec_l4Kind.G S y13 (fun y23 => bif (!y23) then (K false) else (spec_VecOk.G S y14 (fun y24 => bif (!y24) then (K false) else (spec_l21Top.G S y16 y17 y18 y19 (fun y25 => spec_l6In.G S y15 (S.w (y25 + 1)) 99 (fun y26 => bif (!y26) then (K false) else (spec_l4All.G S y13 y14 (fun y27 => l18 S S.n (K true) (fun y28 => K y28) y8 y9 y10 y11 y12 y13 y14 y15 y27 0)))))))))) (fun y29 => K y29) a0 a1 a2 a3 a4 a5 a6 a7 y6 y3 y4 y5 0))))))))
noncomputable def o : Orac := ⟨39, sin, sout, fun s K => G sl0 s.2.1.1 s.2.1.2.1 s.2.1.2.2.1 s.2.1.2.2.2.1 s.2.1.2.2.2.2.1 s.2.1.2.2.2.2.2.1 s.2.1.2.2.2.2.2.2.1 s.2.1.2.2.2.2.2.2.2.1 (fun x0 => K ((), (x0, ())))⟩
noncomputable def C : Ctx := ⟨tyT, [spec_StripeOk.o, spec_VecOk.o, spec_l21Read.o, spec_l21Top.o, spec_l23Elder.o, spec_l4All.o, spec_l4Kind.o, spec_l4Vals.o, spec_l6In.o], [⟨7, 0, h7, x7, y7, fun s kx kr => r7 sl0 sl0.n kx kr s⟩, ⟨18, 2, h18, x18, y18, fun s kx kr => r18 sl0 sl0.n kx kr s⟩], 142, 0⟩
theorem ctx : CtxOk Tryz.prog C := ⟨tyOk, all1 spec_StripeOk.ok (all1 spec_VecOk.ok (all1 spec_l21Read.ok (all1 spec_l21Top.ok (all1 spec_l23Elder.ok (all1 spec_l4All.ok (all1 spec_l4Kind.ok (all1 spec_l4Vals.ok (all1 spec_l6In.ok (all0)))))))))⟩
theorem e18 (β : Type) (L : h18.sig.den → Option β) (kx : x18.sig.den → Option β) (kr : y18.sig.den → Option β) (s : h18.sig.den) : evalBody C (nthC (loopsOf (bodyC Tryz.f39)) 1) 2 h18 x18 y18 L kx kr s = b18 sl0 (fun x0 x1 x2 x3 x4 x5 x6 x7 x8 x9 => L (((x0, (x1, (x2, (x3, (x4, (x5, (x6, (x7, ())))))))), (x8, ())), (x9, ()))) (kx ((), ())) (fun x0 => kr ((), (x0, ()))) s.1.1.1 s.1.1.2.1 s.1.1.2.2.1 s.1.1.2.2.2.1 s.1.1.2.2.2.2.1 s.1.1.2.2.2.2.2.1 s.1.1.2.2.2.2.2.2.1 s.1.1.2.2.2.2.2.2.2.1 s.1.2.1 s.2.1 := by kernel_rfl
theorem g18 : LS Tryz.prog C ⟨18, 2, h18, x18, y18, fun s kx kr => r18 sl0 sl0.n kx kr s⟩ (loopsOf (bodyC Tryz.f39)) := LS.at (i := 1) (by kernel_rfl) (loop_good mixed ctx (ctx_nat ctx) (N := sl0.n) (fun _ _ _ _ => rfl) e18 (all1 (LS.none (by kernel_rfl)) (all1 (LS.none (by kernel_rfl)) (all0))))
theorem e7 (β : Type) (L : h7.sig.den → Option β) (kx : x7.sig.den → Option β) (kr : y7.sig.den → Option β) (s : h7.sig.den) : evalBody C (nthC (loopsOf (bodyC Tryz.f39)) 0) 0 h7 x7 y7 L kx kr s = b7 sl0 (fun x0 x1 x2 x3 x4 x5 x6 x7 x8 x9 x10 x11 x12 => L (((x0, (x1, (x2, (x3, (x4, (x5, (x6, (x7, ())))))))), ((x8, ()), (x9, (x10, (x11, ()))))), (x12, ()))) (fun x0 x1 x2 x3 x4 x5 x6 x7 x8 x9 x10 x11 => kx (((x0, (x1, (x2, (x3, (x4, (x5, (x6, (x7, ())))))))), ((x8, ()), (x9, (x10, (x11, ()))))), ())) (fun x0 => kr ((), (x0, ()))) s.1.1.1 s.1.1.2.1 s.1.1.2.2.1 s.1.1.2.2.2.1 s.1.1.2.2.2.2.1 s.1.1.2.2.2.2.2.1 s.1.1.2.2.2.2.2.2.1 s.1.1.2.2.2.2.2.2.2.1 s.1.2.1.1 s.1.2.2.1 s.1.2.2.2.1 s.1.2.2.2.2.1 s.2.1 := by kernel_rfl
theorem g7 : LS Tryz.prog C ⟨7, 0, h7, x7, y7, fun s kx kr => r7 sl0 sl0.n kx kr s⟩ (loopsOf (bodyC Tryz.f39)) := LS.at (i := 0) (by kernel_rfl) (loop_good mixed ctx (ctx_nat ctx) (N := sl0.n) (fun _ _ _ _ => rfl) e7 (all1 (LS.none (by kernel_rfl)) (all1 (LS.none (by kernel_rfl)) (all0))))
theorem eG (β : Type) (s : sin.den) (K : sout.den → Option β) : evalFn C Tryz.f39 sin sout s K = o.F s K := by kernel_rfl
theorem ok : OracOk Tryz.prog o := fn_ok mixed Tryz.func39 (by kernel_rfl) ctx (c := bodyC Tryz.f39) (by kernel_rfl) (all1 g7 (all1 g18 (all0))) (by kernel_rfl) (by kernel_rfl) (by kernel_rfl) (Nat.le_of_ble_eq_true (by kernel_rfl)) eG (by kernel_rfl) (Nat.le_of_ble_eq_true (by kernel_rfl))
end spec_KeepOk
end Go.Proofs.YtnbighmbgmjbkaaGreat.E
end
section
set_option linter.unusedVariables false
set_option linter.unusedSimpArgs false
namespace Go.Proofs.YtnbighmbgmjbkaaGreat.E
open Go Go.RowKit
set_option linter.unusedVariables false
set_option maxRecDepth 100000
namespace impl_Keep_copied
def sin : Sig := ⟨[], [.agg [.val I false, .val (.sl I) false, .val (.sl I) false, .val (.sl .bool) false, .val .bool false, .val I false, .val (.sl I) false, .val I false]]⟩
def sout : Sig := ⟨[.buf I false, .buf I false, .buf .bool false, .buf I false], [.agg [.val I false, .ref (.own 0), .ref (.own 1), .ref (.own 2), .val .bool false, .val I false, .ref (.own 3), .val I false]]⟩
noncomputable def G {β : Type} (S : Sl) (a0 : Int) (a1 : (List Int)) (a2 : (List Int)) (a3 : (List Bool)) (a4 : Bool) (a5 : Int) (a6 : (List Int)) (a7 : Int) (K : (List Int) → (List Int) → (List Bool) → (List Int) → Int → Bool → Int → Int → Option β) : Option β := impl_Stripe_copied.G S a0 a1 a2 a3 (fun y1 y2 y3 y4 => slices_Clone_Sint_int.G S a6 (fun y5 => slices_Clip_Sint_int_.G S y5 (fun y6 => K y1 y2 y3 y6 y4 a4 a5 a7)))
noncomputable def o : Orac := ⟨117, sin, sout, fun s K => G sl0 s.2.1.1 s.2.1.2.1 s.2.1.2.2.1 s.2.1.2.2.2.1 s.2.1.2.2.2.2.1 s.2.1.2.2.2.2.2.1 s.2.1.2.2.2.2.2.2.1 s.2.1.2.2.2.2.2.2.2.1 (fun x0 x1 x2 x3 x4 x5 x6 x7 => K ((x0, (x1, (x2, (x3, ())))), ((x4, (x5, (x6, (x7, ())))), ())))⟩
noncomputable def C : Ctx := ⟨tyT, [impl_Stripe_copied.o, slices_Clip_Sint_int_.o, slices_Clone_Sint_int.o], [], 13, 0⟩
theorem ctx : CtxOk Tryz.prog C := ⟨tyOk, all1 impl_Stripe_copied.ok (all1 slices_Clip_Sint_int_.ok (all1 slices_Clone_Sint_int.ok (all0)))⟩
theorem eG (β : Type) (s : sin.den) (K : sout.den → Option β) : evalFn C Tryz.f117 sin sout s K = o.F s K := by kernel_rfl
theorem ok : OracOk Tryz.prog o := fn_ok mixed Tryz.func117 (by kernel_rfl) ctx (c := bodyC Tryz.f117) (by kernel_rfl) (all0) (by kernel_rfl) (by kernel_rfl) (by kernel_rfl) (Nat.le_of_ble_eq_true (by kernel_rfl)) eG (by kernel_rfl) (Nat.le_of_ble_eq_true (by kernel_rfl))
end impl_Keep_copied
end Go.Proofs.YtnbighmbgmjbkaaGreat.E
end
section
set_option linter.unusedVariables false
set_option linter.unusedSimpArgs false
namespace Go.Proofs.YtnbighmbgmjbkaaGreat.E
open Go Go.RowKit
set_option linter.unusedVariables false
set_option maxRecDepth 100000
namespace spec_l23Copy
def sin : Sig := ⟨[], [.agg [.val I false, .val (.sl I) false, .val (.sl I) false, .val (.sl .bool) false, .val .bool false, .val I false, .val (.sl I) false, .val I false]]⟩
def sout : Sig := ⟨[.buf I false, .buf I false, .buf .bool false, .buf I false], [.agg [.val I false, .ref (.own 0), .ref (.own 1), .ref (.own 2), .val .bool false, .val I false, .ref (.own 3), .val I false]]⟩
noncomputable def G {β : Type} (S : Sl) (a0 : Int) (a1 : (List Int)) (a2 : (List Int)) (a3 : (List Bool)) (a4 : Bool) (a5 : Int) (a6 : (List Int)) (a7 : Int) (K : (List Int) → (List Int) → (List Bool) → (List Int) → Int → Bool → Int → Int → Option β) : Option β := spec_l21Copy.G S a0 a1 a2 a3 (fun y1 y2 y3 y4 => bif (S.fw ([] ++ a6).length) then (K y1 y2 y3 ([] ++ a6) y4 a4 a5 a7) else (none))
noncomputable def o : Orac := ⟨120, sin, sout, fun s K => G sl0 s.2.1.1 s.2.1.2.1 s.2.1.2.2.1 s.2.1.2.2.2.1 s.2.1.2.2.2.2.1 s.2.1.2.2.2.2.2.1 s.2.1.2.2.2.2.2.2.1 s.2.1.2.2.2.2.2.2.2.1 (fun x0 x1 x2 x3 x4 x5 x6 x7 => K ((x0, (x1, (x2, (x3, ())))), ((x4, (x5, (x6, (x7, ())))), ())))⟩
noncomputable def C : Ctx := ⟨tyT, [spec_l21Copy.o], [], 13, 0⟩
theorem ctx : CtxOk Tryz.prog C := ⟨tyOk, all1 spec_l21Copy.ok (all0)⟩
theorem eG (β : Type) (s : sin.den) (K : sout.den → Option β) : evalFn C Tryz.f120 sin sout s K = o.F s K := by kernel_rfl
theorem ok : OracOk Tryz.prog o := fn_ok mixed Tryz.func120 (by kernel_rfl) ctx (c := bodyC Tryz.f120) (by kernel_rfl) (all0) (by kernel_rfl) (by kernel_rfl) (by kernel_rfl) (Nat.le_of_ble_eq_true (by kernel_rfl)) eG (by kernel_rfl) (Nat.le_of_ble_eq_true (by kernel_rfl))
end spec_l23Copy
end Go.Proofs.YtnbighmbgmjbkaaGreat.E
end
section
set_option linter.unusedVariables false
set_option linter.unusedSimpArgs false
namespace Go.Proofs.YtnbighmbgmjbkaaGreat.E
open Go Go.RowKit
set_option linter.unusedVariables false
set_option maxRecDepth 100000
theorem vec_l {b : List Int} (hb : Src b) (d : Nat) : ∀ (i n : Nat) (p : Int) (acc : List Int), i + d = 4 → acc.length = i → d < n → 0 ≤ p → p + 4 * d ≤ 900000 →
  ∃ (v : List Int) (q : Int), v.length = 4 ∧ p ≤ q ∧ q ≤ p + 4 * d ∧ ∀ (β : Type) (kx : List Int → Int → List Int → Option β) (kr : Option β), spec_l91Vec.l3 sl1 n kx kr b p acc (i : Int) = kx b q v := by
 induction d with
 | zero =>
  intro i n p acc hi ha hn hp hp2
  obtain ⟨n, rfl⟩ : ∃ m, n = m + 1 := ⟨n - 1, by omega⟩
  exact ⟨acc, p, by omega, by omega, by omega, fun β kx kr => by rw [spec_l91Vec.t3]; exact cF (ltF (by omega)) rfl⟩
 | succ d ih =>
  intro i n p acc hi ha hn hp hp2
  obtain ⟨n, rfl⟩ : ∃ m, n = m + 1 := ⟨n - 1, by omega⟩
  obtain ⟨v1, _, _, e1⟩ := pick_S hb (p := p) 4
  obtain ⟨v2, _, _, e2⟩ := pick_S hb (p := p + 1) 31
  obtain ⟨v3, _, _, e3⟩ := pick_S hb (p := p + 1 + 1) 31
  obtain ⟨v4, f0, f1, e4⟩ := pick_S hb (p := p + 1 + 1 + 1) 4
  obtain ⟨v, q, k1, k2, k3, k4⟩ := ih (i + 1) n (p + 1 + 1 + 1 + 1) (acc ++ [List.getD [0, v1, v2, v3] (Int.toNat v4) 0]) (by omega) (by rw [List.length_append, List.length_singleton]; omega) (by omega) (by omega) (by omega)
  refine ⟨v, q, k1, by omega, by omega, fun β kx kr => ?_⟩
  rw [spec_l91Vec.t3]
  unfold spec_l91Vec.b3
  refine cT (ltT (by omega)) ((e1 _ _).trans ((e2 _ _).trans ((e3 _ _).trans ((e4 _ _).trans (cT (irT f0 f1) (cT (fwT (by rw [List.length_append, List.length_singleton]; omega)) ?_))))))
  rw [w_succ (by omega)]
  exact k4 β kx kr
theorem vec_S {b : List Int} (hb : Src b) {p : Int} (hp : 0 ≤ p) (hp2 : p ≤ 800000) : ∃ (v : List Int) (q : Int), v.length ≤ 4 ∧ p ≤ q ∧ q ≤ p + 19 ∧ ∀ (β : Type) (K : List Int → Int → List Int → Option β), spec_l91Vec.G sl1 b p K = K b q v := by
 obtain ⟨v, q, k1, k2, k3, k4⟩ := vec_l hb 4 0 sl1.n p [] (by omega) rfl (by rw [rounds_n]; omega) hp (by omega)
 obtain ⟨a, a0, a1, ea⟩ := pick_S hb (p := q) 40
 by_cases h0 : a = 0
 ·refine ⟨cutL v 1 v.length, q + 1, ?_, by omega, by omega, fun β K => (k4 _ _ _).trans ((ea _ _).trans (cT (eqT h0) (cT (andT (andT (andT rfl (leT (by omega))) (leT (by omega))) (leT (by omega))) ?_)))⟩
  ·unfold cutL
   simp; omega
  ·rw [Int.toNat_natCast]; rfl
 by_cases h1 : a = 1
 ·obtain ⟨c, c0, c1, ec⟩ := pick_S hb (p := q + 1) (v.length : Int)
  obtain ⟨e, e0, e1, ee⟩ := pick_S hb (p := q + 1 + 1) 2
  exact ⟨v.set (Int.toNat c) (List.getD [(-1), 31] (Int.toNat e) 0), q + 1 + 1 + 1, by rw [List.length_set]; omega, by omega, by omega, fun β K => (k4 _ _ _).trans ((ea _ _).trans (cF (eqF h0) (cT (eqT h1) ((ec _ _).trans ((ee _ _).trans (cT (irT e0 e1) (cT (irT c0 c1) rfl)))))))⟩
 ·exact ⟨v, q + 1, by omega, by omega, by omega, fun β K => (k4 _ _ _).trans ((ea _ _).trans (cF (eqF h0) (cF (eqF h1) rfl)))⟩
end Go.Proofs.YtnbighmbgmjbkaaGreat.E
end
section
set_option linter.unusedVariables false
set_option linter.unusedSimpArgs false
namespace Go.Proofs.YtnbighmbgmjbkaaGreat.E
open Go Go.RowKit
set_option linter.unusedVariables false
set_option maxRecDepth 100000
theorem lkInts_l {β : Type} (l : List Int) (hl : l.length ≤ 1000000) (kx : Option β) (kr : Bool → Option β) (d : Nat) : ∀ (i n : Nat), i + d = l.length → d < n → laws_lkInts.l4 sl1 n kx kr l l (i : Int) = kx := by
 induction d with
 | zero =>
  intro i n hi hn
  obtain ⟨n, rfl⟩ : ∃ m, n = m + 1 := ⟨n - 1, by omega⟩
  rw [laws_lkInts.t4]; exact cF (ltF (by omega)) rfl
 | succ d ih =>
  intro i n hi hn
  obtain ⟨n, rfl⟩ : ∃ m, n = m + 1 := ⟨n - 1, by omega⟩
  rw [laws_lkInts.t4]
  unfold laws_lkInts.b4
  refine cT (ltT (by omega)) (cT (irT (by omega) (by omega)) (cT (irT (by omega) (by omega)) (cF (neF rfl) ?_)))
  rw [w_succ (by omega)]
  exact ih (i + 1) n (by omega) (by omega)
theorem lkInts_same {β : Type} (l : List Int) (hl : l.length ≤ 1000000) (K : Bool → Option β) : laws_lkInts.G sl1 l l K = K true := by
 unfold laws_lkInts.G
 exact cF (neF rfl) (lkInts_l l hl _ _ l.length 0 sl1.n (by omega) (by rw [rounds_n]; omega))
end Go.Proofs.YtnbighmbgmjbkaaGreat.E
end
section
set_option linter.unusedVariables false
set_option linter.unusedSimpArgs false
namespace Go.Proofs.YtnbighmbgmjbkaaGreat.Head
theorem strip (r : List (List Char)) : stripLifts liftWords ("cut".toList :: r) = ([], "cut".toList :: r) := by
 unfold liftWords
 repeat (rw [stripLifts, if_neg (by decide +kernel)])
 rw [stripLifts]
theorem words_of {ws : List (List Char)} (h : ws.head? = some "cut".toList) : ∃ r, ws = "cut".toList :: r := by
 cases ws with
 | nil => cases h
 | cons c r => exact ⟨r, by rw [Option.some.inj h]⟩
theorem lifts_of (P : Program) (l : List Char) (hl : P.initOrder.toList = l) (h : (behindMainWord (wordsSigns l)).head? = some "cut".toList) : P.headLifts = [] := by
 obtain ⟨r, hr⟩ := words_of h
 unfold Program.headLifts
 rw [hl, hr, strip]
 dsimp only
 split <;> rfl
theorem e1 : ("cut".toList == "gc".toList) = false := by decide +kernel
theorem e2 : ("cut".toList == "spec".toList) = false := by decide +kernel
theorem e3 : ("cut".toList == "carried".toList) = false := by decide +kernel
theorem e4 : (some "cut".toList == some "carried".toList) = false := by decide +kernel
theorem make_of (P : Program) (l : List Char) (hl : P.initOrder.toList = l) (h : (behindMainWord (wordsSigns l)).head? = some "cut".toList) : P.make = some .cut := by
 obtain ⟨r, hr⟩ := words_of h
 unfold Program.make
 rw [hl, hr]
 dsimp only
 rw [e1, e2]
 simp
theorem final_of (P : Program) (l : List Char) (hl : P.initOrder.toList = l) (h : (behindMainWord (wordsSigns l)).head? = some "cut".toList) : P.liftsFinal = false := by
 obtain ⟨r, hr⟩ := words_of h
 unfold Program.liftsFinal
 rw [hl, hr, lifts_of P l hl h]
 dsimp only [List.head?_cons]
 rw [e4]
 rfl
theorem enter_of (P : Program) (l : List Char) (hl : P.initOrder.toList = l) (h : (behindMainWord (wordsSigns l)).head? = some "cut".toList) (later : P.laysLater = false) (reflect : P.bearsReflect = false) (door : P.doorFits [] = true) : P.mayEnter = true := by
 obtain ⟨r, hr⟩ := words_of h
 unfold Program.mayEnter
 rw [hl, hr]
 dsimp only
 rw [strip]
 dsimp only
 rw [later, reflect, door, e1, e2, e3]
 simp
def signs : List Char := List.map Char.ofNat [104, 97, 114, 110, 101, 115, 115, 32, 99, 101, 57, 52, 57, 101, 97, 56, 48, 51, 51, 52, 97, 102, 98, 52, 53, 56, 97, 57, 49, 54, 57, 50, 55, 98, 57, 51, 99, 56, 98, 55, 102, 57, 97, 102, 52, 98, 56, 51, 101, 56, 101, 99, 48, 53, 50, 102, 101, 100, 52, 98, 54, 54, 48, 50, 52, 53, 50, 49, 102, 99, 98, 49, 32, 99, 117, 116, 32, 97, 116, 32, 108, 111, 111, 112, 46, 101, 120, 97, 109, 112, 108, 101, 47, 107, 101, 101, 108, 115, 111, 110, 47, 108, 97, 119, 115, 46, 70, 110, 87, 114, 105, 116, 101, 82, 101, 97, 100, 32, 108, 111, 111, 112, 46, 101, 120, 97, 109, 112, 108, 101, 47, 107, 101, 101, 108, 115, 111, 110, 47, 108, 97, 119, 115, 46, 70, 110, 80, 97, 116, 99, 104, 72, 97, 108, 102, 32, 108, 111, 111, 112, 46, 101, 120, 97, 109, 112, 108, 101, 47, 107, 101, 101, 108, 115, 111, 110, 47, 108, 97, 119, 115, 46, 70, 110, 75, 101, 101, 112, 82, 101, 97, 100, 32, 108, 111, 111, 112, 46, 101, 120, 97, 109, 112, 108, 101, 47, 107, 101, 101, 108, 115, 111, 110, 47, 108, 97, 119, 115, 46, 70, 110, 75, 101, 101, 112, 76, 111, 115, 101, 32, 108, 111, 111, 112, 46, 101, 120, 97, 109, 112, 108, 101, 47, 107, 101, 101, 108, 115, 111, 110, 47, 108, 97, 119, 115, 46, 70, 110, 75, 101, 101, 112, 70, 111, 114, 109, 32, 108, 111, 111, 112, 46, 101, 120, 97, 109, 112, 108, 101, 47, 107, 101, 101, 108, 115, 111, 110, 47, 108, 97, 119, 115, 46, 70, 110, 84, 117, 114, 110, 76, 101, 102, 116, 32, 108, 111, 111, 112, 46, 101, 120, 97, 109, 112, 108, 101, 47, 107, 101, 101, 108, 115, 111, 110, 47, 108, 97, 119, 115, 46, 70, 110, 66, 101, 103, 105, 110, 78, 111, 116, 32, 108, 111, 111, 112, 46, 101, 120, 97, 109, 112, 108, 101, 47, 107, 101, 101, 108, 115, 111, 110, 47, 108, 97, 119, 115, 46, 70, 110, 75, 101, 101, 112, 78, 101, 119, 32, 108, 111, 111, 112, 46, 101, 120, 97, 109, 112, 108, 101, 47, 107, 101, 101, 108, 115, 111, 110, 47, 108, 97, 119, 115, 46, 70, 110, 76, 111, 115, 101, 70, 101, 119, 32, 108, 111, 111, 112, 46, 101, 120, 97, 109, 112, 108, 101, 47, 107, 101, 101, 108, 115, 111, 110, 47, 108, 97, 119, 115, 46, 70, 110, 87, 114, 105, 116, 101, 65, 108, 108, 32, 108, 111, 111, 112, 46, 101, 120, 97, 109, 112, 108, 101, 47, 107, 101, 101, 108, 115, 111, 110, 47, 108, 97, 119, 115, 46, 70, 110, 77, 101, 110, 100, 32, 108, 111, 111, 112, 46, 101, 120, 97, 109, 112, 108, 101, 47, 107, 101, 101, 108, 115, 111, 110, 47, 108, 97, 119, 115, 46, 70, 110, 77, 101, 110, 100, 70, 97, 108, 115, 101, 32, 108, 111, 111, 112, 46, 101, 120, 97, 109, 112, 108, 101, 47, 107, 101, 101, 108, 115, 111, 110, 47, 108, 97, 119, 115, 46, 70, 110, 77, 101, 110, 100, 65, 108, 108, 32, 108, 111, 111, 112, 46, 101, 120, 97, 109, 112, 108, 101, 47, 107, 101, 101, 108, 115, 111, 110, 47, 108, 97, 119, 115, 46, 70, 110, 77, 101, 110, 100, 76, 111, 115, 116, 32, 108, 111, 111, 112, 46, 101, 120, 97, 109, 112, 108, 101, 47, 107, 101, 101, 108, 115, 111, 110, 47, 108, 97, 119, 115, 46, 70, 110, 69, 120, 97, 99, 116, 83, 116, 114, 105, 112, 101, 77, 101, 110, 100, 32, 108, 111, 111, 112, 46, 101, 120, 97, 109, 112, 108, 101, 47, 107, 101, 101, 108, 115, 111, 110, 47, 108, 97, 119, 115, 46, 70, 110, 69, 120, 97, 99, 116, 82, 111, 116, 77, 101, 110, 100, 32, 108, 111, 111, 112, 46, 101, 120, 97, 109, 112, 108, 101, 47, 107, 101, 101, 108, 115, 111, 110, 47, 108, 97, 119, 115, 46, 70, 110, 82, 111, 116, 70, 101, 119]
theorem order : Tryz.prog.initOrder = String.ofList signs := by kernel_rfl
theorem toL : Tryz.prog.initOrder.toList = signs := by rw [order]; exact String.toList_ofList
theorem words : (behindMainWord (wordsSigns signs)).head? = some "cut".toList := by kernel_rfl
theorem make : Tryz.prog.make = some .cut := make_of _ _ toL words
theorem final : Tryz.prog.liftsFinal = false := final_of _ _ toL words
theorem enter : Tryz.prog.mayEnter = true := enter_of _ _ toL words (by as_aux_lemma => kernel_rfl) (by as_aux_lemma => kernel_rfl) (by as_aux_lemma => kernel_rfl)
end Go.Proofs.YtnbighmbgmjbkaaGreat.Head
end
