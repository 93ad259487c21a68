/- Part 1 of the proof of the statement FnStripeForm; the last part states it. No condition. -/
import Derived.Test.YtechafkfchmggaaGreatRows
import Derived.WalkKit
import Derived.ProofKit
import Derived.OpenShut
import Derived.ShutString
import Derived.ChangeOld
import Derived.Below
import Derived.SizedLaws
import Derived.Test.YtechafkfchmggaaGreatMGA2
import Derived.Test.YtechafkfchmggaaGreatMGA3
import Derived.Test.YtechafkfchmggaaGreatMGA4
import Derived.Test.YtechafkfchmggaaGreatMGA11
section
set_option linter.unusedVariables false
set_option linter.unusedSimpArgs false
namespace Go.Proofs.YtechafkfchmggaaGreat.E
open Go Go.RowKit
set_option linter.unusedVariables false
set_option maxRecDepth 100000
namespace impl_valsOk
def sin : Sig := ⟨[], [.one (.val (.sl I) false)]⟩
def sout : Sig := ⟨[], [.one (.val .bool false)]⟩
noncomputable def G {β : Type} (S : Sl) (a0 : (List Int)) (K : Bool → Option β) : Option β := impl_elementsOk.G S a0 8 (fun y1 => K y1)
noncomputable def o : Orac := ⟨120, sin, sout, fun s K => G sl0 s.2.1 (fun x0 => K ((), (x0, ())))⟩
noncomputable def C : Ctx := ⟨tyT, [impl_elementsOk.o], [], 5, 0⟩
theorem ctx : CtxOk Tryz.prog C := ⟨tyOk, all1 impl_elementsOk.ok (all0)⟩
theorem eG (β : Type) (s : sin.den) (K : sout.den → Option β) : evalFn C Tryz.f120 sin sout s K = o.F s K := by kernel_rfl
theorem ok : OracOk Tryz.prog o := fn_ok mixed Tryz.func120 (by kernel_rfl) ctx (c := bodyC Tryz.f120) (by kernel_rfl) (all0) (by kernel_rfl) (by kernel_rfl) (by kernel_rfl) (Nat.le_of_ble_eq_true (by kernel_rfl)) eG (by kernel_rfl) (Nat.le_of_ble_eq_true (by kernel_rfl))
end impl_valsOk
end Go.Proofs.YtechafkfchmggaaGreat.E
end
section
set_option linter.unusedVariables false
set_option linter.unusedSimpArgs false
namespace Go.Proofs.YtechafkfchmggaaGreat.E
open Go Go.RowKit
set_option linter.unusedVariables false
set_option maxRecDepth 100000
namespace impl_CodeFits
def sin : Sig := ⟨[], [.one (.val I false), .one (.val (.sl I) false), .one (.val (.sl .bool) false)]⟩
def sout : Sig := ⟨[], [.one (.val .bool false)]⟩
noncomputable def G {β : Type} (S : Sl) (a0 : Int) (a1 : (List Int)) (a2 : (List Bool)) (K : Bool → Option β) : Option β := impl_kindOk.G S a0 (fun y1 => bif y1 then (impl_valsOk.G S a1 (fun y2 => bif y2 then (bif (S.eq (a2.length : Int) 8) then (impl_flagged.G S a2 (fun y3 => impl_fits.G S a0 a1 y3 (fun y4 => K y4))) else (K false)) else (K false))) else (K false))
noncomputable def o : Orac := ⟨49, sin, sout, fun s K => G sl0 s.2.1 s.2.2.1 s.2.2.2.1 (fun x0 => K ((), (x0, ())))⟩
noncomputable def C : Ctx := ⟨tyT, [impl_fits.o, impl_flagged.o, impl_kindOk.o, impl_valsOk.o], [], 25, 0⟩
theorem ctx : CtxOk Tryz.prog C := ⟨tyOk, all1 impl_fits.ok (all1 impl_flagged.ok (all1 impl_kindOk.ok (all1 impl_valsOk.ok (all0))))⟩
theorem eG (β : Type) (s : sin.den) (K : sout.den → Option β) : evalFn C Tryz.f49 sin sout s K = o.F s K := by kernel_rfl
theorem ok : OracOk Tryz.prog o := fn_ok mixed Tryz.func49 (by kernel_rfl) ctx (c := bodyC Tryz.f49) (by kernel_rfl) (all0) (by kernel_rfl) (by kernel_rfl) (by kernel_rfl) (Nat.le_of_ble_eq_true (by kernel_rfl)) eG (by kernel_rfl) (Nat.le_of_ble_eq_true (by kernel_rfl))
end impl_CodeFits
end Go.Proofs.YtechafkfchmggaaGreat.E
end
section
set_option linter.unusedVariables false
set_option linter.unusedSimpArgs false
namespace Go.Proofs.YtechafkfchmggaaGreat.E
open Go Go.RowKit
set_option linter.unusedVariables false
set_option maxRecDepth 100000
namespace laws_lkOf
def sin : Sig := ⟨[], [.agg [.val I false, .val (.sl I) false, .val (.sl I) false, .val (.sl .bool) false], .one (.val I false)]⟩
def sout : Sig := ⟨[.buf .bool false], [.one (.ref (.own 0))]⟩
def h3 : SS := ⟨[1, 2, 5, 6], ⟨[.box [.val I false, .val (.sl I) false, .val (.sl I) false, .val (.sl .bool) false], .buf .bool false], [.one (.val I false), .one (.ref (.ptr 0)), .one (.ref (.own 1)), .one (.val I false)]⟩⟩
def x3 : SS := ⟨[5], ⟨[.buf .bool false], [.one (.ref (.own 0))]⟩⟩
def y3 : SS := ⟨[], ⟨[], []⟩⟩
noncomputable def b3 {β : Type} (S : Sl) (L : Int → (List Int) → (List Int) → (List Bool) → (List Bool) → Int → Int → Option β) (kx : (List Bool) → Option β) (kr : Option β) (s0 : Int) (s1 : (List Int)) (s2 : (List Int)) (s3 : (List Bool)) (s4 : (List Bool)) (s5 : Int) (s6 : Int) : Option β := bif (S.lt s6 (s3.length : Int)) then (bif (S.ir s6 s3.length) then (bif (List.getD s3 (Int.toNat s6) false) then (bif (S.ir s6 s2.length) then (bif (S.fw (s4 ++ [(S.eq (List.getD s2 (Int.toNat s6) 0) s5)]).length) then (L s0 s1 s2 s3 (s4 ++ [(S.eq (List.getD s2 (Int.toNat s6) 0) s5)]) s5 (S.w (s6 + 1))) else (none)) else (none)) else (bif (S.fw (s4 ++ [false]).length) then (L s0 s1 s2 s3 (s4 ++ [false]) s5 (S.w (s6 + 1))) else (none))) else (none)) else (kx s4)
noncomputable def r3 {β : Type} (S : Sl) (n : Nat) (kx : x3.sig.den → Option β) (kr : y3.sig.den → Option β) (s : h3.sig.den) : Option β := rounds (fun L kx kr s => b3 S (fun x0 x1 x2 x3 x4 x5 x6 => L (((x0, (x1, (x2, (x3, ())))), (x4, ())), (x5, (x6, ())))) (fun x0 => kx ((x0, ()), ())) (kr ((), ())) s.1.1.1 s.1.1.2.1 s.1.1.2.2.1 s.1.1.2.2.2.1 s.1.2.1 s.2.1 s.2.2.1) kx kr n s
noncomputable def l3 {β : Type} (S : Sl) (n : Nat) (kx : (List Bool) → Option β) (kr : Option β) (s0 : Int) (s1 : (List Int)) (s2 : (List Int)) (s3 : (List Bool)) (s4 : (List Bool)) (s5 : Int) (s6 : Int) : Option β := r3 S n (fun s => kx s.1.1) (fun s => kr) (((s0, (s1, (s2, (s3, ())))), (s4, ())), (s5, (s6, ())))
theorem t3 {β : Type} (S : Sl) (n : Nat) (kx : (List Bool) → Option β) (kr : Option β) (s0 : Int) (s1 : (List Int)) (s2 : (List Int)) (s3 : (List Bool)) (s4 : (List Bool)) (s5 : Int) (s6 : Int) : l3 S (n + 1) kx kr s0 s1 s2 s3 s4 s5 s6 = b3 S (l3 S n kx kr) kx kr s0 s1 s2 s3 s4 s5 s6 := by kernel_rfl
noncomputable def G {β : Type} (S : Sl) (a0 : Int) (a1 : (List Int)) (a2 : (List Int)) (a3 : (List Bool)) (a4 : Int) (K : (List Bool) → Option β) : Option β := l3 S S.n (fun y1 => K y1) none a0 a1 a2 a3 [] a4 0
noncomputable def o : Orac := ⟨50, sin, sout, fun s K => G sl0 s.2.1.1 s.2.1.2.1 s.2.1.2.2.1 s.2.1.2.2.2.1 s.2.2.1 (fun x0 => K ((x0, ()), ()))⟩
noncomputable def C : Ctx := ⟨tyT, [], [⟨3, 0, h3, x3, y3, fun s kx kr => r3 sl0 sl0.n kx kr s⟩], 33, 0⟩
theorem ctx : CtxOk Tryz.prog C := ⟨tyOk, all0⟩
theorem e3 (β : Type) (L : h3.sig.den → Option β) (kx : x3.sig.den → Option β) (kr : y3.sig.den → Option β) (s : h3.sig.den) : evalBody C (nthC (loopsOf (bodyC Tryz.f50)) 0) 0 h3 x3 y3 L kx kr s = b3 sl0 (fun x0 x1 x2 x3 x4 x5 x6 => L (((x0, (x1, (x2, (x3, ())))), (x4, ())), (x5, (x6, ())))) (fun x0 => kx ((x0, ()), ())) (kr ((), ())) s.1.1.1 s.1.1.2.1 s.1.1.2.2.1 s.1.1.2.2.2.1 s.1.2.1 s.2.1 s.2.2.1 := by kernel_rfl
theorem g3 : LS Tryz.prog C ⟨3, 0, h3, x3, y3, fun s kx kr => r3 sl0 sl0.n kx kr s⟩ (loopsOf (bodyC Tryz.f50)) := LS.at (i := 0) (by kernel_rfl) (loop_good mixed ctx (ctx_nat ctx) (N := sl0.n) (fun _ _ _ _ => rfl) e3 (all1 (LS.none (by kernel_rfl)) (all0)))
theorem eG (β : Type) (s : sin.den) (K : sout.den → Option β) : evalFn C Tryz.f50 sin sout s K = o.F s K := by kernel_rfl
theorem ok : OracOk Tryz.prog o := fn_ok mixed Tryz.func50 (by kernel_rfl) ctx (c := bodyC Tryz.f50) (by kernel_rfl) (all1 g3 (all0)) (by kernel_rfl) (by kernel_rfl) (by kernel_rfl) (Nat.le_of_ble_eq_true (by kernel_rfl)) eG (by kernel_rfl) (Nat.le_of_ble_eq_true (by kernel_rfl))
end laws_lkOf
end Go.Proofs.YtechafkfchmggaaGreat.E
end
section
set_option linter.unusedVariables false
set_option linter.unusedSimpArgs false
namespace Go.Proofs.YtechafkfchmggaaGreat.E
open Go Go.RowKit
set_option linter.unusedVariables false
set_option maxRecDepth 100000
namespace spec_DrawStripeOk
def sin : Sig := ⟨[], [.one (.val (.sl (.int .u8)) false)]⟩
def sout : Sig := ⟨[.buf I false, .buf I false, .buf .bool false], [.agg [.val I false, .ref (.own 0), .ref (.own 1), .ref (.own 2)]]⟩
noncomputable def G {β : Type} (S : Sl) (a0 : (List Int)) (K : (List Int) → (List Int) → (List Bool) → Int → Option β) : Option β := spec_l6Open.G S a0 (fun y1 y2 => spec_l92Stripe.G S y1 y2 (fun y3 y4 y5 y6 y7 y8 => spec_l6Rd_pick.G S y3 y4 6 (fun y9 y10 y11 => bif (S.eq y11 0) then (spec_l6Rd_pick.G S y9 y10 8 (fun y12 y13 y14 => spec_l6Rd_pick.G S y12 y13 31 (fun y15 y16 y17 => bif (S.ir y14 y5.length) then (K (List.set y5 (Int.toNat y14) y17) y6 y7 y8) else (none)))) else (K y5 y6 y7 y8))))
noncomputable def o : Orac := ⟨48, sin, sout, fun s K => G sl0 s.2.1 (fun x0 x1 x2 x3 => K ((x0, (x1, (x2, ()))), ((x3, ()), ())))⟩
noncomputable def C : Ctx := ⟨tyT, [spec_l6Open.o, spec_l6Rd_pick.o, spec_l92Stripe.o], [], 20, 0⟩
theorem ctx : CtxOk Tryz.prog C := ⟨tyOk, all1 spec_l6Open.ok (all1 spec_l6Rd_pick.ok (all1 spec_l92Stripe.ok (all0)))⟩
theorem eG (β : Type) (s : sin.den) (K : sout.den → Option β) : evalFn C Tryz.f48 sin sout s K = o.F s K := by kernel_rfl
theorem ok : OracOk Tryz.prog o := fn_ok mixed Tryz.func48 (by kernel_rfl) ctx (c := bodyC Tryz.f48) (by kernel_rfl) (all0) (by kernel_rfl) (by kernel_rfl) (by kernel_rfl) (Nat.le_of_ble_eq_true (by kernel_rfl)) eG (by kernel_rfl) (Nat.le_of_ble_eq_true (by kernel_rfl))
end spec_DrawStripeOk
end Go.Proofs.YtechafkfchmggaaGreat.E
end
section
set_option linter.unusedVariables false
set_option linter.unusedSimpArgs false
namespace Go.Proofs.YtechafkfchmggaaGreat.E
open Go Go.RowKit
set_option linter.unusedVariables false
set_option maxRecDepth 100000
namespace laws_FnStripeForm
def sin : Sig := ⟨[], [.one (.val (.sl (.int .u8)) false), .one (.val (.sl (.int .u8)) false)]⟩
def sout : Sig := ⟨[], [.one (.val .bool false)]⟩
def h8 : SS := ⟨[1, 5, 7], ⟨[.box [.val I false, .ref (.own 1), .ref (.own 2), .ref (.own 3)], .buf I false, .buf I false, .buf .bool false], [.one (.val (.sl (.int .u8)) false), .one (.ref (.ptr 0)), .one (.val I false)]⟩⟩
def x8 : SS := ⟨[1, 5], ⟨[.box [.val I false, .ref (.own 1), .ref (.own 2), .ref (.own 3)], .buf I false, .buf I false, .buf .bool false], [.one (.val (.sl (.int .u8)) false), .one (.ref (.ptr 0))]⟩⟩
def y8 : SS := ⟨[4], ⟨[], [.one (.val .bool false)]⟩⟩
noncomputable def b8 {β : Type} (S : Sl) (L : Int → (List Int) → (List Int) → (List Bool) → (List Int) → Int → Option β) (kx : Int → (List Int) → (List Int) → (List Bool) → (List Int) → Option β) (kr : Bool → Option β) (s0 : Int) (s1 : (List Int)) (s2 : (List Int)) (s3 : (List Bool)) (s4 : (List Int)) (s5 : Int) : Option β := bif (S.lt s5 8) then (bif (S.ir s5 s3.length) then (bif (List.getD s3 (Int.toNat s5) false) then (bif (S.ir s5 s2.length) then (laws_lkOf.G S s0 s1 s2 s3 (List.getD s2 (Int.toNat s5) 0) (fun y1 => impl_CodeFits.G S s0 s1 y1 (fun y2 => bif (!y2) then (kr false) else (bif (S.ir s5 s3.length) then (bif (!(List.getD s3 (Int.toNat s5) false)) then (bif (S.ir s5 s1.length) then (bif (S.ir s5 s2.length) then (bif (!S.eq (S.w ((List.getD s1 (Int.toNat s5) 0) + (List.getD s2 (Int.toNat s5) 0))) 0) then (kr false) else (L s0 s1 s2 s3 s4 (S.w (s5 + 1)))) else (none)) else (none)) else (L s0 s1 s2 s3 s4 (S.w (s5 + 1)))) else (none))))) else (none)) else (bif (S.ir s5 s3.length) then (bif (!(List.getD s3 (Int.toNat s5) false)) then (bif (S.ir s5 s1.length) then (bif (S.ir s5 s2.length) then (bif (!S.eq (S.w ((List.getD s1 (Int.toNat s5) 0) + (List.getD s2 (Int.toNat s5) 0))) 0) then (kr false) else (L s0 s1 s2 s3 s4 (S.w (s5 + 1)))) else (none)) else (none)) else (L s0 s1 s2 s3 s4 (S.w (s5 + 1)))) else (none))) else (none)) else (kx s0 s1 s2 s3 s4)
noncomputable def r8 {β : Type} (S : Sl) (n : Nat) (kx : x8.sig.den → Option β) (kr : y8.sig.den → Option β) (s : h8.sig.den) : Option β := rounds (fun L kx kr s => b8 S (fun x0 x1 x2 x3 x4 x5 => L (((x0, ()), (x1, (x2, (x3, ())))), (x4, (x5, ())))) (fun x0 x1 x2 x3 x4 => kx (((x0, ()), (x1, (x2, (x3, ())))), (x4, ()))) (fun x0 => kr ((), (x0, ()))) s.1.1.1 s.1.2.1 s.1.2.2.1 s.1.2.2.2.1 s.2.1 s.2.2.1) kx kr n s
noncomputable def l8 {β : Type} (S : Sl) (n : Nat) (kx : Int → (List Int) → (List Int) → (List Bool) → (List Int) → Option β) (kr : Bool → Option β) (s0 : Int) (s1 : (List Int)) (s2 : (List Int)) (s3 : (List Bool)) (s4 : (List Int)) (s5 : Int) : Option β := r8 S n (fun s => kx s.1.1.1 s.1.2.1 s.1.2.2.1 s.1.2.2.2.1 s.2.1) (fun s => kr s.2.1) (((s0, ()), (s1, (s2, (s3, ())))), (s4, (s5, ())))
theorem t8 {β : Type} (S : Sl) (n : Nat) (kx : Int → (List Int) → (List Int) → (List Bool) → (List Int) → Option β) (kr : Bool → Option β) (s0 : Int) (s1 : (List Int)) (s2 : (List Int)) (s3 : (List Bool)) (s4 : (List Int)) (s5 : Int) : l8 S (n + 1) kx kr s0 s1 s2 s3 s4 s5 = b8 S (l8 S n kx kr) kx kr s0 s1 s2 s3 s4 s5 := by kernel_rfl
noncomputable def G {β : Type} (S : Sl) (a0 : (List Int)) (a1 : (List Int)) (K : Bool → Option β) : Option β := bif (S.lt 1048576 (a0.length : Int)) then (K true) else (bif (S.lt 1048576 (a1.length : Int)) then (K true) else (spec_DrawStripeOk.G S a0 (fun y1 y2 y3 y4 => impl_StripeOk.G S y4 y1 y2 y3 (fun y5 => spec_StripeOk.G S y4 y1 y2 y3 (fun y6 => bif (y5 != y6) then (spec_StripeOk.G S y4 y1 y2 y3 (fun y7 => K (y5 == y7))) else (bif (!y5) then (spec_StripeOk.G S y4 y1 y2 y3 (fun y8 => K (y5 == y8))) else (l8 S S.n (fun y9 y10 y11 y12 y13 => impl_StripeLose.G S y9 y10 y11 y12 (Int.tmod (y13.length : Int) 8) (fun y14 y15 y16 y17 => bif (S.ir (Int.tmod (y13.length : Int) 8) y14.length) then (impl_StripeOk.G S y17 (List.set y14 (Int.toNat (Int.tmod (y13.length : Int) 8)) 1) y15 y16 (fun y18 => K (!y18))) else (none))) (fun y19 => K y19) y4 y1 y2 y3 a1 0)))))))
noncomputable def o : Orac := ⟨7, sin, sout, fun s K => G sl0 s.2.1 s.2.2.1 (fun x0 => K ((), (x0, ())))⟩
noncomputable def C : Ctx := ⟨tyT, [impl_CodeFits.o, impl_StripeLose.o, impl_StripeOk.o, laws_lkOf.o, spec_DrawStripeOk.o, spec_StripeOk.o], [⟨8, 0, h8, x8, y8, fun s kx kr => r8 sl0 sl0.n kx kr s⟩], 93, 0⟩
theorem ctx : CtxOk Tryz.prog C := ⟨tyOk, all1 impl_CodeFits.ok (all1 impl_StripeLose.ok (all1 impl_StripeOk.ok (all1 laws_lkOf.ok (all1 spec_DrawStripeOk.ok (all1 spec_StripeOk.ok (all0))))))⟩
theorem e8 (β : Type) (L : h8.sig.den → Option β) (kx : x8.sig.den → Option β) (kr : y8.sig.den → Option β) (s : h8.sig.den) : evalBody C (nthC (loopsOf (bodyC Tryz.f7)) 0) 0 h8 x8 y8 L kx kr s = b8 sl0 (fun x0 x1 x2 x3 x4 x5 => L (((x0, ()), (x1, (x2, (x3, ())))), (x4, (x5, ())))) (fun x0 x1 x2 x3 x4 => kx (((x0, ()), (x1, (x2, (x3, ())))), (x4, ()))) (fun x0 => kr ((), (x0, ()))) s.1.1.1 s.1.2.1 s.1.2.2.1 s.1.2.2.2.1 s.2.1 s.2.2.1 := by kernel_rfl
theorem g8 : LS Tryz.prog C ⟨8, 0, h8, x8, y8, fun s kx kr => r8 sl0 sl0.n kx kr s⟩ (loopsOf (bodyC Tryz.f7)) := LS.at (i := 0) (by kernel_rfl) (loop_good mixed ctx (ctx_nat ctx) (N := sl0.n) (fun _ _ _ _ => rfl) e8 (all1 (LS.none (by kernel_rfl)) (all0)))
theorem eG (β : Type) (s : sin.den) (K : sout.den → Option β) : evalFn C Tryz.f7 sin sout s K = o.F s K := by kernel_rfl
theorem ok : OracOk Tryz.prog o := fn_ok mixed Tryz.func7 (by kernel_rfl) ctx (c := bodyC Tryz.f7) (by kernel_rfl) (all1 g8 (all0)) (by kernel_rfl) (by kernel_rfl) (by kernel_rfl) (Nat.le_of_ble_eq_true (by kernel_rfl)) eG (by kernel_rfl) (Nat.le_of_ble_eq_true (by kernel_rfl))
end laws_FnStripeForm
end Go.Proofs.YtechafkfchmggaaGreat.E
end
section
set_option linter.unusedVariables false
set_option linter.unusedSimpArgs false
namespace Go.Proofs.YtechafkfchmggaaGreat.E
open Go Go.RowKit
set_option linter.unusedVariables false
set_option maxRecDepth 100000
theorem fitsI_T {kind : Int} (hk : kind = 1 ∨ kind = 2) {vals : List Int} (h1 : vals.length = 8) (hf : ∀ x ∈ vals, 0 ≤ x ∧ x ≤ 30) (th : List Bool) {β : Type} (K : Bool → Option β) :
    impl_fits.G sl1 kind vals (shI (thereL th 0 8)) K = K (fitsV kind vals th) := by
  obtain ⟨b, k1, k2⟩ := fitsI_of hk (sh := thereL th 0 8) (fun a ha => (thereL_mem.1 ha).1) (thereL_len th) (by unfold thereL; rw [← List.range_eq_range']; exact tab_k hk _) (vals := vals) ⟨h1, hf⟩
  rw [k1]
  congr 1
  rw [Bool.eq_iff_iff, k2, fitsV_iff hk h1 hf]
  exact ⟨fun ⟨d, d1, d2⟩ => ⟨d, d1, fun a a1 a2 => d2 a (thereL_mem.2 ⟨a1, a2⟩)⟩, fun ⟨d, d1, d2⟩ => ⟨d, d1, fun a ha => d2 a (thereL_mem.1 ha).1 (thereL_mem.1 ha).2⟩⟩
theorem codeFits_G {kind : Int} (hk : kind = 1 ∨ kind = 2) {vals : List Int} (h1 : vals.length = 8) (hf : ∀ x ∈ vals, 0 ≤ x ∧ x ≤ 30) {th : List Bool} (h3 : th.length = 8) {β : Type} (K : Bool → Option β) : impl_CodeFits.G sl1 kind vals th K = K (fitsV kind vals th) := by
  unfold impl_CodeFits.G
  refine (impl_in kind 1 2 _).trans ?_
  rw [inV_iff.2 (show 1 ≤ kind ∧ kind ≤ 2 by omega)]
  refine cT rfl ((elems_G vals 8 (by omega) _).trans ?_)
  have e : fldL vals = true := by
    unfold fldL
    rw [List.all_eq_true]
    exact fun x hx => inV_iff.2 (hf x hx)
  rw [decide_eq_true h1, e]
  exact cT rfl (cT (eqT (by omega)) ((flag_G h3 _).trans (fitsI_T hk h1 hf th _)))
theorem lkOf_l {β : Type} (kx : List Bool → Option β) (kr : Option β) (kind : Int) (vals vers : List Int) (there : List Bool) (v : Int) (h : there.length ≤ vers.length) (hl : there.length ≤ 1000) (d : Nat) : ∀ (i n : Nat) (acc : List Bool), i + d = there.length → acc.length = i → d < n → laws_lkOf.l3 sl1 n kx kr kind vals vers there acc v (i : Int) = kx (acc ++ List.zipWith (fun t x => t && (x == v)) (there.drop i) (vers.drop i)) := by
  induction d with
  | zero =>
    intro i n acc hi ha hn
    obtain ⟨n, rfl⟩ : ∃ m, n = m + 1 := ⟨n - 1, by omega⟩
    rw [laws_lkOf.t3, List.drop_of_length_le (by omega : there.length ≤ i), List.zipWith_nil_left, List.append_nil]; exact cF (ltF (by omega)) rfl
  | succ d ih =>
    intro i n acc hi ha hn
    obtain ⟨n, rfl⟩ : ∃ m, n = m + 1 := ⟨n - 1, by omega⟩
    have h1 : i < there.length := by omega
    have h2 : i < vers.length := by omega
    have hn := ih (i + 1) n (acc ++ [there[i] && vers[i] == v]) (by omega) (by rw [List.length_append, List.length_singleton, ha]) (by omega)
    rw [List.append_assoc] at hn
    rw [laws_lkOf.t3]
    unfold laws_lkOf.b3
    refine cT (ltT (by omega)) (cT (irT (by omega) (by omega)) ?_)
    rw [getN there i h1, getN vers i h2, w_succ (by omega), List.drop_eq_getElem_cons h1, List.drop_eq_getElem_cons h2, List.zipWith_cons_cons]
    cases c : there[i]
    · rw [c, Bool.false_and] at hn
      rw [Bool.false_and]
      exact cF rfl (cT (fwT (by simp; omega)) hn)
    · rw [c, Bool.true_and] at hn
      rw [Bool.true_and]
      exact cT rfl (cT (irT (by omega) (by omega)) (cT (fwT (by simp; omega)) hn))
theorem lkOf_G {β : Type} (kind : Int) (vals vers : List Int) (there : List Bool) (v : Int) (h : there.length ≤ vers.length) (hl : there.length ≤ 1000) (K : List Bool → Option β) : laws_lkOf.G sl1 kind vals vers there v K = K (ofV vers there v) :=
  (lkOf_l K none kind vals vers there v h hl there.length 0 sl1.n [] (by omega) rfl (by rw [rounds_n]; omega)).trans rfl
theorem form_l {β : Type} {kind : Int} {vals vers : List Int} {there : List Bool} (h : stripeV kind vals vers there = true) (m : List Int) (kx : Int → List Int → List Int → List Bool → List Int → Option β) (kr : Bool → Option β) (d : Nat) : ∀ (i n : Nat), i + d = 8 → d < n →
    laws_FnStripeForm.l8 sl1 n kx kr kind vals vers there m (i : Int) = kx kind vals vers there m := by
  obtain ⟨hk, hf, h1, h2, h3, ho⟩ := stripe_iff.1 h
  obtain ⟨_, _, _, _, _, hof⟩ := stripeV_k h
  induction d with
  | zero =>
    intro i n hi hn
    obtain ⟨n, rfl⟩ : ∃ m, n = m + 1 := ⟨n - 1, by omega⟩
    rw [laws_FnStripeForm.t8]; exact cF (ltF (by omega)) rfl
  | succ d ih =>
    intro i n hi hn
    obtain ⟨n, rfl⟩ : ∃ m, n = m + 1 := ⟨n - 1, by omega⟩
    have next := ih (i + 1) n (by omega) (by omega)
    rw [laws_FnStripeForm.t8]
    unfold laws_FnStripeForm.b8
    rw [w_succ (by omega)]
    simp only [getC]
    refine cT (ltT (by omega)) (cT (irT (by omega) (by omega)) ?_)
    cases ct : there.getD i false
    · obtain ⟨e1, e2⟩ := (ho i (by omega)).2 ct
      rw [e1, e2]
      exact cF rfl (cT (irT (by omega) (by omega)) (cT rfl (cT (irT (by omega) (by omega)) (cT (irT (by omega) (by omega)) (cF (neF (wE (by omega) (by omega))) next)))))
    · have hfit := (((okF_iff 8 0).1 hof i (Nat.zero_le _) (by omega)).1 ct).2
      refine cT rfl (cT (irT (by omega) (by omega)) ((lkOf_G kind vals vers there _ (by omega) (by omega) _).trans ((codeFits_G hk h1 hf (ofV_len h2 h3) _).trans ?_)))
      rw [hfit]
      exact cF rfl (cT (irT (by omega) (by omega)) (cF rfl next))
theorem drawSpoilt {l : List Int} (hl : ∀ x ∈ l, 0 ≤ x ∧ x ≤ 255) : ∃ kind vals vers there, Sd kind vals vers there ∧ ∀ (β : Type) (K : List Int → List Int → List Bool → Int → Option β), spec_DrawStripeOk.G sl1 l K = K vals vers there kind := by
  obtain ⟨b, hb, ho⟩ := open_G hl
  obtain ⟨q, kind, vals, vers, there, q0, q1, hs, h⟩ := stripe_S hb (p := 0) (by omega) (by omega)
  obtain ⟨a, a0, a1, ea⟩ := pick_S hb (p := q) 6
  by_cases c : a = 0
  · obtain ⟨i, i0, i1, ei⟩ := pick_S hb (p := q + 1) 8
    obtain ⟨v, v0, v1, ev⟩ := pick_S hb (p := q + 1 + 1) 31
    obtain ⟨i, rfl⟩ := Int.eq_ofNat_of_zero_le i0
    exact ⟨kind, vals.set i v, vers, there, hs.val ⟨by omega, by omega⟩, fun β K => (ho _ _).trans ((h _ _).trans ((ea _ _).trans (cT (eqT c) ((ei _ _).trans ((ev _ _).trans (cT (irT i0 (by rw [hs.l1]; omega)) rfl))))))⟩
  · exact ⟨kind, vals, vers, there, hs, fun β K => (ho _ _).trans ((h _ _).trans ((ea _ _).trans (cF (eqF c) rfl)))⟩
end Go.Proofs.YtechafkfchmggaaGreat.E
namespace Go.Proofs.YtechafkfchmggaaGreat.Pure.FnStripeForm
open Go Go.Proofs.YtechafkfchmggaaGreat.E
theorem pure {β : Type} (l m : List Int) (hl : ∀ x ∈ l, 0 ≤ x ∧ x ≤ 255) (hm : ∀ x ∈ m, 0 ≤ x ∧ x ≤ 255) (K : Bool → Option β) : laws_FnStripeForm.G sl1 l m K = K true := by
  obtain ⟨kind, vals, vers, there, hs, hd⟩ := drawSpoilt hl
  have l1 := hs.l1
  have l2 := hs.l2
  have l3 := hs.l3
  unfold laws_FnStripeForm.G
  by_cases h : 1048576 < (l.length : Int)
  · exact cT (ltT h) rfl
  refine cF (ltF (by omega)) ?_
  by_cases h' : 1048576 < (m.length : Int)
  · exact cT (ltT h') rfl
  refine cF (ltF (by omega)) ((hd _ _).trans ((stripeI_G kind vals vers there _).trans ((stripeOk_G kind vals vers there (by omega) _).trans (cF (bne_self_eq_false _) ?_))))
  cases cs : stripeV kind vals vers there
  · refine cT rfl ((stripeOk_G kind vals vers there (by omega) _).trans ?_)
    rw [cs]; rfl
  refine cF rfl ((form_l cs m _ _ 8 0 sl1.n (by omega) (by rw [rounds_n]; omega)).trans ((implLose_G kind _ _).trans ?_))
  have ek : Int.tmod (m.length : Int) 8 = ((m.length % 8 : Nat) : Int) := by rw [Int.tmod_eq_emod_of_nonneg (by omega)]; omega
  have hk8 : m.length % 8 < 8 := by omega
  rw [ek]
  generalize m.length % 8 = k at hk8
  have eL : loseV kind vals vers there (k : Int) = (vals.set k 0, vers.set k 0, there.set k false, kind) := by
    unfold loseV
    rw [cs, inV_iff.2 ⟨by omega, by omega⟩, Int.toNat_natCast]; rfl
  rw [eL, Int.toNat_natCast]
  refine cT (irT (by omega) (by show (k : Int) < ((vals.set k 0).length : Int); rw [List.length_set]; omega)) ((stripeI_G _ _ _ _ _).trans ?_)
  have e : stripeV kind ((vals.set k 0).set k 1) (vers.set k 0) (there.set k false) = false := by
    cases c : stripeV kind ((vals.set k 0).set k 1) (vers.set k 0) (there.set k false)
    · rfl
    · obtain ⟨_, _, _, _, _, ho⟩ := stripe_iff.1 c
      have := ((ho k hk8).2 (by rw [getD_set _ _ _ _ _ (by omega), if_pos rfl])).1
      rw [getD_set _ _ _ _ _ (by rw [List.length_set]; omega), if_pos rfl] at this
      cases this
  show K (!stripeV kind ((vals.set k 0).set k 1) (vers.set k 0) (there.set k false)) = _
  rw [e]; rfl
end Go.Proofs.YtechafkfchmggaaGreat.Pure.FnStripeForm
end
section
set_option linter.unusedVariables false
set_option linter.unusedSimpArgs false
namespace Go.Proofs.YtechafkfchmggaaGreat.fnStripeForm
open Go.ChangeShapes Go.WideShapes Go.ChangeAt Go.RowKit
open Go.ChangeMaps (open_string shut_string)
set_option linter.unusedVariables false
theorem own : ownKnob Tryz.prog.godebug = none := by kernel_rfl
theorem laidOut : laidOutB Tryz.prog = true := by kernel_rfl
set_option maxRecDepth 100000 in
theorem lifted (os : Os) (started : os.Started) (H : Type) (enc : TypeId × Value → H) :
    ReturnsInHanded {} Tryz.checked os 7 .any (Rows.fnStripeFormSpec.pre6 enc Tryz.prog Tryz.f7 Rows.fnStripeFormRow.domain false) (Rows.fnStripeFormSpec.post enc Tryz.prog Tryz.f7 false true false false) := by
  refine returnsInHanded_of_change_sized (C := Tryz.checked) own started (by kernel_rfl) Tryz.func7
    (ChangeSpec.witness6 (enc := enc) (C := Tryz.checked) false ⟨#[], #[.slice none 0 0, .slice none 0 0], []⟩ 8 (by kernel_rfl) (by kernel_rfl) (by kernel_rfl) (by kernel_rfl)) ?_
  intro W base args ds gs before hval0 hW hcnd hsz0 _
  have hval : ∀ (j : Nat) t v, Tryz.f7.params[j]? = some t → args[j]? = some v → Value.okWide Tryz.prog W .any base t v := hval0
  have hW' := hW
  obtain ⟨p, q, hA0, hV, rfl, hfz, hnd⟩ := hW
  have hA : DataW.TrodAll enc Tryz.prog W 0 (fun _ => true) true Tryz.f7.params.toList args.toList ds p := hA0
  rw [Tryz.params7] at hA hval
  obtain ⟨v0, vs0, d0, ds0, p0, q0, hargs0, rfl, rfl, h0, r0⟩ := trodAll_cons hA
  obtain ⟨v1, vs1, d1, ds1, p1, q1, hargs1, rfl, rfl, h1, r1⟩ := trodAll_cons r0
  obtain ⟨rfl, rfl, rfl⟩ := trodAll_nil r1
  obtain rfl : args = #[v0, v1] := by cases args; simp_all
  obtain ⟨rfl, rfl⟩ := trodVars_none hV
  obtain ⟨a0, len0, cap0, rfl⟩ := okWide_slice Tryz.underlying40 (hval 0 40 v0 rfl rfl)
  obtain ⟨a1, len1, cap1, rfl⟩ := okWide_slice Tryz.underlying40 (hval 1 40 v1 rfl rfl)
  have k0 := h0
  have lt0 : ∀ x ∈ p0, x.block < W.heap.size := by obtain ⟨m, hm⟩ := k0; exact DataW.trod_lt m _ _ _ hm
  obtain ⟨z0, w0, b0⟩ : ∃ zs, E.IsRowK .u8 W a0 len0 cap0 zs ∧ (∀ x ∈ zs, (Lit.int .u8 x).wf = true) := by
    obtain ⟨fuel, hf⟩ := h0
    rcases open_ints Tryz.underlying40 Tryz.underlying5 (by kernel_rfl) hf with ⟨hcs, _⟩ | ⟨x, l, c, zs, hcs, _, hl, hm, hz, _, hcell, hwz⟩
    · simp [Value.cells] at hcs
      obtain ⟨rfl, rfl, rfl⟩ := hcs
      exact ⟨[], .inl ⟨rfl, rfl, rfl, rfl⟩, by simp⟩
    · simp [Value.cells] at hcs
      obtain ⟨rfl, rfl, rfl⟩ := hcs
      exact ⟨zs, .inr ⟨_, rfl, hl, by simpa using hz, hcell⟩, hwz⟩
  have k1 := h1
  have lt1 : ∀ x ∈ p1, x.block < W.heap.size := by obtain ⟨m, hm⟩ := k1; exact DataW.trod_lt m _ _ _ hm
  obtain ⟨z1, w1, b1⟩ : ∃ zs, E.IsRowK .u8 W a1 len1 cap1 zs ∧ (∀ x ∈ zs, (Lit.int .u8 x).wf = true) := by
    obtain ⟨fuel, hf⟩ := h1
    rcases open_ints Tryz.underlying40 Tryz.underlying5 (by kernel_rfl) hf with ⟨hcs, _⟩ | ⟨x, l, c, zs, hcs, _, hl, hm, hz, _, hcell, hwz⟩
    · simp [Value.cells] at hcs
      obtain ⟨rfl, rfl, rfl⟩ := hcs
      exact ⟨[], .inl ⟨rfl, rfl, rfl, rfl⟩, by simp⟩
    · simp [Value.cells] at hcs
      obtain ⟨rfl, rfl, rfl⟩ := hcs
      exact ⟨zs, .inr ⟨_, rfl, hl, by simpa using hz, hcell⟩, hwz⟩
  clear hA0 hval0 hsz0
  have hp := Pure.FnStripeForm.pure (z0.take len0) (z1.take len1) (fun x hx => E.byte_wf (b0 x (List.mem_of_mem_take hx))) (fun x hx => E.byte_wf (b1 x (List.mem_of_mem_take hx))) (fun b => some ((), (b, ())))
  rw [← E.sl_eq] at hp
  refine (E.law_bytes2 E.laws_FnStripeForm.ok w0 w1 hp).mono fun e W' ⟨he, bel⟩ => ?_
  subst he
  exact ⟨_, rfl, _, _, _, [], _, [], hW', trodAll_mk1 (shut_bool Tryz.underlying4 _), (trodAll_cons_mk (Below.trod laidOut (by kernel_rfl) (of_decide_eq_true (by kernel_rfl)) k0 bel lt0) (trodAll_cons_mk (Below.trod laidOut (by kernel_rfl) (of_decide_eq_true (by kernel_rfl)) k1 bel lt1) trodAll_mk0)), rfl, bel.frame _, fun h => by cases h⟩
theorem closed : joinedFacts Tryz.prog 7 Tryz.f7 Rows.fnStripeFormSpec Rows.fnStripeFormRow = true := by
  unfold joinedFacts
  rw [Head.make, Head.final, Head.enter]
  kernel_rfl
theorem over : Rows.fnStripeFormRow.holds Tryz.pinned (OpenSpec.ofChange Rows.fnStripeFormSpec) :=
  OpenClaim.holds_of_wide 7 Tryz.f7 rfl rfl rfl rfl rfl rfl rfl ⟨rfl, rfl, rfl, rfl, rfl⟩ rfl rfl rfl rfl rfl (by kernel_rfl) Tryz.func7 closed
    (of_decide_eq_true (by kernel_rfl)) (by unfold Func.isWrapper; first | (rw [if_pos (by decide +kernel)]; kernel_rfl) | (rw [if_neg (by decide +kernel)]; exact ⟨rfl, rfl⟩))
    (fun os started H enc _ => lifted os started H enc)
theorem proved : Rows.FnStripeFormSaid := over
#print axioms proved
end Go.Proofs.YtechafkfchmggaaGreat.fnStripeForm
end
