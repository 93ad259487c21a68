/- Part 1 of the proof of the statement FnTurnLeft; the last part states it. No condition. -/
import Derived.Test.YtnbighmbgmjbkaaGreatRows
import Derived.WalkKit
import Derived.ProofKit
import Derived.OpenShut
import Derived.ShutString
import Derived.ChangeOld
import Derived.Below
import Derived.SizedLaws
import Derived.Test.YtnbighmbgmjbkaaGreatMGK2
import Derived.Test.YtnbighmbgmjbkaaGreatMGK3
import Derived.Test.YtnbighmbgmjbkaaGreatMGK4
import Derived.Test.YtnbighmbgmjbkaaGreatMGK5
import Derived.Test.YtnbighmbgmjbkaaGreatMGK21
section
set_option linter.unusedVariables false
set_option linter.unusedSimpArgs false
namespace Go.Proofs.YtnbighmbgmjbkaaGreat.E
open Go Go.RowKit
set_option linter.unusedVariables false
set_option maxRecDepth 100000
namespace impl_Keep_write
def sin : Sig := ⟨[.buf I false, .buf I false, .buf .bool false, .buf I false], [.agg [.val I false, .ref (.own 0), .ref (.own 1), .ref (.own 2), .val .bool false, .val I false, .ref (.own 3), .val I false], .one (.val I false)]⟩
def sout : Sig := ⟨[.buf I false, .buf I false, .buf .bool false, .buf I false], []⟩
noncomputable def G {β : Type} (S : Sl) (a0 : (List Int)) (a1 : (List Int)) (a2 : (List Bool)) (a3 : (List Int)) (a4 : Int) (a5 : Bool) (a6 : Int) (a7 : Int) (a8 : Int) (K : (List Int) → (List Int) → (List Bool) → (List Int) → Option β) : Option β := impl_vectorOf.G S a3 (fun y1 y2 => impl_encode.G S a6 y1 (fun y3 => bif (S.ir a8 y3.length) then (impl_Stripe_put.G S a0 a1 a2 a4 a8 (List.getD y3 (Int.toNat a8) 0) a7 (fun y4 y5 y6 => K y4 y5 y6 a3)) else (none)))
noncomputable def o : Orac := ⟨131, sin, sout, fun s K => G sl0 s.1.1 s.1.2.1 s.1.2.2.1 s.1.2.2.2.1 s.2.1.1 s.2.1.2.1 s.2.1.2.2.1 s.2.1.2.2.2.1 s.2.2.1 (fun x0 x1 x2 x3 => K ((x0, (x1, (x2, (x3, ())))), ()))⟩
noncomputable def C : Ctx := ⟨tyT, [impl_Stripe_put.o, impl_encode.o, impl_vectorOf.o], [], 25, 4⟩
theorem ctx : CtxOk Tryz.prog C := ⟨tyOk, all1 impl_Stripe_put.ok (all1 impl_encode.ok (all1 impl_vectorOf.ok (all0)))⟩
theorem eG (β : Type) (s : sin.den) (K : sout.den → Option β) : evalFn C Tryz.f131 sin sout s K = o.F s K := by kernel_rfl
theorem ok : OracOk Tryz.prog o := fn_ok mixed Tryz.func131 (by kernel_rfl) ctx (c := bodyC Tryz.f131) (by kernel_rfl) (all0) (by kernel_rfl) (by kernel_rfl) (by kernel_rfl) (Nat.le_of_ble_eq_true (by kernel_rfl)) eG (by kernel_rfl) (Nat.le_of_ble_eq_true (by kernel_rfl))
end impl_Keep_write
end Go.Proofs.YtnbighmbgmjbkaaGreat.E
end
section
set_option linter.unusedVariables false
set_option linter.unusedSimpArgs false
namespace Go.Proofs.YtnbighmbgmjbkaaGreat.E
open Go Go.RowKit
set_option linter.unusedVariables false
set_option maxRecDepth 100000
namespace impl_KeepShard
def sin : Sig := ⟨[], [.agg [.val I false, .val (.sl I) false, .val (.sl I) false, .val (.sl .bool) false, .val .bool false, .val I false, .val (.sl I) false, .val I false], .one (.val I false)]⟩
def sout : Sig := ⟨[.buf I false, .buf I false, .buf .bool false, .buf I false], [.agg [.val I false, .ref (.own 0), .ref (.own 1), .ref (.own 2), .val .bool false, .val I false, .ref (.own 3), .val I false], .one (.val .bool false)]⟩
noncomputable def G {β : Type} (S : Sl) (a0 : Int) (a1 : (List Int)) (a2 : (List Int)) (a3 : (List Bool)) (a4 : Bool) (a5 : Int) (a6 : (List Int)) (a7 : Int) (a8 : Int) (K : (List Int) → (List Int) → (List Bool) → (List Int) → Int → Bool → Int → Int → Bool → Option β) : Option β := impl_KeepOk.G S a0 a1 a2 a3 a4 a5 a6 a7 (fun y1 => bif (!y1) then (K [] [] [] [] 0 false 0 0 false) else (impl_shardOk.G S a8 (fun y2 => bif (!y2) then (K [] [] [] [] 0 false 0 0 false) else (impl_Keep_copied.G S a0 a1 a2 a3 a4 a5 a6 a7 (fun y3 y4 y5 y6 y7 y8 y9 y10 => bif a4 then (impl_Keep_write.G S y3 y4 y5 y6 y7 y8 y9 y10 a8 (fun y11 y12 y13 y14 => K y11 y12 y13 y14 y7 y8 y9 y10 a4)) else (K y3 y4 y5 y6 y7 y8 y9 y10 a4))))))
noncomputable def o : Orac := ⟨46, sin, sout, fun s K => G sl0 s.2.1.1 s.2.1.2.1 s.2.1.2.2.1 s.2.1.2.2.2.1 s.2.1.2.2.2.2.1 s.2.1.2.2.2.2.2.1 s.2.1.2.2.2.2.2.2.1 s.2.1.2.2.2.2.2.2.2.1 s.2.2.1 (fun x0 x1 x2 x3 x4 x5 x6 x7 x8 => K ((x0, (x1, (x2, (x3, ())))), ((x4, (x5, (x6, (x7, ())))), (x8, ()))))⟩
noncomputable def C : Ctx := ⟨tyT, [impl_KeepOk.o, impl_Keep_copied.o, impl_Keep_write.o, impl_shardOk.o], [], 26, 0⟩
theorem ctx : CtxOk Tryz.prog C := ⟨tyOk, all1 impl_KeepOk.ok (all1 impl_Keep_copied.ok (all1 impl_Keep_write.ok (all1 impl_shardOk.ok (all0))))⟩
theorem eG (β : Type) (s : sin.den) (K : sout.den → Option β) : evalFn C Tryz.f46 sin sout s K = o.F s K := by kernel_rfl
theorem ok : OracOk Tryz.prog o := fn_ok mixed Tryz.func46 (by kernel_rfl) ctx (c := bodyC Tryz.f46) (by kernel_rfl) (all0) (by kernel_rfl) (by kernel_rfl) (by kernel_rfl) (Nat.le_of_ble_eq_true (by kernel_rfl)) eG (by kernel_rfl) (Nat.le_of_ble_eq_true (by kernel_rfl))
end impl_KeepShard
end Go.Proofs.YtnbighmbgmjbkaaGreat.E
end
section
set_option linter.unusedVariables false
set_option linter.unusedSimpArgs false
namespace Go.Proofs.YtnbighmbgmjbkaaGreat.E
open Go Go.RowKit
set_option linter.unusedVariables false
set_option maxRecDepth 100000
namespace impl_Keep_left
def sin : Sig := ⟨[], [.agg [.val I false, .val (.sl I) false, .val (.sl I) false, .val (.sl .bool) false, .val .bool false, .val I false, .val (.sl I) false, .val I false]]⟩
def sout : Sig := ⟨[], [.one (.val I false)]⟩
def h3 : SS := ⟨[1, 3, 8, 9, 10], ⟨[.box [.val I false, .val (.sl I) false, .val (.sl I) false, .val (.sl .bool) false, .val .bool false, .val I false, .val (.sl I) false, .val I false]], [.one (.ref (.ptr 0)), .one (.val I false), .one (.val (.sl I) false), .one (.val I false), .one (.val I false)]⟩⟩
def x3 : SS := ⟨[3], ⟨[], [.one (.val I false)]⟩⟩
def y3 : SS := ⟨[], ⟨[], []⟩⟩
noncomputable def b3 {β : Type} (S : Sl) (L : Int → (List Int) → (List Int) → (List Bool) → Bool → Int → (List Int) → Int → Int → (List Int) → Int → Int → Option β) (kx : Int → Option β) (kr : Option β) (s0 : Int) (s1 : (List Int)) (s2 : (List Int)) (s3 : (List Bool)) (s4 : Bool) (s5 : Int) (s6 : (List Int)) (s7 : Int) (s8 : Int) (s9 : (List Int)) (s10 : Int) (s11 : Int) : Option β := bif (S.lt s11 s10) then (bif (S.ir s11 s9.length) then (bif (!S.eq (List.getD s9 (Int.toNat s11) 0) s7) then (L s0 s1 s2 s3 s4 s5 s6 s7 (S.w (s8 + 1)) s9 s10 (S.w (s11 + 1))) else (L s0 s1 s2 s3 s4 s5 s6 s7 s8 s9 s10 (S.w (s11 + 1)))) else (none)) else (kx s8)
noncomputable def r3 {β : Type} (S : Sl) (n : Nat) (kx : x3.sig.den → Option β) (kr : y3.sig.den → Option β) (s : h3.sig.den) : Option β := rounds (fun L kx kr s => b3 S (fun x0 x1 x2 x3 x4 x5 x6 x7 x8 x9 x10 x11 => L (((x0, (x1, (x2, (x3, (x4, (x5, (x6, (x7, ())))))))), ()), (x8, (x9, (x10, (x11, ())))))) (fun x0 => kx ((), (x0, ()))) (kr ((), ())) s.1.1.1 s.1.1.2.1 s.1.1.2.2.1 s.1.1.2.2.2.1 s.1.1.2.2.2.2.1 s.1.1.2.2.2.2.2.1 s.1.1.2.2.2.2.2.2.1 s.1.1.2.2.2.2.2.2.2.1 s.2.1 s.2.2.1 s.2.2.2.1 s.2.2.2.2.1) kx kr n s
noncomputable def l3 {β : Type} (S : Sl) (n : Nat) (kx : Int → Option β) (kr : Option β) (s0 : Int) (s1 : (List Int)) (s2 : (List Int)) (s3 : (List Bool)) (s4 : Bool) (s5 : Int) (s6 : (List Int)) (s7 : Int) (s8 : Int) (s9 : (List Int)) (s10 : Int) (s11 : Int) : Option β := r3 S n (fun s => kx s.2.1) (fun s => kr) (((s0, (s1, (s2, (s3, (s4, (s5, (s6, (s7, ())))))))), ()), (s8, (s9, (s10, (s11, ())))))
theorem t3 {β : Type} (S : Sl) (n : Nat) (kx : Int → Option β) (kr : Option β) (s0 : Int) (s1 : (List Int)) (s2 : (List Int)) (s3 : (List Bool)) (s4 : Bool) (s5 : Int) (s6 : (List Int)) (s7 : Int) (s8 : Int) (s9 : (List Int)) (s10 : Int) (s11 : Int) : l3 S (n + 1) kx kr s0 s1 s2 s3 s4 s5 s6 s7 s8 s9 s10 s11 = b3 S (l3 S n kx kr) kx kr s0 s1 s2 s3 s4 s5 s6 s7 s8 s9 s10 s11 := by kernel_rfl
noncomputable def G {β : Type} (S : Sl) (a0 : Int) (a1 : (List Int)) (a2 : (List Int)) (a3 : (List Bool)) (a4 : Bool) (a5 : Int) (a6 : (List Int)) (a7 : Int) (K : Int → Option β) : Option β := l3 S S.n (fun y1 => K y1) none a0 a1 a2 a3 a4 a5 a6 a7 0 a2 (a2.length : Int) 0
noncomputable def o : Orac := ⟨130, sin, sout, fun s K => G sl0 s.2.1.1 s.2.1.2.1 s.2.1.2.2.1 s.2.1.2.2.2.1 s.2.1.2.2.2.2.1 s.2.1.2.2.2.2.2.1 s.2.1.2.2.2.2.2.2.1 s.2.1.2.2.2.2.2.2.2.1 (fun x0 => K ((), (x0, ())))⟩
noncomputable def C : Ctx := ⟨tyT, [], [⟨3, 0, h3, x3, y3, fun s kx kr => r3 sl0 sl0.n kx kr s⟩], 22, 0⟩
theorem ctx : CtxOk Tryz.prog C := ⟨tyOk, all0⟩
theorem e3 (β : Type) (L : h3.sig.den → Option β) (kx : x3.sig.den → Option β) (kr : y3.sig.den → Option β) (s : h3.sig.den) : evalBody C (nthC (loopsOf (bodyC Tryz.f130)) 0) 0 h3 x3 y3 L kx kr s = b3 sl0 (fun x0 x1 x2 x3 x4 x5 x6 x7 x8 x9 x10 x11 => L (((x0, (x1, (x2, (x3, (x4, (x5, (x6, (x7, ())))))))), ()), (x8, (x9, (x10, (x11, ())))))) (fun x0 => kx ((), (x0, ()))) (kr ((), ())) s.1.1.1 s.1.1.2.1 s.1.1.2.2.1 s.1.1.2.2.2.1 s.1.1.2.2.2.2.1 s.1.1.2.2.2.2.2.1 s.1.1.2.2.2.2.2.2.1 s.1.1.2.2.2.2.2.2.2.1 s.2.1 s.2.2.1 s.2.2.2.1 s.2.2.2.2.1 := by kernel_rfl
theorem g3 : LS Tryz.prog C ⟨3, 0, h3, x3, y3, fun s kx kr => r3 sl0 sl0.n kx kr s⟩ (loopsOf (bodyC Tryz.f130)) := LS.at (i := 0) (by kernel_rfl) (loop_good mixed ctx (ctx_nat ctx) (N := sl0.n) (fun _ _ _ _ => rfl) e3 (all1 (LS.none (by kernel_rfl)) (all0)))
theorem eG (β : Type) (s : sin.den) (K : sout.den → Option β) : evalFn C Tryz.f130 sin sout s K = o.F s K := by kernel_rfl
theorem ok : OracOk Tryz.prog o := fn_ok mixed Tryz.func130 (by kernel_rfl) ctx (c := bodyC Tryz.f130) (by kernel_rfl) (all1 g3 (all0)) (by kernel_rfl) (by kernel_rfl) (by kernel_rfl) (Nat.le_of_ble_eq_true (by kernel_rfl)) eG (by kernel_rfl) (Nat.le_of_ble_eq_true (by kernel_rfl))
end impl_Keep_left
end Go.Proofs.YtnbighmbgmjbkaaGreat.E
end
section
set_option linter.unusedVariables false
set_option linter.unusedSimpArgs false
namespace Go.Proofs.YtnbighmbgmjbkaaGreat.E
open Go Go.RowKit
set_option linter.unusedVariables false
set_option maxRecDepth 100000
namespace impl_TurnLeft
def sin : Sig := ⟨[], [.agg [.val I false, .val (.sl I) false, .val (.sl I) false, .val (.sl .bool) false, .val .bool false, .val I false, .val (.sl I) false, .val I false]]⟩
def sout : Sig := ⟨[], [.one (.val I false)]⟩
noncomputable def G {β : Type} (S : Sl) (a0 : Int) (a1 : (List Int)) (a2 : (List Int)) (a3 : (List Bool)) (a4 : Bool) (a5 : Int) (a6 : (List Int)) (a7 : Int) (K : Int → Option β) : Option β := impl_KeepOk.G S a0 a1 a2 a3 a4 a5 a6 a7 (fun y1 => bif (!y1) then (K (-1)) else (bif (!a4) then (K 0) else (impl_Keep_left.G S a0 a1 a2 a3 a4 a5 a6 a7 (fun y2 => K y2))))
noncomputable def o : Orac := ⟨44, sin, sout, fun s K => G sl0 s.2.1.1 s.2.1.2.1 s.2.1.2.2.1 s.2.1.2.2.2.1 s.2.1.2.2.2.2.1 s.2.1.2.2.2.2.2.1 s.2.1.2.2.2.2.2.2.1 s.2.1.2.2.2.2.2.2.2.1 (fun x0 => K ((), (x0, ())))⟩
noncomputable def C : Ctx := ⟨tyT, [impl_KeepOk.o, impl_Keep_left.o], [], 13, 0⟩
theorem ctx : CtxOk Tryz.prog C := ⟨tyOk, all1 impl_KeepOk.ok (all1 impl_Keep_left.ok (all0))⟩
theorem eG (β : Type) (s : sin.den) (K : sout.den → Option β) : evalFn C Tryz.f44 sin sout s K = o.F s K := by kernel_rfl
theorem ok : OracOk Tryz.prog o := fn_ok mixed Tryz.func44 (by kernel_rfl) ctx (c := bodyC Tryz.f44) (by kernel_rfl) (all0) (by kernel_rfl) (by kernel_rfl) (by kernel_rfl) (Nat.le_of_ble_eq_true (by kernel_rfl)) eG (by kernel_rfl) (Nat.le_of_ble_eq_true (by kernel_rfl))
end impl_TurnLeft
end Go.Proofs.YtnbighmbgmjbkaaGreat.E
end
section
set_option linter.unusedVariables false
set_option linter.unusedSimpArgs false
namespace Go.Proofs.YtnbighmbgmjbkaaGreat.E
open Go Go.RowKit
set_option linter.unusedVariables false
set_option maxRecDepth 100000
namespace spec_DrawTurnLeft
def sin : Sig := ⟨[], [.one (.val (.sl (.int .u8)) false)]⟩
def sout : Sig := ⟨[.buf I false, .buf I false, .buf .bool false], [.agg [.val I false, .ref (.own 0), .ref (.own 1), .ref (.own 2), .val .bool false, .val I false, .val (.sl I) false, .val I false]]⟩
noncomputable def G {β : Type} (S : Sl) (a0 : (List Int)) (K : (List Int) → (List Int) → (List Bool) → Int → Bool → Int → (List Int) → Int → Option β) : Option β := spec_l6Open.G S a0 (fun y1 y2 => spec_l92Keep.G S y1 y2 (fun y3 y4 y5 y6 y7 y8 y9 y10 y11 y12 => K y5 y6 y7 y8 y9 y10 y11 y12))
noncomputable def o : Orac := ⟨43, sin, sout, fun s K => G sl0 s.2.1 (fun x0 x1 x2 x3 x4 x5 x6 x7 => K ((x0, (x1, (x2, ()))), ((x3, (x4, (x5, (x6, (x7, ()))))), ())))⟩
noncomputable def C : Ctx := ⟨tyT, [spec_l6Open.o, spec_l92Keep.o], [], 6, 0⟩
theorem ctx : CtxOk Tryz.prog C := ⟨tyOk, all1 spec_l6Open.ok (all1 spec_l92Keep.ok (all0))⟩
theorem eG (β : Type) (s : sin.den) (K : sout.den → Option β) : evalFn C Tryz.f43 sin sout s K = o.F s K := by kernel_rfl
theorem ok : OracOk Tryz.prog o := fn_ok mixed Tryz.func43 (by kernel_rfl) ctx (c := bodyC Tryz.f43) (by kernel_rfl) (all0) (by kernel_rfl) (by kernel_rfl) (by kernel_rfl) (Nat.le_of_ble_eq_true (by kernel_rfl)) eG (by kernel_rfl) (Nat.le_of_ble_eq_true (by kernel_rfl))
end spec_DrawTurnLeft
end Go.Proofs.YtnbighmbgmjbkaaGreat.E
end
section
set_option linter.unusedVariables false
set_option linter.unusedSimpArgs false
namespace Go.Proofs.YtnbighmbgmjbkaaGreat.E
open Go Go.RowKit
set_option linter.unusedVariables false
set_option maxRecDepth 100000
namespace spec_TurnLeft
def sin : Sig := ⟨[], [.agg [.val I false, .val (.sl I) false, .val (.sl I) false, .val (.sl .bool) false, .val .bool false, .val I false, .val (.sl I) false, .val I false]]⟩
def sout : Sig := ⟨[], [.one (.val I false)]⟩
def h5 : SS := ⟨[1, 3, 4], ⟨[.box [.val I false, .val (.sl I) false, .val (.sl I) false, .val (.sl .bool) false, .val .bool false, .val I false, .val (.sl I) false, .val I false]], [.one (.ref (.ptr 0)), .one (.val I false), .one (.val I false)]⟩⟩
def x5 : SS := ⟨[3], ⟨[], [.one (.val I false)]⟩⟩
def y5 : SS := ⟨[], ⟨[], []⟩⟩
noncomputable def b5 {β : Type} (S : Sl) (L : Int → (List Int) → (List Int) → (List Bool) → Bool → Int → (List Int) → Int → Int → Int → Option β) (kx : Int → Option β) (kr : Option β) (s0 : Int) (s1 : (List Int)) (s2 : (List Int)) (s3 : (List Bool)) (s4 : Bool) (s5 : Int) (s6 : (List Int)) (s7 : Int) (s8 : Int) (s9 : Int) : Option β := bif s4 then (bif (S.lt s9 8) then (bif (S.ir s9 s2.length) then (bif (!S.eq (List.getD s2 (Int.toNat s9) 0) s7) then (L s0 s1 s2 s3 s4 s5 s6 s7 (S.w (s8 + 1)) (S.w (s9 + 1))) else (L s0 s1 s2 s3 s4 s5 s6 s7 s8 (S.w (s9 + 1)))) else (none)) else (kx s8)) else (kx s8)
noncomputable def r5 {β : Type} (S : Sl) (n : Nat) (kx : x5.sig.den → Option β) (kr : y5.sig.den → Option β) (s : h5.sig.den) : Option β := rounds (fun L kx kr s => b5 S (fun x0 x1 x2 x3 x4 x5 x6 x7 x8 x9 => L (((x0, (x1, (x2, (x3, (x4, (x5, (x6, (x7, ())))))))), ()), (x8, (x9, ())))) (fun x0 => kx ((), (x0, ()))) (kr ((), ())) s.1.1.1 s.1.1.2.1 s.1.1.2.2.1 s.1.1.2.2.2.1 s.1.1.2.2.2.2.1 s.1.1.2.2.2.2.2.1 s.1.1.2.2.2.2.2.2.1 s.1.1.2.2.2.2.2.2.2.1 s.2.1 s.2.2.1) kx kr n s
noncomputable def l5 {β : Type} (S : Sl) (n : Nat) (kx : Int → Option β) (kr : Option β) (s0 : Int) (s1 : (List Int)) (s2 : (List Int)) (s3 : (List Bool)) (s4 : Bool) (s5 : Int) (s6 : (List Int)) (s7 : Int) (s8 : Int) (s9 : Int) : Option β := r5 S n (fun s => kx s.2.1) (fun s => kr) (((s0, (s1, (s2, (s3, (s4, (s5, (s6, (s7, ())))))))), ()), (s8, (s9, ())))
theorem t5 {β : Type} (S : Sl) (n : Nat) (kx : Int → Option β) (kr : Option β) (s0 : Int) (s1 : (List Int)) (s2 : (List Int)) (s3 : (List Bool)) (s4 : Bool) (s5 : Int) (s6 : (List Int)) (s7 : Int) (s8 : Int) (s9 : Int) : l5 S (n + 1) kx kr s0 s1 s2 s3 s4 s5 s6 s7 s8 s9 = b5 S (l5 S n kx kr) kx kr s0 s1 s2 s3 s4 s5 s6 s7 s8 s9 := by kernel_rfl
noncomputable def G {β : Type} (S : Sl) (a0 : Int) (a1 : (List Int)) (a2 : (List Int)) (a3 : (List Bool)) (a4 : Bool) (a5 : Int) (a6 : (List Int)) (a7 : Int) (K : Int → Option β) : Option β := spec_KeepOk.G S a0 a1 a2 a3 a4 a5 a6 a7 (fun y1 => bif (!y1) then (K (-1)) else (l5 S S.n (fun y2 => K y2) none a0 a1 a2 a3 a4 a5 a6 a7 0 0))
noncomputable def o : Orac := ⟨45, sin, sout, fun s K => G sl0 s.2.1.1 s.2.1.2.1 s.2.1.2.2.1 s.2.1.2.2.2.1 s.2.1.2.2.2.2.1 s.2.1.2.2.2.2.2.1 s.2.1.2.2.2.2.2.2.1 s.2.1.2.2.2.2.2.2.2.1 (fun x0 => K ((), (x0, ())))⟩
noncomputable def C : Ctx := ⟨tyT, [spec_KeepOk.o], [⟨5, 0, h5, x5, y5, fun s kx kr => r5 sl0 sl0.n kx kr s⟩], 28, 0⟩
theorem ctx : CtxOk Tryz.prog C := ⟨tyOk, all1 spec_KeepOk.ok (all0)⟩
theorem e5 (β : Type) (L : h5.sig.den → Option β) (kx : x5.sig.den → Option β) (kr : y5.sig.den → Option β) (s : h5.sig.den) : evalBody C (nthC (loopsOf (bodyC Tryz.f45)) 0) 0 h5 x5 y5 L kx kr s = b5 sl0 (fun x0 x1 x2 x3 x4 x5 x6 x7 x8 x9 => L (((x0, (x1, (x2, (x3, (x4, (x5, (x6, (x7, ())))))))), ()), (x8, (x9, ())))) (fun x0 => kx ((), (x0, ()))) (kr ((), ())) s.1.1.1 s.1.1.2.1 s.1.1.2.2.1 s.1.1.2.2.2.1 s.1.1.2.2.2.2.1 s.1.1.2.2.2.2.2.1 s.1.1.2.2.2.2.2.2.1 s.1.1.2.2.2.2.2.2.2.1 s.2.1 s.2.2.1 := by kernel_rfl
theorem g5 : LS Tryz.prog C ⟨5, 0, h5, x5, y5, fun s kx kr => r5 sl0 sl0.n kx kr s⟩ (loopsOf (bodyC Tryz.f45)) := LS.at (i := 0) (by kernel_rfl) (loop_good mixed ctx (ctx_nat ctx) (N := sl0.n) (fun _ _ _ _ => rfl) e5 (all1 (LS.none (by kernel_rfl)) (all0)))
theorem eG (β : Type) (s : sin.den) (K : sout.den → Option β) : evalFn C Tryz.f45 sin sout s K = o.F s K := by kernel_rfl
theorem ok : OracOk Tryz.prog o := fn_ok mixed Tryz.func45 (by kernel_rfl) ctx (c := bodyC Tryz.f45) (by kernel_rfl) (all1 g5 (all0)) (by kernel_rfl) (by kernel_rfl) (by kernel_rfl) (Nat.le_of_ble_eq_true (by kernel_rfl)) eG (by kernel_rfl) (Nat.le_of_ble_eq_true (by kernel_rfl))
end spec_TurnLeft
end Go.Proofs.YtnbighmbgmjbkaaGreat.E
end
section
set_option linter.unusedVariables false
set_option linter.unusedSimpArgs false
namespace Go.Proofs.YtnbighmbgmjbkaaGreat.E
open Go Go.RowKit
set_option linter.unusedVariables false
set_option maxRecDepth 100000
namespace laws_FnTurnLeft
def sin : Sig := ⟨[], [.one (.val (.sl (.int .u8)) false), .one (.val (.sl (.int .u8)) false)]⟩
def sout : Sig := ⟨[], [.one (.val .bool false)]⟩
def h11 : SS := ⟨[1, 5, 6, 7, 8], ⟨[.box [.val I false, .ref (.own 1), .ref (.own 2), .ref (.own 3), .val .bool false, .val I false, .val (.sl I) false, .val I false], .buf I false, .buf I false, .buf .bool false], [.one (.val (.sl (.int .u8)) false), .one (.ref (.ptr 0)), .one (.val I false), .one (.val I false), .one (.val I false)]⟩⟩
def x11 : SS := ⟨[1, 5, 6, 7], ⟨[.box [.val I false, .ref (.own 1), .ref (.own 2), .ref (.own 3), .val .bool false, .val I false, .val (.sl I) false, .val I false], .buf I false, .buf I false, .buf .bool false], [.one (.val (.sl (.int .u8)) false), .one (.ref (.ptr 0)), .one (.val I false), .one (.val I false)]⟩⟩
def y11 : SS := ⟨[], ⟨[], []⟩⟩
noncomputable def b11 {β : Type} (S : Sl) (L : Int → Bool → Int → (List Int) → Int → (List Int) → (List Int) → (List Bool) → (List Int) → Int → Int → Int → Option β) (kx : Int → Bool → Int → (List Int) → Int → (List Int) → (List Int) → (List Bool) → (List Int) → Int → Int → Option β) (kr : Option β) (s0 : Int) (s1 : Bool) (s2 : Int) (s3 : (List Int)) (s4 : Int) (s5 : (List Int)) (s6 : (List Int)) (s7 : (List Bool)) (s8 : (List Int)) (s9 : Int) (s10 : Int) (s11 : Int) : Option β := bif (S.lt s11 8) then (bif (S.ir s11 s6.length) then (bif (!S.eq (List.getD s6 (Int.toNat s11) 0) s4) then (L s0 s1 s2 s3 s4 s5 s6 s7 s8 s9 (S.w (s10 + 1)) (S.w (s11 + 1))) else (L s0 s1 s2 s3 s4 s5 s6 s7 s8 s9 s10 (S.w (s11 + 1)))) else (none)) else (kx s0 s1 s2 s3 s4 s5 s6 s7 s8 s9 s10)
noncomputable def r11 {β : Type} (S : Sl) (n : Nat) (kx : x11.sig.den → Option β) (kr : y11.sig.den → Option β) (s : h11.sig.den) : Option β := rounds (fun L kx kr s => b11 S (fun x0 x1 x2 x3 x4 x5 x6 x7 x8 x9 x10 x11 => L (((x0, (x1, (x2, (x3, (x4, ()))))), (x5, (x6, (x7, ())))), (x8, (x9, (x10, (x11, ())))))) (fun x0 x1 x2 x3 x4 x5 x6 x7 x8 x9 x10 => kx (((x0, (x1, (x2, (x3, (x4, ()))))), (x5, (x6, (x7, ())))), (x8, (x9, (x10, ()))))) (kr ((), ())) s.1.1.1 s.1.1.2.1 s.1.1.2.2.1 s.1.1.2.2.2.1 s.1.1.2.2.2.2.1 s.1.2.1 s.1.2.2.1 s.1.2.2.2.1 s.2.1 s.2.2.1 s.2.2.2.1 s.2.2.2.2.1) kx kr n s
noncomputable def l11 {β : Type} (S : Sl) (n : Nat) (kx : Int → Bool → Int → (List Int) → Int → (List Int) → (List Int) → (List Bool) → (List Int) → Int → Int → Option β) (kr : Option β) (s0 : Int) (s1 : Bool) (s2 : Int) (s3 : (List Int)) (s4 : Int) (s5 : (List Int)) (s6 : (List Int)) (s7 : (List Bool)) (s8 : (List Int)) (s9 : Int) (s10 : Int) (s11 : Int) : Option β := r11 S n (fun s => kx s.1.1.1 s.1.1.2.1 s.1.1.2.2.1 s.1.1.2.2.2.1 s.1.1.2.2.2.2.1 s.1.2.1 s.1.2.2.1 s.1.2.2.2.1 s.2.1 s.2.2.1 s.2.2.2.1) (fun s => kr) (((s0, (s1, (s2, (s3, (s4, ()))))), (s5, (s6, (s7, ())))), (s8, (s9, (s10, (s11, ())))))
theorem t11 {β : Type} (S : Sl) (n : Nat) (kx : Int → Bool → Int → (List Int) → Int → (List Int) → (List Int) → (List Bool) → (List Int) → Int → Int → Option β) (kr : Option β) (s0 : Int) (s1 : Bool) (s2 : Int) (s3 : (List Int)) (s4 : Int) (s5 : (List Int)) (s6 : (List Int)) (s7 : (List Bool)) (s8 : (List Int)) (s9 : Int) (s10 : Int) (s11 : Int) : l11 S (n + 1) kx kr s0 s1 s2 s3 s4 s5 s6 s7 s8 s9 s10 s11 = b11 S (l11 S n kx kr) kx kr s0 s1 s2 s3 s4 s5 s6 s7 s8 s9 s10 s11 := by kernel_rfl
noncomputable def G {β : Type} (S : Sl) (a0 : (List Int)) (a1 : (List Int)) (K : Bool → Option β) : Option β := bif (S.lt 1048576 (a0.length : Int)) then (K true) else (bif (S.lt 1048576 (a1.length : Int)) then (K true) else (spec_DrawTurnLeft.G S a0 (fun y1 y2 y3 y4 y5 y6 y7 y8 => impl_TurnLeft.G S y4 y1 y2 y3 y5 y6 y7 y8 (fun y9 => spec_TurnLeft.G S y4 y1 y2 y3 y5 y6 y7 y8 (fun y10 => bif (!S.eq y9 y10) then (spec_TurnLeft.G S y4 y1 y2 y3 y5 y6 y7 y8 (fun y11 => K (S.eq y9 y11))) else (bif (S.lt y9 0) then (spec_TurnLeft.G S y4 y1 y2 y3 y5 y6 y7 y8 (fun y12 => K (S.eq y9 y12))) else (bif (!y5) then (K (S.eq y9 0)) else (l11 S S.n (fun y13 y14 y15 y16 y17 y18 y19 y20 y21 y22 y23 => impl_KeepShard.G S y13 y18 y19 y20 y14 y15 y16 y17 (Int.tmod (y21.length : Int) 8) (fun y24 y25 y26 y27 y28 y29 y30 y31 y32 => bif (S.ir (Int.tmod (y21.length : Int) 8) y19.length) then (bif (!S.eq (List.getD y19 (Int.toNat (Int.tmod (y21.length : Int) 8)) 0) y17) then (bif (S.eq y22 y23) then (bif y32 then (impl_TurnLeft.G S y28 y24 y25 y26 y29 y30 y27 y31 (fun y33 => K (S.eq y33 (S.w (y22 - 1))))) else (K false)) else (K false)) else (bif (S.eq y22 y23) then (bif y32 then (impl_TurnLeft.G S y28 y24 y25 y26 y29 y30 y27 y31 (fun y34 => K (S.eq y34 (S.w (y22 - 0))))) else (K false)) else (K false))) else (none))) none y4 y5 y6 y7 y8 y1 y2 y3 a1 y9 0 0))))))))
noncomputable def o : Orac := ⟨8, sin, sout, fun s K => G sl0 s.2.1 s.2.2.1 (fun x0 => K ((), (x0, ())))⟩
noncomputable def C : Ctx := ⟨tyT, [impl_KeepShard.o, impl_TurnLeft.o, spec_DrawTurnLeft.o, spec_TurnLeft.o], [⟨11, 0, h11, x11, y11, fun s kx kr => r11 sl0 sl0.n kx kr s⟩], 89, 0⟩
theorem ctx : CtxOk Tryz.prog C := ⟨tyOk, all1 impl_KeepShard.ok (all1 impl_TurnLeft.ok (all1 spec_DrawTurnLeft.ok (all1 spec_TurnLeft.ok (all0))))⟩
theorem e11 (β : Type) (L : h11.sig.den → Option β) (kx : x11.sig.den → Option β) (kr : y11.sig.den → Option β) (s : h11.sig.den) : evalBody C (nthC (loopsOf (bodyC Tryz.f8)) 0) 0 h11 x11 y11 L kx kr s = b11 sl0 (fun x0 x1 x2 x3 x4 x5 x6 x7 x8 x9 x10 x11 => L (((x0, (x1, (x2, (x3, (x4, ()))))), (x5, (x6, (x7, ())))), (x8, (x9, (x10, (x11, ())))))) (fun x0 x1 x2 x3 x4 x5 x6 x7 x8 x9 x10 => kx (((x0, (x1, (x2, (x3, (x4, ()))))), (x5, (x6, (x7, ())))), (x8, (x9, (x10, ()))))) (kr ((), ())) s.1.1.1 s.1.1.2.1 s.1.1.2.2.1 s.1.1.2.2.2.1 s.1.1.2.2.2.2.1 s.1.2.1 s.1.2.2.1 s.1.2.2.2.1 s.2.1 s.2.2.1 s.2.2.2.1 s.2.2.2.2.1 := by kernel_rfl
theorem g11 : LS Tryz.prog C ⟨11, 0, h11, x11, y11, fun s kx kr => r11 sl0 sl0.n kx kr s⟩ (loopsOf (bodyC Tryz.f8)) := LS.at (i := 0) (by kernel_rfl) (loop_good mixed ctx (ctx_nat ctx) (N := sl0.n) (fun _ _ _ _ => rfl) e11 (all1 (LS.none (by kernel_rfl)) (all0)))
theorem eG (β : Type) (s : sin.den) (K : sout.den → Option β) : evalFn C Tryz.f8 sin sout s K = o.F s K := by kernel_rfl
theorem ok : OracOk Tryz.prog o := fn_ok mixed Tryz.func8 (by kernel_rfl) ctx (c := bodyC Tryz.f8) (by kernel_rfl) (all1 g11 (all0)) (by kernel_rfl) (by kernel_rfl) (by kernel_rfl) (Nat.le_of_ble_eq_true (by kernel_rfl)) eG (by kernel_rfl) (Nat.le_of_ble_eq_true (by kernel_rfl))
end laws_FnTurnLeft
end Go.Proofs.YtnbighmbgmjbkaaGreat.E
end
section
set_option linter.unusedVariables false
set_option linter.unusedSimpArgs false
namespace Go.Proofs.YtnbighmbgmjbkaaGreat.E
open Go Go.RowKit
set_option linter.unusedVariables false
set_option maxRecDepth 100000
def leftF (kv : Int) (vers : List Int) : Nat → Nat → Int → Int
 | 0, _, m => m
 | n + 1, i, m => bif vers.getD i 0 == kv then leftF kv vers n (i + 1) m else leftF kv vers n (i + 1) (m + 1)
theorem leftS_l {β : Type} (kind : Int) (vals : List Int) {vers : List Int} (h2 : vers.length = 8) (there : List Bool) (kd : Int) (data : List Int) (kv : Int) (kx : Int → Option β) (kr : Option β) (d : Nat) : ∀ (i n : Nat) (m : Int), i + d = 8 → d < n → 0 ≤ m → m ≤ i →
  spec_TurnLeft.l5 sl1 n kx kr kind vals vers there true kd data kv m (i : Int) = kx (leftF kv vers d i m) := by
 induction d with
 | zero =>
  intro i n m hi hn h0 h1
  obtain ⟨n, rfl⟩ : ∃ m, n = m + 1 := ⟨n - 1, by omega⟩
  rw [spec_TurnLeft.t5]; exact cT rfl (cF (ltF (by omega)) rfl)
 | succ d ih =>
  intro i n m hi hn h0 h1
  obtain ⟨n, rfl⟩ : ∃ m, n = m + 1 := ⟨n - 1, by omega⟩
  rw [spec_TurnLeft.t5]
  unfold spec_TurnLeft.b5 leftF
  rw [w_succ (by omega), wE (a := m + 1) (by omega) (by omega)]
  simp only [getC]
  refine cT rfl (cT (ltT (by omega)) (cT (irT (by omega) (by omega)) ?_))
  by_cases c : vers.getD i 0 = kv
  ·rw [beq_iff_eq.2 c]
   exact cF (neF c) (ih (i + 1) n m (by omega) (by omega) h0 (by omega))
  ·rw [beq_eq_false_iff_ne.2 c]
   exact cT (neT c) (ih (i + 1) n (m + 1) (by omega) (by omega) (by omega) (by omega))
theorem leftI_l {β : Type} (kind : Int) (vals : List Int) {vers : List Int} (h2 : vers.length = 8) (there : List Bool) (on : Bool) (kd : Int) (data : List Int) (kv : Int) (kx : Int → Option β) (kr : Option β) (d : Nat) : ∀ (i n : Nat) (m : Int), i + d = 8 → d < n → 0 ≤ m → m ≤ i →
  impl_Keep_left.l3 sl1 n kx kr kind vals vers there on kd data kv m vers 8 (i : Int) = kx (leftF kv vers d i m) := by
 induction d with
 | zero =>
  intro i n m hi hn h0 h1
  obtain ⟨n, rfl⟩ : ∃ m, n = m + 1 := ⟨n - 1, by omega⟩
  rw [impl_Keep_left.t3]; exact cF (ltF (by omega)) rfl
 | succ d ih =>
  intro i n m hi hn h0 h1
  obtain ⟨n, rfl⟩ : ∃ m, n = m + 1 := ⟨n - 1, by omega⟩
  rw [impl_Keep_left.t3]
  unfold impl_Keep_left.b3 leftF
  rw [w_succ (by omega), wE (a := m + 1) (by omega) (by omega)]
  simp only [getC]
  refine cT (ltT (by omega)) (cT (irT (by omega) (by omega)) ?_)
  by_cases c : vers.getD i 0 = kv
  ·rw [beq_iff_eq.2 c]
   exact cF (neF c) (ih (i + 1) n m (by omega) (by omega) h0 (by omega))
  ·rw [beq_eq_false_iff_ne.2 c]
   exact cT (neT c) (ih (i + 1) n (m + 1) (by omega) (by omega) (by omega) (by omega))
theorem keepV_len {kind : Int} {vals vers : List Int} {there : List Bool} {on : Bool} {kd : Int} {data : List Int} {kv : Int} (h : keepV kind vals vers there on kd data kv = true) : (kind = 1 ∨ kind = 2) ∧ (∀ x ∈ vals, 0 ≤ x ∧ x ≤ 30) ∧ vals.length = 8 ∧ vers.length = 8 ∧ there.length = 8 := by
 unfold keepV at h
 simp only [Bool.and_eq_true, decide_eq_true_eq] at h
 obtain ⟨⟨a, b, c⟩, _⟩ := h
 obtain ⟨d, e, f⟩ := valsV_iff.1 b
 exact ⟨kindV a, d, e, c, f⟩
noncomputable def leftV (kind : Int) (vals vers : List Int) (there : List Bool) (on : Bool) (kd : Int) (data : List Int) (kv : Int) : Int :=
 bif keepV kind vals vers there on kd data kv then (bif on then leftF kv vers 8 0 0 else 0) else -1
theorem leftS_G {β : Type} (kind : Int) {vals vers : List Int} {there : List Bool} (on : Bool) (kd : Int) {data : List Int} (kv : Int) (hl : vals.length ≤ 1000000000) (hdl : data.length ≤ 1000000000) (K : Int → Option β) :
  spec_TurnLeft.G sl1 kind vals vers there on kd data kv K = K (leftV kind vals vers there on kd data kv) := by
 unfold spec_TurnLeft.G leftV
 refine (keepS_G kind on kd kv hl hdl _).trans ?_
 cases ck : keepV kind vals vers there on kd data kv
 ·exact cT rfl rfl
 obtain ⟨_, _, h1, h2, h3⟩ := keepV_len ck
 cases on
 ·refine cF rfl ?_
  rw [n5, spec_TurnLeft.t5]
  exact cF rfl rfl
 ·exact cF rfl (leftS_l kind vals h2 there kd data kv _ none 8 0 sl1.n 0 (by omega) (by rw [rounds_n]; omega) (by omega) (by omega))
theorem leftI_G {β : Type} (kind : Int) {vals vers : List Int} {there : List Bool} (on : Bool) (kd : Int) {data : List Int} (kv : Int) (hdl : data.length ≤ 1000000000) (K : Int → Option β) :
  impl_TurnLeft.G sl1 kind vals vers there on kd data kv K = K (leftV kind vals vers there on kd data kv) := by
 unfold impl_TurnLeft.G leftV
 refine (keepI_G kind on kd kv hdl _).trans ?_
 rw [keep_same]
 cases ck : keepV kind vals vers there on kd data kv
 ·exact cT rfl rfl
 obtain ⟨_, _, h1, h2, h3⟩ := keepV_len ck
 cases on
 ·exact cF rfl (cT rfl rfl)
 ·refine cF rfl (cF rfl ?_)
  unfold impl_Keep_left.G
  rw [h2]
  exact leftI_l kind vals h2 there true kd data kv _ none 8 0 sl1.n 0 (by omega) (by rw [rounds_n]; omega) (by omega) (by omega)
end Go.Proofs.YtnbighmbgmjbkaaGreat.E
end
section
set_option linter.unusedVariables false
set_option linter.unusedSimpArgs false
namespace Go.Proofs.YtnbighmbgmjbkaaGreat.E
open Go Go.RowKit
set_option linter.unusedVariables false
set_option maxRecDepth 100000
theorem leftF_add (kv : Int) (vers : List Int) : ∀ (n i : Nat) (m : Int), leftF kv vers n i m = m + leftF kv vers n i 0
 | 0, i, m => by unfold leftF; omega
 | n + 1, i, m => by
  unfold leftF
  cases vers.getD i 0 == kv
  ·simp only [cond_false]
   rw [leftF_add kv vers n (i + 1) (m + 1), leftF_add kv vers n (i + 1) (0 + 1)]; omega
  ·exact leftF_add kv vers n (i + 1) m
theorem leftF_in (kv : Int) (vers : List Int) : ∀ (n i : Nat), 0 ≤ leftF kv vers n i 0 ∧ leftF kv vers n i 0 ≤ n
 | 0, i => by unfold leftF; omega
 | n + 1, i => by
  have := leftF_in kv vers n (i + 1)
  unfold leftF
  cases vers.getD i 0 == kv
  ·simp only [cond_false]
   rw [leftF_add kv vers n (i + 1) (0 + 1)]; omega
  ·simp only [cond_true]; omega
theorem leftF_set {kv : Int} {vers : List Int} (h2 : vers.length = 8) {a : Nat} (ha : a < 8) : ∀ (n i : Nat), leftF kv (vers.set a kv) n i 0 = leftF kv vers n i 0 - (if i ≤ a ∧ a < i + n ∧ vers.getD a 0 ≠ kv then 1 else 0)
 | 0, i => by rw [if_neg (fun h => by omega)]; unfold leftF; omega
 | n + 1, i => by
  have ih := leftF_set (kv := kv) h2 ha n (i + 1)
  unfold leftF
  rw [getD_set _ _ _ _ _ (by omega)]
  by_cases e : a = i
  ·subst e
   rw [if_pos rfl, beq_self_eq_true]
   simp only [cond_true]
   rw [ih, if_neg (fun h => by omega)]
   by_cases c : vers.getD a 0 = kv
   ·rw [beq_iff_eq.2 c, if_neg (fun h => h.2.2 c)]
    simp only [cond_true]
   ·rw [beq_eq_false_iff_ne.2 c, if_pos ⟨Nat.le_refl _, by omega, c⟩]
    simp only [cond_false]
    rw [leftF_add kv vers n (a + 1) (0 + 1)]; omega
  ·rw [if_neg e]
   have hiff : (i + 1 ≤ a ∧ a < i + 1 + n ∧ vers.getD a 0 ≠ kv) ↔ (i ≤ a ∧ a < i + (n + 1) ∧ vers.getD a 0 ≠ kv) := ⟨fun ⟨h1, h2, h3⟩ => ⟨by omega, by omega, h3⟩, fun ⟨h1, h2, h3⟩ => ⟨by omega, by omega, h3⟩⟩
   simp only [hiff] at ih
   cases vers.getD i 0 == kv
   ·simp only [cond_false]
    rw [leftF_add kv (vers.set a kv) n (i + 1) (0 + 1), leftF_add kv vers n (i + 1) (0 + 1), ih]; omega
   ·exact ih
theorem turn_l {β : Type} (kind : Int) (vals : List Int) {vers : List Int} (h2 : vers.length = 8) (there : List Bool) (on : Bool) (kd : Int) (data : List Int) (kv : Int) (more : List Int) (y : Int) (kx : Int → Bool → Int → List Int → Int → List Int → List Int → List Bool → List Int → Int → Int → Option β) (kr : Option β) (d : Nat) : ∀ (i n : Nat) (m : Int), i + d = 8 → d < n → 0 ≤ m → m ≤ i →
  laws_FnTurnLeft.l11 sl1 n kx kr kind on kd data kv vals vers there more y m (i : Int) = kx kind on kd data kv vals vers there more y (leftF kv vers d i m) := by
 induction d with
 | zero =>
  intro i n m hi hn h0 h1
  obtain ⟨n, rfl⟩ : ∃ m, n = m + 1 := ⟨n - 1, by omega⟩
  rw [laws_FnTurnLeft.t11]; exact cF (ltF (by omega)) rfl
 | succ d ih =>
  intro i n m hi hn h0 h1
  obtain ⟨n, rfl⟩ : ∃ m, n = m + 1 := ⟨n - 1, by omega⟩
  rw [laws_FnTurnLeft.t11]
  unfold laws_FnTurnLeft.b11 leftF
  rw [w_succ (by omega), wE (a := m + 1) (by omega) (by omega)]
  simp only [getC]
  refine cT (ltT (by omega)) (cT (irT (by omega) (by omega)) ?_)
  by_cases c : vers.getD i 0 = kv
  ·rw [beq_iff_eq.2 c]
   exact cF (neF c) (ih (i + 1) n m (by omega) (by omega) h0 (by omega))
  ·rw [beq_eq_false_iff_ne.2 c]
   exact cT (neT c) (ih (i + 1) n (m + 1) (by omega) (by omega) (by omega) (by omega))
theorem shardI_G {β : Type} {kind : Int} {vals vers : List Int} {there : List Bool} {kd : Int} {data : List Int} {kv : Int} (ck : keepV kind vals vers there true kd data kv = true) {a : Nat} (ha : a < 8) (K : List Int → List Int → List Bool → List Int → Int → Bool → Int → Int → Bool → Option β) :
  impl_KeepShard.G sl1 kind vals vers there true kd data kv (a : Int) K = K (vals.set a ((allV kd data).getD a 0)) (vers.set a kv) (there.set a true) data kind true kd kv true := by
 obtain ⟨hk, hf, h1, h2, h3, _, _⟩ := keepV_facts ck
 obtain ⟨_, _, hkd, hd, _, _⟩ := keepOn_iff.1 ck
 have hdl := keep_data ck
 have hal := allV_len kd data
 unfold impl_KeepShard.G
 refine (keepI_G kind true kd kv (by omega) _).trans ?_
 rw [keep_same, ck]
 refine cF rfl ((impl_in _ 0 7 _).trans ?_)
 rw [inV_iff.2 ⟨by omega, by omega⟩]
 refine cF rfl ((kcopyI_G kind true kd kv (by omega) (by omega) (by omega) (by omega) _).trans (cT rfl ?_))
 unfold impl_Keep_write.G impl_Stripe_put.G
 refine (vector_G data (by omega) _).trans ?_
 rw [hd]
 refine (encode_G hkd (vec_V4 hd) _).trans ?_
 rw [Int.toNat_natCast]
 exact cT (irT (by omega) (by omega)) (cT (irT (by omega) (by omega)) (cT (irT (by omega) (by omega)) (cT (irT (by omega) (by omega)) rfl)))
end Go.Proofs.YtnbighmbgmjbkaaGreat.E
namespace Go.Proofs.YtnbighmbgmjbkaaGreat.Pure.FnTurnLeft
open Go Go.Proofs.YtnbighmbgmjbkaaGreat.E
theorem pure {β : Type} (l m : List Int) (hl : ∀ x ∈ l, 0 ≤ x ∧ x ≤ 255) (hm : ∀ x ∈ m, 0 ≤ x ∧ x ≤ 255) (K : Bool → Option β) : laws_FnTurnLeft.G sl1 l m K = K true := by
 obtain ⟨b, hb, ho⟩ := open_G hl
 obtain ⟨q, kind, vals, vers, there, on, kd, data, kv, q0, q1, ⟨l1, l2, l3, l4⟩, hd⟩ := keep_S hb (p := 0) (by omega) (by omega)
 unfold laws_FnTurnLeft.G
 by_cases h : 1048576 < (l.length : Int)
 ·exact cT (ltT h) rfl
 refine cF (ltF (by omega)) ?_
 by_cases h' : 1048576 < (m.length : Int)
 ·exact cT (ltT h') rfl
 refine cF (ltF (by omega)) ?_
 unfold spec_DrawTurnLeft.G
 refine (ho _ _).trans ((hd _ _).trans ((leftI_G kind on kd kv (by omega) _).trans ((leftS_G kind on kd kv (by omega) (by omega) _).trans (cF (neF rfl) ?_))))
 cases ck : keepV kind vals vers there on kd data kv
 ·have e : leftV kind vals vers there on kd data kv = -1 := by unfold leftV; rw [ck]; rfl
  rw [e]
  refine cT (ltT (by omega)) ((leftS_G kind on kd kv (by omega) (by omega) _).trans ?_)
  rw [e]
  exact congrArg K (eqT rfl)
 have e : leftV kind vals vers there on kd data kv = bif on then leftF kv vers 8 0 0 else 0 := by unfold leftV; rw [ck]; rfl
 rw [e]
 cases on
 ·exact cF (ltF (Int.le_refl _)) (cT rfl (congrArg K (eqT rfl)))
 ·have hin := leftF_in kv vers 8 0
  show (bif sl1.lt (leftF kv vers 8 0 0) 0 then _ else _) = _
  refine cF (ltF hin.1) (cF rfl ((turn_l kind vals l2 there true kd data kv m (leftF kv vers 8 0 0) _ none 8 0 sl1.n 0 (by omega) (by rw [rounds_n]; omega) (by omega) (by omega)).trans ?_))
  obtain ⟨a, ha, e8⟩ : ∃ a : Nat, a < 8 ∧ Int.tmod (m.length : Int) 8 = (a : Int) := ⟨m.length % 8, by omega, by rw [Int.tmod_eq_emod_of_nonneg (by omega)]; omega⟩
  rw [e8]
  refine (shardI_G ck ha _).trans ?_
  have ck' := keep_shard ck ha
  obtain ⟨_, _, h1, h2, h3, _, _⟩ := keepV_facts ck
  have hleft := fun {γ : Type} (K : Int → Option γ) => leftI_G (β := γ) kind (vals := vals.set a ((allV kd data).getD a 0)) (vers := vers.set a kv) (there := there.set a true) true kd (data := data) kv (by omega) K
  have e2 : leftV kind (vals.set a ((allV kd data).getD a 0)) (vers.set a kv) (there.set a true) true kd data kv = leftF kv vers 8 0 0 - (if 0 ≤ a ∧ a < 0 + 8 ∧ vers.getD a 0 ≠ kv then 1 else 0) := by
   unfold leftV; rw [ck']; exact leftF_set h2 ha 8 0
  rw [e2] at hleft
  refine cT (irT (by omega) (by omega)) ?_
  rw [getC]
  by_cases c : vers.getD a 0 = kv
  ·rw [if_neg (fun h => h.2.2 c)] at hleft
   refine cF (neF c) (cT (eqT rfl) (cT rfl ((hleft _).trans ?_)))
   rw [wE (by omega) (by omega)]
   exact congrArg K (eqT rfl)
  ·rw [if_pos ⟨Nat.zero_le _, by omega, c⟩] at hleft
   refine cT (neT c) (cT (eqT rfl) (cT rfl ((hleft _).trans ?_)))
   rw [wE (by omega) (by omega)]
   exact congrArg K (eqT rfl)
end Go.Proofs.YtnbighmbgmjbkaaGreat.Pure.FnTurnLeft
end
section
set_option linter.unusedVariables false
set_option linter.unusedSimpArgs false
namespace Go.Proofs.YtnbighmbgmjbkaaGreat.fnTurnLeft
open Go.ChangeShapes Go.WideShapes Go.ChangeAt Go.RowKit
open Go.ChangeMaps (open_string shut_string)
set_option linter.unusedVariables false
theorem own : ownKnob Tryz.prog.godebug = none := by kernel_rfl
theorem laidOut : laidOutB Tryz.prog = true := by kernel_rfl
set_option maxRecDepth 100000 in
theorem lifted (os : Os) (started : os.Started) (H : Type) (enc : TypeId × Value → H) :
  ReturnsInHanded {} Tryz.checked os 8 .any (Rows.fnTurnLeftSpec.pre6 enc Tryz.prog Tryz.f8 Rows.fnTurnLeftRow.domain false) (Rows.fnTurnLeftSpec.post enc Tryz.prog Tryz.f8 false true false false) := by
 refine returnsInHanded_of_change_sized (C := Tryz.checked) own started (by kernel_rfl) Tryz.func8
  (ChangeSpec.witness6 (enc := enc) (C := Tryz.checked) false ⟨#[], #[.slice none 0 0, .slice none 0 0], []⟩ 8 (by kernel_rfl) (by kernel_rfl) (by kernel_rfl) (by kernel_rfl)) ?_
 intro W base args ds gs before hval0 hW hcnd hsz0 _
 have hval : ∀ (j : Nat) t v, Tryz.f8.params[j]? = some t → args[j]? = some v → Value.okWide Tryz.prog W .any base t v := hval0
 have hW' := hW
 obtain ⟨p, q, hA0, hV, rfl, hfz, hnd⟩ := hW
 have hA : DataW.TrodAll enc Tryz.prog W 0 (fun _ => true) true Tryz.f8.params.toList args.toList ds p := hA0
 rw [Tryz.params8] at hA hval
 obtain ⟨v0, vs0, d0, ds0, p0, q0, hargs0, rfl, rfl, h0, r0⟩ := trodAll_cons hA
 obtain ⟨v1, vs1, d1, ds1, p1, q1, hargs1, rfl, rfl, h1, r1⟩ := trodAll_cons r0
 obtain ⟨rfl, rfl, rfl⟩ := trodAll_nil r1
 obtain rfl : args = #[v0, v1] := by cases args; simp_all
 obtain ⟨rfl, rfl⟩ := trodVars_none hV
 obtain ⟨a0, len0, cap0, rfl⟩ := okWide_slice Tryz.underlying22 (hval 0 22 v0 rfl rfl)
 obtain ⟨a1, len1, cap1, rfl⟩ := okWide_slice Tryz.underlying22 (hval 1 22 v1 rfl rfl)
 have k0 := h0
 have lt0 : ∀ x ∈ p0, x.block < W.heap.size := by obtain ⟨m, hm⟩ := k0; exact DataW.trod_lt m _ _ _ hm
 obtain ⟨z0, w0, b0⟩ : ∃ zs, E.IsRowK .u8 W a0 len0 cap0 zs ∧ (∀ x ∈ zs, (Lit.int .u8 x).wf = true) := by
  obtain ⟨fuel, hf⟩ := h0
  rcases open_ints Tryz.underlying22 Tryz.underlying5 (by kernel_rfl) hf with ⟨hcs, _⟩ | ⟨x, l, c, zs, hcs, _, hl, hm, hz, _, hcell, hwz⟩
  ·simp [Value.cells] at hcs
   obtain ⟨rfl, rfl, rfl⟩ := hcs
   exact ⟨[], .inl ⟨rfl, rfl, rfl, rfl⟩, by simp⟩
  ·simp [Value.cells] at hcs
   obtain ⟨rfl, rfl, rfl⟩ := hcs
   exact ⟨zs, .inr ⟨_, rfl, hl, by simpa using hz, hcell⟩, hwz⟩
 have k1 := h1
 have lt1 : ∀ x ∈ p1, x.block < W.heap.size := by obtain ⟨m, hm⟩ := k1; exact DataW.trod_lt m _ _ _ hm
 obtain ⟨z1, w1, b1⟩ : ∃ zs, E.IsRowK .u8 W a1 len1 cap1 zs ∧ (∀ x ∈ zs, (Lit.int .u8 x).wf = true) := by
  obtain ⟨fuel, hf⟩ := h1
  rcases open_ints Tryz.underlying22 Tryz.underlying5 (by kernel_rfl) hf with ⟨hcs, _⟩ | ⟨x, l, c, zs, hcs, _, hl, hm, hz, _, hcell, hwz⟩
  ·simp [Value.cells] at hcs
   obtain ⟨rfl, rfl, rfl⟩ := hcs
   exact ⟨[], .inl ⟨rfl, rfl, rfl, rfl⟩, by simp⟩
  ·simp [Value.cells] at hcs
   obtain ⟨rfl, rfl, rfl⟩ := hcs
   exact ⟨zs, .inr ⟨_, rfl, hl, by simpa using hz, hcell⟩, hwz⟩
 clear hA0 hval0 hsz0
 have hp := Pure.FnTurnLeft.pure (z0.take len0) (z1.take len1) (fun x hx => E.byte_wf (b0 x (List.mem_of_mem_take hx))) (fun x hx => E.byte_wf (b1 x (List.mem_of_mem_take hx))) (fun b => some ((), (b, ())))
 rw [← E.sl_eq] at hp
 refine (E.law_bytes2 E.laws_FnTurnLeft.ok w0 w1 hp).mono fun e W' ⟨he, bel⟩ => ?_
 subst he
 exact ⟨_, rfl, _, _, _, [], _, [], hW', trodAll_mk1 (shut_bool Tryz.underlying4 _), (trodAll_cons_mk (Below.trod laidOut (by kernel_rfl) (of_decide_eq_true (by kernel_rfl)) k0 bel lt0) (trodAll_cons_mk (Below.trod laidOut (by kernel_rfl) (of_decide_eq_true (by kernel_rfl)) k1 bel lt1) trodAll_mk0)), rfl, bel.frame _, fun h => by cases h⟩
theorem closed : joinedFacts Tryz.prog 8 Tryz.f8 Rows.fnTurnLeftSpec Rows.fnTurnLeftRow = true := by
 unfold joinedFacts
 rw [Head.make, Head.final, Head.enter]
 kernel_rfl
theorem over : Rows.fnTurnLeftRow.holds Tryz.pinned (OpenSpec.ofChange Rows.fnTurnLeftSpec) :=
 OpenClaim.holds_of_wide 8 Tryz.f8 rfl rfl rfl rfl rfl rfl rfl ⟨rfl, rfl, rfl, rfl, rfl⟩ rfl rfl rfl rfl rfl (by kernel_rfl) Tryz.func8 closed
  (of_decide_eq_true (by kernel_rfl)) (by unfold Func.isWrapper; first | (rw [if_pos (by decide +kernel)]; kernel_rfl) | (rw [if_neg (by decide +kernel)]; exact ⟨rfl, rfl⟩))
  (fun os started H enc _ => lifted os started H enc)
theorem proved : Rows.FnTurnLeftSaid := over
#print axioms proved
end Go.Proofs.YtnbighmbgmjbkaaGreat.fnTurnLeft
end
