/- Part 1 of the proof of the statement FnExactTurnLeft; the last part states it. No condition. -/
import Derived.Test.YtechafkfchmggaaGreatRows
import Derived.WalkKit
import Derived.ProofKit
import Derived.OpenShut
import Derived.ShutString
import Derived.ChangeOld
import Derived.Below
import Derived.SizedLaws
import Derived.Test.YtechafkfchmggaaGreatMGB2
import Derived.Test.YtechafkfchmggaaGreatMGB3
import Derived.Test.YtechafkfchmggaaGreatMGB4
import Derived.Test.YtechafkfchmggaaGreatMGB5
import Derived.Test.YtechafkfchmggaaGreatMGB21
section
set_option linter.unusedVariables false
set_option linter.unusedSimpArgs false
namespace Go.Proofs.YtechafkfchmggaaGreat.E
open Go Go.RowKit
set_option linter.unusedVariables false
set_option maxRecDepth 100000
namespace impl_Keep_left
def sin : Sig := ⟨[], [.agg [.val I false, .val (.sl I) false, .val (.sl I) false, .val (.sl .bool) false, .val .bool false, .val I false, .val (.sl I) false, .val I false]]⟩
def sout : Sig := ⟨[], [.one (.val I false)]⟩
def h3 : SS := ⟨[1, 3, 8, 9, 10], ⟨[.box [.val I false, .val (.sl I) false, .val (.sl I) false, .val (.sl .bool) false, .val .bool false, .val I false, .val (.sl I) false, .val I false]], [.one (.ref (.ptr 0)), .one (.val I false), .one (.val (.sl I) false), .one (.val I false), .one (.val I false)]⟩⟩
def x3 : SS := ⟨[3], ⟨[], [.one (.val I false)]⟩⟩
def y3 : SS := ⟨[], ⟨[], []⟩⟩
noncomputable def b3 {β : Type} (S : Sl) (L : Int → (List Int) → (List Int) → (List Bool) → Bool → Int → (List Int) → Int → Int → (List Int) → Int → Int → Option β) (kx : Int → Option β) (kr : Option β) (s0 : Int) (s1 : (List Int)) (s2 : (List Int)) (s3 : (List Bool)) (s4 : Bool) (s5 : Int) (s6 : (List Int)) (s7 : Int) (s8 : Int) (s9 : (List Int)) (s10 : Int) (s11 : Int) : Option β := bif (S.lt s11 s10) then (bif (S.ir s11 s9.length) then (bif (!S.eq (List.getD s9 (Int.toNat s11) 0) s7) then (L s0 s1 s2 s3 s4 s5 s6 s7 (S.w (s8 + 1)) s9 s10 (S.w (s11 + 1))) else (L s0 s1 s2 s3 s4 s5 s6 s7 s8 s9 s10 (S.w (s11 + 1)))) else (none)) else (kx s8)
noncomputable def r3 {β : Type} (S : Sl) (n : Nat) (kx : x3.sig.den → Option β) (kr : y3.sig.den → Option β) (s : h3.sig.den) : Option β := rounds (fun L kx kr s => b3 S (fun x0 x1 x2 x3 x4 x5 x6 x7 x8 x9 x10 x11 => L (((x0, (x1, (x2, (x3, (x4, (x5, (x6, (x7, ())))))))), ()), (x8, (x9, (x10, (x11, ())))))) (fun x0 => kx ((), (x0, ()))) (kr ((), ())) s.1.1.1 s.1.1.2.1 s.1.1.2.2.1 s.1.1.2.2.2.1 s.1.1.2.2.2.2.1 s.1.1.2.2.2.2.2.1 s.1.1.2.2.2.2.2.2.1 s.1.1.2.2.2.2.2.2.2.1 s.2.1 s.2.2.1 s.2.2.2.1 s.2.2.2.2.1) kx kr n s
noncomputable def l3 {β : Type} (S : Sl) (n : Nat) (kx : Int → Option β) (kr : Option β) (s0 : Int) (s1 : (List Int)) (s2 : (List Int)) (s3 : (List Bool)) (s4 : Bool) (s5 : Int) (s6 : (List Int)) (s7 : Int) (s8 : Int) (s9 : (List Int)) (s10 : Int) (s11 : Int) : Option β := r3 S n (fun s => kx s.2.1) (fun s => kr) (((s0, (s1, (s2, (s3, (s4, (s5, (s6, (s7, ())))))))), ()), (s8, (s9, (s10, (s11, ())))))
theorem t3 {β : Type} (S : Sl) (n : Nat) (kx : Int → Option β) (kr : Option β) (s0 : Int) (s1 : (List Int)) (s2 : (List Int)) (s3 : (List Bool)) (s4 : Bool) (s5 : Int) (s6 : (List Int)) (s7 : Int) (s8 : Int) (s9 : (List Int)) (s10 : Int) (s11 : Int) : l3 S (n + 1) kx kr s0 s1 s2 s3 s4 s5 s6 s7 s8 s9 s10 s11 = b3 S (l3 S n kx kr) kx kr s0 s1 s2 s3 s4 s5 s6 s7 s8 s9 s10 s11 := by kernel_rfl
noncomputable def G {β : Type} (S : Sl) (a0 : Int) (a1 : (List Int)) (a2 : (List Int)) (a3 : (List Bool)) (a4 : Bool) (a5 : Int) (a6 : (List Int)) (a7 : Int) (K : Int → Option β) : Option β := l3 S S.n (fun y1 => K y1) none a0 a1 a2 a3 a4 a5 a6 a7 0 a2 (a2.length : Int) 0
noncomputable def o : Orac := ⟨140, sin, sout, fun s K => G sl0 s.2.1.1 s.2.1.2.1 s.2.1.2.2.1 s.2.1.2.2.2.1 s.2.1.2.2.2.2.1 s.2.1.2.2.2.2.2.1 s.2.1.2.2.2.2.2.2.1 s.2.1.2.2.2.2.2.2.2.1 (fun x0 => K ((), (x0, ())))⟩
noncomputable def C : Ctx := ⟨tyT, [], [⟨3, 0, h3, x3, y3, fun s kx kr => r3 sl0 sl0.n kx kr s⟩], 22, 0⟩
theorem ctx : CtxOk Tryz.prog C := ⟨tyOk, all0⟩
theorem e3 (β : Type) (L : h3.sig.den → Option β) (kx : x3.sig.den → Option β) (kr : y3.sig.den → Option β) (s : h3.sig.den) : evalBody C (nthC (loopsOf (bodyC Tryz.f140)) 0) 0 h3 x3 y3 L kx kr s = b3 sl0 (fun x0 x1 x2 x3 x4 x5 x6 x7 x8 x9 x10 x11 => L (((x0, (x1, (x2, (x3, (x4, (x5, (x6, (x7, ())))))))), ()), (x8, (x9, (x10, (x11, ())))))) (fun x0 => kx ((), (x0, ()))) (kr ((), ())) s.1.1.1 s.1.1.2.1 s.1.1.2.2.1 s.1.1.2.2.2.1 s.1.1.2.2.2.2.1 s.1.1.2.2.2.2.2.1 s.1.1.2.2.2.2.2.2.1 s.1.1.2.2.2.2.2.2.2.1 s.2.1 s.2.2.1 s.2.2.2.1 s.2.2.2.2.1 := by kernel_rfl
theorem g3 : LS Tryz.prog C ⟨3, 0, h3, x3, y3, fun s kx kr => r3 sl0 sl0.n kx kr s⟩ (loopsOf (bodyC Tryz.f140)) := LS.at (i := 0) (by kernel_rfl) (loop_good mixed ctx (ctx_nat ctx) (N := sl0.n) (fun _ _ _ _ => rfl) e3 (all1 (LS.none (by kernel_rfl)) (all0)))
theorem eG (β : Type) (s : sin.den) (K : sout.den → Option β) : evalFn C Tryz.f140 sin sout s K = o.F s K := by kernel_rfl
theorem ok : OracOk Tryz.prog o := fn_ok mixed Tryz.func140 (by kernel_rfl) ctx (c := bodyC Tryz.f140) (by kernel_rfl) (all1 g3 (all0)) (by kernel_rfl) (by kernel_rfl) (by kernel_rfl) (Nat.le_of_ble_eq_true (by kernel_rfl)) eG (by kernel_rfl) (Nat.le_of_ble_eq_true (by kernel_rfl))
end impl_Keep_left
end Go.Proofs.YtechafkfchmggaaGreat.E
end
section
set_option linter.unusedVariables false
set_option linter.unusedSimpArgs false
namespace Go.Proofs.YtechafkfchmggaaGreat.E
open Go Go.RowKit
set_option linter.unusedVariables false
set_option maxRecDepth 100000
namespace impl_TurnLeft
def sin : Sig := ⟨[], [.agg [.val I false, .val (.sl I) false, .val (.sl I) false, .val (.sl .bool) false, .val .bool false, .val I false, .val (.sl I) false, .val I false]]⟩
def sout : Sig := ⟨[], [.one (.val I false)]⟩
noncomputable def G {β : Type} (S : Sl) (a0 : Int) (a1 : (List Int)) (a2 : (List Int)) (a3 : (List Bool)) (a4 : Bool) (a5 : Int) (a6 : (List Int)) (a7 : Int) (K : Int → Option β) : Option β := impl_KeepOk.G S a0 a1 a2 a3 a4 a5 a6 a7 (fun y1 => bif (!y1) then (K (-1)) else (bif (!a4) then (K 0) else (impl_Keep_left.G S a0 a1 a2 a3 a4 a5 a6 a7 (fun y2 => K y2))))
noncomputable def o : Orac := ⟨71, sin, sout, fun s K => G sl0 s.2.1.1 s.2.1.2.1 s.2.1.2.2.1 s.2.1.2.2.2.1 s.2.1.2.2.2.2.1 s.2.1.2.2.2.2.2.1 s.2.1.2.2.2.2.2.2.1 s.2.1.2.2.2.2.2.2.2.1 (fun x0 => K ((), (x0, ())))⟩
noncomputable def C : Ctx := ⟨tyT, [impl_KeepOk.o, impl_Keep_left.o], [], 13, 0⟩
theorem ctx : CtxOk Tryz.prog C := ⟨tyOk, all1 impl_KeepOk.ok (all1 impl_Keep_left.ok (all0))⟩
theorem eG (β : Type) (s : sin.den) (K : sout.den → Option β) : evalFn C Tryz.f71 sin sout s K = o.F s K := by kernel_rfl
theorem ok : OracOk Tryz.prog o := fn_ok mixed Tryz.func71 (by kernel_rfl) ctx (c := bodyC Tryz.f71) (by kernel_rfl) (all0) (by kernel_rfl) (by kernel_rfl) (by kernel_rfl) (Nat.le_of_ble_eq_true (by kernel_rfl)) eG (by kernel_rfl) (Nat.le_of_ble_eq_true (by kernel_rfl))
end impl_TurnLeft
end Go.Proofs.YtechafkfchmggaaGreat.E
end
section
set_option linter.unusedVariables false
set_option linter.unusedSimpArgs false
namespace Go.Proofs.YtechafkfchmggaaGreat.E
open Go Go.RowKit
set_option linter.unusedVariables false
set_option maxRecDepth 100000
namespace spec_TurnLeft
def sin : Sig := ⟨[], [.agg [.val I false, .val (.sl I) false, .val (.sl I) false, .val (.sl .bool) false, .val .bool false, .val I false, .val (.sl I) false, .val I false]]⟩
def sout : Sig := ⟨[], [.one (.val I false)]⟩
def h5 : SS := ⟨[1, 3, 4], ⟨[.box [.val I false, .val (.sl I) false, .val (.sl I) false, .val (.sl .bool) false, .val .bool false, .val I false, .val (.sl I) false, .val I false]], [.one (.ref (.ptr 0)), .one (.val I false), .one (.val I false)]⟩⟩
def x5 : SS := ⟨[3], ⟨[], [.one (.val I false)]⟩⟩
def y5 : SS := ⟨[], ⟨[], []⟩⟩
noncomputable def b5 {β : Type} (S : Sl) (L : Int → (List Int) → (List Int) → (List Bool) → Bool → Int → (List Int) → Int → Int → Int → Option β) (kx : Int → Option β) (kr : Option β) (s0 : Int) (s1 : (List Int)) (s2 : (List Int)) (s3 : (List Bool)) (s4 : Bool) (s5 : Int) (s6 : (List Int)) (s7 : Int) (s8 : Int) (s9 : Int) : Option β := bif s4 then (bif (S.lt s9 8) then (bif (S.ir s9 s2.length) then (bif (!S.eq (List.getD s2 (Int.toNat s9) 0) s7) then (L s0 s1 s2 s3 s4 s5 s6 s7 (S.w (s8 + 1)) (S.w (s9 + 1))) else (L s0 s1 s2 s3 s4 s5 s6 s7 s8 (S.w (s9 + 1)))) else (none)) else (kx s8)) else (kx s8)
noncomputable def r5 {β : Type} (S : Sl) (n : Nat) (kx : x5.sig.den → Option β) (kr : y5.sig.den → Option β) (s : h5.sig.den) : Option β := rounds (fun L kx kr s => b5 S (fun x0 x1 x2 x3 x4 x5 x6 x7 x8 x9 => L (((x0, (x1, (x2, (x3, (x4, (x5, (x6, (x7, ())))))))), ()), (x8, (x9, ())))) (fun x0 => kx ((), (x0, ()))) (kr ((), ())) s.1.1.1 s.1.1.2.1 s.1.1.2.2.1 s.1.1.2.2.2.1 s.1.1.2.2.2.2.1 s.1.1.2.2.2.2.2.1 s.1.1.2.2.2.2.2.2.1 s.1.1.2.2.2.2.2.2.2.1 s.2.1 s.2.2.1) kx kr n s
noncomputable def l5 {β : Type} (S : Sl) (n : Nat) (kx : Int → Option β) (kr : Option β) (s0 : Int) (s1 : (List Int)) (s2 : (List Int)) (s3 : (List Bool)) (s4 : Bool) (s5 : Int) (s6 : (List Int)) (s7 : Int) (s8 : Int) (s9 : Int) : Option β := r5 S n (fun s => kx s.2.1) (fun s => kr) (((s0, (s1, (s2, (s3, (s4, (s5, (s6, (s7, ())))))))), ()), (s8, (s9, ())))
theorem t5 {β : Type} (S : Sl) (n : Nat) (kx : Int → Option β) (kr : Option β) (s0 : Int) (s1 : (List Int)) (s2 : (List Int)) (s3 : (List Bool)) (s4 : Bool) (s5 : Int) (s6 : (List Int)) (s7 : Int) (s8 : Int) (s9 : Int) : l5 S (n + 1) kx kr s0 s1 s2 s3 s4 s5 s6 s7 s8 s9 = b5 S (l5 S n kx kr) kx kr s0 s1 s2 s3 s4 s5 s6 s7 s8 s9 := by kernel_rfl
noncomputable def G {β : Type} (S : Sl) (a0 : Int) (a1 : (List Int)) (a2 : (List Int)) (a3 : (List Bool)) (a4 : Bool) (a5 : Int) (a6 : (List Int)) (a7 : Int) (K : Int → Option β) : Option β := spec_KeepOk.G S a0 a1 a2 a3 a4 a5 a6 a7 (fun y1 => bif (!y1) then (K (-1)) else (l5 S S.n (fun y2 => K y2) none a0 a1 a2 a3 a4 a5 a6 a7 0 0))
noncomputable def o : Orac := ⟨70, sin, sout, fun s K => G sl0 s.2.1.1 s.2.1.2.1 s.2.1.2.2.1 s.2.1.2.2.2.1 s.2.1.2.2.2.2.1 s.2.1.2.2.2.2.2.1 s.2.1.2.2.2.2.2.2.1 s.2.1.2.2.2.2.2.2.2.1 (fun x0 => K ((), (x0, ())))⟩
noncomputable def C : Ctx := ⟨tyT, [spec_KeepOk.o], [⟨5, 0, h5, x5, y5, fun s kx kr => r5 sl0 sl0.n kx kr s⟩], 28, 0⟩
theorem ctx : CtxOk Tryz.prog C := ⟨tyOk, all1 spec_KeepOk.ok (all0)⟩
theorem e5 (β : Type) (L : h5.sig.den → Option β) (kx : x5.sig.den → Option β) (kr : y5.sig.den → Option β) (s : h5.sig.den) : evalBody C (nthC (loopsOf (bodyC Tryz.f70)) 0) 0 h5 x5 y5 L kx kr s = b5 sl0 (fun x0 x1 x2 x3 x4 x5 x6 x7 x8 x9 => L (((x0, (x1, (x2, (x3, (x4, (x5, (x6, (x7, ())))))))), ()), (x8, (x9, ())))) (fun x0 => kx ((), (x0, ()))) (kr ((), ())) s.1.1.1 s.1.1.2.1 s.1.1.2.2.1 s.1.1.2.2.2.1 s.1.1.2.2.2.2.1 s.1.1.2.2.2.2.2.1 s.1.1.2.2.2.2.2.2.1 s.1.1.2.2.2.2.2.2.2.1 s.2.1 s.2.2.1 := by kernel_rfl
theorem g5 : LS Tryz.prog C ⟨5, 0, h5, x5, y5, fun s kx kr => r5 sl0 sl0.n kx kr s⟩ (loopsOf (bodyC Tryz.f70)) := LS.at (i := 0) (by kernel_rfl) (loop_good mixed ctx (ctx_nat ctx) (N := sl0.n) (fun _ _ _ _ => rfl) e5 (all1 (LS.none (by kernel_rfl)) (all0)))
theorem eG (β : Type) (s : sin.den) (K : sout.den → Option β) : evalFn C Tryz.f70 sin sout s K = o.F s K := by kernel_rfl
theorem ok : OracOk Tryz.prog o := fn_ok mixed Tryz.func70 (by kernel_rfl) ctx (c := bodyC Tryz.f70) (by kernel_rfl) (all1 g5 (all0)) (by kernel_rfl) (by kernel_rfl) (by kernel_rfl) (Nat.le_of_ble_eq_true (by kernel_rfl)) eG (by kernel_rfl) (Nat.le_of_ble_eq_true (by kernel_rfl))
end spec_TurnLeft
end Go.Proofs.YtechafkfchmggaaGreat.E
end
section
set_option linter.unusedVariables false
set_option linter.unusedSimpArgs false
namespace Go.Proofs.YtechafkfchmggaaGreat.E
open Go Go.RowKit
set_option linter.unusedVariables false
set_option maxRecDepth 100000
namespace laws_FnExactTurnLeft
def sin : Sig := ⟨[], [.agg [.val I false, .val (.sl I) false, .val (.sl I) false, .val (.sl .bool) false, .val .bool false, .val I false, .val (.sl I) false, .val I false]]⟩
def sout : Sig := ⟨[], [.one (.val .bool false)]⟩
noncomputable def G {β : Type} (S : Sl) (a0 : Int) (a1 : (List Int)) (a2 : (List Int)) (a3 : (List Bool)) (a4 : Bool) (a5 : Int) (a6 : (List Int)) (a7 : Int) (K : Bool → Option β) : Option β := laws_szKeep.G S a0 a1 a2 a3 a4 a5 a6 a7 1048576 (fun y1 => bif (S.lt y1 0) then (K true) else (laws_toKeep.G S a0 a1 a2 a3 a4 a5 a6 a7 (fun y2 y3 y4 y5 y6 y7 y8 y9 => spec_TurnLeft.G S y6 y2 y3 y4 y7 y8 y5 y9 (fun y10 => laws_toKeep.G S a0 a1 a2 a3 a4 a5 a6 a7 (fun y11 y12 y13 y14 y15 y16 y17 y18 => impl_TurnLeft.G S y15 y11 y12 y13 y16 y17 y14 y18 (fun y19 => bif (!S.eq y19 y10) then (K false) else (laws_toKeep.G S a0 a1 a2 a3 a4 a5 a6 a7 (fun y20 y21 y22 y23 y24 y25 y26 y27 => laws_eqKeep.G S y15 y11 y12 y13 y16 y17 y14 y18 y24 y20 y21 y22 y25 y26 y23 y27 (fun y28 => bif (!y28) then (K false) else (K true))))))))))
noncomputable def o : Orac := ⟨16, sin, sout, fun s K => G sl0 s.2.1.1 s.2.1.2.1 s.2.1.2.2.1 s.2.1.2.2.2.1 s.2.1.2.2.2.2.1 s.2.1.2.2.2.2.2.1 s.2.1.2.2.2.2.2.2.1 s.2.1.2.2.2.2.2.2.2.1 (fun x0 => K ((), (x0, ())))⟩
noncomputable def C : Ctx := ⟨tyT, [impl_TurnLeft.o, laws_eqKeep.o, laws_szKeep.o, laws_toKeep.o, spec_TurnLeft.o], [], 27, 0⟩
theorem ctx : CtxOk Tryz.prog C := ⟨tyOk, all1 impl_TurnLeft.ok (all1 laws_eqKeep.ok (all1 laws_szKeep.ok (all1 laws_toKeep.ok (all1 spec_TurnLeft.ok (all0)))))⟩
theorem eG (β : Type) (s : sin.den) (K : sout.den → Option β) : evalFn C Tryz.f16 sin sout s K = o.F s K := by kernel_rfl
theorem ok : OracOk Tryz.prog o := fn_ok mixed Tryz.func16 (by kernel_rfl) ctx (c := bodyC Tryz.f16) (by kernel_rfl) (all0) (by kernel_rfl) (by kernel_rfl) (by kernel_rfl) (Nat.le_of_ble_eq_true (by kernel_rfl)) eG (by kernel_rfl) (Nat.le_of_ble_eq_true (by kernel_rfl))
end laws_FnExactTurnLeft
end Go.Proofs.YtechafkfchmggaaGreat.E
end
section
set_option linter.unusedVariables false
set_option linter.unusedSimpArgs false
namespace Go.Proofs.YtechafkfchmggaaGreat.E
open Go Go.RowKit
set_option linter.unusedVariables false
set_option maxRecDepth 100000
def leftF (kv : Int) (vers : List Int) : Nat → Nat → Int → Int
  | 0, _, m => m
  | n + 1, i, m => bif vers.getD i 0 == kv then leftF kv vers n (i + 1) m else leftF kv vers n (i + 1) (m + 1)
theorem leftS_l {β : Type} (kind : Int) (vals : List Int) {vers : List Int} (h2 : vers.length = 8) (there : List Bool) (kd : Int) (data : List Int) (kv : Int) (kx : Int → Option β) (kr : Option β) (d : Nat) : ∀ (i n : Nat) (m : Int), i + d = 8 → d < n → 0 ≤ m → m ≤ i →
    spec_TurnLeft.l5 sl1 n kx kr kind vals vers there true kd data kv m (i : Int) = kx (leftF kv vers d i m) := by
  induction d with
  | zero =>
    intro i n m hi hn h0 h1
    obtain ⟨n, rfl⟩ : ∃ m, n = m + 1 := ⟨n - 1, by omega⟩
    rw [spec_TurnLeft.t5]; exact cT rfl (cF (ltF (by omega)) rfl)
  | succ d ih =>
    intro i n m hi hn h0 h1
    obtain ⟨n, rfl⟩ : ∃ m, n = m + 1 := ⟨n - 1, by omega⟩
    rw [spec_TurnLeft.t5]
    unfold spec_TurnLeft.b5 leftF
    rw [w_succ (by omega), wE (a := m + 1) (by omega) (by omega)]
    simp only [getC]
    refine cT rfl (cT (ltT (by omega)) (cT (irT (by omega) (by omega)) ?_))
    by_cases c : vers.getD i 0 = kv
    · rw [beq_iff_eq.2 c]
      exact cF (neF c) (ih (i + 1) n m (by omega) (by omega) h0 (by omega))
    · rw [beq_eq_false_iff_ne.2 c]
      exact cT (neT c) (ih (i + 1) n (m + 1) (by omega) (by omega) (by omega) (by omega))
theorem leftI_l {β : Type} (kind : Int) (vals : List Int) {vers : List Int} (h2 : vers.length = 8) (there : List Bool) (on : Bool) (kd : Int) (data : List Int) (kv : Int) (kx : Int → Option β) (kr : Option β) (d : Nat) : ∀ (i n : Nat) (m : Int), i + d = 8 → d < n → 0 ≤ m → m ≤ i →
    impl_Keep_left.l3 sl1 n kx kr kind vals vers there on kd data kv m vers 8 (i : Int) = kx (leftF kv vers d i m) := by
  induction d with
  | zero =>
    intro i n m hi hn h0 h1
    obtain ⟨n, rfl⟩ : ∃ m, n = m + 1 := ⟨n - 1, by omega⟩
    rw [impl_Keep_left.t3]; exact cF (ltF (by omega)) rfl
  | succ d ih =>
    intro i n m hi hn h0 h1
    obtain ⟨n, rfl⟩ : ∃ m, n = m + 1 := ⟨n - 1, by omega⟩
    rw [impl_Keep_left.t3]
    unfold impl_Keep_left.b3 leftF
    rw [w_succ (by omega), wE (a := m + 1) (by omega) (by omega)]
    simp only [getC]
    refine cT (ltT (by omega)) (cT (irT (by omega) (by omega)) ?_)
    by_cases c : vers.getD i 0 = kv
    · rw [beq_iff_eq.2 c]
      exact cF (neF c) (ih (i + 1) n m (by omega) (by omega) h0 (by omega))
    · rw [beq_eq_false_iff_ne.2 c]
      exact cT (neT c) (ih (i + 1) n (m + 1) (by omega) (by omega) (by omega) (by omega))
theorem keepV_len {kind : Int} {vals vers : List Int} {there : List Bool} {on : Bool} {kd : Int} {data : List Int} {kv : Int} (h : keepV kind vals vers there on kd data kv = true) : (kind = 1 ∨ kind = 2) ∧ (∀ x ∈ vals, 0 ≤ x ∧ x ≤ 30) ∧ vals.length = 8 ∧ vers.length = 8 ∧ there.length = 8 := by
  unfold keepV at h
  simp only [Bool.and_eq_true, decide_eq_true_eq] at h
  obtain ⟨⟨a, b, c⟩, _⟩ := h
  obtain ⟨d, e, f⟩ := valsV_iff.1 b
  exact ⟨kindV a, d, e, c, f⟩
noncomputable def leftV (kind : Int) (vals vers : List Int) (there : List Bool) (on : Bool) (kd : Int) (data : List Int) (kv : Int) : Int :=
  bif keepV kind vals vers there on kd data kv then (bif on then leftF kv vers 8 0 0 else 0) else -1
theorem leftS_G {β : Type} (kind : Int) {vals vers : List Int} {there : List Bool} (on : Bool) (kd : Int) {data : List Int} (kv : Int) (hl : vals.length ≤ 1000000000) (hdl : data.length ≤ 1000000000) (K : Int → Option β) :
    spec_TurnLeft.G sl1 kind vals vers there on kd data kv K = K (leftV kind vals vers there on kd data kv) := by
  unfold spec_TurnLeft.G leftV
  refine (keepS_G kind on kd kv hl hdl _).trans ?_
  cases ck : keepV kind vals vers there on kd data kv
  · exact cT rfl rfl
  obtain ⟨_, _, h1, h2, h3⟩ := keepV_len ck
  cases on
  · refine cF rfl ?_
    rw [n5, spec_TurnLeft.t5]
    exact cF rfl rfl
  · exact cF rfl (leftS_l kind vals h2 there kd data kv _ none 8 0 sl1.n 0 (by omega) (by rw [rounds_n]; omega) (by omega) (by omega))
theorem leftI_G {β : Type} (kind : Int) {vals vers : List Int} {there : List Bool} (on : Bool) (kd : Int) {data : List Int} (kv : Int) (hdl : data.length ≤ 1000000000) (K : Int → Option β) :
    impl_TurnLeft.G sl1 kind vals vers there on kd data kv K = K (leftV kind vals vers there on kd data kv) := by
  unfold impl_TurnLeft.G leftV
  refine (keepI_G kind on kd kv hdl _).trans ?_
  rw [keep_same]
  cases ck : keepV kind vals vers there on kd data kv
  · exact cT rfl rfl
  obtain ⟨_, _, h1, h2, h3⟩ := keepV_len ck
  cases on
  · exact cF rfl (cT rfl rfl)
  · refine cF rfl (cF rfl ?_)
    unfold impl_Keep_left.G
    rw [h2]
    exact leftI_l kind vals h2 there true kd data kv _ none 8 0 sl1.n 0 (by omega) (by rw [rounds_n]; omega) (by omega) (by omega)
end Go.Proofs.YtechafkfchmggaaGreat.E
namespace Go.Proofs.YtechafkfchmggaaGreat.Pure.FnExactTurnLeft
open Go Go.Proofs.YtechafkfchmggaaGreat.E
theorem pure (x : Int × (List Int × (List Int × (List Bool × (Bool × (Int × (List Int × (Int × Unit)))))))) (h1 : x.2.1.length ≤ 9223372036854775807) (h2 : x.2.2.1.length ≤ 9223372036854775807) (h3 : x.2.2.2.1.length ≤ 9223372036854775807) (h4 : x.2.2.2.2.2.2.1.length ≤ 9223372036854775807)
    {β : Type} (K : Bool → Option β) : laws_FnExactTurnLeft.G sl1 x.1 x.2.1 x.2.2.1 x.2.2.2.1 x.2.2.2.2.1 x.2.2.2.2.2.1 x.2.2.2.2.2.2.1 x.2.2.2.2.2.2.2.1 K = K true := by
  obtain ⟨kind, vals, vers, there, on, kd, data, kv, _⟩ := x
  dsimp only at h1 h2 h3 h4 ⊢
  obtain ⟨y, hy, h⟩ := szKeep_or kind on kd kv h1 h2 h3 h4
  unfold laws_FnExactTurnLeft.G
  refine (hy _ _).trans ?_
  rcases h with h | ⟨h, l1, l2, l3, l4⟩
  · exact cT (ltT h) rfl
  refine cF (ltF h) ((toKeep_G kind on kd kv l1 l2 l3 l4 _).trans ((leftS_G kind on kd kv (by omega) (by omega) _).trans ((toKeep_G kind on kd kv l1 l2 l3 l4 _).trans ((leftI_G kind on kd kv (by omega) _).trans ?_))))
  exact cF (neF rfl) ((toKeep_G kind on kd kv l1 l2 l3 l4 _).trans ((eqKeep_G kind on kd kv l1 l2 l3 l4 _).trans (cF rfl rfl)))
end Go.Proofs.YtechafkfchmggaaGreat.Pure.FnExactTurnLeft
end
section
set_option linter.unusedVariables false
set_option linter.unusedSimpArgs false
namespace Go.Proofs.YtechafkfchmggaaGreat.fnExactTurnLeft
open Go.ChangeShapes Go.WideShapes Go.ChangeAt Go.RowKit
open Go.ChangeMaps (open_string shut_string)
set_option linter.unusedVariables false
theorem own : ownKnob Tryz.prog.godebug = none := by kernel_rfl
theorem laidOut : laidOutB Tryz.prog = true := by kernel_rfl
set_option maxRecDepth 100000 in
theorem lifted (os : Os) (started : os.Started) (H : Type) (enc : TypeId × Value → H) :
    ReturnsInHanded {} Tryz.checked os 16 .any (Rows.fnExactTurnLeftSpec.pre6 enc Tryz.prog Tryz.f16 Rows.fnExactTurnLeftRow.domain false) (Rows.fnExactTurnLeftSpec.post enc Tryz.prog Tryz.f16 false true false false) := by
  refine returnsInHanded_of_change_sized (C := Tryz.checked) own started (by kernel_rfl) Tryz.func16
    (ChangeSpec.witness6 (enc := enc) (C := Tryz.checked) false ⟨#[], #[.agg #[.int .i64 0, .slice none 0 0, .slice none 0 0, .slice none 0 0, .bool false, .int .i64 0, .slice none 0 0, .int .i64 0]], []⟩ 8 (by kernel_rfl) (by kernel_rfl) (by kernel_rfl) (by kernel_rfl)) ?_
  intro W base args ds gs before hval0 hW hcnd hsz0 _
  have hval : ∀ (j : Nat) t v, Tryz.f16.params[j]? = some t → args[j]? = some v → Value.okWide Tryz.prog W .any base t v := hval0
  have hW' := hW
  obtain ⟨p, q, hA0, hV, rfl, hfz, hnd⟩ := hW
  have hA : DataW.TrodAll enc Tryz.prog W 0 (fun _ => true) true Tryz.f16.params.toList args.toList ds p := hA0
  rw [Tryz.params16] at hA hval
  obtain ⟨v0, vs0, d0, ds0, p0, q0, hargs, rfl, rfl, h0, r0⟩ := trodAll_cons hA
  obtain ⟨rfl, rfl, rfl⟩ := trodAll_nil r0
  obtain rfl : args = #[v0] := by cases args; simp_all
  obtain ⟨rfl, rfl⟩ := trodVars_none hV
  have k0 := h0
  have lt0 : ∀ x ∈ p0, x.block < W.heap.size := by obtain ⟨m, hm⟩ := k0; exact DataW.trod_lt m _ _ _ hm
  obtain ⟨x0, R0, Q0⟩ := E.arg_struct Tryz.underlying81 (hval 0 81 v0 rfl rfl) h0 (E.RdG_nest rfl rfl (E.Rd_struct Tryz.underlying25 (by kernel_rfl) (E.RdF_cons rfl (E.Rd_int Tryz.underlying3 (by kernel_rfl)) (E.RdF_cons rfl (E.Rd_slice Tryz.underlying22 (by kernel_rfl) (by decide) (E.Rd_int Tryz.underlying3 (by kernel_rfl))) (E.RdF_cons rfl (E.Rd_slice Tryz.underlying22 (by kernel_rfl) (by decide) (E.Rd_int Tryz.underlying3 (by kernel_rfl))) (E.RdF_cons rfl (E.Rd_slice Tryz.underlying23 (by kernel_rfl) (by decide) (E.Rd_bool Tryz.underlying4 (by kernel_rfl))) E.RdF_nil))))) (E.RdG_cons rfl (E.Rd_bool Tryz.underlying4 (by kernel_rfl)) (E.RdG_cons rfl (E.Rd_int Tryz.underlying3 (by kernel_rfl)) (E.RdG_cons rfl (E.Rd_slice Tryz.underlying22 (by kernel_rfl) (by decide) (E.Rd_int Tryz.underlying3 (by kernel_rfl))) (E.RdG_cons rfl (E.Rd_int Tryz.underlying3 (by kernel_rfl)) (E.RdG_nil (by decide +kernel)))))))
  obtain ⟨xa0, xb0, rfl, Qa0, Qb0⟩ := Q0
  clear hA0 hval0 hsz0
  have hp := Pure.FnExactTurnLeft.pure (E.chainDen _ _ xa0 xb0) Qa0.2.1.1 Qa0.2.2.1.1 Qa0.2.2.2.1.1 Qb0.2.2.1.1 (fun b => some ((), (b, ())))
  rw [← E.sl_eq] at hp
  refine (E.law_any E.laws_FnExactTurnLeft.ok (s := (E.chainDen _ _ xa0 xb0, ())) hp (args := [v0]) ⟨v0, _, rfl, R0, rfl⟩).mono fun e W' ⟨he, bel⟩ => ?_
  subst he
  exact ⟨_, rfl, _, _, _, [], _, [], hW', trodAll_mk1 (shut_bool Tryz.underlying4 _), (trodAll_cons_mk (Below.trod laidOut (by kernel_rfl) (of_decide_eq_true (by kernel_rfl)) k0 bel lt0) trodAll_mk0), rfl, bel.frame _, fun h => by cases h⟩
theorem closed : joinedFacts Tryz.prog 16 Tryz.f16 Rows.fnExactTurnLeftSpec Rows.fnExactTurnLeftRow = true := by
  unfold joinedFacts
  rw [Head.make, Head.final, Head.enter]
  kernel_rfl
theorem over : Rows.fnExactTurnLeftRow.holds Tryz.pinned (OpenSpec.ofChange Rows.fnExactTurnLeftSpec) :=
  OpenClaim.holds_of_wide 16 Tryz.f16 rfl rfl rfl rfl rfl rfl rfl ⟨rfl, rfl, rfl, rfl, rfl⟩ rfl rfl rfl rfl rfl (by kernel_rfl) Tryz.func16 closed
    (of_decide_eq_true (by kernel_rfl)) (by unfold Func.isWrapper; first | (rw [if_pos (by decide +kernel)]; kernel_rfl) | (rw [if_neg (by decide +kernel)]; exact ⟨rfl, rfl⟩))
    (fun os started H enc _ => lifted os started H enc)
theorem proved : Rows.FnExactTurnLeftSaid := over
#print axioms proved
end Go.Proofs.YtechafkfchmggaaGreat.fnExactTurnLeft
end
