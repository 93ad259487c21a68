/- What the functions of several statements compute, step by step. No condition. -/
import Derived.Test.YtechafkfchmggaaGreatRows
import Derived.WalkKit
import Derived.JoinedOf
import Derived.Test.YtechafkfchmggaaGreatMGB2
import Derived.Test.YtechafkfchmggaaGreatMGB3
import Derived.Test.YtechafkfchmggaaGreatMGB4
section
set_option linter.unusedVariables false
set_option linter.unusedSimpArgs false
namespace Go.Proofs.YtechafkfchmggaaGreat.E
open Go Go.RowKit
set_option linter.unusedVariables false
set_option maxRecDepth 100000
namespace spec_l41Good
def sin : Sig := ⟨[], [.agg [.val I false, .val I false, .val I false], .one (.val I false)]⟩
def sout : Sig := ⟨[], [.one (.val .bool false)]⟩
noncomputable def G {β : Type} (S : Sl) (a0 : Int) (a1 : Int) (a2 : Int) (a3 : Int) (K : Bool → Option β) : Option β := bif (S.lt 0 a2) then (spec_RotSum.G S a0 a1 a3 (fun y1 => K (S.eq y1 a2))) else (K false)
noncomputable def o : Orac := ⟨107, sin, sout, fun s K => G sl0 s.2.1.1 s.2.1.2.1 s.2.1.2.2.1 s.2.2.1 (fun x0 => K ((), (x0, ())))⟩
noncomputable def C : Ctx := ⟨tyT, [spec_RotSum.o], [], 19, 0⟩
theorem ctx : CtxOk Tryz.prog C := ⟨tyOk, all1 spec_RotSum.ok (all0)⟩
theorem eG (β : Type) (s : sin.den) (K : sout.den → Option β) : evalFn C Tryz.f107 sin sout s K = o.F s K := by kernel_rfl
theorem ok : OracOk Tryz.prog o := fn_ok mixed Tryz.func107 (by kernel_rfl) ctx (c := bodyC Tryz.f107) (by kernel_rfl) (all0) (by kernel_rfl) (by kernel_rfl) (by kernel_rfl) (Nat.le_of_ble_eq_true (by kernel_rfl)) eG (by kernel_rfl) (Nat.le_of_ble_eq_true (by kernel_rfl))
end spec_l41Good
end Go.Proofs.YtechafkfchmggaaGreat.E
end
section
set_option linter.unusedVariables false
set_option linter.unusedSimpArgs false
namespace Go.Proofs.YtechafkfchmggaaGreat.E
open Go Go.RowKit
set_option linter.unusedVariables false
set_option maxRecDepth 100000
abbrev Dk' := Int × Int × Int × Unit
def rotRaw (a b c : Int) : Int := sl1.w ((Int.tmod (sl1.w ((sl1.w ((sl1.w ((3 : Int) * a)) + (sl1.w ((5 : Int) * b)))) + (sl1.w ((7 : Int) * c)))) 89) + 1)
def rotV (a b c : Int) : Int := bif inV a 0 30 && (inV b 1 99 && inV c 0 7) then rotRaw a b c else 0
theorem rot_impl {β : Type} (a b c : Int) (K : Int → Option β) : impl_RotSum.G sl1 a b c K = K (rotV a b c) := by
  unfold impl_RotSum.G rotV
  refine (impl_field _ _).trans ?_
  cases h1 : inV a 0 30
  · exact cT rfl rfl
  refine cF rfl ((impl_in b 1 99 _).trans ?_)
  cases h2 : inV b 1 99
  · exact cT rfl rfl
  refine cF rfl ((impl_in c 0 7 _).trans ?_)
  cases h3 : inV c 0 7
  · exact cT rfl rfl
  exact cF rfl rfl
theorem rot_spec {β : Type} (a b c : Int) (K : Int → Option β) : spec_RotSum.G sl1 a b c K = K (rotV a b c) := by
  unfold spec_RotSum.G rotV
  refine (spec_field _ _).trans ?_
  cases h1 : inV a 0 30
  · exact cT rfl rfl
  refine cF rfl ((spec_in b 1 99 _).trans ?_)
  cases h2 : inV b 1 99
  · exact cT rfl rfl
  refine cF rfl ((spec_in c 0 7 _).trans ?_)
  cases h3 : inV c 0 7
  · exact cT rfl rfl
  exact cF rfl rfl
theorem rotV_pos (a b c : Int) : 0 ≤ rotV a b c := by
  unfold rotV
  cases h : inV a 0 30 && (inV b 1 99 && inV c 0 7)
  · exact Int.le_refl _
  · simp only [Bool.and_eq_true, inV_iff] at h
    obtain ⟨h1, h2, h3⟩ := h
    show 0 ≤ rotRaw a b c
    unfold rotRaw
    rw [wE (a := 3 * a) (by omega) (by omega), wE (a := 5 * b) (by omega) (by omega), wE (a := 7 * c) (by omega) (by omega), wE (a := 3 * a + 5 * b) (by omega) (by omega), wE (a := 3 * a + 5 * b + 7 * c) (by omega) (by omega)]
    have := tmod_in (a := 3 * a + 5 * b + 7 * c) (n := 89) (by omega) (by omega)
    rw [wE (by omega) (by omega)]; omega
def zeroD (d : Dk') : Bool := sl1.eq d.1 0 && (sl1.eq d.2.1 0 && (sl1.eq d.2.2.1 0 && true))
def goodV (d : Dk') (i : Int) : Bool := !(d.2.2.1 == 0) && (d.2.2.1 == rotV d.1 d.2.1 i)
theorem good_impl {β : Type} (d : Dk') (i : Int) (K : Bool → Option β) : impl_Disk_intact.G sl1 d.1 d.2.1 d.2.2.1 i K = K (goodV d i) := by
  unfold impl_Disk_intact.G goodV
  by_cases h : d.2.2.1 = 0
  · rw [show (d.2.2.1 == 0) = true from beq_iff_eq.2 h]
    exact cF (neF h) rfl
  · rw [show (d.2.2.1 == 0) = false from beq_eq_false_iff_ne.2 h]
    exact cT (neT h) ((rot_impl _ _ _ _).trans rfl)
theorem good_spec {β : Type} (d : Dk') (i : Int) (K : Bool → Option β) : spec_l41Good.G sl1 d.1 d.2.1 d.2.2.1 i K = K (goodV d i) := by
  unfold spec_l41Good.G goodV
  have hp := rotV_pos d.1 d.2.1 i
  by_cases h : 0 < d.2.2.1
  · rw [show (d.2.2.1 == 0) = false from beq_eq_false_iff_ne.2 (by omega)]
    refine cT (ltT h) ((rot_spec _ _ _ _).trans ?_)
    rw [eq_def, Bool.not_false, Bool.true_and, Bool.beq_comm]
  · refine cF (ltF (by omega)) ?_
    by_cases h0 : d.2.2.1 = 0
    · rw [show (d.2.2.1 == 0) = true from beq_iff_eq.2 h0]; rfl
    · rw [show (d.2.2.1 == rotV d.1 d.2.1 i) = false from beq_eq_false_iff_ne.2 (by omega), Bool.and_false]
end Go.Proofs.YtechafkfchmggaaGreat.E
end
section
set_option linter.unusedVariables false
set_option linter.unusedSimpArgs false
namespace Go.Proofs.YtechafkfchmggaaGreat.E
open Go Go.RowKit
set_option linter.unusedVariables false
set_option maxRecDepth 100000
namespace impl_blocks
def sin : Sig := ⟨[], [.agg [.val I false, .val (.sl I) false, .val (.sl I) false, .val (.sl .bool) false]]⟩
def sout : Sig := ⟨[.buf (.pair I (.pair I (.pair I .unit))) false], [.one (.ref (.own 0))]⟩
def h3 : SS := ⟨[1, 3, 9, 10, 11], ⟨[.box [.val I false, .val (.sl I) false, .val (.sl I) false, .val (.sl .bool) false], .buf (.pair I (.pair I (.pair I .unit))) false, .buf I false], [.one (.ref (.ptr 0)), .one (.ref (.own 1)), .one (.ref (.own 2)), .one (.val I false), .one (.val I false)]⟩⟩
def x3 : SS := ⟨[3], ⟨[.buf (.pair I (.pair I (.pair I .unit))) false], [.one (.ref (.own 0))]⟩⟩
def y3 : SS := ⟨[], ⟨[], []⟩⟩
noncomputable def b3 {β : Type} (S : Sl) (L : Int → (List Int) → (List Int) → (List Bool) → (List (Int × (Int × (Int × Unit)))) → (List Int) → Int → Int → Option β) (kx : (List (Int × (Int × (Int × Unit)))) → Option β) (kr : Option β) (s0 : Int) (s1 : (List Int)) (s2 : (List Int)) (s3 : (List Bool)) (s4 : (List (Int × (Int × (Int × Unit))))) (s5 : (List Int)) (s6 : Int) (s7 : Int) : Option β := bif (S.lt s7 s6) then (bif (S.ir s7 s5.length) then (bif (S.ir (List.getD s5 (Int.toNat s7) 0) s1.length) then (bif (S.ir (List.getD s5 (Int.toNat s7) 0) s2.length) then (bif (S.ir (List.getD s5 (Int.toNat s7) 0) s1.length) then (bif (S.ir (List.getD s5 (Int.toNat s7) 0) s2.length) then (impl_RotSum.G S (List.getD s1 (Int.toNat (List.getD s5 (Int.toNat s7) 0)) 0) (List.getD s2 (Int.toNat (List.getD s5 (Int.toNat s7) 0)) 0) (List.getD s5 (Int.toNat s7) 0) (fun y1 => bif (S.ir (List.getD s5 (Int.toNat s7) 0) s4.length) then (L s0 s1 s2 s3 (List.set s4 (Int.toNat (List.getD s5 (Int.toNat s7) 0)) ((List.getD s1 (Int.toNat (List.getD s5 (Int.toNat s7) 0)) 0), ((List.getD s2 (Int.toNat (List.getD s5 (Int.toNat s7) 0)) 0), (y1, ())))) s5 s6 (S.w (s7 + 1))) else (none))) else (none)) else (none)) else (none)) else (none)) else (none)) else (kx s4)
noncomputable def r3 {β : Type} (S : Sl) (n : Nat) (kx : x3.sig.den → Option β) (kr : y3.sig.den → Option β) (s : h3.sig.den) : Option β := rounds (fun L kx kr s => b3 S (fun x0 x1 x2 x3 x4 x5 x6 x7 => L (((x0, (x1, (x2, (x3, ())))), (x4, (x5, ()))), (x6, (x7, ())))) (fun x0 => kx ((x0, ()), ())) (kr ((), ())) s.1.1.1 s.1.1.2.1 s.1.1.2.2.1 s.1.1.2.2.2.1 s.1.2.1 s.1.2.2.1 s.2.1 s.2.2.1) kx kr n s
noncomputable def l3 {β : Type} (S : Sl) (n : Nat) (kx : (List (Int × (Int × (Int × Unit)))) → Option β) (kr : Option β) (s0 : Int) (s1 : (List Int)) (s2 : (List Int)) (s3 : (List Bool)) (s4 : (List (Int × (Int × (Int × Unit))))) (s5 : (List Int)) (s6 : Int) (s7 : Int) : Option β := r3 S n (fun s => kx s.1.1) (fun s => kr) (((s0, (s1, (s2, (s3, ())))), (s4, (s5, ()))), (s6, (s7, ())))
theorem t3 {β : Type} (S : Sl) (n : Nat) (kx : (List (Int × (Int × (Int × Unit)))) → Option β) (kr : Option β) (s0 : Int) (s1 : (List Int)) (s2 : (List Int)) (s3 : (List Bool)) (s4 : (List (Int × (Int × (Int × Unit))))) (s5 : (List Int)) (s6 : Int) (s7 : Int) : l3 S (n + 1) kx kr s0 s1 s2 s3 s4 s5 s6 s7 = b3 S (l3 S n kx kr) kx kr s0 s1 s2 s3 s4 s5 s6 s7 := by kernel_rfl
noncomputable def G {β : Type} (S : Sl) (a0 : Int) (a1 : (List Int)) (a2 : (List Int)) (a3 : (List Bool)) (K : (List (Int × (Int × (Int × Unit)))) → Option β) : Option β := bif ((S.le 0 8) && (S.le 8 8) && S.fw (Int.toNat 8)) then (impl_flagged.G S a3 (fun y1 => l3 S S.n (fun y2 => K y2) none a0 a1 a2 a3 (List.replicate (Int.toNat 8) ((0, (0, (0, ()))) : (Int × (Int × (Int × Unit))))) y1 (y1.length : Int) 0)) else (none)
noncomputable def o : Orac := ⟨96, sin, sout, fun s K => G sl0 s.2.1.1 s.2.1.2.1 s.2.1.2.2.1 s.2.1.2.2.2.1 (fun x0 => K ((x0, ()), ()))⟩
noncomputable def C : Ctx := ⟨tyT, [impl_RotSum.o, impl_flagged.o], [⟨3, 0, h3, x3, y3, fun s kx kr => r3 sl0 sl0.n kx kr s⟩], 43, 0⟩
theorem ctx : CtxOk Tryz.prog C := ⟨tyOk, all1 impl_RotSum.ok (all1 impl_flagged.ok (all0))⟩
theorem e3 (β : Type) (L : h3.sig.den → Option β) (kx : x3.sig.den → Option β) (kr : y3.sig.den → Option β) (s : h3.sig.den) : evalBody C (nthC (loopsOf (bodyC Tryz.f96)) 0) 0 h3 x3 y3 L kx kr s = b3 sl0 (fun x0 x1 x2 x3 x4 x5 x6 x7 => L (((x0, (x1, (x2, (x3, ())))), (x4, (x5, ()))), (x6, (x7, ())))) (fun x0 => kx ((x0, ()), ())) (kr ((), ())) s.1.1.1 s.1.1.2.1 s.1.1.2.2.1 s.1.1.2.2.2.1 s.1.2.1 s.1.2.2.1 s.2.1 s.2.2.1 := by kernel_rfl
theorem g3 : LS Tryz.prog C ⟨3, 0, h3, x3, y3, fun s kx kr => r3 sl0 sl0.n kx kr s⟩ (loopsOf (bodyC Tryz.f96)) := LS.at (i := 0) (by kernel_rfl) (loop_good mixed ctx (ctx_nat ctx) (N := sl0.n) (fun _ _ _ _ => rfl) e3 (all1 (LS.none (by kernel_rfl)) (all0)))
theorem eG (β : Type) (s : sin.den) (K : sout.den → Option β) : evalFn C Tryz.f96 sin sout s K = o.F s K := by kernel_rfl
theorem ok : OracOk Tryz.prog o := fn_ok mixed Tryz.func96 (by kernel_rfl) ctx (c := bodyC Tryz.f96) (by kernel_rfl) (all1 g3 (all0)) (by kernel_rfl) (by kernel_rfl) (by kernel_rfl) (Nat.le_of_ble_eq_true (by kernel_rfl)) eG (by kernel_rfl) (Nat.le_of_ble_eq_true (by kernel_rfl))
end impl_blocks
end Go.Proofs.YtechafkfchmggaaGreat.E
end
section
set_option linter.unusedVariables false
set_option linter.unusedSimpArgs false
namespace Go.Proofs.YtechafkfchmggaaGreat.E
open Go Go.RowKit
set_option linter.unusedVariables false
set_option maxRecDepth 100000
namespace impl_RotWrite
def sin : Sig := ⟨[], [.agg [.val I false, .val (.sl I) false, .val (.sl I) false, .val (.sl .bool) false]]⟩
def sout : Sig := ⟨[.buf (.pair I (.pair I (.pair I .unit))) false], [.one (.ref (.own 0))]⟩
noncomputable def G {β : Type} (S : Sl) (a0 : Int) (a1 : (List Int)) (a2 : (List Int)) (a3 : (List Bool)) (K : (List (Int × (Int × (Int × Unit)))) → Option β) : Option β := impl_StripeOk.G S a0 a1 a2 a3 (fun y1 => bif (!y1) then (K []) else (impl_blocks.G S a0 a1 a2 a3 (fun y2 => K y2)))
noncomputable def o : Orac := ⟨34, sin, sout, fun s K => G sl0 s.2.1.1 s.2.1.2.1 s.2.1.2.2.1 s.2.1.2.2.2.1 (fun x0 => K ((x0, ()), ()))⟩
noncomputable def C : Ctx := ⟨tyT, [impl_StripeOk.o, impl_blocks.o], [], 8, 0⟩
theorem ctx : CtxOk Tryz.prog C := ⟨tyOk, all1 impl_StripeOk.ok (all1 impl_blocks.ok (all0))⟩
theorem eG (β : Type) (s : sin.den) (K : sout.den → Option β) : evalFn C Tryz.f34 sin sout s K = o.F s K := by kernel_rfl
theorem ok : OracOk Tryz.prog o := fn_ok mixed Tryz.func34 (by kernel_rfl) ctx (c := bodyC Tryz.f34) (by kernel_rfl) (all0) (by kernel_rfl) (by kernel_rfl) (by kernel_rfl) (Nat.le_of_ble_eq_true (by kernel_rfl)) eG (by kernel_rfl) (Nat.le_of_ble_eq_true (by kernel_rfl))
end impl_RotWrite
end Go.Proofs.YtechafkfchmggaaGreat.E
end
section
set_option linter.unusedVariables false
set_option linter.unusedSimpArgs false
namespace Go.Proofs.YtechafkfchmggaaGreat.E
open Go Go.RowKit
set_option linter.unusedVariables false
set_option maxRecDepth 100000
namespace impl_Stripe_put
def sin : Sig := ⟨[.buf I false, .buf I false, .buf .bool false], [.agg [.val I false, .ref (.own 0), .ref (.own 1), .ref (.own 2)], .one (.val I false), .one (.val I false), .one (.val I false)]⟩
def sout : Sig := ⟨[.buf I false, .buf I false, .buf .bool false], []⟩
noncomputable def G {β : Type} (S : Sl) (a0 : (List Int)) (a1 : (List Int)) (a2 : (List Bool)) (a3 : Int) (a4 : Int) (a5 : Int) (a6 : Int) (K : (List Int) → (List Int) → (List Bool) → Option β) : Option β := bif (S.ir a4 a0.length) then (bif (S.ir a4 a1.length) then (bif (S.ir a4 a2.length) then (K (List.set a0 (Int.toNat a4) a5) (List.set a1 (Int.toNat a4) a6) (List.set a2 (Int.toNat a4) true)) else (none)) else (none)) else (none)
noncomputable def o : Orac := ⟨92, sin, sout, fun s K => G sl0 s.1.1 s.1.2.1 s.1.2.2.1 s.2.1.1 s.2.2.1 s.2.2.2.1 s.2.2.2.2.1 (fun x0 x1 x2 => K ((x0, (x1, (x2, ()))), ()))⟩
noncomputable def C : Ctx := ⟨tyT, [], [], 22, 3⟩
theorem ctx : CtxOk Tryz.prog C := ⟨tyOk, all0⟩
theorem eG (β : Type) (s : sin.den) (K : sout.den → Option β) : evalFn C Tryz.f92 sin sout s K = o.F s K := by kernel_rfl
theorem ok : OracOk Tryz.prog o := fn_ok mixed Tryz.func92 (by kernel_rfl) ctx (c := bodyC Tryz.f92) (by kernel_rfl) (all0) (by kernel_rfl) (by kernel_rfl) (by kernel_rfl) (Nat.le_of_ble_eq_true (by kernel_rfl)) eG (by kernel_rfl) (Nat.le_of_ble_eq_true (by kernel_rfl))
end impl_Stripe_put
end Go.Proofs.YtechafkfchmggaaGreat.E
end
section
set_option linter.unusedVariables false
set_option linter.unusedSimpArgs false
namespace Go.Proofs.YtechafkfchmggaaGreat.E
open Go Go.RowKit
set_option linter.unusedVariables false
set_option maxRecDepth 100000
namespace impl_StripeWrite
def sin : Sig := ⟨[], [.agg [.val I false, .val (.sl I) false, .val (.sl I) false, .val (.sl .bool) false], .one (.val (.sl I) false), .one (.val (.sl .bool) false)]⟩
def sout : Sig := ⟨[.buf I false, .buf I false, .buf .bool false], [.agg [.val I false, .ref (.own 0), .ref (.own 1), .ref (.own 2)], .one (.val .bool false)]⟩
def h9 : SS := ⟨[3, 6, 10, 11, 43, 44, 45], ⟨[.box [.val I false, .val (.sl I) false, .val (.sl I) false, .val (.sl .bool) false], .box [.val I false, .ref .e0, .ref .e0, .ref .e0], .box [.val I false, .ref (.own 5), .ref (.own 6), .ref (.own 7)], .buf I false, .buf I false, .buf I false, .buf I false, .buf .bool false], [.one (.ref (.ptr 0)), .one (.ref (.ptr 1)), .one (.ref (.ptr 2)), .one (.ref (.own 3)), .one (.ref (.own 4)), .one (.val I false), .one (.val I false)]⟩⟩
def x9 : SS := ⟨[6, 10], ⟨[.box [.val I false, .ref .e0, .ref .e0, .ref .e0], .box [.val I false, .ref (.own 2), .ref (.own 3), .ref (.own 4)], .buf I false, .buf I false, .buf .bool false], [.one (.ref (.ptr 0)), .one (.ref (.ptr 1))]⟩⟩
def y9 : SS := ⟨[], ⟨[], []⟩⟩
noncomputable def b9 {β : Type} (S : Sl) (L : Int → (List Int) → (List Int) → (List Bool) → Int → Int → (List Int) → (List Int) → (List Int) → (List Int) → (List Bool) → Int → Int → Option β) (kx : Int → Int → (List Int) → (List Int) → (List Bool) → Option β) (kr : Option β) (s0 : Int) (s1 : (List Int)) (s2 : (List Int)) (s3 : (List Bool)) (s4 : Int) (s5 : Int) (s6 : (List Int)) (s7 : (List Int)) (s8 : (List Int)) (s9 : (List Int)) (s10 : (List Bool)) (s11 : Int) (s12 : Int) : Option β := bif (S.lt s12 s11) then (bif (S.ir s12 s7.length) then (bif (S.ir (List.getD s7 (Int.toNat s12) 0) s6.length) then (impl_Stripe_top.G S s0 s1 s2 s3 (fun y1 => impl_Stripe_put.G S s8 s9 s10 s5 (List.getD s7 (Int.toNat s12) 0) (List.getD s6 (Int.toNat (List.getD s7 (Int.toNat s12) 0)) 0) (S.w (y1 + 1)) (fun y2 y3 y4 => L s0 s1 s2 s3 s4 s5 s6 s7 y2 y3 y4 s11 (S.w (s12 + 1))))) else (none)) else (none)) else (kx s4 s5 s8 s9 s10)
noncomputable def r9 {β : Type} (S : Sl) (n : Nat) (kx : x9.sig.den → Option β) (kr : y9.sig.den → Option β) (s : h9.sig.den) : Option β := rounds (fun L kx kr s => b9 S (fun x0 x1 x2 x3 x4 x5 x6 x7 x8 x9 x10 x11 x12 => L (((x0, (x1, (x2, (x3, ())))), ((x4, ()), ((x5, ()), (x6, (x7, (x8, (x9, (x10, ())))))))), (x11, (x12, ())))) (fun x0 x1 x2 x3 x4 => kx (((x0, ()), ((x1, ()), (x2, (x3, (x4, ()))))), ())) (kr ((), ())) s.1.1.1 s.1.1.2.1 s.1.1.2.2.1 s.1.1.2.2.2.1 s.1.2.1.1 s.1.2.2.1.1 s.1.2.2.2.1 s.1.2.2.2.2.1 s.1.2.2.2.2.2.1 s.1.2.2.2.2.2.2.1 s.1.2.2.2.2.2.2.2.1 s.2.1 s.2.2.1) kx kr n s
noncomputable def l9 {β : Type} (S : Sl) (n : Nat) (kx : Int → Int → (List Int) → (List Int) → (List Bool) → Option β) (kr : Option β) (s0 : Int) (s1 : (List Int)) (s2 : (List Int)) (s3 : (List Bool)) (s4 : Int) (s5 : Int) (s6 : (List Int)) (s7 : (List Int)) (s8 : (List Int)) (s9 : (List Int)) (s10 : (List Bool)) (s11 : Int) (s12 : Int) : Option β := r9 S n (fun s => kx s.1.1.1 s.1.2.1.1 s.1.2.2.1 s.1.2.2.2.1 s.1.2.2.2.2.1) (fun s => kr) (((s0, (s1, (s2, (s3, ())))), ((s4, ()), ((s5, ()), (s6, (s7, (s8, (s9, (s10, ())))))))), (s11, (s12, ())))
theorem t9 {β : Type} (S : Sl) (n : Nat) (kx : Int → Int → (List Int) → (List Int) → (List Bool) → Option β) (kr : Option β) (s0 : Int) (s1 : (List Int)) (s2 : (List Int)) (s3 : (List Bool)) (s4 : Int) (s5 : Int) (s6 : (List Int)) (s7 : (List Int)) (s8 : (List Int)) (s9 : (List Int)) (s10 : (List Bool)) (s11 : Int) (s12 : Int) : l9 S (n + 1) kx kr s0 s1 s2 s3 s4 s5 s6 s7 s8 s9 s10 s11 s12 = b9 S (l9 S n kx kr) kx kr s0 s1 s2 s3 s4 s5 s6 s7 s8 s9 s10 s11 s12 := by kernel_rfl
noncomputable def G {β : Type} (S : Sl) (a0 : Int) (a1 : (List Int)) (a2 : (List Int)) (a3 : (List Bool)) (a4 : (List Int)) (a5 : (List Bool)) (K : (List Int) → (List Int) → (List Bool) → Int → Bool → Option β) : Option β := impl_vectorOf.G S a4 (fun y1 y2 => bif (!y2) then (K [] [] [] 0 false) else (impl_StripeOk.G S a0 a1 a2 a3 (fun y3 => bif (!y3) then (K [] [] [] 0 false) else (bif (!S.eq (a5.length : Int) 8) then (K [] [] [] 0 false) else (impl_Stripe_copied.G S a0 a1 a2 a3 (fun y4 y5 y6 y7 => impl_Stripe_top.G S a0 a1 a2 a3 (fun y8 => bif (S.eq y8 99) then (K y4 y5 y6 y7 false) else (impl_encode.G S a0 y1 (fun y9 => impl_flagged.G S a5 (fun y10 => l9 S S.n (fun y11 y12 y13 y14 y15 => K y13 y14 y15 y12 true) none a0 a1 a2 a3 0 y7 y9 y10 y4 y5 y6 (y10.length : Int) 0))))))))))
noncomputable def o : Orac := ⟨25, sin, sout, fun s K => G sl0 s.2.1.1 s.2.1.2.1 s.2.1.2.2.1 s.2.1.2.2.2.1 s.2.2.1 s.2.2.2.1 (fun x0 x1 x2 x3 x4 => K ((x0, (x1, (x2, ()))), ((x3, ()), (x4, ()))))⟩
noncomputable def C : Ctx := ⟨tyT, [impl_StripeOk.o, impl_Stripe_copied.o, impl_Stripe_put.o, impl_Stripe_top.o, impl_encode.o, impl_flagged.o, impl_vectorOf.o], [⟨9, 0, h9, x9, y9, fun s kx kr => r9 sl0 sl0.n kx kr s⟩], 61, 0⟩
theorem ctx : CtxOk Tryz.prog C := ⟨tyOk, all1 impl_StripeOk.ok (all1 impl_Stripe_copied.ok (all1 impl_Stripe_put.ok (all1 impl_Stripe_top.ok (all1 impl_encode.ok (all1 impl_flagged.ok (all1 impl_vectorOf.ok (all0)))))))⟩
theorem e9 (β : Type) (L : h9.sig.den → Option β) (kx : x9.sig.den → Option β) (kr : y9.sig.den → Option β) (s : h9.sig.den) : evalBody C (nthC (loopsOf (bodyC Tryz.f25)) 0) 0 h9 x9 y9 L kx kr s = b9 sl0 (fun x0 x1 x2 x3 x4 x5 x6 x7 x8 x9 x10 x11 x12 => L (((x0, (x1, (x2, (x3, ())))), ((x4, ()), ((x5, ()), (x6, (x7, (x8, (x9, (x10, ())))))))), (x11, (x12, ())))) (fun x0 x1 x2 x3 x4 => kx (((x0, ()), ((x1, ()), (x2, (x3, (x4, ()))))), ())) (kr ((), ())) s.1.1.1 s.1.1.2.1 s.1.1.2.2.1 s.1.1.2.2.2.1 s.1.2.1.1 s.1.2.2.1.1 s.1.2.2.2.1 s.1.2.2.2.2.1 s.1.2.2.2.2.2.1 s.1.2.2.2.2.2.2.1 s.1.2.2.2.2.2.2.2.1 s.2.1 s.2.2.1 := by kernel_rfl
theorem g9 : LS Tryz.prog C ⟨9, 0, h9, x9, y9, fun s kx kr => r9 sl0 sl0.n kx kr s⟩ (loopsOf (bodyC Tryz.f25)) := LS.at (i := 0) (by kernel_rfl) (loop_good mixed ctx (ctx_nat ctx) (N := sl0.n) (fun _ _ _ _ => rfl) e9 (all1 (LS.none (by kernel_rfl)) (all0)))
theorem eG (β : Type) (s : sin.den) (K : sout.den → Option β) : evalFn C Tryz.f25 sin sout s K = o.F s K := by kernel_rfl
theorem ok : OracOk Tryz.prog o := fn_ok mixed Tryz.func25 (by kernel_rfl) ctx (c := bodyC Tryz.f25) (by kernel_rfl) (all1 g9 (all0)) (by kernel_rfl) (by kernel_rfl) (by kernel_rfl) (Nat.le_of_ble_eq_true (by kernel_rfl)) eG (by kernel_rfl) (Nat.le_of_ble_eq_true (by kernel_rfl))
end impl_StripeWrite
end Go.Proofs.YtechafkfchmggaaGreat.E
end
section
set_option linter.unusedVariables false
set_option linter.unusedSimpArgs false
namespace Go.Proofs.YtechafkfchmggaaGreat.E
open Go Go.RowKit
set_option linter.unusedVariables false
theorem mid_get {α : Type} (d x : α) (A B : List α) (i : Nat) (h : A.length = i) : List.getD (A ++ x :: B) (Int.toNat (i : Int)) d = x := by rw [Int.toNat_natCast]; subst h; simp
theorem mid_set {α : Type} (x y : α) (A B : List α) (i : Nat) (h : A.length = i) : List.set (A ++ x :: B) (Int.toNat (i : Int)) y = (A ++ [y]) ++ B := by rw [Int.toNat_natCast]; subst h; simp
theorem mid_len {α : Type} (x : α) (A B : List α) : (A ++ x :: B).length = A.length + 1 + B.length := by simp; omega
end Go.Proofs.YtechafkfchmggaaGreat.E
end
section
set_option linter.unusedVariables false
set_option linter.unusedSimpArgs false
namespace Go.Proofs.YtechafkfchmggaaGreat.E
open Go Go.RowKit
set_option linter.unusedVariables false
set_option maxRecDepth 100000
namespace laws_markBoolS_
def sin : Sig := ⟨[.buf .bool false], [.one (.ref (.own 0)), .one (.val I false)]⟩
def sout : Sig := ⟨[.buf .bool false], [.one (.val I false)]⟩
def h2 : SS := ⟨[0, 1, 5], ⟨[.buf .bool false], [.one (.ref (.own 0)), .one (.val I false), .one (.val I false)]⟩⟩
def x2 : SS := ⟨[1], ⟨[.buf .bool false], [.one (.val I false)]⟩⟩
def y2 : SS := ⟨[], ⟨[], []⟩⟩
noncomputable def b2 {β : Type} (S : Sl) (L : (List Bool) → Int → Int → Option β) (kx : (List Bool) → Int → Option β) (kr : Option β) (s0 : (List Bool)) (s1 : Int) (s2 : Int) : Option β := bif (S.lt s2 (s0.length : Int)) then (bif (S.ir s2 s0.length) then (L (List.set s0 (Int.toNat s2) (S.eq (Int.tmod s1 3) 0)) (S.w (s1 + 1)) (S.w (s2 + 1))) else (none)) else (kx s0 s1)
noncomputable def r2 {β : Type} (S : Sl) (n : Nat) (kx : x2.sig.den → Option β) (kr : y2.sig.den → Option β) (s : h2.sig.den) : Option β := rounds (fun L kx kr s => b2 S (fun x0 x1 x2 => L ((x0, ()), (x1, (x2, ())))) (fun x0 x1 => kx ((x0, ()), (x1, ()))) (kr ((), ())) s.1.1 s.2.1 s.2.2.1) kx kr n s
noncomputable def l2 {β : Type} (S : Sl) (n : Nat) (kx : (List Bool) → Int → Option β) (kr : Option β) (s0 : (List Bool)) (s1 : Int) (s2 : Int) : Option β := r2 S n (fun s => kx s.1.1 s.2.1) (fun s => kr) ((s0, ()), (s1, (s2, ())))
theorem t2 {β : Type} (S : Sl) (n : Nat) (kx : (List Bool) → Int → Option β) (kr : Option β) (s0 : (List Bool)) (s1 : Int) (s2 : Int) : l2 S (n + 1) kx kr s0 s1 s2 = b2 S (l2 S n kx kr) kx kr s0 s1 s2 := by kernel_rfl
noncomputable def G {β : Type} (S : Sl) (a0 : (List Bool)) (a1 : Int) (K : (List Bool) → Int → Option β) : Option β := l2 S S.n (fun y1 y2 => K y1 y2) none a0 a1 0
noncomputable def o : Orac := ⟨31, sin, sout, fun s K => G sl0 s.1.1 s.2.1 (fun x0 x1 => K ((x0, ()), (x1, ())))⟩
noncomputable def C : Ctx := ⟨tyT, [], [⟨2, 0, h2, x2, y2, fun s kx kr => r2 sl0 sl0.n kx kr s⟩], 21, 1⟩
theorem ctx : CtxOk Tryz.prog C := ⟨tyOk, all0⟩
theorem e2 (β : Type) (L : h2.sig.den → Option β) (kx : x2.sig.den → Option β) (kr : y2.sig.den → Option β) (s : h2.sig.den) : evalBody C (nthC (loopsOf (bodyC Tryz.f31)) 0) 0 h2 x2 y2 L kx kr s = b2 sl0 (fun x0 x1 x2 => L ((x0, ()), (x1, (x2, ())))) (fun x0 x1 => kx ((x0, ()), (x1, ()))) (kr ((), ())) s.1.1 s.2.1 s.2.2.1 := by kernel_rfl
theorem g2 : LS Tryz.prog C ⟨2, 0, h2, x2, y2, fun s kx kr => r2 sl0 sl0.n kx kr s⟩ (loopsOf (bodyC Tryz.f31)) := LS.at (i := 0) (by kernel_rfl) (loop_good mixed ctx (ctx_nat ctx) (N := sl0.n) (fun _ _ _ _ => rfl) e2 (all1 (LS.none (by kernel_rfl)) (all0)))
theorem eG (β : Type) (s : sin.den) (K : sout.den → Option β) : evalFn C Tryz.f31 sin sout s K = o.F s K := by kernel_rfl
theorem ok : OracOk Tryz.prog o := fn_ok mixed Tryz.func31 (by kernel_rfl) ctx (c := bodyC Tryz.f31) (by kernel_rfl) (all1 g2 (all0)) (by kernel_rfl) (by kernel_rfl) (by kernel_rfl) (Nat.le_of_ble_eq_true (by kernel_rfl)) eG (by kernel_rfl) (Nat.le_of_ble_eq_true (by kernel_rfl))
end laws_markBoolS_
end Go.Proofs.YtechafkfchmggaaGreat.E
end
section
set_option linter.unusedVariables false
set_option linter.unusedSimpArgs false
namespace Go.Proofs.YtechafkfchmggaaGreat.E
open Go Go.RowKit
set_option linter.unusedVariables false
set_option maxRecDepth 100000
namespace laws_markIntS_
def sin : Sig := ⟨[.buf I false], [.one (.ref (.own 0)), .one (.val I false)]⟩
def sout : Sig := ⟨[.buf I false], [.one (.val I false)]⟩
def h2 : SS := ⟨[0, 1, 5], ⟨[.buf I false], [.one (.ref (.own 0)), .one (.val I false), .one (.val I false)]⟩⟩
def x2 : SS := ⟨[1], ⟨[.buf I false], [.one (.val I false)]⟩⟩
def y2 : SS := ⟨[], ⟨[], []⟩⟩
noncomputable def b2 {β : Type} (S : Sl) (L : (List Int) → Int → Int → Option β) (kx : (List Int) → Int → Option β) (kr : Option β) (s0 : (List Int)) (s1 : Int) (s2 : Int) : Option β := bif (S.lt s2 (s0.length : Int)) then (bif (S.ir s2 s0.length) then (L (List.set s0 (Int.toNat s2) s1) (S.w (s1 + 1)) (S.w (s2 + 1))) else (none)) else (kx s0 s1)
noncomputable def r2 {β : Type} (S : Sl) (n : Nat) (kx : x2.sig.den → Option β) (kr : y2.sig.den → Option β) (s : h2.sig.den) : Option β := rounds (fun L kx kr s => b2 S (fun x0 x1 x2 => L ((x0, ()), (x1, (x2, ())))) (fun x0 x1 => kx ((x0, ()), (x1, ()))) (kr ((), ())) s.1.1 s.2.1 s.2.2.1) kx kr n s
noncomputable def l2 {β : Type} (S : Sl) (n : Nat) (kx : (List Int) → Int → Option β) (kr : Option β) (s0 : (List Int)) (s1 : Int) (s2 : Int) : Option β := r2 S n (fun s => kx s.1.1 s.2.1) (fun s => kr) ((s0, ()), (s1, (s2, ())))
theorem t2 {β : Type} (S : Sl) (n : Nat) (kx : (List Int) → Int → Option β) (kr : Option β) (s0 : (List Int)) (s1 : Int) (s2 : Int) : l2 S (n + 1) kx kr s0 s1 s2 = b2 S (l2 S n kx kr) kx kr s0 s1 s2 := by kernel_rfl
noncomputable def G {β : Type} (S : Sl) (a0 : (List Int)) (a1 : Int) (K : (List Int) → Int → Option β) : Option β := l2 S S.n (fun y1 y2 => K y1 y2) none a0 a1 0
noncomputable def o : Orac := ⟨30, sin, sout, fun s K => G sl0 s.1.1 s.2.1 (fun x0 x1 => K ((x0, ()), (x1, ())))⟩
noncomputable def C : Ctx := ⟨tyT, [], [⟨2, 0, h2, x2, y2, fun s kx kr => r2 sl0 sl0.n kx kr s⟩], 19, 1⟩
theorem ctx : CtxOk Tryz.prog C := ⟨tyOk, all0⟩
theorem e2 (β : Type) (L : h2.sig.den → Option β) (kx : x2.sig.den → Option β) (kr : y2.sig.den → Option β) (s : h2.sig.den) : evalBody C (nthC (loopsOf (bodyC Tryz.f30)) 0) 0 h2 x2 y2 L kx kr s = b2 sl0 (fun x0 x1 x2 => L ((x0, ()), (x1, (x2, ())))) (fun x0 x1 => kx ((x0, ()), (x1, ()))) (kr ((), ())) s.1.1 s.2.1 s.2.2.1 := by kernel_rfl
theorem g2 : LS Tryz.prog C ⟨2, 0, h2, x2, y2, fun s kx kr => r2 sl0 sl0.n kx kr s⟩ (loopsOf (bodyC Tryz.f30)) := LS.at (i := 0) (by kernel_rfl) (loop_good mixed ctx (ctx_nat ctx) (N := sl0.n) (fun _ _ _ _ => rfl) e2 (all1 (LS.none (by kernel_rfl)) (all0)))
theorem eG (β : Type) (s : sin.den) (K : sout.den → Option β) : evalFn C Tryz.f30 sin sout s K = o.F s K := by kernel_rfl
theorem ok : OracOk Tryz.prog o := fn_ok mixed Tryz.func30 (by kernel_rfl) ctx (c := bodyC Tryz.f30) (by kernel_rfl) (all1 g2 (all0)) (by kernel_rfl) (by kernel_rfl) (by kernel_rfl) (Nat.le_of_ble_eq_true (by kernel_rfl)) eG (by kernel_rfl) (Nat.le_of_ble_eq_true (by kernel_rfl))
end laws_markIntS_
end Go.Proofs.YtechafkfchmggaaGreat.E
end
section
set_option linter.unusedVariables false
set_option linter.unusedSimpArgs false
namespace Go.Proofs.YtechafkfchmggaaGreat.E
open Go Go.RowKit
set_option linter.unusedVariables false
set_option maxRecDepth 100000
namespace laws_markStripe_
def sin : Sig := ⟨[.buf I false, .buf I false, .buf .bool false], [.agg [.val I false, .ref (.own 0), .ref (.own 1), .ref (.own 2)], .one (.val I false)]⟩
def sout : Sig := ⟨[.buf I false, .buf I false, .buf .bool false], [.one (.val I false)]⟩
noncomputable def G {β : Type} (S : Sl) (a0 : (List Int)) (a1 : (List Int)) (a2 : (List Bool)) (a3 : Int) (a4 : Int) (K : (List Int) → (List Int) → (List Bool) → Int → Option β) : Option β := laws_markIntS_.G S a0 a4 (fun y1 y2 => laws_markIntS_.G S a1 y2 (fun y3 y4 => laws_markBoolS_.G S a2 y4 (fun y5 y6 => K y1 y3 y5 y6)))
noncomputable def o : Orac := ⟨29, sin, sout, fun s K => G sl0 s.1.1 s.1.2.1 s.1.2.2.1 s.2.1.1 s.2.2.1 (fun x0 x1 x2 x3 => K ((x0, (x1, (x2, ()))), (x3, ())))⟩
noncomputable def C : Ctx := ⟨tyT, [laws_markBoolS_.o, laws_markIntS_.o], [], 18, 3⟩
theorem ctx : CtxOk Tryz.prog C := ⟨tyOk, all1 laws_markBoolS_.ok (all1 laws_markIntS_.ok (all0))⟩
theorem eG (β : Type) (s : sin.den) (K : sout.den → Option β) : evalFn C Tryz.f29 sin sout s K = o.F s K := by kernel_rfl
theorem ok : OracOk Tryz.prog o := fn_ok mixed Tryz.func29 (by kernel_rfl) ctx (c := bodyC Tryz.f29) (by kernel_rfl) (all0) (by kernel_rfl) (by kernel_rfl) (by kernel_rfl) (Nat.le_of_ble_eq_true (by kernel_rfl)) eG (by kernel_rfl) (Nat.le_of_ble_eq_true (by kernel_rfl))
end laws_markStripe_
end Go.Proofs.YtechafkfchmggaaGreat.E
end
section
set_option linter.unusedVariables false
set_option linter.unusedSimpArgs false
namespace Go.Proofs.YtechafkfchmggaaGreat.E
open Go Go.RowKit
set_option linter.unusedVariables false
set_option maxRecDepth 100000
namespace laws_heldBoolS
def sin : Sig := ⟨[], [.one (.val (.sl .bool) false), .one (.val I false)]⟩
def sout : Sig := ⟨[], [.one (.val I false)]⟩
def h2 : SS := ⟨[0, 1, 5], ⟨[], [.one (.val (.sl .bool) false), .one (.val I false), .one (.val I false)]⟩⟩
def x2 : SS := ⟨[1], ⟨[], [.one (.val I false)]⟩⟩
def y2 : SS := ⟨[4], ⟨[], [.one (.val I false)]⟩⟩
noncomputable def b2 {β : Type} (S : Sl) (L : (List Bool) → Int → Int → Option β) (kx : Int → Option β) (kr : Int → Option β) (s0 : (List Bool)) (s1 : Int) (s2 : Int) : Option β := bif (S.lt s2 (s0.length : Int)) then (bif (S.ir s2 s0.length) then (bif ((List.getD s0 (Int.toNat s2) false) != (S.eq (Int.tmod s1 3) 0)) then (kr (-1)) else (L s0 (S.w (s1 + 1)) (S.w (s2 + 1)))) else (none)) else (kx s1)
noncomputable def r2 {β : Type} (S : Sl) (n : Nat) (kx : x2.sig.den → Option β) (kr : y2.sig.den → Option β) (s : h2.sig.den) : Option β := rounds (fun L kx kr s => b2 S (fun x0 x1 x2 => L ((), (x0, (x1, (x2, ()))))) (fun x0 => kx ((), (x0, ()))) (fun x0 => kr ((), (x0, ()))) s.2.1 s.2.2.1 s.2.2.2.1) kx kr n s
noncomputable def l2 {β : Type} (S : Sl) (n : Nat) (kx : Int → Option β) (kr : Int → Option β) (s0 : (List Bool)) (s1 : Int) (s2 : Int) : Option β := r2 S n (fun s => kx s.2.1) (fun s => kr s.2.1) ((), (s0, (s1, (s2, ()))))
theorem t2 {β : Type} (S : Sl) (n : Nat) (kx : Int → Option β) (kr : Int → Option β) (s0 : (List Bool)) (s1 : Int) (s2 : Int) : l2 S (n + 1) kx kr s0 s1 s2 = b2 S (l2 S n kx kr) kx kr s0 s1 s2 := by kernel_rfl
noncomputable def G {β : Type} (S : Sl) (a0 : (List Bool)) (a1 : Int) (K : Int → Option β) : Option β := l2 S S.n (fun y1 => K y1) (fun y2 => K y2) a0 a1 0
noncomputable def o : Orac := ⟨93, sin, sout, fun s K => G sl0 s.2.1 s.2.2.1 (fun x0 => K ((), (x0, ())))⟩
noncomputable def C : Ctx := ⟨tyT, [], [⟨2, 0, h2, x2, y2, fun s kx kr => r2 sl0 sl0.n kx kr s⟩], 23, 0⟩
theorem ctx : CtxOk Tryz.prog C := ⟨tyOk, all0⟩
theorem e2 (β : Type) (L : h2.sig.den → Option β) (kx : x2.sig.den → Option β) (kr : y2.sig.den → Option β) (s : h2.sig.den) : evalBody C (nthC (loopsOf (bodyC Tryz.f93)) 0) 0 h2 x2 y2 L kx kr s = b2 sl0 (fun x0 x1 x2 => L ((), (x0, (x1, (x2, ()))))) (fun x0 => kx ((), (x0, ()))) (fun x0 => kr ((), (x0, ()))) s.2.1 s.2.2.1 s.2.2.2.1 := by kernel_rfl
theorem g2 : LS Tryz.prog C ⟨2, 0, h2, x2, y2, fun s kx kr => r2 sl0 sl0.n kx kr s⟩ (loopsOf (bodyC Tryz.f93)) := LS.at (i := 0) (by kernel_rfl) (loop_good mixed ctx (ctx_nat ctx) (N := sl0.n) (fun _ _ _ _ => rfl) e2 (all1 (LS.none (by kernel_rfl)) (all0)))
theorem eG (β : Type) (s : sin.den) (K : sout.den → Option β) : evalFn C Tryz.f93 sin sout s K = o.F s K := by kernel_rfl
theorem ok : OracOk Tryz.prog o := fn_ok mixed Tryz.func93 (by kernel_rfl) ctx (c := bodyC Tryz.f93) (by kernel_rfl) (all1 g2 (all0)) (by kernel_rfl) (by kernel_rfl) (by kernel_rfl) (Nat.le_of_ble_eq_true (by kernel_rfl)) eG (by kernel_rfl) (Nat.le_of_ble_eq_true (by kernel_rfl))
end laws_heldBoolS
end Go.Proofs.YtechafkfchmggaaGreat.E
end
section
set_option linter.unusedVariables false
set_option linter.unusedSimpArgs false
namespace Go.Proofs.YtechafkfchmggaaGreat.E
open Go Go.RowKit
set_option linter.unusedVariables false
set_option maxRecDepth 100000
namespace laws_heldIntS
def sin : Sig := ⟨[], [.one (.val (.sl I) false), .one (.val I false)]⟩
def sout : Sig := ⟨[], [.one (.val I false)]⟩
def h2 : SS := ⟨[0, 1, 5], ⟨[], [.one (.val (.sl I) false), .one (.val I false), .one (.val I false)]⟩⟩
def x2 : SS := ⟨[1], ⟨[], [.one (.val I false)]⟩⟩
def y2 : SS := ⟨[4], ⟨[], [.one (.val I false)]⟩⟩
noncomputable def b2 {β : Type} (S : Sl) (L : (List Int) → Int → Int → Option β) (kx : Int → Option β) (kr : Int → Option β) (s0 : (List Int)) (s1 : Int) (s2 : Int) : Option β := bif (S.lt s2 (s0.length : Int)) then (bif (S.ir s2 s0.length) then (bif (!S.eq (List.getD s0 (Int.toNat s2) 0) s1) then (kr (-1)) else (L s0 (S.w (s1 + 1)) (S.w (s2 + 1)))) else (none)) else (kx s1)
noncomputable def r2 {β : Type} (S : Sl) (n : Nat) (kx : x2.sig.den → Option β) (kr : y2.sig.den → Option β) (s : h2.sig.den) : Option β := rounds (fun L kx kr s => b2 S (fun x0 x1 x2 => L ((), (x0, (x1, (x2, ()))))) (fun x0 => kx ((), (x0, ()))) (fun x0 => kr ((), (x0, ()))) s.2.1 s.2.2.1 s.2.2.2.1) kx kr n s
noncomputable def l2 {β : Type} (S : Sl) (n : Nat) (kx : Int → Option β) (kr : Int → Option β) (s0 : (List Int)) (s1 : Int) (s2 : Int) : Option β := r2 S n (fun s => kx s.2.1) (fun s => kr s.2.1) ((), (s0, (s1, (s2, ()))))
theorem t2 {β : Type} (S : Sl) (n : Nat) (kx : Int → Option β) (kr : Int → Option β) (s0 : (List Int)) (s1 : Int) (s2 : Int) : l2 S (n + 1) kx kr s0 s1 s2 = b2 S (l2 S n kx kr) kx kr s0 s1 s2 := by kernel_rfl
noncomputable def G {β : Type} (S : Sl) (a0 : (List Int)) (a1 : Int) (K : Int → Option β) : Option β := l2 S S.n (fun y1 => K y1) (fun y2 => K y2) a0 a1 0
noncomputable def o : Orac := ⟨78, sin, sout, fun s K => G sl0 s.2.1 s.2.2.1 (fun x0 => K ((), (x0, ())))⟩
noncomputable def C : Ctx := ⟨tyT, [], [⟨2, 0, h2, x2, y2, fun s kx kr => r2 sl0 sl0.n kx kr s⟩], 21, 0⟩
theorem ctx : CtxOk Tryz.prog C := ⟨tyOk, all0⟩
theorem e2 (β : Type) (L : h2.sig.den → Option β) (kx : x2.sig.den → Option β) (kr : y2.sig.den → Option β) (s : h2.sig.den) : evalBody C (nthC (loopsOf (bodyC Tryz.f78)) 0) 0 h2 x2 y2 L kx kr s = b2 sl0 (fun x0 x1 x2 => L ((), (x0, (x1, (x2, ()))))) (fun x0 => kx ((), (x0, ()))) (fun x0 => kr ((), (x0, ()))) s.2.1 s.2.2.1 s.2.2.2.1 := by kernel_rfl
theorem g2 : LS Tryz.prog C ⟨2, 0, h2, x2, y2, fun s kx kr => r2 sl0 sl0.n kx kr s⟩ (loopsOf (bodyC Tryz.f78)) := LS.at (i := 0) (by kernel_rfl) (loop_good mixed ctx (ctx_nat ctx) (N := sl0.n) (fun _ _ _ _ => rfl) e2 (all1 (LS.none (by kernel_rfl)) (all0)))
theorem eG (β : Type) (s : sin.den) (K : sout.den → Option β) : evalFn C Tryz.f78 sin sout s K = o.F s K := by kernel_rfl
theorem ok : OracOk Tryz.prog o := fn_ok mixed Tryz.func78 (by kernel_rfl) ctx (c := bodyC Tryz.f78) (by kernel_rfl) (all1 g2 (all0)) (by kernel_rfl) (by kernel_rfl) (by kernel_rfl) (Nat.le_of_ble_eq_true (by kernel_rfl)) eG (by kernel_rfl) (Nat.le_of_ble_eq_true (by kernel_rfl))
end laws_heldIntS
end Go.Proofs.YtechafkfchmggaaGreat.E
end
section
set_option linter.unusedVariables false
set_option linter.unusedSimpArgs false
namespace Go.Proofs.YtechafkfchmggaaGreat.E
open Go Go.RowKit
set_option linter.unusedVariables false
set_option maxRecDepth 100000
namespace laws_heldStripe
def sin : Sig := ⟨[], [.agg [.val I false, .val (.sl I) false, .val (.sl I) false, .val (.sl .bool) false], .one (.val I false)]⟩
def sout : Sig := ⟨[], [.one (.val I false)]⟩
noncomputable def G {β : Type} (S : Sl) (a0 : Int) (a1 : (List Int)) (a2 : (List Int)) (a3 : (List Bool)) (a4 : Int) (K : Int → Option β) : Option β := laws_heldIntS.G S a1 a4 (fun y1 => bif (S.lt y1 0) then (K (-1)) else (laws_heldIntS.G S a2 y1 (fun y2 => bif (S.lt y2 0) then (K (-1)) else (laws_heldBoolS.G S a3 y2 (fun y3 => bif (S.lt y3 0) then (K (-1)) else (K y3))))))
noncomputable def o : Orac := ⟨32, sin, sout, fun s K => G sl0 s.2.1.1 s.2.1.2.1 s.2.1.2.2.1 s.2.1.2.2.2.1 s.2.2.1 (fun x0 => K ((), (x0, ())))⟩
noncomputable def C : Ctx := ⟨tyT, [laws_heldBoolS.o, laws_heldIntS.o], [], 24, 0⟩
theorem ctx : CtxOk Tryz.prog C := ⟨tyOk, all1 laws_heldBoolS.ok (all1 laws_heldIntS.ok (all0))⟩
theorem eG (β : Type) (s : sin.den) (K : sout.den → Option β) : evalFn C Tryz.f32 sin sout s K = o.F s K := by kernel_rfl
theorem ok : OracOk Tryz.prog o := fn_ok mixed Tryz.func32 (by kernel_rfl) ctx (c := bodyC Tryz.f32) (by kernel_rfl) (all0) (by kernel_rfl) (by kernel_rfl) (by kernel_rfl) (Nat.le_of_ble_eq_true (by kernel_rfl)) eG (by kernel_rfl) (Nat.le_of_ble_eq_true (by kernel_rfl))
end laws_heldStripe
end Go.Proofs.YtechafkfchmggaaGreat.E
end
section
set_option linter.unusedVariables false
set_option linter.unusedSimpArgs false
namespace Go.Proofs.YtechafkfchmggaaGreat.E
open Go Go.RowKit
set_option linter.unusedVariables false
set_option maxRecDepth 100000
theorem szInt_G {β : Type} {l : List Int} {k : Int} (h0 : 0 ≤ k) (h1 : k ≤ 1048576) (hl : l.length ≤ 9223372036854775807) (K : Int → Option β) : laws_szIntS.G sl1 l k K = K (if k < (l.length : Int) then -1 else k - (l.length : Int)) := by
  unfold laws_szIntS.G
  rw [wE (by omega) (by omega)]
  by_cases c : k < (l.length : Int)
  · rw [if_pos c]; exact cT (ltT (by omega)) rfl
  · rw [if_neg c]; exact cF (ltF (by omega)) rfl
theorem szBool_G {β : Type} {l : List Bool} {k : Int} (h0 : 0 ≤ k) (h1 : k ≤ 1048576) (hl : l.length ≤ 9223372036854775807) (K : Int → Option β) : laws_szBoolS.G sl1 l k K = K (if k < (l.length : Int) then -1 else k - (l.length : Int)) := by
  unfold laws_szBoolS.G
  rw [wE (by omega) (by omega)]
  by_cases c : k < (l.length : Int)
  · rw [if_pos c]; exact cT (ltT (by omega)) rfl
  · rw [if_neg c]; exact cF (ltF (by omega)) rfl
theorem szStripe_B (kind : Int) {vals vers : List Int} {there : List Bool} (h1 : vals.length ≤ 9223372036854775807) (h2 : vers.length ≤ 9223372036854775807) (h3 : there.length ≤ 9223372036854775807) :
    ∃ y : Int, (∀ (β : Type) (K : Int → Option β), laws_szStripe.G sl1 kind vals vers there 1048576 K = K y) ∧ (y < 0 ∨ (0 ≤ y ∧ y ≤ 1048576) ∧ vals.length ≤ 1048576 ∧ vers.length ≤ 1048576 ∧ there.length ≤ 1048576) := by
  by_cases c1 : (1048576 : Int) < (vals.length : Int)
  · refine ⟨-1, fun β K => ?_, .inl (by omega)⟩
    unfold laws_szStripe.G
    refine (szInt_G (by omega) (by omega) h1 _).trans ?_
    rw [if_pos c1]; exact cT rfl rfl
  by_cases c2 : (1048576 : Int) - (vals.length : Int) < (vers.length : Int)
  · refine ⟨-1, fun β K => ?_, .inl (by omega)⟩
    unfold laws_szStripe.G
    refine (szInt_G (by omega) (by omega) h1 _).trans ?_
    rw [if_neg c1]
    refine cF (ltF (by omega)) ((szInt_G (by omega) (by omega) h2 _).trans ?_)
    rw [if_pos c2]; exact cT rfl rfl
  by_cases c3 : (1048576 : Int) - (vals.length : Int) - (vers.length : Int) < (there.length : Int)
  · refine ⟨-1, fun β K => ?_, .inl (by omega)⟩
    unfold laws_szStripe.G
    refine (szInt_G (by omega) (by omega) h1 _).trans ?_
    rw [if_neg c1]
    refine cF (ltF (by omega)) ((szInt_G (by omega) (by omega) h2 _).trans ?_)
    rw [if_neg c2]
    refine cF (ltF (by omega)) ((szBool_G (by omega) (by omega) h3 _).trans ?_)
    rw [if_pos c3]; exact cT rfl rfl
  · refine ⟨1048576 - (vals.length : Int) - (vers.length : Int) - (there.length : Int), fun β K => ?_, .inr ⟨⟨by omega, by omega⟩, by omega, by omega, by omega⟩⟩
    unfold laws_szStripe.G
    refine (szInt_G (by omega) (by omega) h1 _).trans ?_
    rw [if_neg c1]
    refine cF (ltF (by omega)) ((szInt_G (by omega) (by omega) h2 _).trans ?_)
    rw [if_neg c2]
    refine cF (ltF (by omega)) ((szBool_G (by omega) (by omega) h3 _).trans ?_)
    rw [if_neg c3]; exact cF (ltF (by omega)) rfl
theorem szStripe_or (kind : Int) {vals vers : List Int} {there : List Bool} (h1 : vals.length ≤ 9223372036854775807) (h2 : vers.length ≤ 9223372036854775807) (h3 : there.length ≤ 9223372036854775807) :
    ∃ y : Int, (∀ (β : Type) (K : Int → Option β), laws_szStripe.G sl1 kind vals vers there 1048576 K = K y) ∧ (y < 0 ∨ 0 ≤ y ∧ vals.length ≤ 1048576 ∧ vers.length ≤ 1048576 ∧ there.length ≤ 1048576) := by
  obtain ⟨y, h, k⟩ := szStripe_B kind h1 h2 h3
  exact ⟨y, h, k.imp id fun ⟨a, b⟩ => ⟨a.1, b⟩⟩
theorem toInt_l {β : Type} (kx : List Int → Option β) (kr : Option β) (l : List Int) (hl : l.length ≤ 1048576) (d : Nat) : ∀ (i n : Nat), i + d = l.length → d < n → laws_toIntS.l3 sl1 n kx kr (l.take i ++ List.replicate d 0) l (i : Int) = kx l := by
  induction d with
  | zero =>
    intro i n hi hn
    obtain ⟨n, rfl⟩ : ∃ m, n = m + 1 := ⟨n - 1, by omega⟩
    rw [laws_toIntS.t3, List.replicate_zero, List.append_nil, List.take_of_length_le (by omega)]; exact cF (ltF (by omega)) rfl
  | succ d ih =>
    intro i n hi hn
    obtain ⟨n, rfl⟩ : ∃ m, n = m + 1 := ⟨n - 1, by omega⟩
    have h1 : i < l.length := by omega
    have e := ih (i + 1) n (by omega) (by omega)
    have ht : (l.take i).length = i := by rw [List.length_take]; omega
    rw [List.take_succ_eq_append_getElem h1] at e
    rw [laws_toIntS.t3, List.replicate_succ]
    unfold laws_toIntS.b3
    rw [getN l i h1, mid_set _ _ _ _ _ ht, w_succ (by omega)]
    exact cT (ltT (by omega)) (cT (irT (by omega) (by omega)) (cT (irT (by omega) (by rw [mid_len, ht]; omega)) e))
theorem toInt_G {β : Type} {l : List Int} (hl : l.length ≤ 1048576) (K : List Int → Option β) : laws_toIntS.G sl1 l K = K l := by
  unfold laws_toIntS.G
  rw [Int.toNat_natCast]
  exact cT (andT (andT (leT (by omega)) (leT (by omega))) (fwT (by omega))) (toInt_l K none l hl l.length 0 sl1.n (by omega) (by rw [rounds_n]; omega))
theorem toBool_l {β : Type} (kx : List Bool → Option β) (kr : Option β) (l : List Bool) (hl : l.length ≤ 1048576) (d : Nat) : ∀ (i n : Nat), i + d = l.length → d < n → laws_toBoolS.l3 sl1 n kx kr (l.take i ++ List.replicate d false) l (i : Int) = kx l := by
  induction d with
  | zero =>
    intro i n hi hn
    obtain ⟨n, rfl⟩ : ∃ m, n = m + 1 := ⟨n - 1, by omega⟩
    rw [laws_toBoolS.t3, List.replicate_zero, List.append_nil, List.take_of_length_le (by omega)]; exact cF (ltF (by omega)) rfl
  | succ d ih =>
    intro i n hi hn
    obtain ⟨n, rfl⟩ : ∃ m, n = m + 1 := ⟨n - 1, by omega⟩
    have h1 : i < l.length := by omega
    have e := ih (i + 1) n (by omega) (by omega)
    have ht : (l.take i).length = i := by rw [List.length_take]; omega
    rw [List.take_succ_eq_append_getElem h1] at e
    rw [laws_toBoolS.t3, List.replicate_succ]
    unfold laws_toBoolS.b3
    rw [getN l i h1, mid_set _ _ _ _ _ ht, w_succ (by omega)]
    exact cT (ltT (by omega)) (cT (irT (by omega) (by omega)) (cT (irT (by omega) (by rw [mid_len, ht]; omega)) e))
theorem toBool_G {β : Type} {l : List Bool} (hl : l.length ≤ 1048576) (K : List Bool → Option β) : laws_toBoolS.G sl1 l K = K l := by
  unfold laws_toBoolS.G
  rw [Int.toNat_natCast]
  exact cT (andT (andT (leT (by omega)) (leT (by omega))) (fwT (by omega))) (toBool_l K none l hl l.length 0 sl1.n (by omega) (by rw [rounds_n]; omega))
theorem toStripe_G {β : Type} (kind : Int) {vals vers : List Int} {there : List Bool} (h1 : vals.length ≤ 1048576) (h2 : vers.length ≤ 1048576) (h3 : there.length ≤ 1048576) (K : List Int → List Int → List Bool → Int → Option β) : laws_toStripe.G sl1 kind vals vers there K = K vals vers there kind :=
  (toInt_G h1 _).trans ((toInt_G h2 _).trans (toBool_G h3 _))
theorem eqInt_l {β : Type} (kx : Option β) (kr : Bool → Option β) (l : List Int) (hl : l.length ≤ 1048576) (d : Nat) : ∀ (i n : Nat), i + d = l.length → d < n → laws_eqIntS.l4 sl1 n kx kr l l (i : Int) = kx := by
  induction d with
  | zero =>
    intro i n hi hn
    obtain ⟨n, rfl⟩ : ∃ m, n = m + 1 := ⟨n - 1, by omega⟩
    rw [laws_eqIntS.t4]; exact cF (ltF (by omega)) rfl
  | succ d ih =>
    intro i n hi hn
    obtain ⟨n, rfl⟩ : ∃ m, n = m + 1 := ⟨n - 1, by omega⟩
    rw [laws_eqIntS.t4]
    unfold laws_eqIntS.b4
    rw [w_succ (by omega)]
    exact cT (ltT (by omega)) (cT (irT (by omega) (by omega)) (cT (irT (by omega) (by omega)) (cF (neF rfl) (ih (i + 1) n (by omega) (by omega)))))
theorem eqInt_G {β : Type} {l : List Int} (hl : l.length ≤ 1048576) (K : Bool → Option β) : laws_eqIntS.G sl1 l l K = K true := by
  unfold laws_eqIntS.G
  exact cF (neF rfl) (eqInt_l _ _ l hl l.length 0 sl1.n (by omega) (by rw [rounds_n]; omega))
theorem eqBool_l {β : Type} (kx : Option β) (kr : Bool → Option β) (l : List Bool) (hl : l.length ≤ 1048576) (d : Nat) : ∀ (i n : Nat), i + d = l.length → d < n → laws_eqBoolS.l4 sl1 n kx kr l l (i : Int) = kx := by
  induction d with
  | zero =>
    intro i n hi hn
    obtain ⟨n, rfl⟩ : ∃ m, n = m + 1 := ⟨n - 1, by omega⟩
    rw [laws_eqBoolS.t4]; exact cF (ltF (by omega)) rfl
  | succ d ih =>
    intro i n hi hn
    obtain ⟨n, rfl⟩ : ∃ m, n = m + 1 := ⟨n - 1, by omega⟩
    rw [laws_eqBoolS.t4]
    unfold laws_eqBoolS.b4
    rw [w_succ (by omega)]
    exact cT (ltT (by omega)) (cT (irT (by omega) (by omega)) (cT (irT (by omega) (by omega)) (cF (bne_self_eq_false _) (ih (i + 1) n (by omega) (by omega)))))
theorem eqBool_G {β : Type} {l : List Bool} (hl : l.length ≤ 1048576) (K : Bool → Option β) : laws_eqBoolS.G sl1 l l K = K true := by
  unfold laws_eqBoolS.G
  exact cF (neF rfl) (eqBool_l _ _ l hl l.length 0 sl1.n (by omega) (by rw [rounds_n]; omega))
theorem eqStripe_G {β : Type} (kind : Int) {vals vers : List Int} {there : List Bool} (h1 : vals.length ≤ 1048576) (h2 : vers.length ≤ 1048576) (h3 : there.length ≤ 1048576) (K : Bool → Option β) : laws_eqStripe.G sl1 kind vals vers there kind vals vers there K = K true := by
  unfold laws_eqStripe.G
  exact cF (neF rfl) ((eqInt_G h1 _).trans (cF rfl ((eqInt_G h2 _).trans (cF rfl ((eqBool_G h3 _).trans (cF rfl rfl))))))
def cnt : Int → Nat → List Int
  | _, 0 => []
  | k, n + 1 => k :: cnt (k + 1) n
def cntB : Int → Nat → List Bool
  | _, 0 => []
  | k, n + 1 => sl1.eq (Int.tmod k 3) 0 :: cntB (k + 1) n
theorem cnt_len : ∀ (n : Nat) (k : Int), (cnt k n).length = n
  | 0, _ => rfl
  | n + 1, k => by rw [cnt, List.length_cons, cnt_len n]
theorem cntB_len : ∀ (n : Nat) (k : Int), (cntB k n).length = n
  | 0, _ => rfl
  | n + 1, k => by rw [cntB, List.length_cons, cntB_len n]
theorem markInt_l {β : Type} (kx : List Int → Int → Option β) (kr : Option β) (m : Nat) (hm : m ≤ 1048576) : ∀ (B A : List Int) (k : Int) (n : Nat), A.length + B.length = m → B.length < n → 0 ≤ k → k + (B.length : Int) ≤ 1000000000 →
    laws_markIntS_.l2 sl1 n kx kr (A ++ B) k (A.length : Int) = kx (A ++ cnt k B.length) (k + (B.length : Int))
  | [], A, k, n, hl, hn, h0, h1 => by
    obtain ⟨n, rfl⟩ : ∃ m, n = m + 1 := ⟨n - 1, by omega⟩
    rw [laws_markIntS_.t2, List.append_nil]
    refine cF (ltF (Int.le_refl _)) ?_
    show kx A k = _
    rw [show cnt k ([] : List Int).length = [] from rfl, List.append_nil, show k + (([] : List Int).length : Int) = k by simp]
  | x :: B, A, k, n, hl, hn, h0, h1 => by
    rw [List.length_cons] at hl hn h1
    obtain ⟨n, rfl⟩ : ∃ m, n = m + 1 := ⟨n - 1, by omega⟩
    have e := markInt_l kx kr m hm B (A ++ [k]) (k + 1) n (by simp; omega) (by omega) (by omega) (by omega)
    rw [List.length_append, List.length_singleton] at e
    rw [laws_markIntS_.t2]
    unfold laws_markIntS_.b2
    rw [mid_set _ _ _ _ _ rfl, w_succ (by omega), wE (by omega) (by omega)]
    refine cT (ltT (by rw [mid_len]; omega)) (cT (irT (by omega) (by rw [mid_len]; omega)) (e.trans ?_))
    rw [List.length_cons, cnt, List.append_assoc, show k + ((B.length + 1 : Nat) : Int) = k + 1 + (B.length : Int) by omega]; rfl
theorem markInt_G {β : Type} {l : List Int} (hl : l.length ≤ 1048576) {k : Int} (h0 : 0 ≤ k) (h1 : k ≤ 100000000) (K : List Int → Int → Option β) : laws_markIntS_.G sl1 l k K = K (cnt k l.length) (k + (l.length : Int)) :=
  markInt_l K none l.length hl l [] k sl1.n (by simp) (by rw [rounds_n]; omega) h0 (by omega)
theorem markBool_l {β : Type} (kx : List Bool → Int → Option β) (kr : Option β) (m : Nat) (hm : m ≤ 1048576) : ∀ (B A : List Bool) (k : Int) (n : Nat), A.length + B.length = m → B.length < n → 0 ≤ k → k + (B.length : Int) ≤ 1000000000 →
    laws_markBoolS_.l2 sl1 n kx kr (A ++ B) k (A.length : Int) = kx (A ++ cntB k B.length) (k + (B.length : Int))
  | [], A, k, n, hl, hn, h0, h1 => by
    obtain ⟨n, rfl⟩ : ∃ m, n = m + 1 := ⟨n - 1, by omega⟩
    rw [laws_markBoolS_.t2, List.append_nil]
    refine cF (ltF (Int.le_refl _)) ?_
    show kx A k = _
    rw [show cntB k ([] : List Bool).length = [] from rfl, List.append_nil, show k + (([] : List Bool).length : Int) = k by simp]
  | x :: B, A, k, n, hl, hn, h0, h1 => by
    rw [List.length_cons] at hl hn h1
    obtain ⟨n, rfl⟩ : ∃ m, n = m + 1 := ⟨n - 1, by omega⟩
    have e := markBool_l kx kr m hm B (A ++ [sl1.eq (Int.tmod k 3) 0]) (k + 1) n (by simp; omega) (by omega) (by omega) (by omega)
    rw [List.length_append, List.length_singleton] at e
    rw [laws_markBoolS_.t2]
    unfold laws_markBoolS_.b2
    rw [mid_set _ _ _ _ _ rfl, w_succ (by omega), wE (by omega) (by omega)]
    refine cT (ltT (by rw [mid_len]; omega)) (cT (irT (by omega) (by rw [mid_len]; omega)) (e.trans ?_))
    rw [List.length_cons, cntB, List.append_assoc, show k + ((B.length + 1 : Nat) : Int) = k + 1 + (B.length : Int) by omega]; rfl
theorem markBool_G {β : Type} {l : List Bool} (hl : l.length ≤ 1048576) {k : Int} (h0 : 0 ≤ k) (h1 : k ≤ 100000000) (K : List Bool → Int → Option β) : laws_markBoolS_.G sl1 l k K = K (cntB k l.length) (k + (l.length : Int)) :=
  markBool_l K none l.length hl l [] k sl1.n (by simp) (by rw [rounds_n]; omega) h0 (by omega)
theorem heldInt_l {β : Type} (kx : Int → Option β) (kr : Int → Option β) (m : Nat) (hm : m ≤ 1048576) (d : Nat) : ∀ (A : List Int) (k : Int) (n : Nat), A.length + d = m → d < n → 0 ≤ k → k + (d : Int) ≤ 1000000000 →
    laws_heldIntS.l2 sl1 n kx kr (A ++ cnt k d) k (A.length : Int) = kx (k + (d : Int)) := by
  induction d with
  | zero =>
    intro A k n hl hn h0 h1
    obtain ⟨n, rfl⟩ : ∃ m, n = m + 1 := ⟨n - 1, by omega⟩
    rw [laws_heldIntS.t2, show cnt k 0 = [] from rfl, List.append_nil]
    refine cF (ltF (Int.le_refl _)) ?_
    rw [show k + ((0 : Nat) : Int) = k by omega]
  | succ d ih =>
    intro A k n hl hn h0 h1
    obtain ⟨n, rfl⟩ : ∃ m, n = m + 1 := ⟨n - 1, by omega⟩
    have e := ih (A ++ [k]) (k + 1) n (by simp; omega) (by omega) (by omega) (by omega)
    rw [List.length_append, List.length_singleton, List.append_assoc] at e
    rw [laws_heldIntS.t2, cnt]
    unfold laws_heldIntS.b2
    rw [mid_get _ _ _ _ _ rfl, w_succ (by omega), wE (by omega) (by omega)]
    refine cT (ltT (by rw [mid_len]; omega)) (cT (irT (by omega) (by rw [mid_len]; omega)) (cF (neF rfl) (e.trans ?_)))
    rw [show k + ((d + 1 : Nat) : Int) = k + 1 + (d : Int) by omega]
theorem heldInt_G {β : Type} {m : Nat} (hl : m ≤ 1048576) {k : Int} (h0 : 0 ≤ k) (h1 : k ≤ 100000000) (K : Int → Option β) : laws_heldIntS.G sl1 (cnt k m) k K = K (k + (m : Int)) :=
  heldInt_l K (fun y => K y) m hl m [] k sl1.n (by simp) (by rw [rounds_n]; omega) h0 (by omega)
theorem heldBool_l {β : Type} (kx : Int → Option β) (kr : Int → Option β) (m : Nat) (hm : m ≤ 1048576) (d : Nat) : ∀ (A : List Bool) (k : Int) (n : Nat), A.length + d = m → d < n → 0 ≤ k → k + (d : Int) ≤ 1000000000 →
    laws_heldBoolS.l2 sl1 n kx kr (A ++ cntB k d) k (A.length : Int) = kx (k + (d : Int)) := by
  induction d with
  | zero =>
    intro A k n hl hn h0 h1
    obtain ⟨n, rfl⟩ : ∃ m, n = m + 1 := ⟨n - 1, by omega⟩
    rw [laws_heldBoolS.t2, show cntB k 0 = [] from rfl, List.append_nil]
    refine cF (ltF (Int.le_refl _)) ?_
    rw [show k + ((0 : Nat) : Int) = k by omega]
  | succ d ih =>
    intro A k n hl hn h0 h1
    obtain ⟨n, rfl⟩ : ∃ m, n = m + 1 := ⟨n - 1, by omega⟩
    have e := ih (A ++ [sl1.eq (Int.tmod k 3) 0]) (k + 1) n (by simp; omega) (by omega) (by omega) (by omega)
    rw [List.length_append, List.length_singleton, List.append_assoc] at e
    rw [laws_heldBoolS.t2, cntB]
    unfold laws_heldBoolS.b2
    rw [mid_get _ _ _ _ _ rfl, w_succ (by omega), wE (a := k + 1) (by omega) (by omega)]
    refine cT (ltT (by rw [mid_len]; omega)) (cT (irT (by omega) (by rw [mid_len]; omega)) (cF (bne_self_eq_false _) (e.trans ?_)))
    rw [show k + ((d + 1 : Nat) : Int) = k + 1 + (d : Int) by omega]
theorem heldBool_G {β : Type} {m : Nat} (hl : m ≤ 1048576) {k : Int} (h0 : 0 ≤ k) (h1 : k ≤ 100000000) (K : Int → Option β) : laws_heldBoolS.G sl1 (cntB k m) k K = K (k + (m : Int)) :=
  heldBool_l K (fun y => K y) m hl m [] k sl1.n (by simp) (by rw [rounds_n]; omega) h0 (by omega)
theorem markStripe_B (kind : Int) {vals vers : List Int} {there : List Bool} (h1 : vals.length ≤ 1048576) (h2 : vers.length ≤ 1048576) (h3 : there.length ≤ 1048576) : ∃ (a b : List Int) (c : List Bool) (k : Int), (0 ≤ k ∧ k ≤ 10000000) ∧ (∀ (β : Type) (K : List Int → List Int → List Bool → Int → Option β), laws_markStripe_.G sl1 vals vers there kind 1 K = K a b c k) ∧
    ∀ (β : Type) (K : Int → Option β), laws_heldStripe.G sl1 kind a b c 1 K = K k := by
  refine ⟨cnt 1 vals.length, cnt (1 + (vals.length : Int)) vers.length, cntB (1 + (vals.length : Int) + (vers.length : Int)) there.length, 1 + (vals.length : Int) + (vers.length : Int) + (there.length : Int), ⟨by omega, by omega⟩, fun β K => ?_, fun β K => ?_⟩
  · exact (markInt_G h1 (by omega) (by omega) _).trans ((markInt_G h2 (by omega) (by omega) _).trans (markBool_G h3 (by omega) (by omega) _))
  · exact (heldInt_G h1 (by omega) (by omega) _).trans (cF (ltF (by omega)) ((heldInt_G h2 (by omega) (by omega) _).trans (cF (ltF (by omega)) ((heldBool_G h3 (by omega) (by omega) _).trans (cF (ltF (by omega)) rfl)))))
theorem markStripe_E (kind : Int) {vals vers : List Int} {there : List Bool} (h1 : vals.length ≤ 1048576) (h2 : vers.length ≤ 1048576) (h3 : there.length ≤ 1048576) : ∃ (a b : List Int) (c : List Bool) (k : Int), 0 ≤ k ∧ (∀ (β : Type) (K : List Int → List Int → List Bool → Int → Option β), laws_markStripe_.G sl1 vals vers there kind 1 K = K a b c k) ∧
    ∀ (β : Type) (K : Int → Option β), laws_heldStripe.G sl1 kind a b c 1 K = K k := by
  obtain ⟨a, b, c, k, hk, h⟩ := markStripe_B kind h1 h2 h3
  exact ⟨a, b, c, k, hk.1, h⟩
end Go.Proofs.YtechafkfchmggaaGreat.E
end
section
set_option linter.unusedVariables false
set_option linter.unusedSimpArgs false
namespace Go.Proofs.YtechafkfchmggaaGreat.E
open Go Go.RowKit
set_option linter.unusedVariables false
set_option maxRecDepth 100000
theorem szKeep_or (kind : Int) {vals vers : List Int} {there : List Bool} (on : Bool) (kd : Int) {data : List Int} (kv : Int) (h1 : vals.length ≤ 9223372036854775807) (h2 : vers.length ≤ 9223372036854775807) (h3 : there.length ≤ 9223372036854775807) (h4 : data.length ≤ 9223372036854775807) :
    ∃ y : Int, (∀ (β : Type) (K : Int → Option β), laws_szKeep.G sl1 kind vals vers there on kd data kv 1048576 K = K y) ∧ (y < 0 ∨ 0 ≤ y ∧ vals.length ≤ 1048576 ∧ vers.length ≤ 1048576 ∧ there.length ≤ 1048576 ∧ data.length ≤ 1048576) := by
  obtain ⟨y, hy, h⟩ := szStripe_B kind h1 h2 h3
  rcases h with h | ⟨⟨h0, h8⟩, l1, l2, l3⟩
  · exact ⟨-1, fun β K => (hy _ _).trans (cT (ltT h) rfl), .inl (by omega)⟩
  · by_cases c : y < (data.length : Int)
    · refine ⟨-1, fun β K => (hy _ _).trans (cF (ltF h0) ((szInt_G h0 h8 h4 _).trans ?_)), .inl (by omega)⟩
      rw [if_pos c]; exact cT rfl rfl
    · refine ⟨y - (data.length : Int), fun β K => (hy _ _).trans (cF (ltF h0) ((szInt_G h0 h8 h4 _).trans ?_)), .inr ⟨by omega, l1, l2, l3, by omega⟩⟩
      rw [if_neg c]; exact cF (ltF (by omega)) rfl
theorem toKeep_G {β : Type} (kind : Int) {vals vers : List Int} {there : List Bool} (on : Bool) (kd : Int) {data : List Int} (kv : Int) (h1 : vals.length ≤ 1048576) (h2 : vers.length ≤ 1048576) (h3 : there.length ≤ 1048576) (h4 : data.length ≤ 1048576) (K : List Int → List Int → List Bool → List Int → Int → Bool → Int → Int → Option β) :
    laws_toKeep.G sl1 kind vals vers there on kd data kv K = K vals vers there data kind on kd kv := (toStripe_G kind h1 h2 h3 _).trans (toInt_G h4 _)
theorem eqKeep_G {β : Type} (kind : Int) {vals vers : List Int} {there : List Bool} (on : Bool) (kd : Int) {data : List Int} (kv : Int) (h1 : vals.length ≤ 1048576) (h2 : vers.length ≤ 1048576) (h3 : there.length ≤ 1048576) (h4 : data.length ≤ 1048576) (K : Bool → Option β) :
    laws_eqKeep.G sl1 kind vals vers there on kd data kv kind vals vers there on kd data kv K = K true := by
  unfold laws_eqKeep.G
  exact (eqStripe_G _ h1 h2 h3 _).trans (cF rfl (cF (bne_self_eq_false _) (cF (neF rfl) ((eqInt_G h4 _).trans (cF rfl (cF (neF rfl) rfl))))))
end Go.Proofs.YtechafkfchmggaaGreat.E
end
section
set_option linter.unusedVariables false
set_option linter.unusedSimpArgs false
namespace Go.Proofs.YtechafkfchmggaaGreat.Head
theorem strip (r : List (List Char)) : stripLifts liftWords ("cut".toList :: r) = ([], "cut".toList :: r) := by
  unfold liftWords
  repeat (rw [stripLifts, if_neg (by decide +kernel)])
  rw [stripLifts]
theorem words_of {ws : List (List Char)} (h : ws.head? = some "cut".toList) : ∃ r, ws = "cut".toList :: r := by
  cases ws with
  | nil => cases h
  | cons c r => exact ⟨r, by rw [Option.some.inj h]⟩
theorem lifts_of (P : Program) (l : List Char) (hl : P.initOrder.toList = l) (h : (behindMainWord (wordsSigns l)).head? = some "cut".toList) : P.headLifts = [] := by
  obtain ⟨r, hr⟩ := words_of h
  unfold Program.headLifts
  rw [hl, hr, strip]
  dsimp only
  split <;> rfl
theorem e1 : ("cut".toList == "gc".toList) = false := by decide +kernel
theorem e2 : ("cut".toList == "spec".toList) = false := by decide +kernel
theorem e3 : ("cut".toList == "carried".toList) = false := by decide +kernel
theorem e4 : (some "cut".toList == some "carried".toList) = false := by decide +kernel
theorem make_of (P : Program) (l : List Char) (hl : P.initOrder.toList = l) (h : (behindMainWord (wordsSigns l)).head? = some "cut".toList) : P.make = some .cut := by
  obtain ⟨r, hr⟩ := words_of h
  unfold Program.make
  rw [hl, hr]
  dsimp only
  rw [e1, e2]
  simp
theorem final_of (P : Program) (l : List Char) (hl : P.initOrder.toList = l) (h : (behindMainWord (wordsSigns l)).head? = some "cut".toList) : P.liftsFinal = false := by
  obtain ⟨r, hr⟩ := words_of h
  unfold Program.liftsFinal
  rw [hl, hr, lifts_of P l hl h]
  dsimp only [List.head?_cons]
  rw [e4]
  rfl
theorem enter_of (P : Program) (l : List Char) (hl : P.initOrder.toList = l) (h : (behindMainWord (wordsSigns l)).head? = some "cut".toList) (later : P.laysLater = false) (reflect : P.bearsReflect = false) (door : P.doorFits [] = true) : P.mayEnter = true := by
  obtain ⟨r, hr⟩ := words_of h
  unfold Program.mayEnter
  rw [hl, hr]
  dsimp only
  rw [strip]
  dsimp only
  rw [later, reflect, door, e1, e2, e3]
  simp
def signs : List Char := List.map Char.ofNat [104, 97, 114, 110, 101, 115, 115, 32, 97, 48, 51, 51, 50, 53, 52, 55, 101, 102, 49, 55, 102, 52, 51, 50, 99, 51, 54, 52, 101, 57, 55, 56, 99, 99, 51, 51, 51, 51, 97, 98, 53, 51, 50, 54, 49, 56, 49, 55, 101, 51, 100, 55, 50, 53, 101, 100, 99, 97, 100, 55, 97, 99, 100, 54, 48, 54, 99, 102, 54, 51, 48, 97, 32, 99, 117, 116, 32, 97, 116, 32, 108, 111, 111, 112, 46, 101, 120, 97, 109, 112, 108, 101, 47, 107, 101, 101, 108, 115, 111, 110, 47, 108, 97, 119, 115, 46, 70, 110, 69, 120, 97, 99, 116, 83, 116, 114, 105, 112, 101, 87, 114, 105, 116, 101, 32, 108, 111, 111, 112, 46, 101, 120, 97, 109, 112, 108, 101, 47, 107, 101, 101, 108, 115, 111, 110, 47, 108, 97, 119, 115, 46, 70, 110, 82, 111, 116, 87, 114, 105, 116, 101, 32, 108, 111, 111, 112, 46, 101, 120, 97, 109, 112, 108, 101, 47, 107, 101, 101, 108, 115, 111, 110, 47, 108, 97, 119, 115, 46, 70, 110, 82, 111, 116, 82, 101, 97, 100, 32, 108, 111, 111, 112, 46, 101, 120, 97, 109, 112, 108, 101, 47, 107, 101, 101, 108, 115, 111, 110, 47, 108, 97, 119, 115, 46, 70, 110, 82, 111, 116, 79, 110, 101, 32, 108, 111, 111, 112, 46, 101, 120, 97, 109, 112, 108, 101, 47, 107, 101, 101, 108, 115, 111, 110, 47, 108, 97, 119, 115, 46, 70, 110, 83, 116, 114, 105, 112, 101, 70, 111, 114, 109, 32, 108, 111, 111, 112, 46, 101, 120, 97, 109, 112, 108, 101, 47, 107, 101, 101, 108, 115, 111, 110, 47, 108, 97, 119, 115, 46, 70, 110, 87, 114, 105, 116, 101, 32, 108, 111, 111, 112, 46, 101, 120, 97, 109, 112, 108, 101, 47, 107, 101, 101, 108, 115, 111, 110, 47, 108, 97, 119, 115, 46, 70, 110, 76, 111, 115, 101, 32, 108, 111, 111, 112, 46, 101, 120, 97, 109, 112, 108, 101, 47, 107, 101, 101, 108, 115, 111, 110, 47, 108, 97, 119, 115, 46, 70, 110, 87, 114, 105, 116, 101, 82, 101, 97, 100, 32, 108, 111, 111, 112, 46, 101, 120, 97, 109, 112, 108, 101, 47, 107, 101, 101, 108, 115, 111, 110, 47, 108, 97, 119, 115, 46, 70, 110, 87, 114, 105, 116, 101, 84, 119, 111, 32, 108, 111, 111, 112, 46, 101, 120, 97, 109, 112, 108, 101, 47, 107, 101, 101, 108, 115, 111, 110, 47, 108, 97, 119, 115, 46, 70, 110, 69, 120, 97, 99, 116, 80, 97, 116, 99, 104, 68, 111, 32, 108, 111, 111, 112, 46, 101, 120, 97, 109, 112, 108, 101, 47, 107, 101, 101, 108, 115, 111, 110, 47, 108, 97, 119, 115, 46, 70, 110, 80, 97, 116, 99, 104, 68, 111, 32, 108, 111, 111, 112, 46, 101, 120, 97, 109, 112, 108, 101, 47, 107, 101, 101, 108, 115, 111, 110, 47, 108, 97, 119, 115, 46, 70, 110, 80, 97, 116, 99, 104, 72, 97, 108, 102, 32, 108, 111, 111, 112, 46, 101, 120, 97, 109, 112, 108, 101, 47, 107, 101, 101, 108, 115, 111, 110, 47, 108, 97, 119, 115, 46, 70, 110, 69, 120, 97, 99, 116, 75, 101, 101, 112, 79, 107, 32, 108, 111, 111, 112, 46, 101, 120, 97, 109, 112, 108, 101, 47, 107, 101, 101, 108, 115, 111, 110, 47, 108, 97, 119, 115, 46, 70, 110, 69, 120, 97, 99, 116, 84, 117, 114, 110, 76, 101, 102, 116, 32, 108, 111, 111, 112, 46, 101, 120, 97, 109, 112, 108, 101, 47, 107, 101, 101, 108, 115, 111, 110, 47, 108, 97, 119, 115, 46, 70, 110, 69, 120, 97, 99, 116, 75, 101, 101, 112, 66, 101, 103, 105, 110, 32, 108, 111, 111, 112, 46, 101, 120, 97, 109, 112, 108, 101, 47, 107, 101, 101, 108, 115, 111, 110, 47, 108, 97, 119, 115, 46, 70, 110, 69, 120, 97, 99, 116, 75, 101, 101, 112, 82, 101, 97, 100, 32, 108, 111, 111, 112, 46, 101, 120, 97, 109, 112, 108, 101, 47, 107, 101, 101, 108, 115, 111, 110, 47, 108, 97, 119, 115, 46, 70, 110, 69, 120, 97, 99, 116, 75, 101, 101, 112, 76, 111, 115, 101]
theorem order : Tryz.prog.initOrder = String.ofList signs := by kernel_rfl
theorem toL : Tryz.prog.initOrder.toList = signs := by rw [order]; exact String.toList_ofList
theorem words : (behindMainWord (wordsSigns signs)).head? = some "cut".toList := by kernel_rfl
theorem make : Tryz.prog.make = some .cut := make_of _ _ toL words
theorem final : Tryz.prog.liftsFinal = false := final_of _ _ toL words
theorem enter : Tryz.prog.mayEnter = true := enter_of _ _ toL words (by as_aux_lemma => kernel_rfl) (by as_aux_lemma => kernel_rfl) (by as_aux_lemma => kernel_rfl)
end Go.Proofs.YtechafkfchmggaaGreat.Head
end
section
set_option linter.unusedVariables false
set_option linter.unusedSimpArgs false
namespace Go.Proofs.YtechafkfchmggaaGreat.E
open Go Go.RowKit
set_option linter.unusedVariables false
set_option maxRecDepth 100000
namespace laws_markKeep_
def sin : Sig := ⟨[.buf I false, .buf I false, .buf .bool false, .buf I false], [.agg [.val I false, .ref (.own 0), .ref (.own 1), .ref (.own 2), .val .bool false, .val I false, .ref (.own 3), .val I false], .one (.val I false)]⟩
def sout : Sig := ⟨[.buf I false, .buf I false, .buf .bool false, .buf I false], [.one (.val I false)]⟩
noncomputable def G {β : Type} (S : Sl) (a0 : (List Int)) (a1 : (List Int)) (a2 : (List Bool)) (a3 : (List Int)) (a4 : Int) (a5 : Bool) (a6 : Int) (a7 : Int) (a8 : Int) (K : (List Int) → (List Int) → (List Bool) → (List Int) → Int → Option β) : Option β := laws_markStripe_.G S a0 a1 a2 a4 a8 (fun y1 y2 y3 y4 => laws_markIntS_.G S a3 y4 (fun y5 y6 => K y1 y2 y3 y5 y6))
noncomputable def o : Orac := ⟨74, sin, sout, fun s K => G sl0 s.1.1 s.1.2.1 s.1.2.2.1 s.1.2.2.2.1 s.2.1.1 s.2.1.2.1 s.2.1.2.2.1 s.2.1.2.2.2.1 s.2.2.1 (fun x0 x1 x2 x3 x4 => K ((x0, (x1, (x2, (x3, ())))), (x4, ())))⟩
noncomputable def C : Ctx := ⟨tyT, [laws_markIntS_.o, laws_markStripe_.o], [], 14, 4⟩
theorem ctx : CtxOk Tryz.prog C := ⟨tyOk, all1 laws_markIntS_.ok (all1 laws_markStripe_.ok (all0))⟩
theorem eG (β : Type) (s : sin.den) (K : sout.den → Option β) : evalFn C Tryz.f74 sin sout s K = o.F s K := by kernel_rfl
theorem ok : OracOk Tryz.prog o := fn_ok mixed Tryz.func74 (by kernel_rfl) ctx (c := bodyC Tryz.f74) (by kernel_rfl) (all0) (by kernel_rfl) (by kernel_rfl) (by kernel_rfl) (Nat.le_of_ble_eq_true (by kernel_rfl)) eG (by kernel_rfl) (Nat.le_of_ble_eq_true (by kernel_rfl))
end laws_markKeep_
end Go.Proofs.YtechafkfchmggaaGreat.E
end
section
set_option linter.unusedVariables false
set_option linter.unusedSimpArgs false
namespace Go.Proofs.YtechafkfchmggaaGreat.E
open Go Go.RowKit
set_option linter.unusedVariables false
set_option maxRecDepth 100000
namespace impl_Keep_copied
def sin : Sig := ⟨[], [.agg [.val I false, .val (.sl I) false, .val (.sl I) false, .val (.sl .bool) false, .val .bool false, .val I false, .val (.sl I) false, .val I false]]⟩
def sout : Sig := ⟨[.buf I false, .buf I false, .buf .bool false, .buf I false], [.agg [.val I false, .ref (.own 0), .ref (.own 1), .ref (.own 2), .val .bool false, .val I false, .ref (.own 3), .val I false]]⟩
noncomputable def G {β : Type} (S : Sl) (a0 : Int) (a1 : (List Int)) (a2 : (List Int)) (a3 : (List Bool)) (a4 : Bool) (a5 : Int) (a6 : (List Int)) (a7 : Int) (K : (List Int) → (List Int) → (List Bool) → (List Int) → Int → Bool → Int → Int → Option β) : Option β := impl_Stripe_copied.G S a0 a1 a2 a3 (fun y1 y2 y3 y4 => slices_Clone_Sint_int.G S a6 (fun y5 => slices_Clip_Sint_int_.G S y5 (fun y6 => K y1 y2 y3 y6 y4 a4 a5 a7)))
noncomputable def o : Orac := ⟨143, sin, sout, fun s K => G sl0 s.2.1.1 s.2.1.2.1 s.2.1.2.2.1 s.2.1.2.2.2.1 s.2.1.2.2.2.2.1 s.2.1.2.2.2.2.2.1 s.2.1.2.2.2.2.2.2.1 s.2.1.2.2.2.2.2.2.2.1 (fun x0 x1 x2 x3 x4 x5 x6 x7 => K ((x0, (x1, (x2, (x3, ())))), ((x4, (x5, (x6, (x7, ())))), ())))⟩
noncomputable def C : Ctx := ⟨tyT, [impl_Stripe_copied.o, slices_Clip_Sint_int_.o, slices_Clone_Sint_int.o], [], 13, 0⟩
theorem ctx : CtxOk Tryz.prog C := ⟨tyOk, all1 impl_Stripe_copied.ok (all1 slices_Clip_Sint_int_.ok (all1 slices_Clone_Sint_int.ok (all0)))⟩
theorem eG (β : Type) (s : sin.den) (K : sout.den → Option β) : evalFn C Tryz.f143 sin sout s K = o.F s K := by kernel_rfl
theorem ok : OracOk Tryz.prog o := fn_ok mixed Tryz.func143 (by kernel_rfl) ctx (c := bodyC Tryz.f143) (by kernel_rfl) (all0) (by kernel_rfl) (by kernel_rfl) (by kernel_rfl) (Nat.le_of_ble_eq_true (by kernel_rfl)) eG (by kernel_rfl) (Nat.le_of_ble_eq_true (by kernel_rfl))
end impl_Keep_copied
end Go.Proofs.YtechafkfchmggaaGreat.E
end
section
set_option linter.unusedVariables false
set_option linter.unusedSimpArgs false
namespace Go.Proofs.YtechafkfchmggaaGreat.E
open Go Go.RowKit
set_option linter.unusedVariables false
set_option maxRecDepth 100000
namespace spec_l23Copy
def sin : Sig := ⟨[], [.agg [.val I false, .val (.sl I) false, .val (.sl I) false, .val (.sl .bool) false, .val .bool false, .val I false, .val (.sl I) false, .val I false]]⟩
def sout : Sig := ⟨[.buf I false, .buf I false, .buf .bool false, .buf I false], [.agg [.val I false, .ref (.own 0), .ref (.own 1), .ref (.own 2), .val .bool false, .val I false, .ref (.own 3), .val I false]]⟩
noncomputable def G {β : Type} (S : Sl) (a0 : Int) (a1 : (List Int)) (a2 : (List Int)) (a3 : (List Bool)) (a4 : Bool) (a5 : Int) (a6 : (List Int)) (a7 : Int) (K : (List Int) → (List Int) → (List Bool) → (List Int) → Int → Bool → Int → Int → Option β) : Option β := spec_l21Copy.G S a0 a1 a2 a3 (fun y1 y2 y3 y4 => bif (S.fw ([] ++ a6).length) then (K y1 y2 y3 ([] ++ a6) y4 a4 a5 a7) else (none))
noncomputable def o : Orac := ⟨141, sin, sout, fun s K => G sl0 s.2.1.1 s.2.1.2.1 s.2.1.2.2.1 s.2.1.2.2.2.1 s.2.1.2.2.2.2.1 s.2.1.2.2.2.2.2.1 s.2.1.2.2.2.2.2.2.1 s.2.1.2.2.2.2.2.2.2.1 (fun x0 x1 x2 x3 x4 x5 x6 x7 => K ((x0, (x1, (x2, (x3, ())))), ((x4, (x5, (x6, (x7, ())))), ())))⟩
noncomputable def C : Ctx := ⟨tyT, [spec_l21Copy.o], [], 13, 0⟩
theorem ctx : CtxOk Tryz.prog C := ⟨tyOk, all1 spec_l21Copy.ok (all0)⟩
theorem eG (β : Type) (s : sin.den) (K : sout.den → Option β) : evalFn C Tryz.f141 sin sout s K = o.F s K := by kernel_rfl
theorem ok : OracOk Tryz.prog o := fn_ok mixed Tryz.func141 (by kernel_rfl) ctx (c := bodyC Tryz.f141) (by kernel_rfl) (all0) (by kernel_rfl) (by kernel_rfl) (by kernel_rfl) (Nat.le_of_ble_eq_true (by kernel_rfl)) eG (by kernel_rfl) (Nat.le_of_ble_eq_true (by kernel_rfl))
end spec_l23Copy
end Go.Proofs.YtechafkfchmggaaGreat.E
end
section
set_option linter.unusedVariables false
set_option linter.unusedSimpArgs false
namespace Go.Proofs.YtechafkfchmggaaGreat.E
open Go Go.RowKit
set_option linter.unusedVariables false
set_option maxRecDepth 100000
namespace laws_heldKeep
def sin : Sig := ⟨[], [.agg [.val I false, .val (.sl I) false, .val (.sl I) false, .val (.sl .bool) false, .val .bool false, .val I false, .val (.sl I) false, .val I false], .one (.val I false)]⟩
def sout : Sig := ⟨[], [.one (.val I false)]⟩
noncomputable def G {β : Type} (S : Sl) (a0 : Int) (a1 : (List Int)) (a2 : (List Int)) (a3 : (List Bool)) (a4 : Bool) (a5 : Int) (a6 : (List Int)) (a7 : Int) (a8 : Int) (K : Int → Option β) : Option β := laws_heldStripe.G S a0 a1 a2 a3 a8 (fun y1 => bif (S.lt y1 0) then (K (-1)) else (laws_heldIntS.G S a6 y1 (fun y2 => bif (S.lt y2 0) then (K (-1)) else (K y2))))
noncomputable def o : Orac := ⟨75, sin, sout, fun s K => G sl0 s.2.1.1 s.2.1.2.1 s.2.1.2.2.1 s.2.1.2.2.2.1 s.2.1.2.2.2.2.1 s.2.1.2.2.2.2.2.1 s.2.1.2.2.2.2.2.2.1 s.2.1.2.2.2.2.2.2.2.1 s.2.2.1 (fun x0 => K ((), (x0, ())))⟩
noncomputable def C : Ctx := ⟨tyT, [laws_heldIntS.o, laws_heldStripe.o], [], 18, 0⟩
theorem ctx : CtxOk Tryz.prog C := ⟨tyOk, all1 laws_heldIntS.ok (all1 laws_heldStripe.ok (all0))⟩
theorem eG (β : Type) (s : sin.den) (K : sout.den → Option β) : evalFn C Tryz.f75 sin sout s K = o.F s K := by kernel_rfl
theorem ok : OracOk Tryz.prog o := fn_ok mixed Tryz.func75 (by kernel_rfl) ctx (c := bodyC Tryz.f75) (by kernel_rfl) (all0) (by kernel_rfl) (by kernel_rfl) (by kernel_rfl) (Nat.le_of_ble_eq_true (by kernel_rfl)) eG (by kernel_rfl) (Nat.le_of_ble_eq_true (by kernel_rfl))
end laws_heldKeep
end Go.Proofs.YtechafkfchmggaaGreat.E
end
section
set_option linter.unusedVariables false
set_option linter.unusedSimpArgs false
namespace Go.Proofs.YtechafkfchmggaaGreat.E
open Go Go.RowKit
set_option linter.unusedVariables false
set_option maxRecDepth 100000
theorem markKeep_B (kind : Int) {vals vers : List Int} {there : List Bool} (on : Bool) (kd : Int) {data : List Int} (kv : Int) (h1 : vals.length ≤ 1048576) (h2 : vers.length ≤ 1048576) (h3 : there.length ≤ 1048576) (h4 : data.length ≤ 1048576) :
    ∃ (a b : List Int) (c : List Bool) (d : List Int) (k : Int), (0 ≤ k ∧ k ≤ 20000000) ∧ (∀ (β : Type) (K : List Int → List Int → List Bool → List Int → Int → Option β), laws_markKeep_.G sl1 vals vers there data kind on kd kv 1 K = K a b c d k) ∧
      ∀ (β : Type) (K : Int → Option β), laws_heldKeep.G sl1 kind a b c on kd d kv 1 K = K k := by
  obtain ⟨a, b, c, k, hk, hm, hh⟩ := markStripe_B kind h1 h2 h3
  refine ⟨a, b, c, cnt k data.length, k + (data.length : Int), ⟨by omega, by omega⟩, fun β K => ?_, fun β K => ?_⟩
  · exact (hm _ _).trans (markInt_G h4 (by omega) (by omega) _)
  · exact (hh _ _).trans (cF (ltF (by omega)) ((heldInt_G h4 (by omega) (by omega) _).trans (cF (ltF (by omega)) rfl)))
end Go.Proofs.YtechafkfchmggaaGreat.E
end
