/- Part 1 of the proof of the statement FnWrite; the last part states it. No condition. -/
import Derived.Test.YtechafkfchmggaaGreatRows
import Derived.WalkKit
import Derived.ProofKit
import Derived.OpenShut
import Derived.ShutString
import Derived.ChangeOld
import Derived.Below
import Derived.SizedLaws
import Derived.Test.YtechafkfchmggaaGreatMGA2
import Derived.Test.YtechafkfchmggaaGreatMGA3
import Derived.Test.YtechafkfchmggaaGreatMGA4
import Derived.Test.YtechafkfchmggaaGreatMGA11
section
set_option linter.unusedVariables false
set_option linter.unusedSimpArgs false
namespace Go.Proofs.YtechafkfchmggaaGreat.E
open Go Go.RowKit
set_option linter.unusedVariables false
set_option maxRecDepth 100000
namespace impl_CodeAll
def sin : Sig := ⟨[], [.one (.val I false), .one (.val (.sl I) false)]⟩
def sout : Sig := ⟨[.buf I false], [.one (.ref (.own 0))]⟩
noncomputable def G {β : Type} (S : Sl) (a0 : Int) (a1 : (List Int)) (K : (List Int) → Option β) : Option β := impl_vectorOf.G S a1 (fun y1 y2 => bif (!y2) then (K []) else (impl_kindOk.G S a0 (fun y3 => bif (!y3) then (K []) else (impl_encode.G S a0 y1 (fun y4 => K y4)))))
noncomputable def o : Orac := ⟨52, sin, sout, fun s K => G sl0 s.2.1 s.2.2.1 (fun x0 => K ((x0, ()), ()))⟩
noncomputable def C : Ctx := ⟨tyT, [impl_encode.o, impl_kindOk.o, impl_vectorOf.o], [], 22, 0⟩
theorem ctx : CtxOk Tryz.prog C := ⟨tyOk, all1 impl_encode.ok (all1 impl_kindOk.ok (all1 impl_vectorOf.ok (all0)))⟩
theorem eG (β : Type) (s : sin.den) (K : sout.den → Option β) : evalFn C Tryz.f52 sin sout s K = o.F s K := by kernel_rfl
theorem ok : OracOk Tryz.prog o := fn_ok mixed Tryz.func52 (by kernel_rfl) ctx (c := bodyC Tryz.f52) (by kernel_rfl) (all0) (by kernel_rfl) (by kernel_rfl) (by kernel_rfl) (Nat.le_of_ble_eq_true (by kernel_rfl)) eG (by kernel_rfl) (Nat.le_of_ble_eq_true (by kernel_rfl))
end impl_CodeAll
end Go.Proofs.YtechafkfchmggaaGreat.E
end
section
set_option linter.unusedVariables false
set_option linter.unusedSimpArgs false
namespace Go.Proofs.YtechafkfchmggaaGreat.E
open Go Go.RowKit
set_option linter.unusedVariables false
set_option maxRecDepth 100000
namespace laws_FnWrite
def sin : Sig := ⟨[], [.one (.val (.sl (.int .u8)) false)]⟩
def sout : Sig := ⟨[], [.one (.val .bool false)]⟩
def h10 : SS := ⟨[3, 5, 8, 10, 11], ⟨[.box [.val I false, .ref (.own 4), .ref (.own 5), .ref (.own 6)], .buf .bool false, .box [.val I false, .ref (.own 7), .ref (.own 8), .ref (.own 9)], .buf I false, .buf I false, .buf I false, .buf .bool false, .buf I false, .buf I false, .buf .bool false], [.one (.ref (.ptr 0)), .one (.ref (.own 1)), .one (.ref (.ptr 2)), .one (.ref (.own 3)), .one (.val I false)]⟩⟩
def x10 : SS := ⟨[8], ⟨[.box [.val I false, .ref (.own 1), .ref (.own 2), .ref (.own 3)], .buf I false, .buf I false, .buf .bool false], [.one (.ref (.ptr 0))]⟩⟩
def y10 : SS := ⟨[2], ⟨[], [.one (.val .bool false)]⟩⟩
noncomputable def b10 {β : Type} (S : Sl) (L : Int → (List Bool) → Int → (List Int) → (List Int) → (List Int) → (List Bool) → (List Int) → (List Int) → (List Bool) → Int → Option β) (kx : Int → (List Int) → (List Int) → (List Bool) → Option β) (kr : Bool → Option β) (s0 : Int) (s1 : (List Bool)) (s2 : Int) (s3 : (List Int)) (s4 : (List Int)) (s5 : (List Int)) (s6 : (List Bool)) (s7 : (List Int)) (s8 : (List Int)) (s9 : (List Bool)) (s10 : Int) : Option β := bif (S.lt s10 8) then (bif (S.ir s10 s1.length) then (bif (List.getD s1 (Int.toNat s10) false) then (bif (S.ir s10 s7.length) then (bif (S.ir s10 s3.length) then (bif (!S.eq (List.getD s7 (Int.toNat s10) 0) (List.getD s3 (Int.toNat s10) 0)) then (kr false) else (bif (S.ir s10 s8.length) then (impl_StripeTop.G S s0 s4 s5 s6 (fun y1 => bif (!S.eq (List.getD s8 (Int.toNat s10) 0) (S.w (y1 + 1))) then (kr false) else (bif (S.ir s10 s9.length) then (bif (!(List.getD s9 (Int.toNat s10) false)) then (kr false) else (bif (S.ir s10 s1.length) then (bif (!(List.getD s1 (Int.toNat s10) false)) then (bif (S.ir s10 s7.length) then (bif (S.ir s10 s4.length) then (bif (!S.eq (List.getD s7 (Int.toNat s10) 0) (List.getD s4 (Int.toNat s10) 0)) then (kr false) else (bif (S.ir s10 s8.length) then (bif (S.ir s10 s5.length) then (bif (!S.eq (List.getD s8 (Int.toNat s10) 0) (List.getD s5 (Int.toNat s10) 0)) then (kr false) else (bif (S.ir s10 s9.length) then (bif (S.ir s10 s6.length) then (bif ((List.getD s9 (Int.toNat s10) false) != (List.getD s6 (Int.toNat s10) false)) then (kr false) else (L s0 s1 s2 s3 s4 s5 s6 s7 s8 s9 (S.w (s10 + 1)))) else (none)) else (none))) else (none)) else (none))) else (none)) else (none)) else (L s0 s1 s2 s3 s4 s5 s6 s7 s8 s9 (S.w (s10 + 1)))) else (none))) else (none)))) else (none))) else (none)) else (none)) else (bif (S.ir s10 s1.length) then (bif (!(List.getD s1 (Int.toNat s10) false)) then (bif (S.ir s10 s7.length) then (bif (S.ir s10 s4.length) then (bif (!S.eq (List.getD s7 (Int.toNat s10) 0) (List.getD s4 (Int.toNat s10) 0)) then (kr false) else (bif (S.ir s10 s8.length) then (bif (S.ir s10 s5.length) then (bif (!S.eq (List.getD s8 (Int.toNat s10) 0) (List.getD s5 (Int.toNat s10) 0)) then (kr false) else (bif (S.ir s10 s9.length) then (bif (S.ir s10 s6.length) then (bif ((List.getD s9 (Int.toNat s10) false) != (List.getD s6 (Int.toNat s10) false)) then (kr false) else (L s0 s1 s2 s3 s4 s5 s6 s7 s8 s9 (S.w (s10 + 1)))) else (none)) else (none))) else (none)) else (none))) else (none)) else (none)) else (L s0 s1 s2 s3 s4 s5 s6 s7 s8 s9 (S.w (s10 + 1)))) else (none))) else (none)) else (kx s2 s7 s8 s9)
noncomputable def r10 {β : Type} (S : Sl) (n : Nat) (kx : x10.sig.den → Option β) (kr : y10.sig.den → Option β) (s : h10.sig.den) : Option β := rounds (fun L kx kr s => b10 S (fun x0 x1 x2 x3 x4 x5 x6 x7 x8 x9 x10 => L (((x0, ()), (x1, ((x2, ()), (x3, (x4, (x5, (x6, (x7, (x8, (x9, ())))))))))), (x10, ()))) (fun x0 x1 x2 x3 => kx (((x0, ()), (x1, (x2, (x3, ())))), ())) (fun x0 => kr ((), (x0, ()))) s.1.1.1 s.1.2.1 s.1.2.2.1.1 s.1.2.2.2.1 s.1.2.2.2.2.1 s.1.2.2.2.2.2.1 s.1.2.2.2.2.2.2.1 s.1.2.2.2.2.2.2.2.1 s.1.2.2.2.2.2.2.2.2.1 s.1.2.2.2.2.2.2.2.2.2.1 s.2.1) kx kr n s
noncomputable def l10 {β : Type} (S : Sl) (n : Nat) (kx : Int → (List Int) → (List Int) → (List Bool) → Option β) (kr : Bool → Option β) (s0 : Int) (s1 : (List Bool)) (s2 : Int) (s3 : (List Int)) (s4 : (List Int)) (s5 : (List Int)) (s6 : (List Bool)) (s7 : (List Int)) (s8 : (List Int)) (s9 : (List Bool)) (s10 : Int) : Option β := r10 S n (fun s => kx s.1.1.1 s.1.2.1 s.1.2.2.1 s.1.2.2.2.1) (fun s => kr s.2.1) (((s0, ()), (s1, ((s2, ()), (s3, (s4, (s5, (s6, (s7, (s8, (s9, ())))))))))), (s10, ()))
theorem t10 {β : Type} (S : Sl) (n : Nat) (kx : Int → (List Int) → (List Int) → (List Bool) → Option β) (kr : Bool → Option β) (s0 : Int) (s1 : (List Bool)) (s2 : Int) (s3 : (List Int)) (s4 : (List Int)) (s5 : (List Int)) (s6 : (List Bool)) (s7 : (List Int)) (s8 : (List Int)) (s9 : (List Bool)) (s10 : Int) : l10 S (n + 1) kx kr s0 s1 s2 s3 s4 s5 s6 s7 s8 s9 s10 = b10 S (l10 S n kx kr) kx kr s0 s1 s2 s3 s4 s5 s6 s7 s8 s9 s10 := by kernel_rfl
noncomputable def G {β : Type} (S : Sl) (a0 : (List Int)) (K : Bool → Option β) : Option β := bif (S.lt 1048576 (a0.length : Int)) then (K true) else (spec_DrawStripeWrite.G S a0 (fun y1 y2 y3 y4 y5 y6 => spec_StripeWrite.G S y5 y1 y2 y3 y6 y4 (fun y7 y8 y9 y10 y11 => impl_StripeWrite.G S y5 y1 y2 y3 y6 y4 (fun y12 y13 y14 y15 y16 => bif (y16 != y11) then (bif (y16 == y11) then (laws_lkStripe.G S y15 y12 y13 y14 y10 y7 y8 y9 (fun y17 => K y17)) else (K false)) else (laws_lkStripe.G S y15 y12 y13 y14 y10 y7 y8 y9 (fun y18 => bif (!y18) then (bif (y16 == y11) then (laws_lkStripe.G S y15 y12 y13 y14 y10 y7 y8 y9 (fun y19 => K y19)) else (K false)) else (bif (!y16) then (bif (y16 == y11) then (laws_lkStripe.G S y15 y12 y13 y14 y10 y7 y8 y9 (fun y20 => K y20)) else (K false)) else (impl_CodeAll.G S y5 y6 (fun y21 => l10 S S.n (fun y22 y23 y24 y25 => impl_StripeOk.G S y22 y23 y24 y25 (fun y26 => K y26)) (fun y27 => K y27) y5 y4 y15 y21 y1 y2 y3 y12 y13 y14 0)))))))))
noncomputable def o : Orac := ⟨8, sin, sout, fun s K => G sl0 s.2.1 (fun x0 => K ((), (x0, ())))⟩
noncomputable def C : Ctx := ⟨tyT, [impl_CodeAll.o, impl_StripeOk.o, impl_StripeTop.o, impl_StripeWrite.o, laws_lkStripe.o, spec_DrawStripeWrite.o, spec_StripeWrite.o], [⟨10, 0, h10, x10, y10, fun s kx kr => r10 sl0 sl0.n kx kr s⟩], 147, 0⟩
theorem ctx : CtxOk Tryz.prog C := ⟨tyOk, all1 impl_CodeAll.ok (all1 impl_StripeOk.ok (all1 impl_StripeTop.ok (all1 impl_StripeWrite.ok (all1 laws_lkStripe.ok (all1 spec_DrawStripeWrite.ok (all1 spec_StripeWrite.ok (all0)))))))⟩
theorem e10 (β : Type) (L : h10.sig.den → Option β) (kx : x10.sig.den → Option β) (kr : y10.sig.den → Option β) (s : h10.sig.den) : evalBody C (nthC (loopsOf (bodyC Tryz.f8)) 0) 0 h10 x10 y10 L kx kr s = b10 sl0 (fun x0 x1 x2 x3 x4 x5 x6 x7 x8 x9 x10 => L (((x0, ()), (x1, ((x2, ()), (x3, (x4, (x5, (x6, (x7, (x8, (x9, ())))))))))), (x10, ()))) (fun x0 x1 x2 x3 => kx (((x0, ()), (x1, (x2, (x3, ())))), ())) (fun x0 => kr ((), (x0, ()))) s.1.1.1 s.1.2.1 s.1.2.2.1.1 s.1.2.2.2.1 s.1.2.2.2.2.1 s.1.2.2.2.2.2.1 s.1.2.2.2.2.2.2.1 s.1.2.2.2.2.2.2.2.1 s.1.2.2.2.2.2.2.2.2.1 s.1.2.2.2.2.2.2.2.2.2.1 s.2.1 := by kernel_rfl
theorem g10 : LS Tryz.prog C ⟨10, 0, h10, x10, y10, fun s kx kr => r10 sl0 sl0.n kx kr s⟩ (loopsOf (bodyC Tryz.f8)) := LS.at (i := 0) (by kernel_rfl) (loop_good mixed ctx (ctx_nat ctx) (N := sl0.n) (fun _ _ _ _ => rfl) e10 (all1 (LS.none (by kernel_rfl)) (all0)))
theorem eG (β : Type) (s : sin.den) (K : sout.den → Option β) : evalFn C Tryz.f8 sin sout s K = o.F s K := by kernel_rfl
theorem ok : OracOk Tryz.prog o := fn_ok mixed Tryz.func8 (by kernel_rfl) ctx (c := bodyC Tryz.f8) (by kernel_rfl) (all1 g10 (all0)) (by kernel_rfl) (by kernel_rfl) (by kernel_rfl) (Nat.le_of_ble_eq_true (by kernel_rfl)) eG (by kernel_rfl) (Nat.le_of_ble_eq_true (by kernel_rfl))
end laws_FnWrite
end Go.Proofs.YtechafkfchmggaaGreat.E
end
section
set_option linter.unusedVariables false
set_option linter.unusedSimpArgs false
namespace Go.Proofs.YtechafkfchmggaaGreat.E
open Go Go.RowKit
set_option linter.unusedVariables false
set_option maxRecDepth 100000
theorem stripeTop_G {β : Type} {kind : Int} {vals vers : List Int} {there : List Bool} (h : stripeV kind vals vers there = true) (K : Int → Option β) : impl_StripeTop.G sl1 kind vals vers there K = K (topV vers 0) := by
  unfold impl_StripeTop.G
  refine (stripeI_G kind vals vers there _).trans ?_
  rw [h]
  exact cF rfl (topI_G h _)
theorem codeAll_G {β : Type} {kind : Int} (hk : kind = 1 ∨ kind = 2) {data : List Int} (hd : vecV data = true) (K : List Int → Option β) : impl_CodeAll.G sl1 kind data K = K (allV kind data) := by
  unfold impl_CodeAll.G
  refine (vector_G data (by have := (vecV_iff.1 hd).2; omega) _).trans ?_
  rw [hd]
  refine cF rfl ((impl_in kind 1 2 _).trans ?_)
  rw [inV_iff.2 (show 1 ≤ kind ∧ kind ≤ 2 by omega)]
  exact cF rfl (encode_G hk (vec_V4 hd) _)
theorem write_law_l {β : Type} {kind : Int} {vals vers : List Int} {there : List Bool} (h : stripeV kind vals vers there = true) {data : List Int} {which : List Bool} (hw : which.length = 8) (ht : topV vers 0 < 99) (a b : List Int) (c : List Bool)
    (ha : a.length = 8) (hb : b.length = 8) (hc : c.length = 8)
    (g : ∀ j, j < 8 → a.getD j 0 = (if 0 ≤ j ∧ which.getD j false = true then (allV kind data).getD j 0 else vals.getD j 0) ∧ b.getD j 0 = (if 0 ≤ j ∧ which.getD j false = true then topV vers 0 + 1 else vers.getD j 0) ∧ c.getD j false = (if 0 ≤ j ∧ which.getD j false = true then true else there.getD j false))
    (kx : Int → List Int → List Int → List Bool → Option β) (kr : Bool → Option β) (d : Nat) : ∀ (i n : Nat), i + d = 8 → d < n →
    laws_FnWrite.l10 sl1 n kx kr kind which kind (allV kind data) vals vers there a b c (i : Int) = kx kind a b c := by
  obtain ⟨hk, hf, h1, h2, h3, ho⟩ := stripe_iff.1 h
  have hal := allV_len kind data
  induction d with
  | zero =>
    intro i n hi hn
    obtain ⟨n, rfl⟩ : ∃ m, n = m + 1 := ⟨n - 1, by omega⟩
    rw [laws_FnWrite.t10]; exact cF (ltF (by omega)) rfl
  | succ d ih =>
    intro i n hi hn
    obtain ⟨n, rfl⟩ : ∃ m, n = m + 1 := ⟨n - 1, by omega⟩
    have next := ih (i + 1) n (by omega) (by omega)
    obtain ⟨g1, g2, g3⟩ := g i (by omega)
    have t0 := (topV_ge vers 0).1
    rw [laws_FnWrite.t10]
    unfold laws_FnWrite.b10
    rw [w_succ (by omega)]
    simp only [getC]
    refine cT (ltT (by omega)) (cT (irT (by omega) (by omega)) ?_)
    cases cw : which.getD i false
    · have hn : ¬(0 ≤ i ∧ which.getD i false = true) := fun h => by rw [cw] at h; cases h.2
      rw [if_neg hn] at g1 g2 g3
      rw [g1, g2, g3]
      exact cF rfl (cT (irT (by omega) (by omega)) (cT rfl (cT (irT (by omega) (by omega)) (cT (irT (by omega) (by omega)) (cF (neF rfl) (cT (irT (by omega) (by omega)) (cT (irT (by omega) (by omega)) (cF (neF rfl) (cT (irT (by omega) (by omega)) (cT (irT (by omega) (by omega)) (cF (bne_self_eq_false _) next)))))))))))
    · have hp : 0 ≤ i ∧ which.getD i false = true := ⟨Nat.zero_le _, cw⟩
      rw [if_pos hp] at g1 g2 g3
      rw [g1, g2, g3]
      refine cT rfl (cT (irT (by omega) (by omega)) (cT (irT (by omega) (by omega)) (cF (neF rfl) (cT (irT (by omega) (by omega)) ((stripeTop_G h _).trans ?_)))))
      rw [wE (by omega) (by omega)]
      exact cF (neF rfl) (cT (irT (by omega) (by omega)) (cF rfl (cT (irT (by omega) (by omega)) (cF rfl next))))
end Go.Proofs.YtechafkfchmggaaGreat.E
namespace Go.Proofs.YtechafkfchmggaaGreat.Pure.FnWrite
open Go Go.Proofs.YtechafkfchmggaaGreat.E
theorem pure {β : Type} (l : List Int) (hl : ∀ x ∈ l, 0 ≤ x ∧ x ≤ 255) (K : Bool → Option β) : laws_FnWrite.G sl1 l K = K true := by
  obtain ⟨kind, vals, vers, there, which, data, hs, hw, h4, hd⟩ := drawWrite hl
  have l1 := hs.l1
  have l2 := hs.l2
  have l3 := hs.l3
  unfold laws_FnWrite.G
  by_cases h : 1048576 < (l.length : Int)
  · exact cT (ltT h) rfl
  obtain ⟨m1, m2, m3⟩ := writeV_le (kind := kind) (data := data) (which := which) l1 l2 l3
  have same := fun {γ : Type} (K : Bool → Option γ) => lkStripe_same (writeV kind vals vers there data which).2.1 (Nat.le_trans m1 (by omega)) (Nat.le_trans m2 (by omega)) (Nat.le_trans m3 (by omega)) K
  refine cF (ltF (by omega)) ((hd _ _).trans ((write_G kind vals vers there data which (by omega) (by omega) _).trans ((implWrite_G kind vals vers there data which (by omega) _).trans (cF (bne_self_eq_false _) ((same _).trans (cF rfl ?_))))))
  cases ok : (writeV kind vals vers there data which).2.2
  · exact cT rfl (cT rfl (same _))
  obtain ⟨e, cs, cd, _, ht⟩ := writeV_ok ok
  obtain ⟨hk, hf, h1, h2, h3, _⟩ := stripe_iff.1 cs
  obtain ⟨q1, q2, q3, g⟩ := writeF_at (kind := kind) (data := data) (which := which) (v := topV vers 0 + 1) 8 0 vals vers there (by omega) h1 h2 h3
  rw [e]
  refine cF rfl ((codeAll_G hk cd _).trans ?_)
  refine (write_law_l cs hw ht _ _ _ q1 q2 q3 g _ _ 8 0 sl1.n (by omega) (by rw [rounds_n]; omega)).trans ((stripeI_G _ _ _ _ _).trans ?_)
  rw [stripe_write cs cd ht]
end Go.Proofs.YtechafkfchmggaaGreat.Pure.FnWrite
end
section
set_option linter.unusedVariables false
set_option linter.unusedSimpArgs false
namespace Go.Proofs.YtechafkfchmggaaGreat.fnWrite
open Go.ChangeShapes Go.WideShapes Go.ChangeAt Go.RowKit
open Go.ChangeMaps (open_string shut_string)
set_option linter.unusedVariables false
theorem own : ownKnob Tryz.prog.godebug = none := by kernel_rfl
theorem laidOut : laidOutB Tryz.prog = true := by kernel_rfl
set_option maxRecDepth 100000 in
theorem lifted (os : Os) (started : os.Started) (H : Type) (enc : TypeId × Value → H) :
    ReturnsInHanded {} Tryz.checked os 8 .any (Rows.fnWriteSpec.pre6 enc Tryz.prog Tryz.f8 Rows.fnWriteRow.domain false) (Rows.fnWriteSpec.post enc Tryz.prog Tryz.f8 false true false false) := by
  refine returnsInHanded_of_change_sized (C := Tryz.checked) own started (by kernel_rfl) Tryz.func8
    (ChangeSpec.witness6 (enc := enc) (C := Tryz.checked) false ⟨#[], #[.slice none 0 0], []⟩ 8 (by kernel_rfl) (by kernel_rfl) (by kernel_rfl) (by kernel_rfl)) ?_
  intro W base args ds gs before hval0 hW hcnd hsz0 _
  have hval : ∀ (j : Nat) t v, Tryz.f8.params[j]? = some t → args[j]? = some v → Value.okWide Tryz.prog W .any base t v := hval0
  have hW' := hW
  obtain ⟨p, q, hA0, hV, rfl, hfz, hnd⟩ := hW
  have hA : DataW.TrodAll enc Tryz.prog W 0 (fun _ => true) true Tryz.f8.params.toList args.toList ds p := hA0
  rw [Tryz.params8] at hA hval
  obtain ⟨v0, vs0, d0, ds0, p0, q0, hargs, rfl, rfl, h0, r0⟩ := trodAll_cons hA
  obtain ⟨rfl, rfl, rfl⟩ := trodAll_nil r0
  obtain rfl : args = #[v0] := by cases args; simp_all
  obtain ⟨rfl, rfl⟩ := trodVars_none hV
  obtain ⟨a0, len0, cap0, rfl⟩ := okWide_slice Tryz.underlying40 (hval 0 40 v0 rfl rfl)
  have k0 := h0
  have lt0 : ∀ x ∈ p0, x.block < W.heap.size := by obtain ⟨m, hm⟩ := k0; exact DataW.trod_lt m _ _ _ hm
  obtain ⟨z0, w0, b0⟩ : ∃ zs, E.IsRowK .u8 W a0 len0 cap0 zs ∧ (∀ x ∈ zs, (Lit.int .u8 x).wf = true) := by
    obtain ⟨fuel, hf⟩ := h0
    rcases open_ints Tryz.underlying40 Tryz.underlying5 (by kernel_rfl) hf with ⟨hcs, _⟩ | ⟨x, l, c, zs, hcs, _, hl, hm, hz, _, hcell, hwz⟩
    · simp [Value.cells] at hcs
      obtain ⟨rfl, rfl, rfl⟩ := hcs
      exact ⟨[], .inl ⟨rfl, rfl, rfl, rfl⟩, by simp⟩
    · simp [Value.cells] at hcs
      obtain ⟨rfl, rfl, rfl⟩ := hcs
      exact ⟨zs, .inr ⟨_, rfl, hl, by simpa using hz, hcell⟩, hwz⟩
  clear hA0 hval0 hsz0
  have hp := Pure.FnWrite.pure (z0.take len0) (fun x hx => E.byte_wf (b0 x (List.mem_of_mem_take hx))) (fun b => some ((), (b, ())))
  rw [← E.sl_eq] at hp
  refine (E.law_bytes E.laws_FnWrite.ok w0 hp).mono fun e W' ⟨he, bel⟩ => ?_
  subst he
  exact ⟨_, rfl, _, _, _, [], _, [], hW', trodAll_mk1 (shut_bool Tryz.underlying4 _), (trodAll_cons_mk (Below.trod laidOut (by kernel_rfl) (of_decide_eq_true (by kernel_rfl)) k0 bel lt0) trodAll_mk0), rfl, bel.frame _, fun h => by cases h⟩
theorem closed : joinedFacts Tryz.prog 8 Tryz.f8 Rows.fnWriteSpec Rows.fnWriteRow = true := by
  unfold joinedFacts
  rw [Head.make, Head.final, Head.enter]
  kernel_rfl
theorem over : Rows.fnWriteRow.holds Tryz.pinned (OpenSpec.ofChange Rows.fnWriteSpec) :=
  OpenClaim.holds_of_wide 8 Tryz.f8 rfl rfl rfl rfl rfl rfl rfl ⟨rfl, rfl, rfl, rfl, rfl⟩ rfl rfl rfl rfl rfl (by kernel_rfl) Tryz.func8 closed
    (of_decide_eq_true (by kernel_rfl)) (by unfold Func.isWrapper; first | (rw [if_pos (by decide +kernel)]; kernel_rfl) | (rw [if_neg (by decide +kernel)]; exact ⟨rfl, rfl⟩))
    (fun os started H enc _ => lifted os started H enc)
theorem proved : Rows.FnWriteSaid := over
#print axioms proved
end Go.Proofs.YtechafkfchmggaaGreat.fnWrite
end
