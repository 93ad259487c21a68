/- Part 1 of the proof of the statement FnWriteTwo; the last part states it. No condition. -/
import Derived.Test.YtechafkfchmggaaGreatRows
import Derived.WalkKit
import Derived.ProofKit
import Derived.OpenShut
import Derived.ShutString
import Derived.ChangeOld
import Derived.Below
import Derived.SizedLaws
import Derived.Test.YtechafkfchmggaaGreatMGA2
import Derived.Test.YtechafkfchmggaaGreatMGA3
import Derived.Test.YtechafkfchmggaaGreatMGA4
import Derived.Test.YtechafkfchmggaaGreatMGA11
section
set_option linter.unusedVariables false
set_option linter.unusedSimpArgs false
namespace Go.Proofs.YtechafkfchmggaaGreat.E
open Go Go.RowKit
set_option linter.unusedVariables false
set_option maxRecDepth 100000
namespace laws_lkThere
def sin : Sig := ⟨[], [.one (.val I false)]⟩
def sout : Sig := ⟨[.buf .bool false], [.one (.ref (.own 0))]⟩
def h3 : SS := ⟨[0, 3, 4], ⟨[.buf .bool false], [.one (.val I false), .one (.ref (.own 0)), .one (.val I false)]⟩⟩
def x3 : SS := ⟨[3], ⟨[.buf .bool false], [.one (.ref (.own 0))]⟩⟩
def y3 : SS := ⟨[], ⟨[], []⟩⟩
noncomputable def b3 {β : Type} (S : Sl) (L : (List Bool) → Int → Int → Option β) (kx : (List Bool) → Option β) (kr : Option β) (s0 : (List Bool)) (s1 : Int) (s2 : Int) : Option β := bif (S.lt s2 8) then (bif (S.fw (s0 ++ [(S.eq (Int.tmod s1 2) 1)]).length) then (L (s0 ++ [(S.eq (Int.tmod s1 2) 1)]) (S.w (Int.tdiv s1 2)) (S.w (s2 + 1))) else (none)) else (kx s0)
noncomputable def r3 {β : Type} (S : Sl) (n : Nat) (kx : x3.sig.den → Option β) (kr : y3.sig.den → Option β) (s : h3.sig.den) : Option β := rounds (fun L kx kr s => b3 S (fun x0 x1 x2 => L ((x0, ()), (x1, (x2, ())))) (fun x0 => kx ((x0, ()), ())) (kr ((), ())) s.1.1 s.2.1 s.2.2.1) kx kr n s
noncomputable def l3 {β : Type} (S : Sl) (n : Nat) (kx : (List Bool) → Option β) (kr : Option β) (s0 : (List Bool)) (s1 : Int) (s2 : Int) : Option β := r3 S n (fun s => kx s.1.1) (fun s => kr) ((s0, ()), (s1, (s2, ())))
theorem t3 {β : Type} (S : Sl) (n : Nat) (kx : (List Bool) → Option β) (kr : Option β) (s0 : (List Bool)) (s1 : Int) (s2 : Int) : l3 S (n + 1) kx kr s0 s1 s2 = b3 S (l3 S n kx kr) kx kr s0 s1 s2 := by kernel_rfl
noncomputable def G {β : Type} (S : Sl) (a0 : Int) (K : (List Bool) → Option β) : Option β := l3 S S.n (fun y1 => K y1) none [] a0 0
noncomputable def o : Orac := ⟨59, sin, sout, fun s K => G sl0 s.2.1 (fun x0 => K ((x0, ()), ()))⟩
noncomputable def C : Ctx := ⟨tyT, [], [⟨3, 0, h3, x3, y3, fun s kx kr => r3 sl0 sl0.n kx kr s⟩], 19, 0⟩
theorem ctx : CtxOk Tryz.prog C := ⟨tyOk, all0⟩
theorem e3 (β : Type) (L : h3.sig.den → Option β) (kx : x3.sig.den → Option β) (kr : y3.sig.den → Option β) (s : h3.sig.den) : evalBody C (nthC (loopsOf (bodyC Tryz.f59)) 0) 0 h3 x3 y3 L kx kr s = b3 sl0 (fun x0 x1 x2 => L ((x0, ()), (x1, (x2, ())))) (fun x0 => kx ((x0, ()), ())) (kr ((), ())) s.1.1 s.2.1 s.2.2.1 := by kernel_rfl
theorem g3 : LS Tryz.prog C ⟨3, 0, h3, x3, y3, fun s kx kr => r3 sl0 sl0.n kx kr s⟩ (loopsOf (bodyC Tryz.f59)) := LS.at (i := 0) (by kernel_rfl) (loop_good mixed ctx (ctx_nat ctx) (N := sl0.n) (fun _ _ _ _ => rfl) e3 (all1 (LS.none (by kernel_rfl)) (all0)))
theorem eG (β : Type) (s : sin.den) (K : sout.den → Option β) : evalFn C Tryz.f59 sin sout s K = o.F s K := by kernel_rfl
theorem ok : OracOk Tryz.prog o := fn_ok mixed Tryz.func59 (by kernel_rfl) ctx (c := bodyC Tryz.f59) (by kernel_rfl) (all1 g3 (all0)) (by kernel_rfl) (by kernel_rfl) (by kernel_rfl) (Nat.le_of_ble_eq_true (by kernel_rfl)) eG (by kernel_rfl) (Nat.le_of_ble_eq_true (by kernel_rfl))
end laws_lkThere
end Go.Proofs.YtechafkfchmggaaGreat.E
end
section
set_option linter.unusedVariables false
set_option linter.unusedSimpArgs false
namespace Go.Proofs.YtechafkfchmggaaGreat.E
open Go Go.RowKit
set_option linter.unusedVariables false
set_option maxRecDepth 100000
namespace laws_lkNum
def sin : Sig := ⟨[], [.one (.val I false)]⟩
def sout : Sig := ⟨[], [.one (.val I false)]⟩
noncomputable def G {β : Type} (S : Sl) (a0 : Int) (K : Int → Option β) : Option β := K (Int.tmod a0 31)
noncomputable def o : Orac := ⟨126, sin, sout, fun s K => G sl0 s.2.1 (fun x0 => K ((), (x0, ())))⟩
noncomputable def C : Ctx := ⟨tyT, [], [], 5, 0⟩
theorem ctx : CtxOk Tryz.prog C := ⟨tyOk, all0⟩
theorem eG (β : Type) (s : sin.den) (K : sout.den → Option β) : evalFn C Tryz.f126 sin sout s K = o.F s K := by kernel_rfl
theorem ok : OracOk Tryz.prog o := fn_ok mixed Tryz.func126 (by kernel_rfl) ctx (c := bodyC Tryz.f126) (by kernel_rfl) (all0) (by kernel_rfl) (by kernel_rfl) (by kernel_rfl) (Nat.le_of_ble_eq_true (by kernel_rfl)) eG (by kernel_rfl) (Nat.le_of_ble_eq_true (by kernel_rfl))
end laws_lkNum
end Go.Proofs.YtechafkfchmggaaGreat.E
end
section
set_option linter.unusedVariables false
set_option linter.unusedSimpArgs false
namespace Go.Proofs.YtechafkfchmggaaGreat.E
open Go Go.RowKit
set_option linter.unusedVariables false
set_option maxRecDepth 100000
namespace laws_lkVec
def sin : Sig := ⟨[], [.one (.val I false)]⟩
def sout : Sig := ⟨[.buf I false], [.one (.ref (.own 0))]⟩
noncomputable def G {β : Type} (S : Sl) (a0 : Int) (K : (List Int) → Option β) : Option β := laws_lkNum.G S a0 (fun y1 => laws_lkNum.G S (S.w (a0 * 3)) (fun y2 => laws_lkNum.G S (S.w ((S.w (a0 * a0)) + 1)) (fun y3 => laws_lkNum.G S (S.w (a0 + 7)) (fun y4 => K [y1, y2, y3, y4]))))
noncomputable def o : Orac := ⟨58, sin, sout, fun s K => G sl0 s.2.1 (fun x0 => K ((x0, ()), ()))⟩
noncomputable def C : Ctx := ⟨tyT, [laws_lkNum.o], [], 17, 0⟩
theorem ctx : CtxOk Tryz.prog C := ⟨tyOk, all1 laws_lkNum.ok (all0)⟩
theorem eG (β : Type) (s : sin.den) (K : sout.den → Option β) : evalFn C Tryz.f58 sin sout s K = o.F s K := by kernel_rfl
theorem ok : OracOk Tryz.prog o := fn_ok mixed Tryz.func58 (by kernel_rfl) ctx (c := bodyC Tryz.f58) (by kernel_rfl) (all0) (by kernel_rfl) (by kernel_rfl) (by kernel_rfl) (Nat.le_of_ble_eq_true (by kernel_rfl)) eG (by kernel_rfl) (Nat.le_of_ble_eq_true (by kernel_rfl))
end laws_lkVec
end Go.Proofs.YtechafkfchmggaaGreat.E
end
section
set_option linter.unusedVariables false
set_option linter.unusedSimpArgs false
namespace Go.Proofs.YtechafkfchmggaaGreat.E
open Go Go.RowKit
set_option linter.unusedVariables false
set_option maxRecDepth 100000
namespace laws_FnWriteTwo
def sin : Sig := ⟨[], [.one (.val (.sl (.int .u8)) false), .one (.val (.sl (.int .u8)) false)]⟩
def sout : Sig := ⟨[], [.one (.val .bool false)]⟩
noncomputable def G {β : Type} (S : Sl) (a0 : (List Int)) (a1 : (List Int)) (K : Bool → Option β) : Option β := bif (S.lt 1048576 (a0.length : Int)) then (K true) else (bif (S.lt 1048576 (a1.length : Int)) then (K true) else (spec_DrawStripeWrite.G S a0 (fun y1 y2 y3 y4 y5 y6 => spec_StripeWrite.G S y5 y1 y2 y3 y6 y4 (fun y7 y8 y9 y10 y11 => impl_StripeWrite.G S y5 y1 y2 y3 y6 y4 (fun y12 y13 y14 y15 y16 => bif (y16 != y11) then (bif (y16 == y11) then (laws_lkStripe.G S y15 y12 y13 y14 y10 y7 y8 y9 (fun y17 => K y17)) else (K false)) else (laws_lkStripe.G S y15 y12 y13 y14 y10 y7 y8 y9 (fun y18 => bif (!y18) then (bif (y16 == y11) then (laws_lkStripe.G S y15 y12 y13 y14 y10 y7 y8 y9 (fun y19 => K y19)) else (K false)) else (bif (!y16) then (bif (y16 == y11) then (laws_lkStripe.G S y15 y12 y13 y14 y10 y7 y8 y9 (fun y20 => K y20)) else (K false)) else (laws_lkVec.G S (a1.length : Int) (fun y21 => laws_lkThere.G S 255 (fun y22 => impl_StripeWrite.G S y15 y12 y13 y14 y21 y22 (fun y23 y24 y25 y26 y27 => bif (!y27) then (impl_StripeTop.G S y15 y12 y13 y14 (fun y28 => K (S.eq y28 99))) else (impl_StripeRead.G S y26 y23 y24 y25 (fun y29 y30 y31 => bif y31 then (laws_lkInts.G S y29 y21 (fun y32 => bif y32 then (impl_StripeTop.G S y15 y12 y13 y14 (fun y33 => K (S.eq y30 (S.w (y33 + 1))))) else (K false))) else (K false)))))))))))))))
noncomputable def o : Orac := ⟨11, sin, sout, fun s K => G sl0 s.2.1 s.2.2.1 (fun x0 => K ((), (x0, ())))⟩
noncomputable def C : Ctx := ⟨tyT, [impl_StripeRead.o, impl_StripeTop.o, impl_StripeWrite.o, laws_lkInts.o, laws_lkStripe.o, laws_lkThere.o, laws_lkVec.o, spec_DrawStripeWrite.o, spec_StripeWrite.o], [], 101, 0⟩
theorem ctx : CtxOk Tryz.prog C := ⟨tyOk, all1 impl_StripeRead.ok (all1 impl_StripeTop.ok (all1 impl_StripeWrite.ok (all1 laws_lkInts.ok (all1 laws_lkStripe.ok (all1 laws_lkThere.ok (all1 laws_lkVec.ok (all1 spec_DrawStripeWrite.ok (all1 spec_StripeWrite.ok (all0)))))))))⟩
theorem eG (β : Type) (s : sin.den) (K : sout.den → Option β) : evalFn C Tryz.f11 sin sout s K = o.F s K := by kernel_rfl
theorem ok : OracOk Tryz.prog o := fn_ok mixed Tryz.func11 (by kernel_rfl) ctx (c := bodyC Tryz.f11) (by kernel_rfl) (all0) (by kernel_rfl) (by kernel_rfl) (by kernel_rfl) (Nat.le_of_ble_eq_true (by kernel_rfl)) eG (by kernel_rfl) (Nat.le_of_ble_eq_true (by kernel_rfl))
end laws_FnWriteTwo
end Go.Proofs.YtechafkfchmggaaGreat.E
end
section
set_option linter.unusedVariables false
set_option linter.unusedSimpArgs false
namespace Go.Proofs.YtechafkfchmggaaGreat.E
open Go Go.RowKit
set_option linter.unusedVariables false
set_option maxRecDepth 100000
theorem written_read {kind : Int} {vals vers : List Int} {there : List Bool} (h : stripeV kind vals vers there = true) {data : List Int} (hd : vecV data = true) {which : List Bool} (ht : topV vers 0 < 99) (hc : covL kind (thereL which 0 8) = true) :
    readL kind (writeF kind data which (topV vers 0 + 1) 8 0 vals vers there).2.1 (writeF kind data which (topV vers 0 + 1) 8 0 vals vers there).2.2 = some (topV vers 0 + 1) ∧
    Told1 kind (writeF kind data which (topV vers 0 + 1) 8 0 vals vers there).1 (writeF kind data which (topV vers 0 + 1) 8 0 vals vers there).2.1 (writeF kind data which (topV vers 0 + 1) 8 0 vals vers there).2.2 (topV vers 0 + 1) data := by
  obtain ⟨hk, hf, h1, h2, h3, ho⟩ := stripe_iff.1 h
  obtain ⟨l1, l2, l3, g⟩ := writeF_at (kind := kind) (data := data) (which := which) (v := topV vers 0 + 1) 8 0 vals vers there (by omega) h1 h2 h3
  have old : ∀ a, a < 8 → ¬(0 ≤ a ∧ which.getD a false = true) → vers.getD a 0 < topV vers 0 + 1 := fun a ha _ => by have := ver_le (vers := vers) (a := a) (by omega); omega
  have cov : covV kind (writeF kind data which (topV vers 0 + 1) 8 0 vals vers there).2.1 (writeF kind data which (topV vers 0 + 1) 8 0 vals vers there).2.2 (topV vers 0 + 1) = true := covL_mono (fun b hb => by
    obtain ⟨q1, q2⟩ := thereL_mem.1 hb
    obtain ⟨_, g2, g3⟩ := g b q1
    rw [if_pos ⟨Nat.zero_le _, q2⟩] at g2 g3
    exact ofL_mem'.2 ⟨q1, g3, g2⟩) hc
  refine ⟨?_, vec_V4 hd, fun a ha => ?_⟩
  · obtain ⟨w, hw, hle⟩ := readL_ge hk cov
    rw [hw]
    obtain ⟨a, ha, ta, va⟩ := versL_mem.1 (List.mem_of_find?_eq_some hw)
    rw [(g a ha).2.1] at va
    by_cases c : 0 ≤ a ∧ which.getD a false = true
    · rw [if_pos c] at va; rw [va]
    · rw [if_neg c] at va
      have := old a ha c; omega
  · obtain ⟨q1, q2, q3⟩ := ofL_mem'.1 ha
    obtain ⟨g1, g2, _⟩ := g a q1
    by_cases c : 0 ≤ a ∧ which.getD a false = true
    · rw [g1, if_pos c]
      exact allV_at hk (vec_V4 hd) q1
    · rw [g2, if_neg c] at q3
      have := old a q1 c; omega
theorem cov_all {kind : Int} (hk : kind = 1 ∨ kind = 2) : covL kind (thereL (List.replicate 8 true) 0 8) = true := by
  rcases hk with rfl | rfl <;> rfl
theorem top_99 {kind : Int} {vals vers : List Int} {there : List Bool} (h : stripeV kind vals vers there = true) : topV vers 0 ≤ 99 := by
  obtain ⟨hk, hf, h1, h2, h3, ho⟩ := stripe_iff.1 h
  refine topV_le vers 0 (by omega) fun x hx => ?_
  obtain ⟨a, ha, rfl⟩ := List.getElem_of_mem hx
  have e : vers.getD a 0 = vers[a] := by rw [List.getD_eq_getElem?_getD, List.getElem?_eq_getElem ha]; rfl
  have := ho a (by omega)
  rw [e] at this
  cases ct : there.getD a false
  · have := (this.2 ct).2; omega
  · exact ((this.1 ct).1).2
end Go.Proofs.YtechafkfchmggaaGreat.E
end
section
set_option linter.unusedVariables false
set_option linter.unusedSimpArgs false
namespace Go.Proofs.YtechafkfchmggaaGreat.E
open Go Go.RowKit
set_option linter.unusedVariables false
theorem stripeTop_G {β : Type} {kind : Int} {vals vers : List Int} {there : List Bool} (h : stripeV kind vals vers there = true) (K : Int → Option β) : impl_StripeTop.G sl1 kind vals vers there K = K (topV vers 0) := by
  unfold impl_StripeTop.G
  refine (stripeI_G kind vals vers there _).trans ?_
  rw [h]
  exact cF rfl (topI_G h _)
end Go.Proofs.YtechafkfchmggaaGreat.E
end
section
set_option linter.unusedVariables false
set_option linter.unusedSimpArgs false
namespace Go.Proofs.YtechafkfchmggaaGreat.E
open Go Go.RowKit
set_option linter.unusedVariables false
set_option maxRecDepth 100000
theorem lkNum_in {β : Type} {n : Int} (h : 0 ≤ n) : ∃ v, 0 ≤ v ∧ v ≤ 30 ∧ ∀ (β : Type) (K : Int → Option β), laws_lkNum.G sl1 n K = K v :=
  ⟨Int.tmod n 31, (tmod_in h (by omega)).1, by have := (tmod_in (n := 31) h (by omega)).2; omega, fun β K => rfl⟩
theorem lkVec_E {n : Nat} (h : n ≤ 1048576) : ∃ d, vecV d = true ∧ ∀ (β : Type) (K : List Int → Option β), laws_lkVec.G sl1 (n : Int) K = K d := by
  have hm : 0 ≤ (n : Int) * (n : Int) := Int.mul_nonneg (by omega) (by omega)
  have hm2 : (n : Int) * (n : Int) ≤ 1048576 * 1048576 := Int.mul_le_mul (by omega) (by omega) (by omega) (by omega)
  obtain ⟨a, a0, a1, ea⟩ := lkNum_in (β := Unit) (n := (n : Int)) (by omega)
  obtain ⟨b, b0, b1, eb⟩ := lkNum_in (β := Unit) (n := (n : Int) * 3) (by omega)
  obtain ⟨c, c0, c1, ec⟩ := lkNum_in (β := Unit) (n := (n : Int) * (n : Int) + 1) (by omega)
  obtain ⟨d, d0, d1, ed⟩ := lkNum_in (β := Unit) (n := (n : Int) + 7) (by omega)
  refine ⟨[a, b, c, d], V4_vec ⟨a, b, c, d, rfl, ⟨a0, a1⟩, ⟨b0, b1⟩, ⟨c0, c1⟩, ⟨d0, d1⟩⟩, fun β K => ?_⟩
  unfold laws_lkVec.G
  rw [wE (a := (n : Int) * 3) (by omega) (by omega), wE (a := (n : Int) * (n : Int)) (by omega) (by omega), wE (a := (n : Int) * (n : Int) + 1) (by omega) (by omega), wE (a := (n : Int) + 7) (by omega) (by omega)]
  exact (ea _ _).trans ((eb _ _).trans ((ec _ _).trans (ed _ _)))
theorem lkAll_G {β : Type} (K : List Bool → Option β) : laws_lkThere.G sl1 255 K = K (List.replicate 8 true) := by
  refine keq ?_
  kernel_rfl
end Go.Proofs.YtechafkfchmggaaGreat.E
namespace Go.Proofs.YtechafkfchmggaaGreat.Pure.FnWriteTwo
open Go Go.Proofs.YtechafkfchmggaaGreat.E
theorem pure {β : Type} (l m : List Int) (hl : ∀ x ∈ l, 0 ≤ x ∧ x ≤ 255) (hm : ∀ x ∈ m, 0 ≤ x ∧ x ≤ 255) (K : Bool → Option β) : laws_FnWriteTwo.G sl1 l m K = K true := by
  obtain ⟨kind, vals, vers, there, which, data, hs, hw, h4, hd⟩ := drawWrite hl
  have l1 := hs.l1
  have l2 := hs.l2
  have l3 := hs.l3
  unfold laws_FnWriteTwo.G
  by_cases h : 1048576 < (l.length : Int)
  · exact cT (ltT h) rfl
  refine cF (ltF (by omega)) ?_
  by_cases h' : 1048576 < (m.length : Int)
  · exact cT (ltT h') rfl
  obtain ⟨m1, m2, m3⟩ := writeV_le (kind := kind) (data := data) (which := which) l1 l2 l3
  have same := fun {γ : Type} (K : Bool → Option γ) => lkStripe_same (writeV kind vals vers there data which).2.1 (Nat.le_trans m1 (by omega)) (Nat.le_trans m2 (by omega)) (Nat.le_trans m3 (by omega)) K
  refine cF (ltF (by omega)) ((hd _ _).trans ((write_G kind vals vers there data which (by omega) (by omega) _).trans ((implWrite_G kind vals vers there data which (by omega) _).trans (cF (bne_self_eq_false _) ((same _).trans (cF rfl ?_))))))
  cases ok : (writeV kind vals vers there data which).2.2
  · exact cT rfl (cT rfl (same _))
  obtain ⟨e, cs, cd, _, ht⟩ := writeV_ok ok
  obtain ⟨d2, hd2, ed2⟩ := lkVec_E (n := m.length) (by omega)
  have hx := stripe_write cs cd ht (which := which)
  rw [e]
  refine cF rfl ((ed2 _ _).trans ((lkAll_G _).trans ((implWrite_G _ _ _ _ d2 (List.replicate 8 true) (by have := (vecV_iff.1 hd2).2; omega) _).trans ?_)))
  dsimp only
  generalize writeF kind data which (topV vers 0 + 1) 8 0 vals vers there = W at hx
  obtain ⟨A, B, C⟩ := W
  dsimp only at hx ⊢
  cases ok2 : (writeV kind A B C d2 (List.replicate 8 true)).2.2
  · refine cT rfl ((stripeTop_G hx _).trans ?_)
    have t9 := top_99 hx
    have : topV B 0 = 99 := by
      by_cases c : 99 ≤ topV B 0
      · omega
      · unfold writeV at ok2
        rw [hx, hd2, decide_eq_false c] at ok2
        cases ok2
    rw [eqT this]
  · obtain ⟨e2, _, _, _, ht2⟩ := writeV_ok ok2
    have hy := stripe_write hx hd2 ht2 (which := List.replicate 8 true)
    obtain ⟨r1, r2⟩ := written_read hx hd2 ht2 (cov_all (stripe_iff.1 hx).1)
    obtain ⟨d, hT, hr⟩ := stripeRead_E hy
    rw [e2]
    refine cF rfl ((hr _ _).trans ?_)
    have ed : d = d2 := tells_uniq (stripe_iff.1 hx).1 hT (by unfold Tells; rw [r1]; exact r2)
    rw [r1, ed]
    refine cT rfl ((lkInts_same _ (by have := (vecV_iff.1 hd2).2; omega) _).trans (cT rfl ((stripeTop_G hx _).trans ?_)))
    have t0 := (topV_ge B 0).1
    rw [wE (by omega) (by omega)]
    show K (sl1.eq (topV B 0 + 1) (topV B 0 + 1)) = _
    rw [eqT rfl]
end Go.Proofs.YtechafkfchmggaaGreat.Pure.FnWriteTwo
end
section
set_option linter.unusedVariables false
set_option linter.unusedSimpArgs false
namespace Go.Proofs.YtechafkfchmggaaGreat.fnWriteTwo
open Go.ChangeShapes Go.WideShapes Go.ChangeAt Go.RowKit
open Go.ChangeMaps (open_string shut_string)
set_option linter.unusedVariables false
theorem own : ownKnob Tryz.prog.godebug = none := by kernel_rfl
theorem laidOut : laidOutB Tryz.prog = true := by kernel_rfl
set_option maxRecDepth 100000 in
theorem lifted (os : Os) (started : os.Started) (H : Type) (enc : TypeId × Value → H) :
    ReturnsInHanded {} Tryz.checked os 11 .any (Rows.fnWriteTwoSpec.pre6 enc Tryz.prog Tryz.f11 Rows.fnWriteTwoRow.domain false) (Rows.fnWriteTwoSpec.post enc Tryz.prog Tryz.f11 false true false false) := by
  refine returnsInHanded_of_change_sized (C := Tryz.checked) own started (by kernel_rfl) Tryz.func11
    (ChangeSpec.witness6 (enc := enc) (C := Tryz.checked) false ⟨#[], #[.slice none 0 0, .slice none 0 0], []⟩ 8 (by kernel_rfl) (by kernel_rfl) (by kernel_rfl) (by kernel_rfl)) ?_
  intro W base args ds gs before hval0 hW hcnd hsz0 _
  have hval : ∀ (j : Nat) t v, Tryz.f11.params[j]? = some t → args[j]? = some v → Value.okWide Tryz.prog W .any base t v := hval0
  have hW' := hW
  obtain ⟨p, q, hA0, hV, rfl, hfz, hnd⟩ := hW
  have hA : DataW.TrodAll enc Tryz.prog W 0 (fun _ => true) true Tryz.f11.params.toList args.toList ds p := hA0
  rw [Tryz.params11] at hA hval
  obtain ⟨v0, vs0, d0, ds0, p0, q0, hargs0, rfl, rfl, h0, r0⟩ := trodAll_cons hA
  obtain ⟨v1, vs1, d1, ds1, p1, q1, hargs1, rfl, rfl, h1, r1⟩ := trodAll_cons r0
  obtain ⟨rfl, rfl, rfl⟩ := trodAll_nil r1
  obtain rfl : args = #[v0, v1] := by cases args; simp_all
  obtain ⟨rfl, rfl⟩ := trodVars_none hV
  obtain ⟨a0, len0, cap0, rfl⟩ := okWide_slice Tryz.underlying40 (hval 0 40 v0 rfl rfl)
  obtain ⟨a1, len1, cap1, rfl⟩ := okWide_slice Tryz.underlying40 (hval 1 40 v1 rfl rfl)
  have k0 := h0
  have lt0 : ∀ x ∈ p0, x.block < W.heap.size := by obtain ⟨m, hm⟩ := k0; exact DataW.trod_lt m _ _ _ hm
  obtain ⟨z0, w0, b0⟩ : ∃ zs, E.IsRowK .u8 W a0 len0 cap0 zs ∧ (∀ x ∈ zs, (Lit.int .u8 x).wf = true) := by
    obtain ⟨fuel, hf⟩ := h0
    rcases open_ints Tryz.underlying40 Tryz.underlying5 (by kernel_rfl) hf with ⟨hcs, _⟩ | ⟨x, l, c, zs, hcs, _, hl, hm, hz, _, hcell, hwz⟩
    · simp [Value.cells] at hcs
      obtain ⟨rfl, rfl, rfl⟩ := hcs
      exact ⟨[], .inl ⟨rfl, rfl, rfl, rfl⟩, by simp⟩
    · simp [Value.cells] at hcs
      obtain ⟨rfl, rfl, rfl⟩ := hcs
      exact ⟨zs, .inr ⟨_, rfl, hl, by simpa using hz, hcell⟩, hwz⟩
  have k1 := h1
  have lt1 : ∀ x ∈ p1, x.block < W.heap.size := by obtain ⟨m, hm⟩ := k1; exact DataW.trod_lt m _ _ _ hm
  obtain ⟨z1, w1, b1⟩ : ∃ zs, E.IsRowK .u8 W a1 len1 cap1 zs ∧ (∀ x ∈ zs, (Lit.int .u8 x).wf = true) := by
    obtain ⟨fuel, hf⟩ := h1
    rcases open_ints Tryz.underlying40 Tryz.underlying5 (by kernel_rfl) hf with ⟨hcs, _⟩ | ⟨x, l, c, zs, hcs, _, hl, hm, hz, _, hcell, hwz⟩
    · simp [Value.cells] at hcs
      obtain ⟨rfl, rfl, rfl⟩ := hcs
      exact ⟨[], .inl ⟨rfl, rfl, rfl, rfl⟩, by simp⟩
    · simp [Value.cells] at hcs
      obtain ⟨rfl, rfl, rfl⟩ := hcs
      exact ⟨zs, .inr ⟨_, rfl, hl, by simpa using hz, hcell⟩, hwz⟩
  clear hA0 hval0 hsz0
  have hp := Pure.FnWriteTwo.pure (z0.take len0) (z1.take len1) (fun x hx => E.byte_wf (b0 x (List.mem_of_mem_take hx))) (fun x hx => E.byte_wf (b1 x (List.mem_of_mem_take hx))) (fun b => some ((), (b, ())))
  rw [← E.sl_eq] at hp
  refine (E.law_bytes2 E.laws_FnWriteTwo.ok w0 w1 hp).mono fun e W' ⟨he, bel⟩ => ?_
  subst he
  exact ⟨_, rfl, _, _, _, [], _, [], hW', trodAll_mk1 (shut_bool Tryz.underlying4 _), (trodAll_cons_mk (Below.trod laidOut (by kernel_rfl) (of_decide_eq_true (by kernel_rfl)) k0 bel lt0) (trodAll_cons_mk (Below.trod laidOut (by kernel_rfl) (of_decide_eq_true (by kernel_rfl)) k1 bel lt1) trodAll_mk0)), rfl, bel.frame _, fun h => by cases h⟩
theorem closed : joinedFacts Tryz.prog 11 Tryz.f11 Rows.fnWriteTwoSpec Rows.fnWriteTwoRow = true := by
  unfold joinedFacts
  rw [Head.make, Head.final, Head.enter]
  kernel_rfl
theorem over : Rows.fnWriteTwoRow.holds Tryz.pinned (OpenSpec.ofChange Rows.fnWriteTwoSpec) :=
  OpenClaim.holds_of_wide 11 Tryz.f11 rfl rfl rfl rfl rfl rfl rfl ⟨rfl, rfl, rfl, rfl, rfl⟩ rfl rfl rfl rfl rfl (by kernel_rfl) Tryz.func11 closed
    (of_decide_eq_true (by kernel_rfl)) (by unfold Func.isWrapper; first | (rw [if_pos (by decide +kernel)]; kernel_rfl) | (rw [if_neg (by decide +kernel)]; exact ⟨rfl, rfl⟩))
    (fun os started H enc _ => lifted os started H enc)
theorem proved : Rows.FnWriteTwoSaid := over
#print axioms proved
end Go.Proofs.YtechafkfchmggaaGreat.fnWriteTwo
end
