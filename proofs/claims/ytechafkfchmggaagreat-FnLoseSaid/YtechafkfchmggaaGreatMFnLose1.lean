/- Part 1 of the proof of the statement FnLose; the last part states it. No condition. -/
import Derived.Test.YtechafkfchmggaaGreatRows
import Derived.WalkKit
import Derived.ProofKit
import Derived.OpenShut
import Derived.ShutString
import Derived.ChangeOld
import Derived.Below
import Derived.SizedLaws
import Derived.Test.YtechafkfchmggaaGreatMGA2
import Derived.Test.YtechafkfchmggaaGreatMGA3
import Derived.Test.YtechafkfchmggaaGreatMGA4
import Derived.Test.YtechafkfchmggaaGreatMGA11
section
set_option linter.unusedVariables false
set_option linter.unusedSimpArgs false
namespace Go.Proofs.YtechafkfchmggaaGreat.E
open Go Go.RowKit
set_option linter.unusedVariables false
set_option maxRecDepth 100000
namespace spec_DrawStripeLose
def sin : Sig := ⟨[], [.one (.val (.sl (.int .u8)) false)]⟩
def sout : Sig := ⟨[.buf I false, .buf I false, .buf .bool false], [.agg [.val I false, .ref (.own 0), .ref (.own 1), .ref (.own 2)], .one (.val I false)]⟩
noncomputable def G {β : Type} (S : Sl) (a0 : (List Int)) (K : (List Int) → (List Int) → (List Bool) → Int → Int → Option β) : Option β := spec_l6Open.G S a0 (fun y1 y2 => spec_l92Stripe.G S y1 y2 (fun y3 y4 y5 y6 y7 y8 => spec_l6Rd_pick.G S y3 y4 8 (fun y9 y10 y11 => spec_l6Rd_pick.G S y9 y10 24 (fun y12 y13 y14 => K y5 y6 y7 y8 (S.w (y11 + (S.w ((S.w (Int.tdiv y14 23)) * 8))))))))
noncomputable def o : Orac := ⟨54, sin, sout, fun s K => G sl0 s.2.1 (fun x0 x1 x2 x3 x4 => K ((x0, (x1, (x2, ()))), ((x3, ()), (x4, ()))))⟩
noncomputable def C : Ctx := ⟨tyT, [spec_l6Open.o, spec_l6Rd_pick.o, spec_l92Stripe.o], [], 16, 0⟩
theorem ctx : CtxOk Tryz.prog C := ⟨tyOk, all1 spec_l6Open.ok (all1 spec_l6Rd_pick.ok (all1 spec_l92Stripe.ok (all0)))⟩
theorem eG (β : Type) (s : sin.den) (K : sout.den → Option β) : evalFn C Tryz.f54 sin sout s K = o.F s K := by kernel_rfl
theorem ok : OracOk Tryz.prog o := fn_ok mixed Tryz.func54 (by kernel_rfl) ctx (c := bodyC Tryz.f54) (by kernel_rfl) (all0) (by kernel_rfl) (by kernel_rfl) (by kernel_rfl) (Nat.le_of_ble_eq_true (by kernel_rfl)) eG (by kernel_rfl) (Nat.le_of_ble_eq_true (by kernel_rfl))
end spec_DrawStripeLose
end Go.Proofs.YtechafkfchmggaaGreat.E
end
section
set_option linter.unusedVariables false
set_option linter.unusedSimpArgs false
namespace Go.Proofs.YtechafkfchmggaaGreat.E
open Go Go.RowKit
set_option linter.unusedVariables false
set_option maxRecDepth 100000
namespace laws_FnLose
def sin : Sig := ⟨[], [.one (.val (.sl (.int .u8)) false)]⟩
def sout : Sig := ⟨[], [.one (.val .bool false)]⟩
def h8 : SS := ⟨[3, 4, 5, 6], ⟨[.box [.val I false, .ref (.own 2), .ref (.own 3), .ref (.own 4)], .box [.val I false, .ref (.own 5), .ref (.own 6), .ref (.own 7)], .buf I false, .buf I false, .buf .bool false, .buf I false, .buf I false, .buf .bool false], [.one (.ref (.ptr 0)), .one (.val I false), .one (.ref (.ptr 1)), .one (.val I false)]⟩⟩
def x8 : SS := ⟨[3, 4, 5], ⟨[.box [.val I false, .ref (.own 2), .ref (.own 3), .ref (.own 4)], .box [.val I false, .ref (.own 5), .ref (.own 6), .ref (.own 7)], .buf I false, .buf I false, .buf .bool false, .buf I false, .buf I false, .buf .bool false], [.one (.ref (.ptr 0)), .one (.val I false), .one (.ref (.ptr 1))]⟩⟩
def y8 : SS := ⟨[2], ⟨[], [.one (.val .bool false)]⟩⟩
noncomputable def b8 {β : Type} (S : Sl) (L : Int → Int → (List Int) → (List Int) → (List Bool) → (List Int) → (List Int) → (List Bool) → Int → Int → Option β) (kx : Int → Int → (List Int) → (List Int) → (List Bool) → (List Int) → (List Int) → (List Bool) → Int → Option β) (kr : Bool → Option β) (s0 : Int) (s1 : Int) (s2 : (List Int)) (s3 : (List Int)) (s4 : (List Bool)) (s5 : (List Int)) (s6 : (List Int)) (s7 : (List Bool)) (s8 : Int) (s9 : Int) : Option β := bif (S.lt s9 8) then (bif (!S.eq s9 s8) then (bif (S.ir s9 s5.length) then (bif (S.ir s9 s2.length) then (bif (!S.eq (List.getD s5 (Int.toNat s9) 0) (List.getD s2 (Int.toNat s9) 0)) then (kr false) else (bif (S.ir s9 s6.length) then (bif (S.ir s9 s3.length) then (bif (!S.eq (List.getD s6 (Int.toNat s9) 0) (List.getD s3 (Int.toNat s9) 0)) then (kr false) else (bif (S.ir s9 s7.length) then (bif (S.ir s9 s4.length) then (bif ((List.getD s7 (Int.toNat s9) false) != (List.getD s4 (Int.toNat s9) false)) then (kr false) else (L s0 s1 s2 s3 s4 s5 s6 s7 s8 (S.w (s9 + 1)))) else (none)) else (none))) else (none)) else (none))) else (none)) else (none)) else (L s0 s1 s2 s3 s4 s5 s6 s7 s8 (S.w (s9 + 1)))) else (kx s0 s1 s2 s3 s4 s5 s6 s7 s8)
noncomputable def r8 {β : Type} (S : Sl) (n : Nat) (kx : x8.sig.den → Option β) (kr : y8.sig.den → Option β) (s : h8.sig.den) : Option β := rounds (fun L kx kr s => b8 S (fun x0 x1 x2 x3 x4 x5 x6 x7 x8 x9 => L (((x0, ()), ((x1, ()), (x2, (x3, (x4, (x5, (x6, (x7, ())))))))), (x8, (x9, ())))) (fun x0 x1 x2 x3 x4 x5 x6 x7 x8 => kx (((x0, ()), ((x1, ()), (x2, (x3, (x4, (x5, (x6, (x7, ())))))))), (x8, ()))) (fun x0 => kr ((), (x0, ()))) s.1.1.1 s.1.2.1.1 s.1.2.2.1 s.1.2.2.2.1 s.1.2.2.2.2.1 s.1.2.2.2.2.2.1 s.1.2.2.2.2.2.2.1 s.1.2.2.2.2.2.2.2.1 s.2.1 s.2.2.1) kx kr n s
noncomputable def l8 {β : Type} (S : Sl) (n : Nat) (kx : Int → Int → (List Int) → (List Int) → (List Bool) → (List Int) → (List Int) → (List Bool) → Int → Option β) (kr : Bool → Option β) (s0 : Int) (s1 : Int) (s2 : (List Int)) (s3 : (List Int)) (s4 : (List Bool)) (s5 : (List Int)) (s6 : (List Int)) (s7 : (List Bool)) (s8 : Int) (s9 : Int) : Option β := r8 S n (fun s => kx s.1.1.1 s.1.2.1.1 s.1.2.2.1 s.1.2.2.2.1 s.1.2.2.2.2.1 s.1.2.2.2.2.2.1 s.1.2.2.2.2.2.2.1 s.1.2.2.2.2.2.2.2.1 s.2.1) (fun s => kr s.2.1) (((s0, ()), ((s1, ()), (s2, (s3, (s4, (s5, (s6, (s7, ())))))))), (s8, (s9, ())))
theorem t8 {β : Type} (S : Sl) (n : Nat) (kx : Int → Int → (List Int) → (List Int) → (List Bool) → (List Int) → (List Int) → (List Bool) → Int → Option β) (kr : Bool → Option β) (s0 : Int) (s1 : Int) (s2 : (List Int)) (s3 : (List Int)) (s4 : (List Bool)) (s5 : (List Int)) (s6 : (List Int)) (s7 : (List Bool)) (s8 : Int) (s9 : Int) : l8 S (n + 1) kx kr s0 s1 s2 s3 s4 s5 s6 s7 s8 s9 = b8 S (l8 S n kx kr) kx kr s0 s1 s2 s3 s4 s5 s6 s7 s8 s9 := by kernel_rfl
noncomputable def G {β : Type} (S : Sl) (a0 : (List Int)) (K : Bool → Option β) : Option β := bif (S.lt 1048576 (a0.length : Int)) then (K true) else (spec_DrawStripeLose.G S a0 (fun y1 y2 y3 y4 y5 => impl_StripeLose.G S y4 y1 y2 y3 y5 (fun y6 y7 y8 y9 => spec_StripeLose.G S y4 y1 y2 y3 y5 (fun y10 y11 y12 y13 => laws_lkStripe.G S y9 y6 y7 y8 y13 y10 y11 y12 (fun y14 => bif (!y14) then (spec_StripeLose.G S y4 y1 y2 y3 y5 (fun y15 y16 y17 y18 => laws_lkStripe.G S y9 y6 y7 y8 y18 y15 y16 y17 (fun y19 => K y19))) else (spec_StripeOk.G S y4 y1 y2 y3 (fun y20 => bif (!y20) then (spec_StripeLose.G S y4 y1 y2 y3 y5 (fun y21 y22 y23 y24 => laws_lkStripe.G S y9 y6 y7 y8 y24 y21 y22 y23 (fun y25 => K y25))) else (bif (S.le 8 y5) then (spec_StripeLose.G S y4 y1 y2 y3 y5 (fun y26 y27 y28 y29 => laws_lkStripe.G S y9 y6 y7 y8 y29 y26 y27 y28 (fun y30 => K y30))) else (l8 S S.n (fun y31 y32 y33 y34 y35 y36 y37 y38 y39 => impl_StripeRead.G S y31 y33 y34 y35 (fun y40 y41 y42 => impl_StripeRead.G S y32 y36 y37 y38 (fun y43 y44 y45 => bif (S.ir y39 y38.length) then (bif (!(List.getD y38 (Int.toNat y39) false)) then (impl_StripeLose.G S y32 y36 y37 y38 y39 (fun y46 y47 y48 y49 => laws_lkStripe.G S y49 y46 y47 y48 y32 y36 y37 y38 (fun y50 => bif y50 then (bif (S.le y44 y41) then (impl_StripeOk.G S y32 y36 y37 y38 (fun y51 => K y51)) else (K false)) else (K false)))) else (K false)) else (none)))) (fun y52 => K y52) y4 y9 y1 y2 y3 y6 y7 y8 y5 0)))))))))
noncomputable def o : Orac := ⟨9, sin, sout, fun s K => G sl0 s.2.1 (fun x0 => K ((), (x0, ())))⟩
noncomputable def C : Ctx := ⟨tyT, [impl_StripeLose.o, impl_StripeOk.o, impl_StripeRead.o, laws_lkStripe.o, spec_DrawStripeLose.o, spec_StripeLose.o, spec_StripeOk.o], [⟨8, 0, h8, x8, y8, fun s kx kr => r8 sl0 sl0.n kx kr s⟩], 124, 0⟩
theorem ctx : CtxOk Tryz.prog C := ⟨tyOk, all1 impl_StripeLose.ok (all1 impl_StripeOk.ok (all1 impl_StripeRead.ok (all1 laws_lkStripe.ok (all1 spec_DrawStripeLose.ok (all1 spec_StripeLose.ok (all1 spec_StripeOk.ok (all0)))))))⟩
theorem e8 (β : Type) (L : h8.sig.den → Option β) (kx : x8.sig.den → Option β) (kr : y8.sig.den → Option β) (s : h8.sig.den) : evalBody C (nthC (loopsOf (bodyC Tryz.f9)) 0) 0 h8 x8 y8 L kx kr s = b8 sl0 (fun x0 x1 x2 x3 x4 x5 x6 x7 x8 x9 => L (((x0, ()), ((x1, ()), (x2, (x3, (x4, (x5, (x6, (x7, ())))))))), (x8, (x9, ())))) (fun x0 x1 x2 x3 x4 x5 x6 x7 x8 => kx (((x0, ()), ((x1, ()), (x2, (x3, (x4, (x5, (x6, (x7, ())))))))), (x8, ()))) (fun x0 => kr ((), (x0, ()))) s.1.1.1 s.1.2.1.1 s.1.2.2.1 s.1.2.2.2.1 s.1.2.2.2.2.1 s.1.2.2.2.2.2.1 s.1.2.2.2.2.2.2.1 s.1.2.2.2.2.2.2.2.1 s.2.1 s.2.2.1 := by kernel_rfl
theorem g8 : LS Tryz.prog C ⟨8, 0, h8, x8, y8, fun s kx kr => r8 sl0 sl0.n kx kr s⟩ (loopsOf (bodyC Tryz.f9)) := LS.at (i := 0) (by kernel_rfl) (loop_good mixed ctx (ctx_nat ctx) (N := sl0.n) (fun _ _ _ _ => rfl) e8 (all1 (LS.none (by kernel_rfl)) (all0)))
theorem eG (β : Type) (s : sin.den) (K : sout.den → Option β) : evalFn C Tryz.f9 sin sout s K = o.F s K := by kernel_rfl
theorem ok : OracOk Tryz.prog o := fn_ok mixed Tryz.func9 (by kernel_rfl) ctx (c := bodyC Tryz.f9) (by kernel_rfl) (all1 g8 (all0)) (by kernel_rfl) (by kernel_rfl) (by kernel_rfl) (Nat.le_of_ble_eq_true (by kernel_rfl)) eG (by kernel_rfl) (Nat.le_of_ble_eq_true (by kernel_rfl))
end laws_FnLose
end Go.Proofs.YtechafkfchmggaaGreat.E
end
section
set_option linter.unusedVariables false
set_option linter.unusedSimpArgs false
namespace Go.Proofs.YtechafkfchmggaaGreat.E
open Go Go.RowKit
set_option linter.unusedVariables false
set_option maxRecDepth 100000
theorem read_lose {kind : Int} {vals vers : List Int} {there : List Bool} (h : stripeV kind vals vers there = true) {k : Nat} (hk8 : k < 8) : (readL kind (vers.set k 0) (there.set k false)).getD 0 ≤ (readL kind vers there).getD 0 := by
  obtain ⟨hk, hf, h1, h2, h3, ho⟩ := stripe_iff.1 h
  cases hr : readL kind (vers.set k 0) (there.set k false) with
  | none =>
    cases hw : readL kind vers there with
    | none => exact Int.le_refl _
    | some w => have := (readL_in h hw).1; show (0 : Int) ≤ w; omega
  | some v =>
    have hc := List.find?_some hr
    have hc' : covV kind vers there v = true := covL_mono (fun b hb => by
      obtain ⟨q1, q2, q3⟩ := ofL_mem'.1 hb
      rw [getD_set _ _ _ _ _ (by omega)] at q2 q3
      by_cases e : k = b
      · rw [if_pos e] at q2; cases q2
      · rw [if_neg e] at q2 q3
        exact ofL_mem'.2 ⟨q1, q2, q3⟩) hc
    obtain ⟨w, hw, hle⟩ := readL_ge hk hc'
    rw [hw]; exact hle
theorem lose_law_l {β : Type} {kind : Int} {vals vers : List Int} {there : List Bool} (h1 : vals.length = 8) (h2 : vers.length = 8) (h3 : there.length = 8) {k : Nat} (hk8 : k < 8) (kx : Int → Int → List Int → List Int → List Bool → List Int → List Int → List Bool → Int → Option β) (kr : Bool → Option β) (d : Nat) : ∀ (i n : Nat), i + d = 8 → d < n →
    laws_FnLose.l8 sl1 n kx kr kind kind vals vers there (vals.set k 0) (vers.set k 0) (there.set k false) (k : Int) (i : Int) = kx kind kind vals vers there (vals.set k 0) (vers.set k 0) (there.set k false) (k : Int) := by
  induction d with
  | zero =>
    intro i n hi hn
    obtain ⟨n, rfl⟩ : ∃ m, n = m + 1 := ⟨n - 1, by omega⟩
    rw [laws_FnLose.t8]; exact cF (ltF (by omega)) rfl
  | succ d ih =>
    intro i n hi hn
    obtain ⟨n, rfl⟩ : ∃ m, n = m + 1 := ⟨n - 1, by omega⟩
    have next := ih (i + 1) n (by omega) (by omega)
    rw [laws_FnLose.t8]
    unfold laws_FnLose.b8
    rw [w_succ (by omega)]
    simp only [getC]
    refine cT (ltT (by omega)) ?_
    by_cases e : i = k
    · exact cF (neF (by omega)) next
    · refine cT (neT (by omega)) ?_
      rw [getD_set _ _ _ _ _ (by omega), getD_set _ _ _ _ _ (by omega), getD_set _ _ _ _ _ (by omega), if_neg (fun h => e h.symm), if_neg (fun h => e h.symm), if_neg (fun h => e h.symm)]
      simp only [List.length_set]
      exact cT (irT (by omega) (by omega)) (cT (irT (by omega) (by omega)) (cF (neF rfl) (cT (irT (by omega) (by omega)) (cT (irT (by omega) (by omega)) (cF (neF rfl) (cT (irT (by omega) (by omega)) (cT (irT (by omega) (by omega)) (cF (bne_self_eq_false _) next))))))))
theorem drawLose {l : List Int} (hl : ∀ x ∈ l, 0 ≤ x ∧ x ≤ 255) : ∃ kind vals vers there at_, Sd kind vals vers there ∧ 0 ≤ at_ ∧ at_ ≤ 100 ∧ ∀ (β : Type) (K : List Int → List Int → List Bool → Int → Int → Option β), spec_DrawStripeLose.G sl1 l K = K vals vers there kind at_ := by
  obtain ⟨b, hb, ho⟩ := open_G hl
  obtain ⟨q, kind, vals, vers, there, q0, q1, hs, h⟩ := stripe_S hb (p := 0) (by omega) (by omega)
  obtain ⟨a, a0, a1, ea⟩ := pick_S hb (p := q) 8
  obtain ⟨c, c0, c1, ec⟩ := pick_S hb (p := q + 1) 24
  have t0 : 0 ≤ Int.tdiv c 23 := Int.tdiv_nonneg c0 (by omega)
  have t1 : Int.tdiv c 23 ≤ 1 := by rw [Int.tdiv_eq_ediv_of_nonneg c0]; omega
  refine ⟨kind, vals, vers, there, a + Int.tdiv c 23 * 8, hs, by omega, by omega, fun β K => (ho _ _).trans ((h _ _).trans ((ea _ _).trans ((ec _ _).trans ?_)))⟩
  rw [wE (a := Int.tdiv c 23) (by omega) (by omega), wE (a := Int.tdiv c 23 * 8) (by omega) (by omega), wE (by omega) (by omega)]
end Go.Proofs.YtechafkfchmggaaGreat.E
namespace Go.Proofs.YtechafkfchmggaaGreat.Pure.FnLose
open Go Go.Proofs.YtechafkfchmggaaGreat.E
theorem pure {β : Type} (l : List Int) (hl : ∀ x ∈ l, 0 ≤ x ∧ x ≤ 255) (K : Bool → Option β) : laws_FnLose.G sl1 l K = K true := by
  obtain ⟨kind, vals, vers, there, at_, hs, a0, a1, hd⟩ := drawLose hl
  have l1 := hs.l1
  have l2 := hs.l2
  have l3 := hs.l3
  have hlen : (loseV kind vals vers there at_).1.length ≤ 1000000 ∧ (loseV kind vals vers there at_).2.1.length ≤ 1000000 ∧ (loseV kind vals vers there at_).2.2.1.length ≤ 1000000 := by
    unfold loseV
    cases stripeV kind vals vers there && inV at_ 0 7
    · simp
    · simp only [cond_true, List.length_set]; omega
  have same := fun {γ : Type} (K : Bool → Option γ) => lkStripe_same (loseV kind vals vers there at_).2.2.2 hlen.1 hlen.2.1 hlen.2.2 K
  have spec := fun {γ : Type} (K : List Int → List Int → List Bool → Int → Option γ) => specLose_G kind (vals := vals) (vers := vers) (there := there) (by omega) at_ K
  unfold laws_FnLose.G
  by_cases h : 1048576 < (l.length : Int)
  · exact cT (ltT h) rfl
  refine cF (ltF (by omega)) ((hd _ _).trans ((implLose_G kind at_ _).trans ((spec _).trans ((same _).trans (cF rfl ((stripeOk_G kind vals vers there (by omega) _).trans ?_))))))
  cases cs : stripeV kind vals vers there
  · exact cT rfl ((spec _).trans (same _))
  refine cF rfl ?_
  by_cases c8 : 8 ≤ at_
  · exact cT (leT c8) ((spec _).trans (same _))
  obtain ⟨k, rfl⟩ := Int.eq_ofNat_of_zero_le a0
  have hk8 : k < 8 := by omega
  have eL : loseV kind vals vers there (k : Int) = (vals.set k 0, vers.set k 0, there.set k false, kind) := by
    unfold loseV
    rw [cs, inV_iff.2 ⟨by omega, by omega⟩, Int.toNat_natCast]; rfl
  have hx := stripe_lose cs hk8
  have eL2 : loseV kind (vals.set k 0) (vers.set k 0) (there.set k false) (k : Int) = (vals.set k 0, vers.set k 0, there.set k false, kind) := by
    unfold loseV
    rw [hx, inV_iff.2 ⟨by omega, by omega⟩, Int.toNat_natCast, List.set_set, List.set_set, List.set_set]; rfl
  obtain ⟨d, _, hr⟩ := stripeRead_E cs
  obtain ⟨d', _, hr'⟩ := stripeRead_E hx
  rw [eL]
  refine cF (leF (by omega)) ((lose_law_l l1 l2 l3 hk8 _ _ 8 0 sl1.n (by omega) (by rw [rounds_n]; omega)).trans ((hr _ _).trans ((hr' _ _).trans (cT (irT (by omega) (by rw [List.length_set]; omega)) ?_))))
  rw [getC false, getD_set _ _ _ _ _ (by omega), if_pos rfl]
  refine cT rfl ((implLose_G kind _ _).trans ?_)
  rw [eL2]
  refine (lkStripe_same kind (by rw [List.length_set]; omega) (by rw [List.length_set]; omega) (by rw [List.length_set]; omega) _).trans (cT rfl (cT (leT (read_lose cs hk8)) ((stripeI_G _ _ _ _ _).trans ?_)))
  rw [hx]
end Go.Proofs.YtechafkfchmggaaGreat.Pure.FnLose
end
section
set_option linter.unusedVariables false
set_option linter.unusedSimpArgs false
namespace Go.Proofs.YtechafkfchmggaaGreat.fnLose
open Go.ChangeShapes Go.WideShapes Go.ChangeAt Go.RowKit
open Go.ChangeMaps (open_string shut_string)
set_option linter.unusedVariables false
theorem own : ownKnob Tryz.prog.godebug = none := by kernel_rfl
theorem laidOut : laidOutB Tryz.prog = true := by kernel_rfl
set_option maxRecDepth 100000 in
theorem lifted (os : Os) (started : os.Started) (H : Type) (enc : TypeId × Value → H) :
    ReturnsInHanded {} Tryz.checked os 9 .any (Rows.fnLoseSpec.pre6 enc Tryz.prog Tryz.f9 Rows.fnLoseRow.domain false) (Rows.fnLoseSpec.post enc Tryz.prog Tryz.f9 false true false false) := by
  refine returnsInHanded_of_change_sized (C := Tryz.checked) own started (by kernel_rfl) Tryz.func9
    (ChangeSpec.witness6 (enc := enc) (C := Tryz.checked) false ⟨#[], #[.slice none 0 0], []⟩ 8 (by kernel_rfl) (by kernel_rfl) (by kernel_rfl) (by kernel_rfl)) ?_
  intro W base args ds gs before hval0 hW hcnd hsz0 _
  have hval : ∀ (j : Nat) t v, Tryz.f9.params[j]? = some t → args[j]? = some v → Value.okWide Tryz.prog W .any base t v := hval0
  have hW' := hW
  obtain ⟨p, q, hA0, hV, rfl, hfz, hnd⟩ := hW
  have hA : DataW.TrodAll enc Tryz.prog W 0 (fun _ => true) true Tryz.f9.params.toList args.toList ds p := hA0
  rw [Tryz.params9] at hA hval
  obtain ⟨v0, vs0, d0, ds0, p0, q0, hargs, rfl, rfl, h0, r0⟩ := trodAll_cons hA
  obtain ⟨rfl, rfl, rfl⟩ := trodAll_nil r0
  obtain rfl : args = #[v0] := by cases args; simp_all
  obtain ⟨rfl, rfl⟩ := trodVars_none hV
  obtain ⟨a0, len0, cap0, rfl⟩ := okWide_slice Tryz.underlying40 (hval 0 40 v0 rfl rfl)
  have k0 := h0
  have lt0 : ∀ x ∈ p0, x.block < W.heap.size := by obtain ⟨m, hm⟩ := k0; exact DataW.trod_lt m _ _ _ hm
  obtain ⟨z0, w0, b0⟩ : ∃ zs, E.IsRowK .u8 W a0 len0 cap0 zs ∧ (∀ x ∈ zs, (Lit.int .u8 x).wf = true) := by
    obtain ⟨fuel, hf⟩ := h0
    rcases open_ints Tryz.underlying40 Tryz.underlying5 (by kernel_rfl) hf with ⟨hcs, _⟩ | ⟨x, l, c, zs, hcs, _, hl, hm, hz, _, hcell, hwz⟩
    · simp [Value.cells] at hcs
      obtain ⟨rfl, rfl, rfl⟩ := hcs
      exact ⟨[], .inl ⟨rfl, rfl, rfl, rfl⟩, by simp⟩
    · simp [Value.cells] at hcs
      obtain ⟨rfl, rfl, rfl⟩ := hcs
      exact ⟨zs, .inr ⟨_, rfl, hl, by simpa using hz, hcell⟩, hwz⟩
  clear hA0 hval0 hsz0
  have hp := Pure.FnLose.pure (z0.take len0) (fun x hx => E.byte_wf (b0 x (List.mem_of_mem_take hx))) (fun b => some ((), (b, ())))
  rw [← E.sl_eq] at hp
  refine (E.law_bytes E.laws_FnLose.ok w0 hp).mono fun e W' ⟨he, bel⟩ => ?_
  subst he
  exact ⟨_, rfl, _, _, _, [], _, [], hW', trodAll_mk1 (shut_bool Tryz.underlying4 _), (trodAll_cons_mk (Below.trod laidOut (by kernel_rfl) (of_decide_eq_true (by kernel_rfl)) k0 bel lt0) trodAll_mk0), rfl, bel.frame _, fun h => by cases h⟩
theorem closed : joinedFacts Tryz.prog 9 Tryz.f9 Rows.fnLoseSpec Rows.fnLoseRow = true := by
  unfold joinedFacts
  rw [Head.make, Head.final, Head.enter]
  kernel_rfl
theorem over : Rows.fnLoseRow.holds Tryz.pinned (OpenSpec.ofChange Rows.fnLoseSpec) :=
  OpenClaim.holds_of_wide 9 Tryz.f9 rfl rfl rfl rfl rfl rfl rfl ⟨rfl, rfl, rfl, rfl, rfl⟩ rfl rfl rfl rfl rfl (by kernel_rfl) Tryz.func9 closed
    (of_decide_eq_true (by kernel_rfl)) (by unfold Func.isWrapper; first | (rw [if_pos (by decide +kernel)]; kernel_rfl) | (rw [if_neg (by decide +kernel)]; exact ⟨rfl, rfl⟩))
    (fun os started H enc _ => lifted os started H enc)
theorem proved : Rows.FnLoseSaid := over
#print axioms proved
end Go.Proofs.YtechafkfchmggaaGreat.fnLose
end
