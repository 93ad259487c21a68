/- Part 1 of the proof of the statement FnWriteAll; the last part states it. No condition. -/
import Derived.Test.YtnbighmbgmjbkaaGreatRows
import Derived.WalkKit
import Derived.ProofKit
import Derived.OpenShut
import Derived.ShutString
import Derived.ChangeOld
import Derived.Below
import Derived.SizedLaws
import Derived.Test.YtnbighmbgmjbkaaGreatMGN2
import Derived.Test.YtnbighmbgmjbkaaGreatMGN3
import Derived.Test.YtnbighmbgmjbkaaGreatMGN4
import Derived.Test.YtnbighmbgmjbkaaGreatMGN5
import Derived.Test.YtnbighmbgmjbkaaGreatMGN21
section
set_option linter.unusedVariables false
set_option linter.unusedSimpArgs false
namespace Go.Proofs.YtnbighmbgmjbkaaGreat.E
open Go Go.RowKit
set_option linter.unusedVariables false
set_option maxRecDepth 100000
namespace impl_StripeTop
def sin : Sig := ⟨[], [.agg [.val I false, .val (.sl I) false, .val (.sl I) false, .val (.sl .bool) false]]⟩
def sout : Sig := ⟨[], [.one (.val I false)]⟩
noncomputable def G {β : Type} (S : Sl) (a0 : Int) (a1 : (List Int)) (a2 : (List Int)) (a3 : (List Bool)) (K : Int → Option β) : Option β := impl_StripeOk.G S a0 a1 a2 a3 (fun y1 => bif (!y1) then (K (-1)) else (impl_Stripe_top.G S a0 a1 a2 a3 (fun y2 => K y2)))
noncomputable def o : Orac := ⟨27, sin, sout, fun s K => G sl0 s.2.1.1 s.2.1.2.1 s.2.1.2.2.1 s.2.1.2.2.2.1 (fun x0 => K ((), (x0, ())))⟩
noncomputable def C : Ctx := ⟨tyT, [impl_StripeOk.o, impl_Stripe_top.o], [], 8, 0⟩
theorem ctx : CtxOk Tryz.prog C := ⟨tyOk, all1 impl_StripeOk.ok (all1 impl_Stripe_top.ok (all0))⟩
theorem eG (β : Type) (s : sin.den) (K : sout.den → Option β) : evalFn C Tryz.f27 sin sout s K = o.F s K := by kernel_rfl
theorem ok : OracOk Tryz.prog o := fn_ok mixed Tryz.func27 (by kernel_rfl) ctx (c := bodyC Tryz.f27) (by kernel_rfl) (all0) (by kernel_rfl) (by kernel_rfl) (by kernel_rfl) (Nat.le_of_ble_eq_true (by kernel_rfl)) eG (by kernel_rfl) (Nat.le_of_ble_eq_true (by kernel_rfl))
end impl_StripeTop
end Go.Proofs.YtnbighmbgmjbkaaGreat.E
end
section
set_option linter.unusedVariables false
set_option linter.unusedSimpArgs false
namespace Go.Proofs.YtnbighmbgmjbkaaGreat.E
open Go Go.RowKit
set_option linter.unusedVariables false
set_option maxRecDepth 100000
namespace laws_lkThere
def sin : Sig := ⟨[], [.one (.val I false)]⟩
def sout : Sig := ⟨[.buf .bool false], [.one (.ref (.own 0))]⟩
def h3 : SS := ⟨[0, 3, 4], ⟨[.buf .bool false], [.one (.val I false), .one (.ref (.own 0)), .one (.val I false)]⟩⟩
def x3 : SS := ⟨[3], ⟨[.buf .bool false], [.one (.ref (.own 0))]⟩⟩
def y3 : SS := ⟨[], ⟨[], []⟩⟩
noncomputable def b3 {β : Type} (S : Sl) (L : (List Bool) → Int → Int → Option β) (kx : (List Bool) → Option β) (kr : Option β) (s0 : (List Bool)) (s1 : Int) (s2 : Int) : Option β := bif (S.lt s2 8) then (bif (S.fw (s0 ++ [(S.eq (Int.tmod s1 2) 1)]).length) then (L (s0 ++ [(S.eq (Int.tmod s1 2) 1)]) (S.w (Int.tdiv s1 2)) (S.w (s2 + 1))) else (none)) else (kx s0)
noncomputable def r3 {β : Type} (S : Sl) (n : Nat) (kx : x3.sig.den → Option β) (kr : y3.sig.den → Option β) (s : h3.sig.den) : Option β := rounds (fun L kx kr s => b3 S (fun x0 x1 x2 => L ((x0, ()), (x1, (x2, ())))) (fun x0 => kx ((x0, ()), ())) (kr ((), ())) s.1.1 s.2.1 s.2.2.1) kx kr n s
noncomputable def l3 {β : Type} (S : Sl) (n : Nat) (kx : (List Bool) → Option β) (kr : Option β) (s0 : (List Bool)) (s1 : Int) (s2 : Int) : Option β := r3 S n (fun s => kx s.1.1) (fun s => kr) ((s0, ()), (s1, (s2, ())))
theorem t3 {β : Type} (S : Sl) (n : Nat) (kx : (List Bool) → Option β) (kr : Option β) (s0 : (List Bool)) (s1 : Int) (s2 : Int) : l3 S (n + 1) kx kr s0 s1 s2 = b3 S (l3 S n kx kr) kx kr s0 s1 s2 := by kernel_rfl
noncomputable def G {β : Type} (S : Sl) (a0 : Int) (K : (List Bool) → Option β) : Option β := l3 S S.n (fun y1 => K y1) none [] a0 0
noncomputable def o : Orac := ⟨58, sin, sout, fun s K => G sl0 s.2.1 (fun x0 => K ((x0, ()), ()))⟩
noncomputable def C : Ctx := ⟨tyT, [], [⟨3, 0, h3, x3, y3, fun s kx kr => r3 sl0 sl0.n kx kr s⟩], 19, 0⟩
theorem ctx : CtxOk Tryz.prog C := ⟨tyOk, all0⟩
theorem e3 (β : Type) (L : h3.sig.den → Option β) (kx : x3.sig.den → Option β) (kr : y3.sig.den → Option β) (s : h3.sig.den) : evalBody C (nthC (loopsOf (bodyC Tryz.f58)) 0) 0 h3 x3 y3 L kx kr s = b3 sl0 (fun x0 x1 x2 => L ((x0, ()), (x1, (x2, ())))) (fun x0 => kx ((x0, ()), ())) (kr ((), ())) s.1.1 s.2.1 s.2.2.1 := by kernel_rfl
theorem g3 : LS Tryz.prog C ⟨3, 0, h3, x3, y3, fun s kx kr => r3 sl0 sl0.n kx kr s⟩ (loopsOf (bodyC Tryz.f58)) := LS.at (i := 0) (by kernel_rfl) (loop_good mixed ctx (ctx_nat ctx) (N := sl0.n) (fun _ _ _ _ => rfl) e3 (all1 (LS.none (by kernel_rfl)) (all0)))
theorem eG (β : Type) (s : sin.den) (K : sout.den → Option β) : evalFn C Tryz.f58 sin sout s K = o.F s K := by kernel_rfl
theorem ok : OracOk Tryz.prog o := fn_ok mixed Tryz.func58 (by kernel_rfl) ctx (c := bodyC Tryz.f58) (by kernel_rfl) (all1 g3 (all0)) (by kernel_rfl) (by kernel_rfl) (by kernel_rfl) (Nat.le_of_ble_eq_true (by kernel_rfl)) eG (by kernel_rfl) (Nat.le_of_ble_eq_true (by kernel_rfl))
end laws_lkThere
end Go.Proofs.YtnbighmbgmjbkaaGreat.E
end
section
set_option linter.unusedVariables false
set_option linter.unusedSimpArgs false
namespace Go.Proofs.YtnbighmbgmjbkaaGreat.E
open Go Go.RowKit
set_option linter.unusedVariables false
set_option maxRecDepth 100000
namespace spec_DrawStripeWrite
def sin : Sig := ⟨[], [.one (.val (.sl (.int .u8)) false)]⟩
def sout : Sig := ⟨[.buf I false, .buf I false, .buf .bool false, .buf .bool false], [.agg [.val I false, .ref (.own 0), .ref (.own 1), .ref (.own 2)], .one (.val (.sl I) false), .one (.ref (.own 3))]⟩
noncomputable def G {β : Type} (S : Sl) (a0 : (List Int)) (K : (List Int) → (List Int) → (List Bool) → (List Bool) → Int → (List Int) → Option β) : Option β := spec_l6Open.G S a0 (fun y1 y2 => spec_l92Stripe.G S y1 y2 (fun y3 y4 y5 y6 y7 y8 => spec_l91Vec.G S y3 y4 (fun y9 y10 y11 => spec_l92Which.G S y9 y10 (fun y12 y13 y14 => K y5 y6 y7 y14 y8 y11))))
noncomputable def o : Orac := ⟨20, sin, sout, fun s K => G sl0 s.2.1 (fun x0 x1 x2 x3 x4 x5 => K ((x0, (x1, (x2, (x3, ())))), ((x4, ()), (x5, ()))))⟩
noncomputable def C : Ctx := ⟨tyT, [spec_l6Open.o, spec_l91Vec.o, spec_l92Stripe.o, spec_l92Which.o], [], 14, 0⟩
theorem ctx : CtxOk Tryz.prog C := ⟨tyOk, all1 spec_l6Open.ok (all1 spec_l91Vec.ok (all1 spec_l92Stripe.ok (all1 spec_l92Which.ok (all0))))⟩
theorem eG (β : Type) (s : sin.den) (K : sout.den → Option β) : evalFn C Tryz.f20 sin sout s K = o.F s K := by kernel_rfl
theorem ok : OracOk Tryz.prog o := fn_ok mixed Tryz.func20 (by kernel_rfl) ctx (c := bodyC Tryz.f20) (by kernel_rfl) (all0) (by kernel_rfl) (by kernel_rfl) (by kernel_rfl) (Nat.le_of_ble_eq_true (by kernel_rfl)) eG (by kernel_rfl) (Nat.le_of_ble_eq_true (by kernel_rfl))
end spec_DrawStripeWrite
end Go.Proofs.YtnbighmbgmjbkaaGreat.E
end
section
set_option linter.unusedVariables false
set_option linter.unusedSimpArgs false
namespace Go.Proofs.YtnbighmbgmjbkaaGreat.E
open Go Go.RowKit
set_option linter.unusedVariables false
set_option maxRecDepth 100000
namespace laws_FnWriteAll
def sin : Sig := ⟨[], [.one (.val (.sl (.int .u8)) false)]⟩
def sout : Sig := ⟨[], [.one (.val .bool false)]⟩
noncomputable def G {β : Type} (S : Sl) (a0 : (List Int)) (K : Bool → Option β) : Option β := bif (S.lt 1048576 (a0.length : Int)) then (K true) else (spec_DrawStripeWrite.G S a0 (fun y1 y2 y3 y4 y5 y6 => spec_StripeWrite.G S y5 y1 y2 y3 y6 y4 (fun y7 y8 y9 y10 y11 => impl_StripeWrite.G S y5 y1 y2 y3 y6 y4 (fun y12 y13 y14 y15 y16 => bif (y16 != y11) then (bif (y16 == y11) then (laws_lkStripe.G S y15 y12 y13 y14 y10 y7 y8 y9 (fun y17 => K y17)) else (K false)) else (laws_lkStripe.G S y15 y12 y13 y14 y10 y7 y8 y9 (fun y18 => bif (!y18) then (bif (y16 == y11) then (laws_lkStripe.G S y15 y12 y13 y14 y10 y7 y8 y9 (fun y19 => K y19)) else (K false)) else (bif (!y16) then (bif (y16 == y11) then (laws_lkStripe.G S y15 y12 y13 y14 y10 y7 y8 y9 (fun y20 => K y20)) else (K false)) else (laws_lkThere.G S 255 (fun y21 => impl_StripeWrite.G S y5 y1 y2 y3 y6 y21 (fun y22 y23 y24 y25 y26 => impl_StripeTop.G S y5 y1 y2 y3 (fun y27 => impl_StripeNew.G S y5 y6 (S.w (y27 + 1)) (fun y28 y29 y30 y31 y32 => bif y26 then (bif y32 then (laws_lkStripe.G S y25 y22 y23 y24 y31 y28 y29 y30 (fun y33 => bif y33 then (impl_StripeTop.G S y15 y12 y13 y14 (fun y34 => impl_StripeTop.G S y5 y1 y2 y3 (fun y35 => K (S.le y34 (S.w (y35 + 1)))))) else (K false))) else (K false)) else (K false)))))))))))))
noncomputable def o : Orac := ⟨12, sin, sout, fun s K => G sl0 s.2.1 (fun x0 => K ((), (x0, ())))⟩
noncomputable def C : Ctx := ⟨tyT, [impl_StripeNew.o, impl_StripeTop.o, impl_StripeWrite.o, laws_lkStripe.o, laws_lkThere.o, spec_DrawStripeWrite.o, spec_StripeWrite.o], [], 92, 0⟩
theorem ctx : CtxOk Tryz.prog C := ⟨tyOk, all1 impl_StripeNew.ok (all1 impl_StripeTop.ok (all1 impl_StripeWrite.ok (all1 laws_lkStripe.ok (all1 laws_lkThere.ok (all1 spec_DrawStripeWrite.ok (all1 spec_StripeWrite.ok (all0)))))))⟩
theorem eG (β : Type) (s : sin.den) (K : sout.den → Option β) : evalFn C Tryz.f12 sin sout s K = o.F s K := by kernel_rfl
theorem ok : OracOk Tryz.prog o := fn_ok mixed Tryz.func12 (by kernel_rfl) ctx (c := bodyC Tryz.f12) (by kernel_rfl) (all0) (by kernel_rfl) (by kernel_rfl) (by kernel_rfl) (Nat.le_of_ble_eq_true (by kernel_rfl)) eG (by kernel_rfl) (Nat.le_of_ble_eq_true (by kernel_rfl))
end laws_FnWriteAll
end Go.Proofs.YtnbighmbgmjbkaaGreat.E
end
section
set_option linter.unusedVariables false
set_option linter.unusedSimpArgs false
namespace Go.Proofs.YtnbighmbgmjbkaaGreat.E
open Go Go.RowKit
set_option linter.unusedVariables false
set_option maxRecDepth 100000
theorem drawWrite {l : List Int} (hl : ∀ x ∈ l, 0 ≤ x ∧ x ≤ 255) : ∃ kind vals vers there which data, Sd kind vals vers there ∧ which.length = 8 ∧ data.length ≤ 4 ∧ ∀ (β : Type) (K : List Int → List Int → List Bool → List Bool → Int → List Int → Option β), spec_DrawStripeWrite.G sl1 l K = K vals vers there which kind data := by
 obtain ⟨b, hb, ho⟩ := open_G hl
 obtain ⟨q, kind, vals, vers, there, q0, q1, hs, h⟩ := stripe_S hb (p := 0) (by omega) (by omega)
 obtain ⟨d, q', d4, q2, q3, hd⟩ := vec_S hb (p := q) (by omega) (by omega)
 obtain ⟨w, q'', _, _, hw, h'⟩ := which_G hb (p := q') (by omega) (by omega)
 exact ⟨kind, vals, vers, there, w, d, hs, hw, d4, fun β K => (ho _ _).trans ((h _ _).trans ((hd _ _).trans (h' _ _)))⟩
theorem writeV_le {kind : Int} {vals vers : List Int} {there : List Bool} {data : List Int} {which : List Bool} (h1 : vals.length = 8) (h2 : vers.length = 8) (h3 : there.length = 8) :
  (writeV kind vals vers there data which).1.1.length ≤ 8 ∧ (writeV kind vals vers there data which).1.2.1.length ≤ 8 ∧ (writeV kind vals vers there data which).1.2.2.length ≤ 8 := by
 cases ho : (writeV kind vals vers there data which).2.2
 ·unfold writeV at ho ⊢
  split at ho
  ·simp
  ·exact ⟨Nat.le_of_eq h1, Nat.le_of_eq h2, Nat.le_of_eq h3⟩
  ·cases ho
 ·obtain ⟨e, _⟩ := writeV_ok ho
  rw [e]
  have l : ∀ (n i : Nat) (a b : List Int) (c : List Bool) (v : Int), a.length = 8 → b.length = 8 → c.length = 8 → (writeF kind data which v n i a b c).1.length = 8 ∧ (writeF kind data which v n i a b c).2.1.length = 8 ∧ (writeF kind data which v n i a b c).2.2.length = 8 := by
   intro n
   induction n with
   | zero => intro i a b c v ha hb hc; exact ⟨ha, hb, hc⟩
   | succ n ih =>
    intro i a b c v ha hb hc
    unfold writeF
    cases which.getD i false
    ·exact ih (i + 1) a b c v ha hb hc
    ·exact ih (i + 1) _ _ _ v (by rw [List.length_set]; exact ha) (by rw [List.length_set]; exact hb) (by rw [List.length_set]; exact hc)
  obtain ⟨k1, k2, k3⟩ := l 8 0 vals vers there (topV vers 0 + 1) h1 h2 h3
  exact ⟨Nat.le_of_eq k1, Nat.le_of_eq k2, Nat.le_of_eq k3⟩
end Go.Proofs.YtnbighmbgmjbkaaGreat.E
end
section
set_option linter.unusedVariables false
set_option linter.unusedSimpArgs false
namespace Go.Proofs.YtnbighmbgmjbkaaGreat.E
open Go Go.RowKit
set_option linter.unusedVariables false
set_option maxRecDepth 100000
theorem written_read {kind : Int} {vals vers : List Int} {there : List Bool} (h : stripeV kind vals vers there = true) {data : List Int} (hd : vecV data = true) {which : List Bool} (ht : topV vers 0 < 99) (hc : covL kind (thereL which 0 8) = true) :
  readL kind (writeF kind data which (topV vers 0 + 1) 8 0 vals vers there).2.1 (writeF kind data which (topV vers 0 + 1) 8 0 vals vers there).2.2 = some (topV vers 0 + 1) ∧
  Told1 kind (writeF kind data which (topV vers 0 + 1) 8 0 vals vers there).1 (writeF kind data which (topV vers 0 + 1) 8 0 vals vers there).2.1 (writeF kind data which (topV vers 0 + 1) 8 0 vals vers there).2.2 (topV vers 0 + 1) data := by
 obtain ⟨hk, hf, h1, h2, h3, ho⟩ := stripe_iff.1 h
 obtain ⟨l1, l2, l3, g⟩ := writeF_at (kind := kind) (data := data) (which := which) (v := topV vers 0 + 1) 8 0 vals vers there (by omega) h1 h2 h3
 have old : ∀ a, a < 8 → ¬(0 ≤ a ∧ which.getD a false = true) → vers.getD a 0 < topV vers 0 + 1 := fun a ha _ => by have := ver_le (vers := vers) (a := a) (by omega); omega
 have cov : covV kind (writeF kind data which (topV vers 0 + 1) 8 0 vals vers there).2.1 (writeF kind data which (topV vers 0 + 1) 8 0 vals vers there).2.2 (topV vers 0 + 1) = true := covL_mono (fun b hb => by
  obtain ⟨q1, q2⟩ := thereL_mem.1 hb
  obtain ⟨_, g2, g3⟩ := g b q1
  rw [if_pos ⟨Nat.zero_le _, q2⟩] at g2 g3
  exact ofL_mem'.2 ⟨q1, g3, g2⟩) hc
 refine ⟨?_, vec_V4 hd, fun a ha => ?_⟩
 ·obtain ⟨w, hw, hle⟩ := readL_ge hk cov
  rw [hw]
  obtain ⟨a, ha, ta, va⟩ := versL_mem.1 (List.mem_of_find?_eq_some hw)
  rw [(g a ha).2.1] at va
  by_cases c : 0 ≤ a ∧ which.getD a false = true
  ·rw [if_pos c] at va; rw [va]
  ·rw [if_neg c] at va
   have := old a ha c; omega
 ·obtain ⟨q1, q2, q3⟩ := ofL_mem'.1 ha
  obtain ⟨g1, g2, _⟩ := g a q1
  by_cases c : 0 ≤ a ∧ which.getD a false = true
  ·rw [g1, if_pos c]
   exact allV_at hk (vec_V4 hd) q1
  ·rw [g2, if_neg c] at q3
   have := old a q1 c; omega
theorem cov_all {kind : Int} (hk : kind = 1 ∨ kind = 2) : covL kind (thereL (List.replicate 8 true) 0 8) = true := by
 rcases hk with rfl | rfl <;> rfl
theorem top_99 {kind : Int} {vals vers : List Int} {there : List Bool} (h : stripeV kind vals vers there = true) : topV vers 0 ≤ 99 := by
 obtain ⟨hk, hf, h1, h2, h3, ho⟩ := stripe_iff.1 h
 refine topV_le vers 0 (by omega) fun x hx => ?_
 obtain ⟨a, ha, rfl⟩ := List.getElem_of_mem hx
 have e : vers.getD a 0 = vers[a] := by rw [List.getD_eq_getElem?_getD, List.getElem?_eq_getElem ha]; rfl
 have := ho a (by omega)
 rw [e] at this
 cases ct : there.getD a false
 ·have := (this.2 ct).2; omega
 ·exact ((this.1 ct).1).2
end Go.Proofs.YtnbighmbgmjbkaaGreat.E
end
section
set_option linter.unusedVariables false
set_option linter.unusedSimpArgs false
namespace Go.Proofs.YtnbighmbgmjbkaaGreat.E
open Go Go.RowKit
set_option linter.unusedVariables false
theorem stripeTop_G {β : Type} {kind : Int} {vals vers : List Int} {there : List Bool} (h : stripeV kind vals vers there = true) (K : Int → Option β) : impl_StripeTop.G sl1 kind vals vers there K = K (topV vers 0) := by
 unfold impl_StripeTop.G
 refine (stripeI_G kind vals vers there _).trans ?_
 rw [h]
 exact cF rfl (topI_G h _)
end Go.Proofs.YtnbighmbgmjbkaaGreat.E
end
section
set_option linter.unusedVariables false
set_option linter.unusedSimpArgs false
namespace Go.Proofs.YtnbighmbgmjbkaaGreat.E
open Go Go.RowKit
set_option linter.unusedVariables false
set_option maxRecDepth 100000
theorem lkAll_G {β : Type} (K : List Bool → Option β) : laws_lkThere.G sl1 255 K = K (List.replicate 8 true) := by
 refine keq ?_
 kernel_rfl
theorem write_all {kind : Int} {data : List Int} {v : Int} {vals vers : List Int} {there : List Bool} (h1 : vals.length = 8) (h2 : vers.length = 8) (h3 : there.length = 8) :
  writeF kind data (List.replicate 8 true) v 8 0 vals vers there = (allV kind data, List.replicate 8 v, List.replicate 8 true) := by
 obtain ⟨q1, q2, q3, g⟩ := writeF_at (kind := kind) (data := data) (which := List.replicate 8 true) (v := v) 8 0 vals vers there (by omega) h1 h2 h3
 have c : ∀ j, j < 8 → (0 ≤ j ∧ (List.replicate 8 true).getD j false = true) := fun j hj => ⟨Nat.zero_le _, rep8 _ _ hj⟩
 refine Prod.ext ?_ (Prod.ext ?_ ?_)
 ·exact ext8 0 q1 (allV_len _ _) fun j hj => by rw [(g j hj).1, if_pos (c j hj)]
 ·exact ext8 0 q2 (by simp) fun j hj => by rw [(g j hj).2.1, if_pos (c j hj), rep8 _ _ hj]
 ·exact ext8 false q3 (by simp) fun j hj => by rw [(g j hj).2.2, if_pos (c j hj), rep8 _ _ hj]
end Go.Proofs.YtnbighmbgmjbkaaGreat.E
namespace Go.Proofs.YtnbighmbgmjbkaaGreat.Pure.FnWriteAll
open Go Go.Proofs.YtnbighmbgmjbkaaGreat.E
theorem pure {β : Type} (l : List Int) (hl : ∀ x ∈ l, 0 ≤ x ∧ x ≤ 255) (K : Bool → Option β) : laws_FnWriteAll.G sl1 l K = K true := by
 obtain ⟨kind, vals, vers, there, which, data, hs, hw, h4, hd⟩ := drawWrite hl
 have l1 := hs.l1
 have l2 := hs.l2
 have l3 := hs.l3
 unfold laws_FnWriteAll.G
 by_cases h : 1048576 < (l.length : Int)
 ·exact cT (ltT h) rfl
 obtain ⟨m1, m2, m3⟩ := writeV_le (kind := kind) (data := data) (which := which) l1 l2 l3
 have same := fun {γ : Type} (K : Bool → Option γ) => lkStripe_same (writeV kind vals vers there data which).2.1 (Nat.le_trans m1 (by omega)) (Nat.le_trans m2 (by omega)) (Nat.le_trans m3 (by omega)) K
 refine cF (ltF (by omega)) ((hd _ _).trans ((write_G kind vals vers there data which (by omega) (by omega) _).trans ((implWrite_G kind vals vers there data which (by omega) _).trans (cF (bne_self_eq_false _) ((same _).trans (cF rfl ?_))))))
 cases ok : (writeV kind vals vers there data which).2.2
 ·exact cT rfl (cT rfl (same _))
 obtain ⟨e, cs, cd, _, ht⟩ := writeV_ok ok
 obtain ⟨hk, hf, h1, h2, h3, _⟩ := stripe_iff.1 cs
 have hx := stripe_write cs cd ht (which := which)
 have t0 := (topV_ge vers 0).1
 have ea : writeV kind vals vers there data (List.replicate 8 true) = ((allV kind data, List.replicate 8 (topV vers 0 + 1), List.replicate 8 true), kind, true) := by
  unfold writeV
  rw [cs, cd, decide_eq_true (show (List.replicate 8 true).length = 8 by simp), decide_eq_false (show ¬ 99 ≤ topV vers 0 by omega)]
  rw [← write_all (kind := kind) (data := data) (v := topV vers 0 + 1) h1 h2 h3]; rfl
 have hn : newOk kind data (topV vers 0 + 1) = true := newOk_iff.2 ⟨hk, cd, by omega, by omega⟩
 have la := allV_len kind data
 rw [e]
 refine cF rfl ((lkAll_G _).trans ((implWrite_G kind vals vers there data (List.replicate 8 true) (by omega) _).trans ((stripeTop_G cs _).trans ?_)))
 rw [ea, wE (by omega) (by omega)]
 refine (newI_G kind _ (by omega) _).trans ?_
 rw [hn]
 refine cT rfl (cT rfl (cT rfl ((lkStripe_same kind (show (allV kind data).length ≤ 1000000 by omega) (by simp) (by simp) _).trans (cT rfl ((stripeTop_G hx _).trans ((stripeTop_G cs _).trans ?_))))))
 rw [wE (by omega) (by omega)]
 refine congrArg K (leT ?_)
 obtain ⟨q1, q2, q3, g⟩ := writeF_at (kind := kind) (data := data) (which := which) (v := topV vers 0 + 1) 8 0 vals vers there (by omega) h1 h2 h3
 refine topV_le _ 0 (by omega) fun x hxm => ?_
 obtain ⟨j, hj, rfl⟩ := List.getElem_of_mem hxm
 have ej : (writeF kind data which (topV vers 0 + 1) 8 0 vals vers there).2.1.getD j 0 = (writeF kind data which (topV vers 0 + 1) 8 0 vals vers there).2.1[j] := by rw [List.getD_eq_getElem?_getD, List.getElem?_eq_getElem hj]; rfl
 rw [← ej, (g j (by omega)).2.1]
 have := ver_le (vers := vers) (a := j) (by omega)
 split <;> omega
end Go.Proofs.YtnbighmbgmjbkaaGreat.Pure.FnWriteAll
end
section
set_option linter.unusedVariables false
set_option linter.unusedSimpArgs false
namespace Go.Proofs.YtnbighmbgmjbkaaGreat.fnWriteAll
open Go.ChangeShapes Go.WideShapes Go.ChangeAt Go.RowKit
open Go.ChangeMaps (open_string shut_string)
set_option linter.unusedVariables false
theorem own : ownKnob Tryz.prog.godebug = none := by kernel_rfl
theorem laidOut : laidOutB Tryz.prog = true := by kernel_rfl
set_option maxRecDepth 100000 in
theorem lifted (os : Os) (started : os.Started) (H : Type) (enc : TypeId × Value → H) :
  ReturnsInHanded {} Tryz.checked os 12 .any (Rows.fnWriteAllSpec.pre6 enc Tryz.prog Tryz.f12 Rows.fnWriteAllRow.domain false) (Rows.fnWriteAllSpec.post enc Tryz.prog Tryz.f12 false true false false) := by
 refine returnsInHanded_of_change_sized (C := Tryz.checked) own started (by kernel_rfl) Tryz.func12
  (ChangeSpec.witness6 (enc := enc) (C := Tryz.checked) false ⟨#[], #[.slice none 0 0], []⟩ 8 (by kernel_rfl) (by kernel_rfl) (by kernel_rfl) (by kernel_rfl)) ?_
 intro W base args ds gs before hval0 hW hcnd hsz0 _
 have hval : ∀ (j : Nat) t v, Tryz.f12.params[j]? = some t → args[j]? = some v → Value.okWide Tryz.prog W .any base t v := hval0
 have hW' := hW
 obtain ⟨p, q, hA0, hV, rfl, hfz, hnd⟩ := hW
 have hA : DataW.TrodAll enc Tryz.prog W 0 (fun _ => true) true Tryz.f12.params.toList args.toList ds p := hA0
 rw [Tryz.params12] at hA hval
 obtain ⟨v0, vs0, d0, ds0, p0, q0, hargs, rfl, rfl, h0, r0⟩ := trodAll_cons hA
 obtain ⟨rfl, rfl, rfl⟩ := trodAll_nil r0
 obtain rfl : args = #[v0] := by cases args; simp_all
 obtain ⟨rfl, rfl⟩ := trodVars_none hV
 obtain ⟨a0, len0, cap0, rfl⟩ := okWide_slice Tryz.underlying22 (hval 0 22 v0 rfl rfl)
 have k0 := h0
 have lt0 : ∀ x ∈ p0, x.block < W.heap.size := by obtain ⟨m, hm⟩ := k0; exact DataW.trod_lt m _ _ _ hm
 obtain ⟨z0, w0, b0⟩ : ∃ zs, E.IsRowK .u8 W a0 len0 cap0 zs ∧ (∀ x ∈ zs, (Lit.int .u8 x).wf = true) := by
  obtain ⟨fuel, hf⟩ := h0
  rcases open_ints Tryz.underlying22 Tryz.underlying5 (by kernel_rfl) hf with ⟨hcs, _⟩ | ⟨x, l, c, zs, hcs, _, hl, hm, hz, _, hcell, hwz⟩
  ·simp [Value.cells] at hcs
   obtain ⟨rfl, rfl, rfl⟩ := hcs
   exact ⟨[], .inl ⟨rfl, rfl, rfl, rfl⟩, by simp⟩
  ·simp [Value.cells] at hcs
   obtain ⟨rfl, rfl, rfl⟩ := hcs
   exact ⟨zs, .inr ⟨_, rfl, hl, by simpa using hz, hcell⟩, hwz⟩
 clear hA0 hval0 hsz0
 have hp := Pure.FnWriteAll.pure (z0.take len0) (fun x hx => E.byte_wf (b0 x (List.mem_of_mem_take hx))) (fun b => some ((), (b, ())))
 rw [← E.sl_eq] at hp
 refine (E.law_bytes E.laws_FnWriteAll.ok w0 hp).mono fun e W' ⟨he, bel⟩ => ?_
 subst he
 exact ⟨_, rfl, _, _, _, [], _, [], hW', trodAll_mk1 (shut_bool Tryz.underlying4 _), (trodAll_cons_mk (Below.trod laidOut (by kernel_rfl) (of_decide_eq_true (by kernel_rfl)) k0 bel lt0) trodAll_mk0), rfl, bel.frame _, fun h => by cases h⟩
theorem closed : joinedFacts Tryz.prog 12 Tryz.f12 Rows.fnWriteAllSpec Rows.fnWriteAllRow = true := by
 unfold joinedFacts
 rw [Head.make, Head.final, Head.enter]
 kernel_rfl
theorem over : Rows.fnWriteAllRow.holds Tryz.pinned (OpenSpec.ofChange Rows.fnWriteAllSpec) :=
 OpenClaim.holds_of_wide 12 Tryz.f12 rfl rfl rfl rfl rfl rfl rfl ⟨rfl, rfl, rfl, rfl, rfl⟩ rfl rfl rfl rfl rfl (by kernel_rfl) Tryz.func12 closed
  (of_decide_eq_true (by kernel_rfl)) (by unfold Func.isWrapper; first | (rw [if_pos (by decide +kernel)]; kernel_rfl) | (rw [if_neg (by decide +kernel)]; exact ⟨rfl, rfl⟩))
  (fun os started H enc _ => lifted os started H enc)
theorem proved : Rows.FnWriteAllSaid := over
#print axioms proved
end Go.Proofs.YtnbighmbgmjbkaaGreat.fnWriteAll
end
