/- Part 1 of the proof of the statement FnKeepForm; the last part states it. No condition. -/
import Derived.Test.YtnbighmbgmjbkaaGreatRows
import Derived.WalkKit
import Derived.ProofKit
import Derived.OpenShut
import Derived.ShutString
import Derived.ChangeOld
import Derived.Below
import Derived.SizedLaws
import Derived.Test.YtnbighmbgmjbkaaGreatMGK2
import Derived.Test.YtnbighmbgmjbkaaGreatMGK3
import Derived.Test.YtnbighmbgmjbkaaGreatMGK4
import Derived.Test.YtnbighmbgmjbkaaGreatMGK5
import Derived.Test.YtnbighmbgmjbkaaGreatMGK21
section
set_option linter.unusedVariables false
set_option linter.unusedSimpArgs false
namespace Go.Proofs.YtnbighmbgmjbkaaGreat.E
open Go Go.RowKit
set_option linter.unusedVariables false
set_option maxRecDepth 100000
namespace impl_CodeAll
def sin : Sig := ⟨[], [.one (.val I false), .one (.val (.sl I) false)]⟩
def sout : Sig := ⟨[.buf I false], [.one (.ref (.own 0))]⟩
noncomputable def G {β : Type} (S : Sl) (a0 : Int) (a1 : (List Int)) (K : (List Int) → Option β) : Option β := impl_vectorOf.G S a1 (fun y1 y2 => bif (!y2) then (K []) else (impl_kindOk.G S a0 (fun y3 => bif (!y3) then (K []) else (impl_encode.G S a0 y1 (fun y4 => K y4)))))
noncomputable def o : Orac := ⟨42, sin, sout, fun s K => G sl0 s.2.1 s.2.2.1 (fun x0 => K ((x0, ()), ()))⟩
noncomputable def C : Ctx := ⟨tyT, [impl_encode.o, impl_kindOk.o, impl_vectorOf.o], [], 22, 0⟩
theorem ctx : CtxOk Tryz.prog C := ⟨tyOk, all1 impl_encode.ok (all1 impl_kindOk.ok (all1 impl_vectorOf.ok (all0)))⟩
theorem eG (β : Type) (s : sin.den) (K : sout.den → Option β) : evalFn C Tryz.f42 sin sout s K = o.F s K := by kernel_rfl
theorem ok : OracOk Tryz.prog o := fn_ok mixed Tryz.func42 (by kernel_rfl) ctx (c := bodyC Tryz.f42) (by kernel_rfl) (all0) (by kernel_rfl) (by kernel_rfl) (by kernel_rfl) (Nat.le_of_ble_eq_true (by kernel_rfl)) eG (by kernel_rfl) (Nat.le_of_ble_eq_true (by kernel_rfl))
end impl_CodeAll
end Go.Proofs.YtnbighmbgmjbkaaGreat.E
end
section
set_option linter.unusedVariables false
set_option linter.unusedSimpArgs false
namespace Go.Proofs.YtnbighmbgmjbkaaGreat.E
open Go Go.RowKit
set_option linter.unusedVariables false
set_option maxRecDepth 100000
namespace spec_DrawKeepOk
def sin : Sig := ⟨[], [.one (.val (.sl (.int .u8)) false)]⟩
def sout : Sig := ⟨[.buf I false, .buf I false, .buf .bool false], [.agg [.val I false, .ref (.own 0), .ref (.own 1), .ref (.own 2), .val .bool false, .val I false, .val (.sl I) false, .val I false]]⟩
noncomputable def G {β : Type} (S : Sl) (a0 : (List Int)) (K : (List Int) → (List Int) → (List Bool) → Int → Bool → Int → (List Int) → Int → Option β) : Option β := spec_l6Open.G S a0 (fun y1 y2 => spec_l92Keep.G S y1 y2 (fun y3 y4 y5 y6 y7 y8 y9 y10 y11 y12 => spec_l6Rd_pick.G S y3 y4 6 (fun y13 y14 y15 => bif (S.eq y15 0) then (spec_l6Rd_pick.G S y13 y14 8 (fun y16 y17 y18 => spec_l6Rd_pick.G S y16 y17 5 (fun y19 y20 y21 => bif (S.ir y18 y6.length) then (K y5 (List.set y6 (Int.toNat y18) y21) y7 y8 y9 y10 y11 y12) else (none)))) else (K y5 y6 y7 y8 y9 y10 y11 y12))))
noncomputable def o : Orac := ⟨41, sin, sout, fun s K => G sl0 s.2.1 (fun x0 x1 x2 x3 x4 x5 x6 x7 => K ((x0, (x1, (x2, ()))), ((x3, (x4, (x5, (x6, (x7, ()))))), ())))⟩
noncomputable def C : Ctx := ⟨tyT, [spec_l6Open.o, spec_l6Rd_pick.o, spec_l92Keep.o], [], 21, 0⟩
theorem ctx : CtxOk Tryz.prog C := ⟨tyOk, all1 spec_l6Open.ok (all1 spec_l6Rd_pick.ok (all1 spec_l92Keep.ok (all0)))⟩
theorem eG (β : Type) (s : sin.den) (K : sout.den → Option β) : evalFn C Tryz.f41 sin sout s K = o.F s K := by kernel_rfl
theorem ok : OracOk Tryz.prog o := fn_ok mixed Tryz.func41 (by kernel_rfl) ctx (c := bodyC Tryz.f41) (by kernel_rfl) (all0) (by kernel_rfl) (by kernel_rfl) (by kernel_rfl) (Nat.le_of_ble_eq_true (by kernel_rfl)) eG (by kernel_rfl) (Nat.le_of_ble_eq_true (by kernel_rfl))
end spec_DrawKeepOk
end Go.Proofs.YtnbighmbgmjbkaaGreat.E
end
section
set_option linter.unusedVariables false
set_option linter.unusedSimpArgs false
namespace Go.Proofs.YtnbighmbgmjbkaaGreat.E
open Go Go.RowKit
set_option linter.unusedVariables false
set_option maxRecDepth 100000
namespace laws_FnKeepForm
def sin : Sig := ⟨[], [.one (.val (.sl (.int .u8)) false)]⟩
def sout : Sig := ⟨[], [.one (.val .bool false)]⟩
def h9 : SS := ⟨[3, 5, 6], ⟨[.box [.val I false, .ref (.own 1), .ref (.own 2), .ref (.own 3), .val .bool false, .val I false, .val (.sl I) false, .val I false], .buf I false, .buf I false, .buf .bool false], [.one (.ref (.ptr 0)), .one (.val I false), .one (.val I false)]⟩⟩
def x9 : SS := ⟨[], ⟨[], []⟩⟩
def y9 : SS := ⟨[2], ⟨[], [.one (.val .bool false)]⟩⟩
noncomputable def b9 {β : Type} (S : Sl) (L : Int → Bool → Int → (List Int) → Int → (List Int) → (List Int) → (List Bool) → Int → Int → Option β) (kx : Option β) (kr : Bool → Option β) (s0 : Int) (s1 : Bool) (s2 : Int) (s3 : (List Int)) (s4 : Int) (s5 : (List Int)) (s6 : (List Int)) (s7 : (List Bool)) (s8 : Int) (s9 : Int) : Option β := bif (S.lt s9 8) then (bif (S.ir s9 s6.length) then (bif s1 then (bif (S.eq (List.getD s6 (Int.toNat s9) 0) s4) then (bif (S.ir s9 s5.length) then (impl_CodeAll.G S s2 s3 (fun y1 => bif (S.ir s9 y1.length) then (bif (!S.eq (List.getD s5 (Int.toNat s9) 0) (List.getD y1 (Int.toNat s9) 0)) then (kr false) else (L s0 s1 s2 s3 s4 s5 s6 s7 s8 (S.w (s9 + 1)))) else (none))) else (none)) else (bif s1 then (bif (S.lt s4 (List.getD s6 (Int.toNat s9) 0)) then (kr false) else (bif (S.lt 0 (List.getD s6 (Int.toNat s9) 0)) then (bif (S.lt 0 s8) then (bif (!S.eq (List.getD s6 (Int.toNat s9) 0) s8) then (kr false) else (L s0 s1 s2 s3 s4 s5 s6 s7 (S.mx s8 (List.getD s6 (Int.toNat s9) 0)) (S.w (s9 + 1)))) else (L s0 s1 s2 s3 s4 s5 s6 s7 (S.mx s8 (List.getD s6 (Int.toNat s9) 0)) (S.w (s9 + 1)))) else (L s0 s1 s2 s3 s4 s5 s6 s7 (S.mx s8 (List.getD s6 (Int.toNat s9) 0)) (S.w (s9 + 1))))) else (bif (S.lt 0 (List.getD s6 (Int.toNat s9) 0)) then (bif (S.lt 0 s8) then (bif (!S.eq (List.getD s6 (Int.toNat s9) 0) s8) then (kr false) else (L s0 s1 s2 s3 s4 s5 s6 s7 (S.mx s8 (List.getD s6 (Int.toNat s9) 0)) (S.w (s9 + 1)))) else (L s0 s1 s2 s3 s4 s5 s6 s7 (S.mx s8 (List.getD s6 (Int.toNat s9) 0)) (S.w (s9 + 1)))) else (L s0 s1 s2 s3 s4 s5 s6 s7 (S.mx s8 (List.getD s6 (Int.toNat s9) 0)) (S.w (s9 + 1)))))) else (bif s1 then (bif (S.lt s4 (List.getD s6 (Int.toNat s9) 0)) then (kr false) else (bif (S.lt 0 (List.getD s6 (Int.toNat s9) 0)) then (bif (S.lt 0 s8) then (bif (!S.eq (List.getD s6 (Int.toNat s9) 0) s8) then (kr false) else (L s0 s1 s2 s3 s4 s5 s6 s7 (S.mx s8 (List.getD s6 (Int.toNat s9) 0)) (S.w (s9 + 1)))) else (L s0 s1 s2 s3 s4 s5 s6 s7 (S.mx s8 (List.getD s6 (Int.toNat s9) 0)) (S.w (s9 + 1)))) else (L s0 s1 s2 s3 s4 s5 s6 s7 (S.mx s8 (List.getD s6 (Int.toNat s9) 0)) (S.w (s9 + 1))))) else (bif (S.lt 0 (List.getD s6 (Int.toNat s9) 0)) then (bif (S.lt 0 s8) then (bif (!S.eq (List.getD s6 (Int.toNat s9) 0) s8) then (kr false) else (L s0 s1 s2 s3 s4 s5 s6 s7 (S.mx s8 (List.getD s6 (Int.toNat s9) 0)) (S.w (s9 + 1)))) else (L s0 s1 s2 s3 s4 s5 s6 s7 (S.mx s8 (List.getD s6 (Int.toNat s9) 0)) (S.w (s9 + 1)))) else (L s0 s1 s2 s3 s4 s5 s6 s7 (S.mx s8 (List.getD s6 (Int.toNat s9) 0)) (S.w (s9 + 1)))))) else (none)) else (kx)
noncomputable def r9 {β : Type} (S : Sl) (n : Nat) (kx : x9.sig.den → Option β) (kr : y9.sig.den → Option β) (s : h9.sig.den) : Option β := rounds (fun L kx kr s => b9 S (fun x0 x1 x2 x3 x4 x5 x6 x7 x8 x9 => L (((x0, (x1, (x2, (x3, (x4, ()))))), (x5, (x6, (x7, ())))), (x8, (x9, ())))) (kx ((), ())) (fun x0 => kr ((), (x0, ()))) s.1.1.1 s.1.1.2.1 s.1.1.2.2.1 s.1.1.2.2.2.1 s.1.1.2.2.2.2.1 s.1.2.1 s.1.2.2.1 s.1.2.2.2.1 s.2.1 s.2.2.1) kx kr n s
noncomputable def l9 {β : Type} (S : Sl) (n : Nat) (kx : Option β) (kr : Bool → Option β) (s0 : Int) (s1 : Bool) (s2 : Int) (s3 : (List Int)) (s4 : Int) (s5 : (List Int)) (s6 : (List Int)) (s7 : (List Bool)) (s8 : Int) (s9 : Int) : Option β := r9 S n (fun s => kx) (fun s => kr s.2.1) (((s0, (s1, (s2, (s3, (s4, ()))))), (s5, (s6, (s7, ())))), (s8, (s9, ())))
theorem t9 {β : Type} (S : Sl) (n : Nat) (kx : Option β) (kr : Bool → Option β) (s0 : Int) (s1 : Bool) (s2 : Int) (s3 : (List Int)) (s4 : Int) (s5 : (List Int)) (s6 : (List Int)) (s7 : (List Bool)) (s8 : Int) (s9 : Int) : l9 S (n + 1) kx kr s0 s1 s2 s3 s4 s5 s6 s7 s8 s9 = b9 S (l9 S n kx kr) kx kr s0 s1 s2 s3 s4 s5 s6 s7 s8 s9 := by kernel_rfl
noncomputable def G {β : Type} (S : Sl) (a0 : (List Int)) (K : Bool → Option β) : Option β := bif (S.lt 1048576 (a0.length : Int)) then (K true) else (spec_DrawKeepOk.G S a0 (fun y1 y2 y3 y4 y5 y6 y7 y8 => impl_KeepOk.G S y4 y1 y2 y3 y5 y6 y7 y8 (fun y9 => spec_KeepOk.G S y4 y1 y2 y3 y5 y6 y7 y8 (fun y10 => bif (y9 != y10) then (spec_KeepOk.G S y4 y1 y2 y3 y5 y6 y7 y8 (fun y11 => K (y9 == y11))) else (bif (!y9) then (spec_KeepOk.G S y4 y1 y2 y3 y5 y6 y7 y8 (fun y12 => K (y9 == y12))) else (l9 S S.n (K true) (fun y13 => K y13) y4 y5 y6 y7 y8 y1 y2 y3 0 0))))))
noncomputable def o : Orac := ⟨7, sin, sout, fun s K => G sl0 s.2.1 (fun x0 => K ((), (x0, ())))⟩
noncomputable def C : Ctx := ⟨tyT, [impl_CodeAll.o, impl_KeepOk.o, spec_DrawKeepOk.o, spec_KeepOk.o], [⟨9, 0, h9, x9, y9, fun s kx kr => r9 sl0 sl0.n kx kr s⟩], 84, 0⟩
theorem ctx : CtxOk Tryz.prog C := ⟨tyOk, all1 impl_CodeAll.ok (all1 impl_KeepOk.ok (all1 spec_DrawKeepOk.ok (all1 spec_KeepOk.ok (all0))))⟩
theorem e9 (β : Type) (L : h9.sig.den → Option β) (kx : x9.sig.den → Option β) (kr : y9.sig.den → Option β) (s : h9.sig.den) : evalBody C (nthC (loopsOf (bodyC Tryz.f7)) 0) 0 h9 x9 y9 L kx kr s = b9 sl0 (fun x0 x1 x2 x3 x4 x5 x6 x7 x8 x9 => L (((x0, (x1, (x2, (x3, (x4, ()))))), (x5, (x6, (x7, ())))), (x8, (x9, ())))) (kx ((), ())) (fun x0 => kr ((), (x0, ()))) s.1.1.1 s.1.1.2.1 s.1.1.2.2.1 s.1.1.2.2.2.1 s.1.1.2.2.2.2.1 s.1.2.1 s.1.2.2.1 s.1.2.2.2.1 s.2.1 s.2.2.1 := by kernel_rfl
theorem g9 : LS Tryz.prog C ⟨9, 0, h9, x9, y9, fun s kx kr => r9 sl0 sl0.n kx kr s⟩ (loopsOf (bodyC Tryz.f7)) := LS.at (i := 0) (by kernel_rfl) (loop_good mixed ctx (ctx_nat ctx) (N := sl0.n) (fun _ _ _ _ => rfl) e9 (all1 (LS.none (by kernel_rfl)) (all0)))
theorem eG (β : Type) (s : sin.den) (K : sout.den → Option β) : evalFn C Tryz.f7 sin sout s K = o.F s K := by kernel_rfl
theorem ok : OracOk Tryz.prog o := fn_ok mixed Tryz.func7 (by kernel_rfl) ctx (c := bodyC Tryz.f7) (by kernel_rfl) (all1 g9 (all0)) (by kernel_rfl) (by kernel_rfl) (by kernel_rfl) (Nat.le_of_ble_eq_true (by kernel_rfl)) eG (by kernel_rfl) (Nat.le_of_ble_eq_true (by kernel_rfl))
end laws_FnKeepForm
end Go.Proofs.YtnbighmbgmjbkaaGreat.E
end
section
set_option linter.unusedVariables false
set_option linter.unusedSimpArgs false
namespace Go.Proofs.YtnbighmbgmjbkaaGreat.E
open Go Go.RowKit
set_option linter.unusedVariables false
set_option maxRecDepth 100000
theorem codeAll_G {β : Type} {kind : Int} (hk : kind = 1 ∨ kind = 2) {data : List Int} (hd : vecV data = true) (K : List Int → Option β) : impl_CodeAll.G sl1 kind data K = K (allV kind data) := by
 unfold impl_CodeAll.G
 refine (vector_G data (by have := (vecV_iff.1 hd).2; omega) _).trans ?_
 rw [hd]
 refine cF rfl ((impl_in kind 1 2 _).trans ?_)
 rw [inV_iff.2 (show 1 ≤ kind ∧ kind ≤ 2 by omega)]
 exact cF rfl (encode_G hk (vec_V4 hd) _)
end Go.Proofs.YtnbighmbgmjbkaaGreat.E
end
section
set_option linter.unusedVariables false
set_option linter.unusedSimpArgs false
namespace Go.Proofs.YtnbighmbgmjbkaaGreat.E
open Go Go.RowKit
set_option linter.unusedVariables false
set_option maxRecDepth 100000
theorem keep_vers {kind : Int} {vals vers : List Int} {there : List Bool} {on : Bool} {kd : Int} {data : List Int} {kv : Int} (ck : keepV kind vals vers there on kd data kv = true) :
  ∃ T : Int, ∀ i, i < 8 → (on = true ∧ vers.getD i 0 = kv ∧ vals.getD i 0 = (allV kd data).getD i 0) ∨ ((on = true → vers.getD i 0 < kv) ∧ (vers.getD i 0 = 0 ∨ vers.getD i 0 = T)) := by
 cases on
 ·obtain ⟨hs, ho, _⟩ := keepOff_iff.1 ck
  obtain ⟨_, _, h1, h2, h3, hv⟩ := stripe_iff.1 hs
  refine ⟨topV vers 0, fun i hi => .inr ⟨(fun h => by cases h), ?_⟩⟩
  cases ct : there.getD i false
  ·exact .inl ((hv i hi).2 ct).2
  ·exact .inr ((oneF_iff 8 0).1 ho i (Nat.zero_le _) (by omega) ct)
 ·obtain ⟨⟨hk, hf, h1, h2, h3⟩, ⟨hs, ho⟩, hkd, hd, ⟨t1, t2⟩, hn⟩ := keepOn_iff.1 ck
  obtain ⟨_, _, e1, e2, e3, hv⟩ := stripe_iff.1 hs
  obtain ⟨_, _, _, g⟩ := loseF_at (kv := kv) 8 0 vals vers there (by omega) h1 h2 h3
  refine ⟨topV (loseF kv 8 0 vals vers there).2.1 0, fun i hi => ?_⟩
  by_cases c : vers.getD i 0 = kv
  ·exact .inl ⟨rfl, c, ((noteF_iff 8 0).1 hn i (Nat.zero_le _) (by omega) c).2⟩
  ·obtain ⟨_, g2, g3⟩ := g i hi
   rw [if_neg (fun h => c h.2)] at g2 g3
   have hle := ver_le (vers := (loseF kv 8 0 vals vers there).2.1) (a := i) (by omega)
   refine .inr ⟨fun _ => by omega, ?_⟩
   cases ct : there.getD i false
   ·have := ((hv i hi).2 (by rw [g3]; exact ct)).2
    rw [g2] at this
    exact .inl this
   ·have := (oneF_iff 8 0).1 ho i (Nat.zero_le _) (by omega) (by rw [g3]; exact ct)
    rw [g2] at this
    exact .inr this
theorem mxE (a b : Int) : sl1.mx a b = a ∨ sl1.mx a b = b := by
 show (if b > a then b else a) = a ∨ (if b > a then b else a) = b
 split
 ·exact .inr rfl
 ·exact .inl rfl
theorem form_l {β : Type} {kind : Int} {vals vers : List Int} {there : List Bool} {on : Bool} {kd : Int} {data : List Int} {kv : Int} (ck : keepV kind vals vers there on kd data kv = true) {T : Int}
  (hT : ∀ i, i < 8 → (on = true ∧ vers.getD i 0 = kv ∧ vals.getD i 0 = (allV kd data).getD i 0) ∨ ((on = true → vers.getD i 0 < kv) ∧ (vers.getD i 0 = 0 ∨ vers.getD i 0 = T))) (kx : Option β) (kr : Bool → Option β) (d : Nat) : ∀ (i n : Nat) (e : Int), i + d = 8 → d < n → (e = 0 ∨ e = T) →
  laws_FnKeepForm.l9 sl1 n kx kr kind on kd data kv vals vers there e (i : Int) = kx := by
 obtain ⟨hk, hf, h1, h2, h3, _, _⟩ := keepV_facts ck
 have hal := allV_len kd data
 induction d with
 | zero =>
  intro i n e hi hn he
  obtain ⟨n, rfl⟩ : ∃ m, n = m + 1 := ⟨n - 1, by omega⟩
  rw [laws_FnKeepForm.t9]; exact cF (ltF (by omega)) rfl
 | succ d ih =>
  intro i n e hi hn he
  obtain ⟨n, rfl⟩ : ∃ m, n = m + 1 := ⟨n - 1, by omega⟩
  have next := fun e he => ih (i + 1) n e (by omega) (by omega) he
  rw [laws_FnKeepForm.t9]
  unfold laws_FnKeepForm.b9
  rw [w_succ (by omega)]
  simp only [getC]
  refine cT (ltT (by omega)) (cT (irT (by omega) (by omega)) ?_)
  rcases hT i (by omega) with ⟨rfl, c, hv⟩ | ⟨c, hv⟩
  ·obtain ⟨_, _, hkd, hd, _, _⟩ := keepOn_iff.1 ck
   refine cT rfl (cT (eqT c) (cT (irT (by omega) (by omega)) ((codeAll_G hkd hd _).trans (cT (irT (by omega) (by omega)) ?_))))
   exact cF (neF hv) (next e he)
  ·have tail : (bif sl1.lt 0 (vers.getD i 0) then (bif sl1.lt 0 e then (bif (!sl1.eq (vers.getD i 0) e) then kr false else laws_FnKeepForm.l9 sl1 n kx kr kind on kd data kv vals vers there (sl1.mx e (vers.getD i 0)) ((i + 1 : Nat) : Int)) else laws_FnKeepForm.l9 sl1 n kx kr kind on kd data kv vals vers there (sl1.mx e (vers.getD i 0)) ((i + 1 : Nat) : Int)) else laws_FnKeepForm.l9 sl1 n kx kr kind on kd data kv vals vers there (sl1.mx e (vers.getD i 0)) ((i + 1 : Nat) : Int)) = kx := by
    have nx := next (sl1.mx e (vers.getD i 0)) (by
     rcases mxE e (vers.getD i 0) with h | h
     ·rw [h]; exact he
     ·rw [h]; exact hv)
    by_cases c1 : 0 < vers.getD i 0
    ·refine cT (ltT c1) ?_
     by_cases c2 : 0 < e
     ·exact cT (ltT c2) (cF (neF (by omega)) nx)
     ·exact cF (ltF (by omega)) nx
    ·exact cF (ltF (by omega)) nx
   cases on
   ·exact cF rfl (cF rfl tail)
   ·have := c rfl
    exact cT rfl (cF (eqF (by omega)) (cT rfl (cF (ltF (by omega)) tail)))
end Go.Proofs.YtnbighmbgmjbkaaGreat.E
namespace Go.Proofs.YtnbighmbgmjbkaaGreat.Pure.FnKeepForm
open Go Go.Proofs.YtnbighmbgmjbkaaGreat.E
theorem main {β : Type} (kind : Int) {vals vers : List Int} {there : List Bool} (on : Bool) (kd : Int) {data : List Int} (kv : Int) (h1 : vals.length = 8) (h4 : data.length ≤ 4) (K : Bool → Option β) :
  impl_KeepOk.G sl1 kind vals vers there on kd data kv (fun y9 => spec_KeepOk.G sl1 kind vals vers there on kd data kv (fun y10 => bif (y9 != y10) then (spec_KeepOk.G sl1 kind vals vers there on kd data kv (fun y11 => K (y9 == y11))) else (bif (!y9) then (spec_KeepOk.G sl1 kind vals vers there on kd data kv (fun y12 => K (y9 == y12))) else (laws_FnKeepForm.l9 sl1 sl1.n (K true) (fun y13 => K y13) kind on kd data kv vals vers there 0 0)))) = K true := by
 refine (keepI_G kind on kd kv (by omega) _).trans ((keepS_G kind on kd kv (by omega) (by omega) _).trans ?_)
 rw [keep_same]
 refine cF (bne_self_eq_false _) ?_
 cases ck : keepV kind vals vers there on kd data kv
 ·refine cT rfl ((keepS_G kind on kd kv (by omega) (by omega) _).trans ?_)
  rw [ck]; rfl
 ·obtain ⟨T, hT⟩ := keep_vers ck
  exact cF rfl (form_l ck hT _ _ 8 0 sl1.n 0 (by omega) (by rw [rounds_n]; omega) (.inl rfl))
theorem pure {β : Type} (l : List Int) (hl : ∀ x ∈ l, 0 ≤ x ∧ x ≤ 255) (K : Bool → Option β) : laws_FnKeepForm.G sl1 l K = K true := by
 obtain ⟨b, hb, ho⟩ := open_G hl
 obtain ⟨q, kind, vals, vers, there, on, kd, data, kv, q0, q1, ⟨l1, l2, l3, l4⟩, hd⟩ := keep_S hb (p := 0) (by omega) (by omega)
 unfold laws_FnKeepForm.G
 by_cases h : 1048576 < (l.length : Int)
 ·exact cT (ltT h) rfl
 refine cF (ltF (by omega)) ?_
 unfold spec_DrawKeepOk.G
 obtain ⟨c, c0, c1, ec⟩ := pick_S hb (p := q) 6
 refine (ho _ _).trans ((hd _ _).trans ((ec _ _).trans ?_))
 by_cases h0 : c = 0
 ·obtain ⟨i, i0, i1, ei⟩ := pick_S hb (p := q + 1) 8
  obtain ⟨v, _, _, ev⟩ := pick_S hb (p := q + 1 + 1) 5
  exact cT (eqT h0) ((ei _ _).trans ((ev _ _).trans (cT (irT i0 (by omega)) (main kind on kd kv l1 l4 K))))
 ·exact cF (eqF h0) (main kind on kd kv l1 l4 K)
end Go.Proofs.YtnbighmbgmjbkaaGreat.Pure.FnKeepForm
end
section
set_option linter.unusedVariables false
set_option linter.unusedSimpArgs false
namespace Go.Proofs.YtnbighmbgmjbkaaGreat.fnKeepForm
open Go.ChangeShapes Go.WideShapes Go.ChangeAt Go.RowKit
open Go.ChangeMaps (open_string shut_string)
set_option linter.unusedVariables false
theorem own : ownKnob Tryz.prog.godebug = none := by kernel_rfl
theorem laidOut : laidOutB Tryz.prog = true := by kernel_rfl
set_option maxRecDepth 100000 in
theorem lifted (os : Os) (started : os.Started) (H : Type) (enc : TypeId × Value → H) :
  ReturnsInHanded {} Tryz.checked os 7 .any (Rows.fnKeepFormSpec.pre6 enc Tryz.prog Tryz.f7 Rows.fnKeepFormRow.domain false) (Rows.fnKeepFormSpec.post enc Tryz.prog Tryz.f7 false true false false) := by
 refine returnsInHanded_of_change_sized (C := Tryz.checked) own started (by kernel_rfl) Tryz.func7
  (ChangeSpec.witness6 (enc := enc) (C := Tryz.checked) false ⟨#[], #[.slice none 0 0], []⟩ 8 (by kernel_rfl) (by kernel_rfl) (by kernel_rfl) (by kernel_rfl)) ?_
 intro W base args ds gs before hval0 hW hcnd hsz0 _
 have hval : ∀ (j : Nat) t v, Tryz.f7.params[j]? = some t → args[j]? = some v → Value.okWide Tryz.prog W .any base t v := hval0
 have hW' := hW
 obtain ⟨p, q, hA0, hV, rfl, hfz, hnd⟩ := hW
 have hA : DataW.TrodAll enc Tryz.prog W 0 (fun _ => true) true Tryz.f7.params.toList args.toList ds p := hA0
 rw [Tryz.params7] at hA hval
 obtain ⟨v0, vs0, d0, ds0, p0, q0, hargs, rfl, rfl, h0, r0⟩ := trodAll_cons hA
 obtain ⟨rfl, rfl, rfl⟩ := trodAll_nil r0
 obtain rfl : args = #[v0] := by cases args; simp_all
 obtain ⟨rfl, rfl⟩ := trodVars_none hV
 obtain ⟨a0, len0, cap0, rfl⟩ := okWide_slice Tryz.underlying22 (hval 0 22 v0 rfl rfl)
 have k0 := h0
 have lt0 : ∀ x ∈ p0, x.block < W.heap.size := by obtain ⟨m, hm⟩ := k0; exact DataW.trod_lt m _ _ _ hm
 obtain ⟨z0, w0, b0⟩ : ∃ zs, E.IsRowK .u8 W a0 len0 cap0 zs ∧ (∀ x ∈ zs, (Lit.int .u8 x).wf = true) := by
  obtain ⟨fuel, hf⟩ := h0
  rcases open_ints Tryz.underlying22 Tryz.underlying5 (by kernel_rfl) hf with ⟨hcs, _⟩ | ⟨x, l, c, zs, hcs, _, hl, hm, hz, _, hcell, hwz⟩
  ·simp [Value.cells] at hcs
   obtain ⟨rfl, rfl, rfl⟩ := hcs
   exact ⟨[], .inl ⟨rfl, rfl, rfl, rfl⟩, by simp⟩
  ·simp [Value.cells] at hcs
   obtain ⟨rfl, rfl, rfl⟩ := hcs
   exact ⟨zs, .inr ⟨_, rfl, hl, by simpa using hz, hcell⟩, hwz⟩
 clear hA0 hval0 hsz0
 have hp := Pure.FnKeepForm.pure (z0.take len0) (fun x hx => E.byte_wf (b0 x (List.mem_of_mem_take hx))) (fun b => some ((), (b, ())))
 rw [← E.sl_eq] at hp
 refine (E.law_bytes E.laws_FnKeepForm.ok w0 hp).mono fun e W' ⟨he, bel⟩ => ?_
 subst he
 exact ⟨_, rfl, _, _, _, [], _, [], hW', trodAll_mk1 (shut_bool Tryz.underlying4 _), (trodAll_cons_mk (Below.trod laidOut (by kernel_rfl) (of_decide_eq_true (by kernel_rfl)) k0 bel lt0) trodAll_mk0), rfl, bel.frame _, fun h => by cases h⟩
theorem closed : joinedFacts Tryz.prog 7 Tryz.f7 Rows.fnKeepFormSpec Rows.fnKeepFormRow = true := by
 unfold joinedFacts
 rw [Head.make, Head.final, Head.enter]
 kernel_rfl
theorem over : Rows.fnKeepFormRow.holds Tryz.pinned (OpenSpec.ofChange Rows.fnKeepFormSpec) :=
 OpenClaim.holds_of_wide 7 Tryz.f7 rfl rfl rfl rfl rfl rfl rfl ⟨rfl, rfl, rfl, rfl, rfl⟩ rfl rfl rfl rfl rfl (by kernel_rfl) Tryz.func7 closed
  (of_decide_eq_true (by kernel_rfl)) (by unfold Func.isWrapper; first | (rw [if_pos (by decide +kernel)]; kernel_rfl) | (rw [if_neg (by decide +kernel)]; exact ⟨rfl, rfl⟩))
  (fun os started H enc _ => lifted os started H enc)
theorem proved : Rows.FnKeepFormSaid := over
#print axioms proved
end Go.Proofs.YtnbighmbgmjbkaaGreat.fnKeepForm
end
