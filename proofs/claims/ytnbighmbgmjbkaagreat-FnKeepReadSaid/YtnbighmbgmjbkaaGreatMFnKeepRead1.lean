/- Part 1 of the proof of the statement FnKeepRead; the last part states it. No condition. -/
import Derived.Test.YtnbighmbgmjbkaaGreatRows
import Derived.WalkKit
import Derived.ProofKit
import Derived.OpenShut
import Derived.ShutString
import Derived.ChangeOld
import Derived.Below
import Derived.SizedLaws
import Derived.Test.YtnbighmbgmjbkaaGreatMGK2
import Derived.Test.YtnbighmbgmjbkaaGreatMGK3
import Derived.Test.YtnbighmbgmjbkaaGreatMGK4
import Derived.Test.YtnbighmbgmjbkaaGreatMGK5
import Derived.Test.YtnbighmbgmjbkaaGreatMGK21
section
set_option linter.unusedVariables false
set_option linter.unusedSimpArgs false
namespace Go.Proofs.YtnbighmbgmjbkaaGreat.E
open Go Go.RowKit
set_option linter.unusedVariables false
set_option maxRecDepth 100000
namespace spec_DrawKeepRead
def sin : Sig := ⟨[], [.one (.val (.sl (.int .u8)) false)]⟩
def sout : Sig := ⟨[.buf I false, .buf I false, .buf .bool false], [.agg [.val I false, .ref (.own 0), .ref (.own 1), .ref (.own 2), .val .bool false, .val I false, .val (.sl I) false, .val I false]]⟩
noncomputable def G {β : Type} (S : Sl) (a0 : (List Int)) (K : (List Int) → (List Int) → (List Bool) → Int → Bool → Int → (List Int) → Int → Option β) : Option β := spec_l6Open.G S a0 (fun y1 y2 => spec_l92Keep.G S y1 y2 (fun y3 y4 y5 y6 y7 y8 y9 y10 y11 y12 => K y5 y6 y7 y8 y9 y10 y11 y12))
noncomputable def o : Orac := ⟨32, sin, sout, fun s K => G sl0 s.2.1 (fun x0 x1 x2 x3 x4 x5 x6 x7 => K ((x0, (x1, (x2, ()))), ((x3, (x4, (x5, (x6, (x7, ()))))), ())))⟩
noncomputable def C : Ctx := ⟨tyT, [spec_l6Open.o, spec_l92Keep.o], [], 6, 0⟩
theorem ctx : CtxOk Tryz.prog C := ⟨tyOk, all1 spec_l6Open.ok (all1 spec_l92Keep.ok (all0))⟩
theorem eG (β : Type) (s : sin.den) (K : sout.den → Option β) : evalFn C Tryz.f32 sin sout s K = o.F s K := by kernel_rfl
theorem ok : OracOk Tryz.prog o := fn_ok mixed Tryz.func32 (by kernel_rfl) ctx (c := bodyC Tryz.f32) (by kernel_rfl) (all0) (by kernel_rfl) (by kernel_rfl) (by kernel_rfl) (Nat.le_of_ble_eq_true (by kernel_rfl)) eG (by kernel_rfl) (Nat.le_of_ble_eq_true (by kernel_rfl))
end spec_DrawKeepRead
end Go.Proofs.YtnbighmbgmjbkaaGreat.E
end
section
set_option linter.unusedVariables false
set_option linter.unusedSimpArgs false
namespace Go.Proofs.YtnbighmbgmjbkaaGreat.E
open Go Go.RowKit
set_option linter.unusedVariables false
set_option maxRecDepth 100000
namespace laws_FnKeepRead
def sin : Sig := ⟨[], [.one (.val (.sl (.int .u8)) false)]⟩
def sout : Sig := ⟨[], [.one (.val .bool false)]⟩
noncomputable def G {β : Type} (S : Sl) (a0 : (List Int)) (K : Bool → Option β) : Option β := bif (S.lt 1048576 (a0.length : Int)) then (K true) else (spec_DrawKeepRead.G S a0 (fun y1 y2 y3 y4 y5 y6 y7 y8 => spec_KeepRead.G S y4 y1 y2 y3 y5 y6 y7 y8 (fun y9 y10 => impl_KeepRead.G S y4 y1 y2 y3 y5 y6 y7 y8 (fun y11 y12 => bif (y12 != y10) then (bif (y12 == y10) then (laws_lkInts.G S y11 y9 (fun y13 => K y13)) else (K false)) else (laws_lkInts.G S y11 y9 (fun y14 => bif (!y14) then (bif (y12 == y10) then (laws_lkInts.G S y11 y9 (fun y15 => K y15)) else (K false)) else (bif (!y12) then (bif (y12 == y10) then (laws_lkInts.G S y11 y9 (fun y16 => K y16)) else (K false)) else (bif y5 then (laws_lkInts.G S y11 y7 (fun y17 => K y17)) else (impl_StripeRead.G S y4 y1 y2 y3 (fun y18 y19 y20 => bif y20 then (laws_lkInts.G S y11 y18 (fun y21 => K y21)) else (K false)))))))))))
noncomputable def o : Orac := ⟨5, sin, sout, fun s K => G sl0 s.2.1 (fun x0 => K ((), (x0, ())))⟩
noncomputable def C : Ctx := ⟨tyT, [impl_KeepRead.o, impl_StripeRead.o, laws_lkInts.o, spec_DrawKeepRead.o, spec_KeepRead.o], [], 66, 0⟩
theorem ctx : CtxOk Tryz.prog C := ⟨tyOk, all1 impl_KeepRead.ok (all1 impl_StripeRead.ok (all1 laws_lkInts.ok (all1 spec_DrawKeepRead.ok (all1 spec_KeepRead.ok (all0)))))⟩
theorem eG (β : Type) (s : sin.den) (K : sout.den → Option β) : evalFn C Tryz.f5 sin sout s K = o.F s K := by kernel_rfl
theorem ok : OracOk Tryz.prog o := fn_ok mixed Tryz.func5 (by kernel_rfl) ctx (c := bodyC Tryz.f5) (by kernel_rfl) (all0) (by kernel_rfl) (by kernel_rfl) (by kernel_rfl) (Nat.le_of_ble_eq_true (by kernel_rfl)) eG (by kernel_rfl) (Nat.le_of_ble_eq_true (by kernel_rfl))
end laws_FnKeepRead
end Go.Proofs.YtnbighmbgmjbkaaGreat.E
end
section
set_option linter.unusedVariables false
set_option linter.unusedSimpArgs false
namespace Go.Proofs.YtnbighmbgmjbkaaGreat.Pure.FnKeepRead
open Go Go.Proofs.YtnbighmbgmjbkaaGreat.E
theorem pure {β : Type} (l : List Int) (hl : ∀ x ∈ l, 0 ≤ x ∧ x ≤ 255) (K : Bool → Option β) : laws_FnKeepRead.G sl1 l K = K true := by
 obtain ⟨b, hb, ho⟩ := open_G hl
 obtain ⟨q, kind, vals, vers, there, on, kd, data, kv, _, _, ⟨l1, l2, l3, l4⟩, hd⟩ := keep_S hb (p := 0) (by omega) (by omega)
 unfold laws_FnKeepRead.G
 by_cases h : 1048576 < (l.length : Int)
 ·exact cT (ltT h) rfl
 refine cF (ltF (by omega)) ?_
 unfold spec_DrawKeepRead.G
 refine (ho _ _).trans ((hd _ _).trans ?_)
 cases ck : keepV kind vals vers there on kd data kv
 ·obtain ⟨es, ei⟩ := keepRead_N ck (by omega) (by omega)
  exact (es _ _).trans ((ei _ _).trans (cF (bne_self_eq_false _) ((lkInts_same _ (by simp) _).trans (cF rfl (cT rfl (cT rfl (lkInts_same _ (by simp) _)))))))
 ·obtain ⟨d, hdl, hon, hoff, es, ei⟩ := keepRead_F ck (by omega)
  refine (es _ _).trans ((ei _ _).trans (cF (bne_self_eq_false _) ((lkInts_same _ hdl _).trans (cF rfl (cF rfl ?_)))))
  cases on
  ·obtain ⟨hk, _, _, _, _, ho', _⟩ := keepV_facts ck
   obtain ⟨cs, hr⟩ := ho' rfl
   obtain ⟨d', hd', er⟩ := stripeRead_E cs
   obtain rfl := tells_uniq hk hd' (hoff rfl)
   refine cF rfl ((er _ _).trans ?_)
   rw [hr]
   exact cT rfl (lkInts_same _ hdl _)
  ·obtain rfl := hon rfl
   exact cT rfl (lkInts_same _ hdl _)
end Go.Proofs.YtnbighmbgmjbkaaGreat.Pure.FnKeepRead
end
section
set_option linter.unusedVariables false
set_option linter.unusedSimpArgs false
namespace Go.Proofs.YtnbighmbgmjbkaaGreat.fnKeepRead
open Go.ChangeShapes Go.WideShapes Go.ChangeAt Go.RowKit
open Go.ChangeMaps (open_string shut_string)
set_option linter.unusedVariables false
theorem own : ownKnob Tryz.prog.godebug = none := by kernel_rfl
theorem laidOut : laidOutB Tryz.prog = true := by kernel_rfl
set_option maxRecDepth 100000 in
theorem lifted (os : Os) (started : os.Started) (H : Type) (enc : TypeId × Value → H) :
  ReturnsInHanded {} Tryz.checked os 5 .any (Rows.fnKeepReadSpec.pre6 enc Tryz.prog Tryz.f5 Rows.fnKeepReadRow.domain false) (Rows.fnKeepReadSpec.post enc Tryz.prog Tryz.f5 false true false false) := by
 refine returnsInHanded_of_change_sized (C := Tryz.checked) own started (by kernel_rfl) Tryz.func5
  (ChangeSpec.witness6 (enc := enc) (C := Tryz.checked) false ⟨#[], #[.slice none 0 0], []⟩ 8 (by kernel_rfl) (by kernel_rfl) (by kernel_rfl) (by kernel_rfl)) ?_
 intro W base args ds gs before hval0 hW hcnd hsz0 _
 have hval : ∀ (j : Nat) t v, Tryz.f5.params[j]? = some t → args[j]? = some v → Value.okWide Tryz.prog W .any base t v := hval0
 have hW' := hW
 obtain ⟨p, q, hA0, hV, rfl, hfz, hnd⟩ := hW
 have hA : DataW.TrodAll enc Tryz.prog W 0 (fun _ => true) true Tryz.f5.params.toList args.toList ds p := hA0
 rw [Tryz.params5] at hA hval
 obtain ⟨v0, vs0, d0, ds0, p0, q0, hargs, rfl, rfl, h0, r0⟩ := trodAll_cons hA
 obtain ⟨rfl, rfl, rfl⟩ := trodAll_nil r0
 obtain rfl : args = #[v0] := by cases args; simp_all
 obtain ⟨rfl, rfl⟩ := trodVars_none hV
 obtain ⟨a0, len0, cap0, rfl⟩ := okWide_slice Tryz.underlying22 (hval 0 22 v0 rfl rfl)
 have k0 := h0
 have lt0 : ∀ x ∈ p0, x.block < W.heap.size := by obtain ⟨m, hm⟩ := k0; exact DataW.trod_lt m _ _ _ hm
 obtain ⟨z0, w0, b0⟩ : ∃ zs, E.IsRowK .u8 W a0 len0 cap0 zs ∧ (∀ x ∈ zs, (Lit.int .u8 x).wf = true) := by
  obtain ⟨fuel, hf⟩ := h0
  rcases open_ints Tryz.underlying22 Tryz.underlying5 (by kernel_rfl) hf with ⟨hcs, _⟩ | ⟨x, l, c, zs, hcs, _, hl, hm, hz, _, hcell, hwz⟩
  ·simp [Value.cells] at hcs
   obtain ⟨rfl, rfl, rfl⟩ := hcs
   exact ⟨[], .inl ⟨rfl, rfl, rfl, rfl⟩, by simp⟩
  ·simp [Value.cells] at hcs
   obtain ⟨rfl, rfl, rfl⟩ := hcs
   exact ⟨zs, .inr ⟨_, rfl, hl, by simpa using hz, hcell⟩, hwz⟩
 clear hA0 hval0 hsz0
 have hp := Pure.FnKeepRead.pure (z0.take len0) (fun x hx => E.byte_wf (b0 x (List.mem_of_mem_take hx))) (fun b => some ((), (b, ())))
 rw [← E.sl_eq] at hp
 refine (E.law_bytes E.laws_FnKeepRead.ok w0 hp).mono fun e W' ⟨he, bel⟩ => ?_
 subst he
 exact ⟨_, rfl, _, _, _, [], _, [], hW', trodAll_mk1 (shut_bool Tryz.underlying4 _), (trodAll_cons_mk (Below.trod laidOut (by kernel_rfl) (of_decide_eq_true (by kernel_rfl)) k0 bel lt0) trodAll_mk0), rfl, bel.frame _, fun h => by cases h⟩
theorem closed : joinedFacts Tryz.prog 5 Tryz.f5 Rows.fnKeepReadSpec Rows.fnKeepReadRow = true := by
 unfold joinedFacts
 rw [Head.make, Head.final, Head.enter]
 kernel_rfl
theorem over : Rows.fnKeepReadRow.holds Tryz.pinned (OpenSpec.ofChange Rows.fnKeepReadSpec) :=
 OpenClaim.holds_of_wide 5 Tryz.f5 rfl rfl rfl rfl rfl rfl rfl ⟨rfl, rfl, rfl, rfl, rfl⟩ rfl rfl rfl rfl rfl (by kernel_rfl) Tryz.func5 closed
  (of_decide_eq_true (by kernel_rfl)) (by unfold Func.isWrapper; first | (rw [if_pos (by decide +kernel)]; kernel_rfl) | (rw [if_neg (by decide +kernel)]; exact ⟨rfl, rfl⟩))
  (fun os started H enc _ => lifted os started H enc)
theorem proved : Rows.FnKeepReadSaid := over
#print axioms proved
end Go.Proofs.YtnbighmbgmjbkaaGreat.fnKeepRead
end
