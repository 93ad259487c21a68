/- Part 1 of the proof of the statement FnExactKeepOk; the last part states it. No condition. -/
import Derived.Test.YtechafkfchmggaaGreatRows
import Derived.WalkKit
import Derived.ProofKit
import Derived.OpenShut
import Derived.ShutString
import Derived.ChangeOld
import Derived.Below
import Derived.SizedLaws
import Derived.Test.YtechafkfchmggaaGreatMGB2
import Derived.Test.YtechafkfchmggaaGreatMGB3
import Derived.Test.YtechafkfchmggaaGreatMGB4
import Derived.Test.YtechafkfchmggaaGreatMGB5
import Derived.Test.YtechafkfchmggaaGreatMGB21
section
set_option linter.unusedVariables false
set_option linter.unusedSimpArgs false
namespace Go.Proofs.YtechafkfchmggaaGreat.E
open Go Go.RowKit
set_option linter.unusedVariables false
set_option maxRecDepth 100000
namespace laws_FnExactKeepOk
def sin : Sig := ⟨[], [.agg [.val I false, .val (.sl I) false, .val (.sl I) false, .val (.sl .bool) false, .val .bool false, .val I false, .val (.sl I) false, .val I false]]⟩
def sout : Sig := ⟨[], [.one (.val .bool false)]⟩
noncomputable def G {β : Type} (S : Sl) (a0 : Int) (a1 : (List Int)) (a2 : (List Int)) (a3 : (List Bool)) (a4 : Bool) (a5 : Int) (a6 : (List Int)) (a7 : Int) (K : Bool → Option β) : Option β := laws_szKeep.G S a0 a1 a2 a3 a4 a5 a6 a7 1048576 (fun y1 => bif (S.lt y1 0) then (K true) else (laws_toKeep.G S a0 a1 a2 a3 a4 a5 a6 a7 (fun y2 y3 y4 y5 y6 y7 y8 y9 => spec_KeepOk.G S y6 y2 y3 y4 y7 y8 y5 y9 (fun y10 => laws_toKeep.G S a0 a1 a2 a3 a4 a5 a6 a7 (fun y11 y12 y13 y14 y15 y16 y17 y18 => impl_KeepOk.G S y15 y11 y12 y13 y16 y17 y14 y18 (fun y19 => bif (y19 != y10) then (K false) else (laws_toKeep.G S a0 a1 a2 a3 a4 a5 a6 a7 (fun y20 y21 y22 y23 y24 y25 y26 y27 => laws_eqKeep.G S y15 y11 y12 y13 y16 y17 y14 y18 y24 y20 y21 y22 y25 y26 y23 y27 (fun y28 => bif (!y28) then (K false) else (K true))))))))))
noncomputable def o : Orac := ⟨15, sin, sout, fun s K => G sl0 s.2.1.1 s.2.1.2.1 s.2.1.2.2.1 s.2.1.2.2.2.1 s.2.1.2.2.2.2.1 s.2.1.2.2.2.2.2.1 s.2.1.2.2.2.2.2.2.1 s.2.1.2.2.2.2.2.2.2.1 (fun x0 => K ((), (x0, ())))⟩
noncomputable def C : Ctx := ⟨tyT, [impl_KeepOk.o, laws_eqKeep.o, laws_szKeep.o, laws_toKeep.o, spec_KeepOk.o], [], 27, 0⟩
theorem ctx : CtxOk Tryz.prog C := ⟨tyOk, all1 impl_KeepOk.ok (all1 laws_eqKeep.ok (all1 laws_szKeep.ok (all1 laws_toKeep.ok (all1 spec_KeepOk.ok (all0)))))⟩
theorem eG (β : Type) (s : sin.den) (K : sout.den → Option β) : evalFn C Tryz.f15 sin sout s K = o.F s K := by kernel_rfl
theorem ok : OracOk Tryz.prog o := fn_ok mixed Tryz.func15 (by kernel_rfl) ctx (c := bodyC Tryz.f15) (by kernel_rfl) (all0) (by kernel_rfl) (by kernel_rfl) (by kernel_rfl) (Nat.le_of_ble_eq_true (by kernel_rfl)) eG (by kernel_rfl) (Nat.le_of_ble_eq_true (by kernel_rfl))
end laws_FnExactKeepOk
end Go.Proofs.YtechafkfchmggaaGreat.E
end
section
set_option linter.unusedVariables false
set_option linter.unusedSimpArgs false
namespace Go.Proofs.YtechafkfchmggaaGreat.Pure.FnExactKeepOk
open Go Go.Proofs.YtechafkfchmggaaGreat.E
theorem pure (x : Int × (List Int × (List Int × (List Bool × (Bool × (Int × (List Int × (Int × Unit)))))))) (h1 : x.2.1.length ≤ 9223372036854775807) (h2 : x.2.2.1.length ≤ 9223372036854775807) (h3 : x.2.2.2.1.length ≤ 9223372036854775807) (h4 : x.2.2.2.2.2.2.1.length ≤ 9223372036854775807)
    {β : Type} (K : Bool → Option β) : laws_FnExactKeepOk.G sl1 x.1 x.2.1 x.2.2.1 x.2.2.2.1 x.2.2.2.2.1 x.2.2.2.2.2.1 x.2.2.2.2.2.2.1 x.2.2.2.2.2.2.2.1 K = K true := by
  obtain ⟨kind, vals, vers, there, on, kd, data, kv, _⟩ := x
  dsimp only at h1 h2 h3 h4 ⊢
  obtain ⟨y, hy, h⟩ := szKeep_or kind on kd kv h1 h2 h3 h4
  unfold laws_FnExactKeepOk.G
  refine (hy _ _).trans ?_
  rcases h with h | ⟨h, l1, l2, l3, l4⟩
  · exact cT (ltT h) rfl
  refine cF (ltF h) ((toKeep_G kind on kd kv l1 l2 l3 l4 _).trans ((keepS_G kind on kd kv (by omega) (by omega) _).trans ((toKeep_G kind on kd kv l1 l2 l3 l4 _).trans ((keepI_G kind on kd kv (by omega) _).trans ?_))))
  rw [keep_same]
  exact cF (bne_self_eq_false _) ((toKeep_G kind on kd kv l1 l2 l3 l4 _).trans ((eqKeep_G kind on kd kv l1 l2 l3 l4 _).trans (cF rfl rfl)))
end Go.Proofs.YtechafkfchmggaaGreat.Pure.FnExactKeepOk
end
section
set_option linter.unusedVariables false
set_option linter.unusedSimpArgs false
namespace Go.Proofs.YtechafkfchmggaaGreat.fnExactKeepOk
open Go.ChangeShapes Go.WideShapes Go.ChangeAt Go.RowKit
open Go.ChangeMaps (open_string shut_string)
set_option linter.unusedVariables false
theorem own : ownKnob Tryz.prog.godebug = none := by kernel_rfl
theorem laidOut : laidOutB Tryz.prog = true := by kernel_rfl
set_option maxRecDepth 100000 in
theorem lifted (os : Os) (started : os.Started) (H : Type) (enc : TypeId × Value → H) :
    ReturnsInHanded {} Tryz.checked os 15 .any (Rows.fnExactKeepOkSpec.pre6 enc Tryz.prog Tryz.f15 Rows.fnExactKeepOkRow.domain false) (Rows.fnExactKeepOkSpec.post enc Tryz.prog Tryz.f15 false true false false) := by
  refine returnsInHanded_of_change_sized (C := Tryz.checked) own started (by kernel_rfl) Tryz.func15
    (ChangeSpec.witness6 (enc := enc) (C := Tryz.checked) false ⟨#[], #[.agg #[.int .i64 0, .slice none 0 0, .slice none 0 0, .slice none 0 0, .bool false, .int .i64 0, .slice none 0 0, .int .i64 0]], []⟩ 8 (by kernel_rfl) (by kernel_rfl) (by kernel_rfl) (by kernel_rfl)) ?_
  intro W base args ds gs before hval0 hW hcnd hsz0 _
  have hval : ∀ (j : Nat) t v, Tryz.f15.params[j]? = some t → args[j]? = some v → Value.okWide Tryz.prog W .any base t v := hval0
  have hW' := hW
  obtain ⟨p, q, hA0, hV, rfl, hfz, hnd⟩ := hW
  have hA : DataW.TrodAll enc Tryz.prog W 0 (fun _ => true) true Tryz.f15.params.toList args.toList ds p := hA0
  rw [Tryz.params15] at hA hval
  obtain ⟨v0, vs0, d0, ds0, p0, q0, hargs, rfl, rfl, h0, r0⟩ := trodAll_cons hA
  obtain ⟨rfl, rfl, rfl⟩ := trodAll_nil r0
  obtain rfl : args = #[v0] := by cases args; simp_all
  obtain ⟨rfl, rfl⟩ := trodVars_none hV
  have k0 := h0
  have lt0 : ∀ x ∈ p0, x.block < W.heap.size := by obtain ⟨m, hm⟩ := k0; exact DataW.trod_lt m _ _ _ hm
  obtain ⟨x0, R0, Q0⟩ := E.arg_struct Tryz.underlying81 (hval 0 81 v0 rfl rfl) h0 (E.RdG_nest rfl rfl (E.Rd_struct Tryz.underlying25 (by kernel_rfl) (E.RdF_cons rfl (E.Rd_int Tryz.underlying3 (by kernel_rfl)) (E.RdF_cons rfl (E.Rd_slice Tryz.underlying22 (by kernel_rfl) (by decide) (E.Rd_int Tryz.underlying3 (by kernel_rfl))) (E.RdF_cons rfl (E.Rd_slice Tryz.underlying22 (by kernel_rfl) (by decide) (E.Rd_int Tryz.underlying3 (by kernel_rfl))) (E.RdF_cons rfl (E.Rd_slice Tryz.underlying23 (by kernel_rfl) (by decide) (E.Rd_bool Tryz.underlying4 (by kernel_rfl))) E.RdF_nil))))) (E.RdG_cons rfl (E.Rd_bool Tryz.underlying4 (by kernel_rfl)) (E.RdG_cons rfl (E.Rd_int Tryz.underlying3 (by kernel_rfl)) (E.RdG_cons rfl (E.Rd_slice Tryz.underlying22 (by kernel_rfl) (by decide) (E.Rd_int Tryz.underlying3 (by kernel_rfl))) (E.RdG_cons rfl (E.Rd_int Tryz.underlying3 (by kernel_rfl)) (E.RdG_nil (by decide +kernel)))))))
  obtain ⟨xa0, xb0, rfl, Qa0, Qb0⟩ := Q0
  clear hA0 hval0 hsz0
  have hp := Pure.FnExactKeepOk.pure (E.chainDen _ _ xa0 xb0) Qa0.2.1.1 Qa0.2.2.1.1 Qa0.2.2.2.1.1 Qb0.2.2.1.1 (fun b => some ((), (b, ())))
  rw [← E.sl_eq] at hp
  refine (E.law_any E.laws_FnExactKeepOk.ok (s := (E.chainDen _ _ xa0 xb0, ())) hp (args := [v0]) ⟨v0, _, rfl, R0, rfl⟩).mono fun e W' ⟨he, bel⟩ => ?_
  subst he
  exact ⟨_, rfl, _, _, _, [], _, [], hW', trodAll_mk1 (shut_bool Tryz.underlying4 _), (trodAll_cons_mk (Below.trod laidOut (by kernel_rfl) (of_decide_eq_true (by kernel_rfl)) k0 bel lt0) trodAll_mk0), rfl, bel.frame _, fun h => by cases h⟩
theorem closed : joinedFacts Tryz.prog 15 Tryz.f15 Rows.fnExactKeepOkSpec Rows.fnExactKeepOkRow = true := by
  unfold joinedFacts
  rw [Head.make, Head.final, Head.enter]
  kernel_rfl
theorem over : Rows.fnExactKeepOkRow.holds Tryz.pinned (OpenSpec.ofChange Rows.fnExactKeepOkSpec) :=
  OpenClaim.holds_of_wide 15 Tryz.f15 rfl rfl rfl rfl rfl rfl rfl ⟨rfl, rfl, rfl, rfl, rfl⟩ rfl rfl rfl rfl rfl (by kernel_rfl) Tryz.func15 closed
    (of_decide_eq_true (by kernel_rfl)) (by unfold Func.isWrapper; first | (rw [if_pos (by decide +kernel)]; kernel_rfl) | (rw [if_neg (by decide +kernel)]; exact ⟨rfl, rfl⟩))
    (fun os started H enc _ => lifted os started H enc)
theorem proved : Rows.FnExactKeepOkSaid := over
#print axioms proved
end Go.Proofs.YtechafkfchmggaaGreat.fnExactKeepOk
end
