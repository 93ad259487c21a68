/- Part 1 of the proof of the statement FnExactKeepRead; the last part states it. No condition. -/
import Derived.Test.YtechafkfchmggaaGreatRows
import Derived.WalkKit
import Derived.ProofKit
import Derived.OpenShut
import Derived.ShutString
import Derived.ChangeOld
import Derived.Below
import Derived.SizedLaws
import Derived.Test.YtechafkfchmggaaGreatMGB2
import Derived.Test.YtechafkfchmggaaGreatMGB3
import Derived.Test.YtechafkfchmggaaGreatMGB4
import Derived.Test.YtechafkfchmggaaGreatMGB5
import Derived.Test.YtechafkfchmggaaGreatMGB21
section
set_option linter.unusedVariables false
set_option linter.unusedSimpArgs false
namespace Go.Proofs.YtechafkfchmggaaGreat.E
open Go Go.RowKit
set_option linter.unusedVariables false
set_option maxRecDepth 100000
namespace impl_KeepRead
def sin : Sig := ⟨[], [.agg [.val I false, .val (.sl I) false, .val (.sl I) false, .val (.sl .bool) false, .val .bool false, .val I false, .val (.sl I) false, .val I false]]⟩
def sout : Sig := ⟨[.buf I false], [.one (.ref (.own 0)), .one (.val .bool false)]⟩
noncomputable def G {β : Type} (S : Sl) (a0 : Int) (a1 : (List Int)) (a2 : (List Int)) (a3 : (List Bool)) (a4 : Bool) (a5 : Int) (a6 : (List Int)) (a7 : Int) (K : (List Int) → Bool → Option β) : Option β := impl_KeepOk.G S a0 a1 a2 a3 a4 a5 a6 a7 (fun y1 => bif (!y1) then (K [] false) else (bif a4 then (slices_Clone_Sint_int.G S a6 (fun y2 => slices_Clip_Sint_int_.G S y2 (fun y3 => K y3 true))) else (impl_Stripe_read.G S a0 a1 a2 a3 (fun y4 y5 y6 => K y4 y6))))
noncomputable def o : Orac := ⟨77, sin, sout, fun s K => G sl0 s.2.1.1 s.2.1.2.1 s.2.1.2.2.1 s.2.1.2.2.2.1 s.2.1.2.2.2.2.1 s.2.1.2.2.2.2.2.1 s.2.1.2.2.2.2.2.2.1 s.2.1.2.2.2.2.2.2.2.1 (fun x0 x1 => K ((x0, ()), (x1, ())))⟩
noncomputable def C : Ctx := ⟨tyT, [impl_KeepOk.o, impl_Stripe_read.o, slices_Clip_Sint_int_.o, slices_Clone_Sint_int.o], [], 25, 0⟩
theorem ctx : CtxOk Tryz.prog C := ⟨tyOk, all1 impl_KeepOk.ok (all1 impl_Stripe_read.ok (all1 slices_Clip_Sint_int_.ok (all1 slices_Clone_Sint_int.ok (all0))))⟩
theorem eG (β : Type) (s : sin.den) (K : sout.den → Option β) : evalFn C Tryz.f77 sin sout s K = o.F s K := by kernel_rfl
theorem ok : OracOk Tryz.prog o := fn_ok mixed Tryz.func77 (by kernel_rfl) ctx (c := bodyC Tryz.f77) (by kernel_rfl) (all0) (by kernel_rfl) (by kernel_rfl) (by kernel_rfl) (Nat.le_of_ble_eq_true (by kernel_rfl)) eG (by kernel_rfl) (Nat.le_of_ble_eq_true (by kernel_rfl))
end impl_KeepRead
end Go.Proofs.YtechafkfchmggaaGreat.E
end
section
set_option linter.unusedVariables false
set_option linter.unusedSimpArgs false
namespace Go.Proofs.YtechafkfchmggaaGreat.E
open Go Go.RowKit
set_option linter.unusedVariables false
set_option maxRecDepth 100000
namespace spec_l23Read
def sin : Sig := ⟨[], [.agg [.val I false, .val (.sl I) false, .val (.sl I) false, .val (.sl .bool) false, .val .bool false, .val I false, .val (.sl I) false, .val I false]]⟩
def sout : Sig := ⟨[.buf I false], [.one (.ref (.own 0))]⟩
noncomputable def G {β : Type} (S : Sl) (a0 : Int) (a1 : (List Int)) (a2 : (List Int)) (a3 : (List Bool)) (a4 : Bool) (a5 : Int) (a6 : (List Int)) (a7 : Int) (K : (List Int) → Option β) : Option β := bif a4 then (bif (S.fw ([] ++ a6).length) then (K ([] ++ a6)) else (none)) else (spec_l21Read.G S a0 a1 a2 a3 (fun y1 y2 y3 => K y1))
noncomputable def o : Orac := ⟨146, sin, sout, fun s K => G sl0 s.2.1.1 s.2.1.2.1 s.2.1.2.2.1 s.2.1.2.2.2.1 s.2.1.2.2.2.2.1 s.2.1.2.2.2.2.2.1 s.2.1.2.2.2.2.2.2.1 s.2.1.2.2.2.2.2.2.2.1 (fun x0 => K ((x0, ()), ()))⟩
noncomputable def C : Ctx := ⟨tyT, [spec_l21Read.o], [], 20, 0⟩
theorem ctx : CtxOk Tryz.prog C := ⟨tyOk, all1 spec_l21Read.ok (all0)⟩
theorem eG (β : Type) (s : sin.den) (K : sout.den → Option β) : evalFn C Tryz.f146 sin sout s K = o.F s K := by kernel_rfl
theorem ok : OracOk Tryz.prog o := fn_ok mixed Tryz.func146 (by kernel_rfl) ctx (c := bodyC Tryz.f146) (by kernel_rfl) (all0) (by kernel_rfl) (by kernel_rfl) (by kernel_rfl) (Nat.le_of_ble_eq_true (by kernel_rfl)) eG (by kernel_rfl) (Nat.le_of_ble_eq_true (by kernel_rfl))
end spec_l23Read
end Go.Proofs.YtechafkfchmggaaGreat.E
end
section
set_option linter.unusedVariables false
set_option linter.unusedSimpArgs false
namespace Go.Proofs.YtechafkfchmggaaGreat.E
open Go Go.RowKit
set_option linter.unusedVariables false
set_option maxRecDepth 100000
namespace spec_KeepRead
def sin : Sig := ⟨[], [.agg [.val I false, .val (.sl I) false, .val (.sl I) false, .val (.sl .bool) false, .val .bool false, .val I false, .val (.sl I) false, .val I false]]⟩
def sout : Sig := ⟨[.buf I false], [.one (.ref (.own 0)), .one (.val .bool false)]⟩
noncomputable def G {β : Type} (S : Sl) (a0 : Int) (a1 : (List Int)) (a2 : (List Int)) (a3 : (List Bool)) (a4 : Bool) (a5 : Int) (a6 : (List Int)) (a7 : Int) (K : (List Int) → Bool → Option β) : Option β := spec_KeepOk.G S a0 a1 a2 a3 a4 a5 a6 a7 (fun y1 => bif (!y1) then (K [] false) else (spec_l23Read.G S a0 a1 a2 a3 a4 a5 a6 a7 (fun y2 => K y2 true)))
noncomputable def o : Orac := ⟨76, sin, sout, fun s K => G sl0 s.2.1.1 s.2.1.2.1 s.2.1.2.2.1 s.2.1.2.2.2.1 s.2.1.2.2.2.2.1 s.2.1.2.2.2.2.2.1 s.2.1.2.2.2.2.2.2.1 s.2.1.2.2.2.2.2.2.2.1 (fun x0 x1 => K ((x0, ()), (x1, ())))⟩
noncomputable def C : Ctx := ⟨tyT, [spec_KeepOk.o, spec_l23Read.o], [], 10, 0⟩
theorem ctx : CtxOk Tryz.prog C := ⟨tyOk, all1 spec_KeepOk.ok (all1 spec_l23Read.ok (all0))⟩
theorem eG (β : Type) (s : sin.den) (K : sout.den → Option β) : evalFn C Tryz.f76 sin sout s K = o.F s K := by kernel_rfl
theorem ok : OracOk Tryz.prog o := fn_ok mixed Tryz.func76 (by kernel_rfl) ctx (c := bodyC Tryz.f76) (by kernel_rfl) (all0) (by kernel_rfl) (by kernel_rfl) (by kernel_rfl) (Nat.le_of_ble_eq_true (by kernel_rfl)) eG (by kernel_rfl) (Nat.le_of_ble_eq_true (by kernel_rfl))
end spec_KeepRead
end Go.Proofs.YtechafkfchmggaaGreat.E
end
section
set_option linter.unusedVariables false
set_option linter.unusedSimpArgs false
namespace Go.Proofs.YtechafkfchmggaaGreat.E
open Go Go.RowKit
set_option linter.unusedVariables false
set_option maxRecDepth 100000
namespace laws_FnExactKeepRead
def sin : Sig := ⟨[], [.agg [.val I false, .val (.sl I) false, .val (.sl I) false, .val (.sl .bool) false, .val .bool false, .val I false, .val (.sl I) false, .val I false]]⟩
def sout : Sig := ⟨[], [.one (.val .bool false)]⟩
noncomputable def G {β : Type} (S : Sl) (a0 : Int) (a1 : (List Int)) (a2 : (List Int)) (a3 : (List Bool)) (a4 : Bool) (a5 : Int) (a6 : (List Int)) (a7 : Int) (K : Bool → Option β) : Option β := laws_szKeep.G S a0 a1 a2 a3 a4 a5 a6 a7 1048576 (fun y1 => bif (S.lt y1 0) then (K true) else (laws_toKeep.G S a0 a1 a2 a3 a4 a5 a6 a7 (fun y2 y3 y4 y5 y6 y7 y8 y9 => spec_KeepRead.G S y6 y2 y3 y4 y7 y8 y5 y9 (fun y10 y11 => laws_toKeep.G S a0 a1 a2 a3 a4 a5 a6 a7 (fun y12 y13 y14 y15 y16 y17 y18 y19 => impl_KeepRead.G S y16 y12 y13 y14 y17 y18 y15 y19 (fun y20 y21 => laws_eqIntS.G S y20 y10 (fun y22 => bif (!y22) then (K false) else (bif (y21 != y11) then (K false) else (laws_toKeep.G S a0 a1 a2 a3 a4 a5 a6 a7 (fun y23 y24 y25 y26 y27 y28 y29 y30 => laws_eqKeep.G S y16 y12 y13 y14 y17 y18 y15 y19 y27 y23 y24 y25 y28 y29 y26 y30 (fun y31 => bif (!y31) then (K false) else (laws_markKeep_.G S y12 y13 y14 y15 y16 y17 y18 y19 1 (fun y32 y33 y34 y35 y36 => bif (S.lt y36 0) then (K false) else (laws_eqIntS.G S y20 y10 (fun y37 => bif (!y37) then (K false) else (bif (y21 != y11) then (K false) else (laws_markIntS_.G S y20 1 (fun y38 y39 => laws_heldIntS.G S y38 1 (fun y40 => bif (S.lt y40 0) then (K false) else (bif (!S.eq y40 y39) then (K false) else (laws_toKeep.G S a0 a1 a2 a3 a4 a5 a6 a7 (fun y41 y42 y43 y44 y45 y46 y47 y48 => impl_KeepRead.G S y45 y41 y42 y43 y46 y47 y44 y48 (fun y49 y50 => laws_eqIntS.G S y49 y10 (fun y51 => bif (!y51) then (K false) else (bif (y50 != y11) then (K false) else (laws_heldIntS.G S y38 1 (fun y52 => bif (S.lt y52 0) then (K false) else (bif (!S.eq y52 y39) then (K false) else (K true)))))))))))))))))))))))))))))
noncomputable def o : Orac := ⟨18, sin, sout, fun s K => G sl0 s.2.1.1 s.2.1.2.1 s.2.1.2.2.1 s.2.1.2.2.2.1 s.2.1.2.2.2.2.1 s.2.1.2.2.2.2.2.1 s.2.1.2.2.2.2.2.2.1 s.2.1.2.2.2.2.2.2.2.1 (fun x0 => K ((), (x0, ())))⟩
noncomputable def C : Ctx := ⟨tyT, [impl_KeepRead.o, laws_eqIntS.o, laws_eqKeep.o, laws_heldIntS.o, laws_markIntS_.o, laws_markKeep_.o, laws_szKeep.o, laws_toKeep.o, spec_KeepRead.o], [], 96, 0⟩
theorem ctx : CtxOk Tryz.prog C := ⟨tyOk, all1 impl_KeepRead.ok (all1 laws_eqIntS.ok (all1 laws_eqKeep.ok (all1 laws_heldIntS.ok (all1 laws_markIntS_.ok (all1 laws_markKeep_.ok (all1 laws_szKeep.ok (all1 laws_toKeep.ok (all1 spec_KeepRead.ok (all0)))))))))⟩
theorem eG (β : Type) (s : sin.den) (K : sout.den → Option β) : evalFn C Tryz.f18 sin sout s K = o.F s K := by kernel_rfl
theorem ok : OracOk Tryz.prog o := fn_ok mixed Tryz.func18 (by kernel_rfl) ctx (c := bodyC Tryz.f18) (by kernel_rfl) (all0) (by kernel_rfl) (by kernel_rfl) (by kernel_rfl) (Nat.le_of_ble_eq_true (by kernel_rfl)) eG (by kernel_rfl) (Nat.le_of_ble_eq_true (by kernel_rfl))
end laws_FnExactKeepRead
end Go.Proofs.YtechafkfchmggaaGreat.E
end
section
set_option linter.unusedVariables false
set_option linter.unusedSimpArgs false
namespace Go.Proofs.YtechafkfchmggaaGreat.E
open Go Go.RowKit
set_option linter.unusedVariables false
set_option maxRecDepth 100000
theorem keepRead_E (kind : Int) {vals vers : List Int} {there : List Bool} (on : Bool) (kd : Int) {data : List Int} (kv : Int) (hl : vals.length ≤ 1048576) (hdl : data.length ≤ 1048576) : ∃ (d : List Int) (b : Bool), d.length ≤ 1048576 ∧ (∀ (β : Type) (K : List Int → Bool → Option β), spec_KeepRead.G sl1 kind vals vers there on kd data kv K = K d b) ∧
    ∀ (β : Type) (K : List Int → Bool → Option β), impl_KeepRead.G sl1 kind vals vers there on kd data kv K = K d b := by
  cases ck : keepV kind vals vers there on kd data kv
  · refine ⟨[], false, by simp, fun β K => ?_, fun β K => ?_⟩
    · refine (keepS_G kind on kd kv (by omega) (by omega) _).trans ?_
      rw [ck]; exact cT rfl rfl
    · refine (keepI_G kind on kd kv (by omega) _).trans ?_
      rw [keep_same, ck]; exact cT rfl rfl
  obtain ⟨hk, hf, h1, h2, h3, ho, _⟩ := keepV_facts ck
  cases on
  · obtain ⟨cs, hr⟩ := ho rfl
    obtain ⟨d, hd, es⟩ := readS_E cs
    obtain ⟨d', hd', ei⟩ := readI_E cs
    obtain rfl := tells_uniq hk hd hd'
    have hlen : d.length ≤ 1048576 := by
      unfold Tells at hd
      split at hd
      · rw [hd]; simp
      · rw [hd.1.len]; omega
    refine ⟨d, true, hlen, fun β K => ?_, fun β K => ?_⟩
    · refine (keepS_G kind false kd kv (by omega) (by omega) _).trans ?_
      rw [ck]
      exact cF rfl (cF rfl (es _ _))
    · refine (keepI_G kind false kd kv (by omega) _).trans ?_
      rw [keep_same, ck]
      refine cF rfl (cF rfl ((ei _ _).trans ?_))
      rw [hr]
  · refine ⟨data, true, hdl, fun β K => ?_, fun β K => ?_⟩
    · refine (keepS_G kind true kd kv (by omega) (by omega) _).trans ?_
      rw [ck]
      refine cF rfl (cT rfl ?_)
      rw [List.nil_append]
      exact cT (fwT (by omega)) rfl
    · refine (keepI_G kind true kd kv (by omega) _).trans ?_
      rw [keep_same, ck]
      exact cF rfl (cT rfl (cT (fwT (by omega)) (clipI_G _ _)))
end Go.Proofs.YtechafkfchmggaaGreat.E
namespace Go.Proofs.YtechafkfchmggaaGreat.Pure.FnExactKeepRead
open Go Go.Proofs.YtechafkfchmggaaGreat.E
theorem pure (x : Int × (List Int × (List Int × (List Bool × (Bool × (Int × (List Int × (Int × Unit)))))))) (h1 : x.2.1.length ≤ 9223372036854775807) (h2 : x.2.2.1.length ≤ 9223372036854775807) (h3 : x.2.2.2.1.length ≤ 9223372036854775807) (h4 : x.2.2.2.2.2.2.1.length ≤ 9223372036854775807)
    {β : Type} (K : Bool → Option β) : laws_FnExactKeepRead.G sl1 x.1 x.2.1 x.2.2.1 x.2.2.2.1 x.2.2.2.2.1 x.2.2.2.2.2.1 x.2.2.2.2.2.2.1 x.2.2.2.2.2.2.2.1 K = K true := by
  obtain ⟨kind, vals, vers, there, on, kd, data, kv, _⟩ := x
  dsimp only at h1 h2 h3 h4 ⊢
  obtain ⟨y, hy, h⟩ := szKeep_or kind on kd kv h1 h2 h3 h4
  unfold laws_FnExactKeepRead.G
  refine (hy _ _).trans ?_
  rcases h with h | ⟨h, l1, l2, l3, l4⟩
  · exact cT (ltT h) rfl
  obtain ⟨d, b, hd, es, ei⟩ := keepRead_E kind (vals := vals) (vers := vers) (there := there) (data := data) on kd kv l1 l4
  have to := fun {γ : Type} (K : List Int → List Int → List Bool → List Int → Int → Bool → Int → Int → Option γ) => toKeep_G kind on kd kv l1 l2 l3 l4 K
  obtain ⟨a', b', c', d', k', hk', hm', _⟩ := markKeep_B kind on kd kv l1 l2 l3 l4
  refine cF (ltF h) ((to _).trans ((es _ _).trans ((to _).trans ((ei _ _).trans ((eqInt_G hd _).trans (cF rfl (cF (bne_self_eq_false _) ?_)))))))
  refine (to _).trans ((eqKeep_G kind on kd kv l1 l2 l3 l4 _).trans (cF rfl ((hm' _ _).trans (cF (ltF hk'.1) ?_))))
  refine (eqInt_G hd _).trans (cF rfl (cF (bne_self_eq_false _) ((markInt_G hd (by omega) (by omega) _).trans ((heldInt_G hd (by omega) (by omega) _).trans (cF (ltF (by omega)) (cF (neF rfl) ?_))))))
  refine (to _).trans ((ei _ _).trans ((eqInt_G hd _).trans (cF rfl (cF (bne_self_eq_false _) ?_))))
  exact (heldInt_G hd (by omega) (by omega) _).trans (cF (ltF (by omega)) (cF (neF rfl) rfl))
end Go.Proofs.YtechafkfchmggaaGreat.Pure.FnExactKeepRead
end
section
set_option linter.unusedVariables false
set_option linter.unusedSimpArgs false
namespace Go.Proofs.YtechafkfchmggaaGreat.fnExactKeepRead
open Go.ChangeShapes Go.WideShapes Go.ChangeAt Go.RowKit
open Go.ChangeMaps (open_string shut_string)
set_option linter.unusedVariables false
theorem own : ownKnob Tryz.prog.godebug = none := by kernel_rfl
theorem laidOut : laidOutB Tryz.prog = true := by kernel_rfl
set_option maxRecDepth 100000 in
theorem lifted (os : Os) (started : os.Started) (H : Type) (enc : TypeId × Value → H) :
    ReturnsInHanded {} Tryz.checked os 18 .any (Rows.fnExactKeepReadSpec.pre6 enc Tryz.prog Tryz.f18 Rows.fnExactKeepReadRow.domain false) (Rows.fnExactKeepReadSpec.post enc Tryz.prog Tryz.f18 false true false false) := by
  refine returnsInHanded_of_change_sized (C := Tryz.checked) own started (by kernel_rfl) Tryz.func18
    (ChangeSpec.witness6 (enc := enc) (C := Tryz.checked) false ⟨#[], #[.agg #[.int .i64 0, .slice none 0 0, .slice none 0 0, .slice none 0 0, .bool false, .int .i64 0, .slice none 0 0, .int .i64 0]], []⟩ 8 (by kernel_rfl) (by kernel_rfl) (by kernel_rfl) (by kernel_rfl)) ?_
  intro W base args ds gs before hval0 hW hcnd hsz0 _
  have hval : ∀ (j : Nat) t v, Tryz.f18.params[j]? = some t → args[j]? = some v → Value.okWide Tryz.prog W .any base t v := hval0
  have hW' := hW
  obtain ⟨p, q, hA0, hV, rfl, hfz, hnd⟩ := hW
  have hA : DataW.TrodAll enc Tryz.prog W 0 (fun _ => true) true Tryz.f18.params.toList args.toList ds p := hA0
  rw [Tryz.params18] at hA hval
  obtain ⟨v0, vs0, d0, ds0, p0, q0, hargs, rfl, rfl, h0, r0⟩ := trodAll_cons hA
  obtain ⟨rfl, rfl, rfl⟩ := trodAll_nil r0
  obtain rfl : args = #[v0] := by cases args; simp_all
  obtain ⟨rfl, rfl⟩ := trodVars_none hV
  have k0 := h0
  have lt0 : ∀ x ∈ p0, x.block < W.heap.size := by obtain ⟨m, hm⟩ := k0; exact DataW.trod_lt m _ _ _ hm
  obtain ⟨x0, R0, Q0⟩ := E.arg_struct Tryz.underlying81 (hval 0 81 v0 rfl rfl) h0 (E.RdG_nest rfl rfl (E.Rd_struct Tryz.underlying25 (by kernel_rfl) (E.RdF_cons rfl (E.Rd_int Tryz.underlying3 (by kernel_rfl)) (E.RdF_cons rfl (E.Rd_slice Tryz.underlying22 (by kernel_rfl) (by decide) (E.Rd_int Tryz.underlying3 (by kernel_rfl))) (E.RdF_cons rfl (E.Rd_slice Tryz.underlying22 (by kernel_rfl) (by decide) (E.Rd_int Tryz.underlying3 (by kernel_rfl))) (E.RdF_cons rfl (E.Rd_slice Tryz.underlying23 (by kernel_rfl) (by decide) (E.Rd_bool Tryz.underlying4 (by kernel_rfl))) E.RdF_nil))))) (E.RdG_cons rfl (E.Rd_bool Tryz.underlying4 (by kernel_rfl)) (E.RdG_cons rfl (E.Rd_int Tryz.underlying3 (by kernel_rfl)) (E.RdG_cons rfl (E.Rd_slice Tryz.underlying22 (by kernel_rfl) (by decide) (E.Rd_int Tryz.underlying3 (by kernel_rfl))) (E.RdG_cons rfl (E.Rd_int Tryz.underlying3 (by kernel_rfl)) (E.RdG_nil (by decide +kernel)))))))
  obtain ⟨xa0, xb0, rfl, Qa0, Qb0⟩ := Q0
  clear hA0 hval0 hsz0
  have hp := Pure.FnExactKeepRead.pure (E.chainDen _ _ xa0 xb0) Qa0.2.1.1 Qa0.2.2.1.1 Qa0.2.2.2.1.1 Qb0.2.2.1.1 (fun b => some ((), (b, ())))
  rw [← E.sl_eq] at hp
  refine (E.law_any E.laws_FnExactKeepRead.ok (s := (E.chainDen _ _ xa0 xb0, ())) hp (args := [v0]) ⟨v0, _, rfl, R0, rfl⟩).mono fun e W' ⟨he, bel⟩ => ?_
  subst he
  exact ⟨_, rfl, _, _, _, [], _, [], hW', trodAll_mk1 (shut_bool Tryz.underlying4 _), (trodAll_cons_mk (Below.trod laidOut (by kernel_rfl) (of_decide_eq_true (by kernel_rfl)) k0 bel lt0) trodAll_mk0), rfl, bel.frame _, fun h => by cases h⟩
theorem closed : joinedFacts Tryz.prog 18 Tryz.f18 Rows.fnExactKeepReadSpec Rows.fnExactKeepReadRow = true := by
  unfold joinedFacts
  rw [Head.make, Head.final, Head.enter]
  kernel_rfl
theorem over : Rows.fnExactKeepReadRow.holds Tryz.pinned (OpenSpec.ofChange Rows.fnExactKeepReadSpec) :=
  OpenClaim.holds_of_wide 18 Tryz.f18 rfl rfl rfl rfl rfl rfl rfl ⟨rfl, rfl, rfl, rfl, rfl⟩ rfl rfl rfl rfl rfl (by kernel_rfl) Tryz.func18 closed
    (of_decide_eq_true (by kernel_rfl)) (by unfold Func.isWrapper; first | (rw [if_pos (by decide +kernel)]; kernel_rfl) | (rw [if_neg (by decide +kernel)]; exact ⟨rfl, rfl⟩))
    (fun os started H enc _ => lifted os started H enc)
theorem proved : Rows.FnExactKeepReadSaid := over
#print axioms proved
end Go.Proofs.YtechafkfchmggaaGreat.fnExactKeepRead
end
