/- Part 1 of the proof of the statement FnExactStripeMend; the last part states it. No condition. -/
import Derived.Test.YtnbighmbgmjbkaaGreatRows
import Derived.WalkKit
import Derived.ProofKit
import Derived.OpenShut
import Derived.ShutString
import Derived.ChangeOld
import Derived.Below
import Derived.SizedLaws
import Derived.Test.YtnbighmbgmjbkaaGreatMGM2
import Derived.Test.YtnbighmbgmjbkaaGreatMGM3
import Derived.Test.YtnbighmbgmjbkaaGreatMGM4
import Derived.Test.YtnbighmbgmjbkaaGreatMGM5
import Derived.Test.YtnbighmbgmjbkaaGreatMGM34
set_option linter.unusedVariables false
set_option linter.unusedSimpArgs false
section
namespace Go.Proofs.YtnbighmbgmjbkaaGreat.E
open Go Go.RowKit
set_option maxRecDepth 100000
namespace laws_FnExactStripeMend
def sin:Sig:=⟨[],[.agg [.val I false,.val (.sl I) false,.val (.sl I) false,.val (.sl .bool) false],.one (.val I false)]⟩
def sout:Sig:=⟨[],[.one (.val .bool false)]⟩
noncomputable def G {β:Type}(S:Sl)(a0:Int)(a1:(List Int))(a2:(List Int))(a3:(List Bool))(a4:Int)(K:Bool→Option β):Option β:=laws_szStripe.G S a0 a1 a2 a3 1048576 (fun y1=>bif(S.lt y1 0)then(K true)else(laws_toStripe.G S a0 a1 a2 a3 (fun y2 y3 y4 y5=>spec_StripeMend.G S y5 y2 y3 y4 a4 (fun y6 y7 y8 y9 y10=>laws_toStripe.G S a0 a1 a2 a3 (fun y11 y12 y13 y14=>impl_StripeMend.G S y14 y11 y12 y13 a4 (fun y15 y16 y17 y18 y19=>laws_eqStripe.G S y18 y15 y16 y17 y9 y6 y7 y8 (fun y20=>bif(!y20)then(K false)else(bif(y19 != y10)then(K false)else(laws_toStripe.G S a0 a1 a2 a3 (fun y21 y22 y23 y24=>laws_eqStripe.G S y14 y11 y12 y13 y24 y21 y22 y23 (fun y25=>bif(!y25)then(K false)else(laws_markStripe_.G S y11 y12 y13 y14 1 (fun y26 y27 y28 y29=>bif(S.lt y29 0)then(K false)else(laws_eqStripe.G S y18 y15 y16 y17 y9 y6 y7 y8 (fun y30=>bif(!y30)then(K false)else(bif(y19 != y10)then(K false)else(laws_markStripe_.G S y15 y16 y17 y18 1 (fun y31 y32 y33 y34=>laws_heldStripe.G S y18 y31 y32 y33 1 (fun y35=>bif(S.lt y35 0)then(K false)else(bif(!S.eq y35 y34)then(K false)else(laws_toStripe.G S a0 a1 a2 a3 (fun y36 y37 y38 y39=>impl_StripeMend.G S y39 y36 y37 y38 a4 (fun y40 y41 y42 y43 y44=>laws_eqStripe.G S y43 y40 y41 y42 y9 y6 y7 y8 (fun y45=>bif(!y45)then(K false)else(bif(y44 != y10)then(K false)else(laws_heldStripe.G S y18 y31 y32 y33 1 (fun y46=>bif(S.lt y46 0)then(K false)else(bif(!S.eq y46 y34)then(K false)else(K true)))))))))))))))))))))))))))))
noncomputable def o:Orac:=⟨17,sin,sout,fun s K=>G sl0 s.2.1.1 s.2.1.2.1 s.2.1.2.2.1 s.2.1.2.2.2.1 s.2.2.1 (fun x0=>K ((),(x0,())))⟩
noncomputable def C:Ctx:=⟨tyT,[impl_StripeMend.o,laws_eqStripe.o,laws_heldStripe.o,laws_markStripe_.o,laws_szStripe.o,laws_toStripe.o,spec_StripeMend.o],[],101,0⟩
theorem ctx:CtxOk Tryz.prog C:=⟨tyOk,all1 impl_StripeMend.ok (all1 laws_eqStripe.ok (all1 laws_heldStripe.ok (all1 laws_markStripe_.ok (all1 laws_szStripe.ok (all1 laws_toStripe.ok (all1 spec_StripeMend.ok (all0)))))))⟩
theorem eG (β:Type)(s:sin.den)(K:sout.den→Option β):evalFn C Tryz.f17 sin sout s K=o.F s K:=by kernel_rfl
theorem ok:OracOk Tryz.prog o:=fn_ok mixed Tryz.func17 (by kernel_rfl) ctx (c:=bodyC Tryz.f17) (by kernel_rfl) (all0) (by kernel_rfl) (by kernel_rfl) (by kernel_rfl) (Nat.le_of_ble_eq_true (by kernel_rfl)) eG (by kernel_rfl) (Nat.le_of_ble_eq_true (by kernel_rfl))
end laws_FnExactStripeMend
end Go.Proofs.YtnbighmbgmjbkaaGreat.E
end
section
namespace Go.Proofs.YtnbighmbgmjbkaaGreat.Pure.FnExactStripeMend
open Go Go.Proofs.YtnbighmbgmjbkaaGreat.E
theorem pure (x:Int×(List Int×(List Int×(List Bool×Unit)))) (at_:Int) (h1:x.2.1.length≤9223372036854775807) (h2:x.2.2.1.length≤9223372036854775807) (h3:x.2.2.2.1.length≤9223372036854775807)
  {β:Type} (K:Bool→Option β):laws_FnExactStripeMend.G sl1 x.1 x.2.1 x.2.2.1 x.2.2.2.1 at_ K=K true:=by
 obtain⟨kind,vals,vers,there,_⟩:=x
 dsimp only at h1 h2 h3 ⊢
 obtain⟨y,hy,h⟩:=szStripe_or kind h1 h2 h3
 unfold laws_FnExactStripeMend.G
 refine(hy _ _).trans ?_
 rcases h with h | ⟨h,l1,l2,l3⟩
 ·exact cT (ltT h) rfl
 obtain⟨es,ei⟩:=mend_G (kind:=kind) (vers:=vers) (there:=there) (show vals.length≤1000000000 by omega) at_
 obtain⟨m1,m2,m3⟩:=mendV_len (kind:=kind) (at_:=at_) l1 l2 l3
 obtain⟨a,b,c,k,hk,hm,hh⟩:=markStripe_E kind l1 l2 l3
 obtain⟨a',b',c',k',hk',hm',hh'⟩:=markStripe_E (mendV kind vals vers there at_).2.1 m1 m2 m3
 have eq1:=fun {γ:Type} (K:Bool→Option γ)=>eqStripe_G (β:=γ) (mendV kind vals vers there at_).2.1 m1 m2 m3 K
 refine cF (ltF h) ((toStripe_G kind l1 l2 l3 _).trans ((es _ _).trans ((toStripe_G kind l1 l2 l3 _).trans ((ei _ _).trans ((eq1 _).trans (cF rfl (cF (bne_self_eq_false _) ?_)))))))
 refine(toStripe_G kind l1 l2 l3 _).trans ((eqStripe_G _ l1 l2 l3 _).trans (cF rfl ((hm _ _).trans (cF (ltF hk) ?_))))
 refine(eq1 _).trans (cF rfl (cF (bne_self_eq_false _) ((hm' _ _).trans ((hh' _ _).trans (cF (ltF hk') (cF (neF rfl) ?_))))))
 refine(toStripe_G kind l1 l2 l3 _).trans ((ei _ _).trans ((eq1 _).trans (cF rfl (cF (bne_self_eq_false _) ?_))))
 exact(hh' _ _).trans (cF (ltF hk') (cF (neF rfl) rfl))
end Go.Proofs.YtnbighmbgmjbkaaGreat.Pure.FnExactStripeMend
end
section
namespace Go.Proofs.YtnbighmbgmjbkaaGreat.fnExactStripeMend
open Go.ChangeShapes Go.WideShapes Go.ChangeAt Go.RowKit
open Go.ChangeMaps (open_string shut_string)
theorem own:ownKnob Tryz.prog.godebug=none:=by kernel_rfl
theorem laidOut:laidOutB Tryz.prog=true:=by kernel_rfl
set_option maxRecDepth 100000 in
theorem lifted (os:Os) (started:os.Started) (H:Type) (enc:TypeId×Value→H):
  ReturnsInHanded {} Tryz.checked os 17 .any (Rows.fnExactStripeMendSpec.pre6 enc Tryz.prog Tryz.f17 Rows.fnExactStripeMendRow.domain false) (Rows.fnExactStripeMendSpec.post enc Tryz.prog Tryz.f17 false true false false):=by
 refine returnsInHanded_of_change_sized (C:=Tryz.checked) own started (by kernel_rfl) Tryz.func17
  (ChangeSpec.witness6 (enc:=enc) (C:=Tryz.checked) false ⟨#[],#[.agg #[.int .i64 0,.slice none 0 0,.slice none 0 0,.slice none 0 0],.int .i64 0],[]⟩ 8 (by kernel_rfl) (by kernel_rfl) (by kernel_rfl) (by kernel_rfl)) ?_
 intro W base args ds gs before hval0 hW hcnd hsz0 _
 have hval:∀ (j:Nat) t v,Tryz.f17.params[j]? = some t→args[j]? = some v→Value.okWide Tryz.prog W .any base t v:=hval0
 have hW':=hW
 obtain⟨p,q,hA0,hV,rfl,hfz,hnd⟩:=hW
 have hA:DataW.TrodAll enc Tryz.prog W 0 (fun _=>true) true Tryz.f17.params.toList args.toList ds p:=hA0
 rw [Tryz.params17] at hA hval
 obtain⟨v0,vs0,d0,ds0,p0,q0,hargs0,rfl,rfl,h0,r0⟩:=trodAll_cons hA
 obtain⟨v1,vs1,d1,ds1,p1,q1,hargs1,rfl,rfl,h1,r1⟩:=trodAll_cons r0
 obtain⟨rfl,rfl,rfl⟩:=trodAll_nil r1
 obtain rfl:args = #[v0,v1]:=by cases args; simp_all
 obtain⟨rfl,rfl⟩:=trodVars_none hV
 have k0:=h0
 have lt0:∀ x∈p0,x.block<W.heap.size:=by obtain⟨m,hm⟩:=k0; exact DataW.trod_lt m _ _ _ hm
 obtain⟨x0,R0,Q0⟩:=E.arg_struct Tryz.underlying77 (hval 0 77 v0 rfl rfl) h0 (E.RdG_cons rfl (E.Rd_int Tryz.underlying3 (by kernel_rfl)) (E.RdG_cons rfl (E.Rd_slice Tryz.underlying23 (by kernel_rfl) (by decide) (E.Rd_int Tryz.underlying3 (by kernel_rfl))) (E.RdG_cons rfl (E.Rd_slice Tryz.underlying23 (by kernel_rfl) (by decide) (E.Rd_int Tryz.underlying3 (by kernel_rfl))) (E.RdG_cons rfl (E.Rd_slice Tryz.underlying24 (by kernel_rfl) (by decide) (E.Rd_bool Tryz.underlying4 (by kernel_rfl))) (E.RdG_nil (by decide +kernel))))))
 have k1:=h1
 have lt1:∀ x∈p1,x.block<W.heap.size:=by obtain⟨m,hm⟩:=k1; exact DataW.trod_lt m _ _ _ hm
 obtain⟨x1,R1,Q1⟩:=E.arg_int Tryz.underlying3 (hval 1 3 v1 rfl rfl) h1
 clear hA0 hval0 hsz0
 have hp:=Pure.FnExactStripeMend.pure x0 x1 Q0.2.1.1 Q0.2.2.1.1 Q0.2.2.2.1.1 (fun b=>some ((),(b,())))
 rw [←E.sl_eq] at hp
 refine(E.law_any E.laws_FnExactStripeMend.ok (s:=(x0,(x1,()))) hp (args:=[v0,v1]) ⟨v0,_,rfl,R0,⟨v1,_,rfl,R1,rfl⟩⟩).mono fun e W' ⟨he,bel⟩=>?_
 subst he
 exact⟨_,rfl,_,_,_,[],_,[],hW',trodAll_mk1 (shut_bool Tryz.underlying4 _),(trodAll_cons_mk (Below.trod laidOut (by kernel_rfl) (of_decide_eq_true (by kernel_rfl)) k0 bel lt0) (trodAll_cons_mk (Below.trod laidOut (by kernel_rfl) (of_decide_eq_true (by kernel_rfl)) k1 bel lt1) trodAll_mk0)),rfl,bel.frame _,fun h=>by cases h⟩
theorem closed:joinedFacts Tryz.prog 17 Tryz.f17 Rows.fnExactStripeMendSpec Rows.fnExactStripeMendRow=true:=by
 unfold joinedFacts
 rw [Head.make,Head.final,Head.enter]
 kernel_rfl
theorem over:Rows.fnExactStripeMendRow.holds Tryz.pinned (OpenSpec.ofChange Rows.fnExactStripeMendSpec):=
 OpenClaim.holds_of_wide 17 Tryz.f17 rfl rfl rfl rfl rfl rfl rfl ⟨rfl,rfl,rfl,rfl,rfl⟩ rfl rfl rfl rfl rfl (by kernel_rfl) Tryz.func17 closed
  (of_decide_eq_true (by kernel_rfl)) (by unfold Func.isWrapper; first | (rw [if_pos (by decide +kernel)]; kernel_rfl) | (rw [if_neg (by decide +kernel)]; exact⟨rfl,rfl⟩))
  (fun os started H enc _=>lifted os started H enc)
theorem proved:Rows.FnExactStripeMendSaid:=over
#print axioms proved
end Go.Proofs.YtnbighmbgmjbkaaGreat.fnExactStripeMend
end
