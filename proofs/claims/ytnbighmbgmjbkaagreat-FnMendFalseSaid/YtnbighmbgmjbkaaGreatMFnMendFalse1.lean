/- Part 1 of the proof of the statement FnMendFalse; the last part states it. No condition. -/
import Derived.Test.YtnbighmbgmjbkaaGreatRows
import Derived.WalkKit
import Derived.ProofKit
import Derived.OpenShut
import Derived.ShutString
import Derived.ChangeOld
import Derived.Below
import Derived.SizedLaws
import Derived.Test.YtnbighmbgmjbkaaGreatMGM2
import Derived.Test.YtnbighmbgmjbkaaGreatMGM3
import Derived.Test.YtnbighmbgmjbkaaGreatMGM4
import Derived.Test.YtnbighmbgmjbkaaGreatMGM34
set_option linter.unusedVariables false
set_option linter.unusedSimpArgs false
section
namespace Go.Proofs.YtnbighmbgmjbkaaGreat.E
open Go Go.RowKit
set_option maxRecDepth 100000
namespace laws_FnMendFalse
def sin:Sig:=⟨[],[.one (.val (.sl (.int .u8)) false)]⟩
def sout:Sig:=⟨[],[.one (.val .bool false)]⟩
noncomputable def G {β:Type}(S:Sl)(a0:(List Int))(K:Bool→Option β):Option β:=bif(S.lt 1048576 (a0.length:Int))then(K true)else(spec_DrawStripeMend.G S a0 (fun y1 y2 y3 y4 y5=>spec_StripeMend.G S y4 y1 y2 y3 y5 (fun y6 y7 y8 y9 y10=>impl_StripeMend.G S y4 y1 y2 y3 y5 (fun y11 y12 y13 y14 y15=>bif(y15 != y10)then(bif(y15==y10)then(laws_lkStripe.G S y14 y11 y12 y13 y9 y6 y7 y8 (fun y16=>K y16))else(K false))else(laws_lkStripe.G S y14 y11 y12 y13 y9 y6 y7 y8 (fun y17=>bif(!y17)then(bif(y15==y10)then(laws_lkStripe.G S y14 y11 y12 y13 y9 y6 y7 y8 (fun y18=>K y18))else(K false))else(spec_StripeOk.G S y4 y1 y2 y3 (fun y19=>bif(!y19)then(bif(y15==y10)then(laws_lkStripe.G S y14 y11 y12 y13 y9 y6 y7 y8 (fun y20=>K y20))else(K false))else(bif(S.le 8 y5)then(bif(y15==y10)then(laws_lkStripe.G S y14 y11 y12 y13 y9 y6 y7 y8 (fun y21=>K y21))else(K false))else(impl_StripeRead.G S y4 y1 y2 y3 (fun y22 y23 y24=>bif(!y24)then(bif(!y15)then(laws_lkStripe.G S y14 y11 y12 y13 y4 y1 y2 y3 (fun y25=>K y25))else(K false))else(bif y15 then(K true)else(bif(S.ir y5 y3.length)then(bif(List.getD y3 (Int.toNat y5) false)then(bif(S.ir y5 y2.length)then(K (S.eq (List.getD y2 (Int.toNat y5) 0) y23))else(none))else(K false))else(none))))))))))))))
noncomputable def o:Orac:=⟨14,sin,sout,fun s K=>G sl0 s.2.1 (fun x0=>K ((),(x0,())))⟩
noncomputable def C:Ctx:=⟨tyT,[impl_StripeMend.o,impl_StripeRead.o,laws_lkStripe.o,spec_DrawStripeMend.o,spec_StripeMend.o,spec_StripeOk.o],[],90,0⟩
theorem ctx:CtxOk Tryz.prog C:=⟨tyOk,all1 impl_StripeMend.ok (all1 impl_StripeRead.ok (all1 laws_lkStripe.ok (all1 spec_DrawStripeMend.ok (all1 spec_StripeMend.ok (all1 spec_StripeOk.ok (all0))))))⟩
theorem eG (β:Type)(s:sin.den)(K:sout.den→Option β):evalFn C Tryz.f14 sin sout s K=o.F s K:=by kernel_rfl
theorem ok:OracOk Tryz.prog o:=fn_ok mixed Tryz.func14 (by kernel_rfl) ctx (c:=bodyC Tryz.f14) (by kernel_rfl) (all0) (by kernel_rfl) (by kernel_rfl) (by kernel_rfl) (Nat.le_of_ble_eq_true (by kernel_rfl)) eG (by kernel_rfl) (Nat.le_of_ble_eq_true (by kernel_rfl))
end laws_FnMendFalse
end Go.Proofs.YtnbighmbgmjbkaaGreat.E
end
section
namespace Go.Proofs.YtnbighmbgmjbkaaGreat.Pure.FnMendFalse
open Go Go.Proofs.YtnbighmbgmjbkaaGreat.E
theorem pure {β:Type} (l:List Int) (hl:∀ x∈l,0≤x∧x≤255) (K:Bool→Option β):laws_FnMendFalse.G sl1 l K=K true:=by
 obtain⟨kind,vals,vers,there,at_,hs,a0,hd⟩:=drawMend hl
 have l1:=hs.l1
 have l2:=hs.l2
 have l3:=hs.l3
 unfold laws_FnMendFalse.G
 by_cases h:1048576<(l.length:Int)
 ·exact cT (ltT h) rfl
 obtain⟨es,ei⟩:=mend_G (kind:=kind) (vers:=vers) (there:=there) (show vals.length≤1000000000 by omega) at_
 obtain⟨m1,m2,m3⟩:=mendV_len (kind:=kind) (at_:=at_) (Nat.le_of_eq l1) (Nat.le_of_eq l2) (Nat.le_of_eq l3)
 have same:=fun {γ:Type} (K:Bool→Option γ)=>lkStripe_same (β:=γ) (mendV kind vals vers there at_).2.1 (Nat.le_trans m1 (by omega)) (Nat.le_trans m2 (by omega)) (Nat.le_trans m3 (by omega)) K
 refine cF (ltF (by omega)) ((hd _ _).trans ((es _ _).trans ((ei _ _).trans (cF (bne_self_eq_false _) ((same _).trans (cF rfl ((stripeOk_G kind vals vers there (by omega) _).trans ?_)))))))
 cases cs:stripeV kind vals vers there
 ·exact cT rfl (cT (beq_self_eq_true _) (same _))
 refine cF rfl ?_
 by_cases c8:8≤at_
 ·exact cT (leT c8) (cT (beq_self_eq_true _) (same _))
 refine cF (leF (by omega)) ?_
 obtain⟨i,rfl⟩:=Int.eq_ofNat_of_zero_le a0
 have hi:i<8:=by omega
 obtain⟨d,hT,er⟩:=stripeRead_E cs
 refine(er _ _).trans ?_
 cases hr:readL kind vers there with
 | none =>
  have e:mendV kind vals vers there (i:Int)=((vals,vers,there),kind,false):=by
   unfold mendV
   rw [cs,inV_iff.2 ⟨by omega,by omega⟩,hr]; rfl
  rw [e]
  exact cT rfl (cT rfl (lkStripe_same kind (show vals.length≤1000000 by omega) (show vers.length≤1000000 by omega) (show there.length≤1000000 by omega) _))
 | some v =>
  refine cF rfl ?_
  cases ok:(mendV kind vals vers there (i:Int)).2.2
  ·have hin : there.getD i false = true ∧ vers.getD i 0 = v := by
    by_cases c:there.getD i false=true∧vers.getD i 0=v
    ·exact c
    ·rw [mendV_yes cs hi hr (mend_yes cs hr hi c)] at ok; cases ok
   refine cF rfl (cT (irT (by omega) (by omega)) ?_)
   rw [getC,getC,hin.1]
   exact cT rfl (cT (irT (by omega) (by omega)) (congrArg K (eqT hin.2)))
  ·exact cT rfl rfl
end Go.Proofs.YtnbighmbgmjbkaaGreat.Pure.FnMendFalse
end
section
namespace Go.Proofs.YtnbighmbgmjbkaaGreat.fnMendFalse
open Go.ChangeShapes Go.WideShapes Go.ChangeAt Go.RowKit
open Go.ChangeMaps (open_string shut_string)
theorem own:ownKnob Tryz.prog.godebug=none:=by kernel_rfl
theorem laidOut:laidOutB Tryz.prog=true:=by kernel_rfl
set_option maxRecDepth 100000 in
theorem lifted (os:Os) (started:os.Started) (H:Type) (enc:TypeId×Value→H):
  ReturnsInHanded {} Tryz.checked os 14 .any (Rows.fnMendFalseSpec.pre6 enc Tryz.prog Tryz.f14 Rows.fnMendFalseRow.domain false) (Rows.fnMendFalseSpec.post enc Tryz.prog Tryz.f14 false true false false):=by
 refine returnsInHanded_of_change_sized (C:=Tryz.checked) own started (by kernel_rfl) Tryz.func14
  (ChangeSpec.witness6 (enc:=enc) (C:=Tryz.checked) false ⟨#[],#[.slice none 0 0],[]⟩ 8 (by kernel_rfl) (by kernel_rfl) (by kernel_rfl) (by kernel_rfl)) ?_
 intro W base args ds gs before hval0 hW hcnd hsz0 _
 have hval:∀ (j:Nat) t v,Tryz.f14.params[j]? = some t→args[j]? = some v→Value.okWide Tryz.prog W .any base t v:=hval0
 have hW':=hW
 obtain⟨p,q,hA0,hV,rfl,hfz,hnd⟩:=hW
 have hA:DataW.TrodAll enc Tryz.prog W 0 (fun _=>true) true Tryz.f14.params.toList args.toList ds p:=hA0
 rw [Tryz.params14] at hA hval
 obtain⟨v0,vs0,d0,ds0,p0,q0,hargs,rfl,rfl,h0,r0⟩:=trodAll_cons hA
 obtain⟨rfl,rfl,rfl⟩:=trodAll_nil r0
 obtain rfl:args = #[v0]:=by cases args; simp_all
 obtain⟨rfl,rfl⟩:=trodVars_none hV
 obtain⟨a0,len0,cap0,rfl⟩:=okWide_slice Tryz.underlying22 (hval 0 22 v0 rfl rfl)
 have k0:=h0
 have lt0:∀ x∈p0,x.block<W.heap.size:=by obtain⟨m,hm⟩:=k0; exact DataW.trod_lt m _ _ _ hm
 obtain⟨z0,w0,b0⟩:∃ zs,E.IsRowK .u8 W a0 len0 cap0 zs∧(∀ x∈zs,(Lit.int .u8 x).wf=true):=by
  obtain⟨fuel,hf⟩:=h0
  rcases open_ints Tryz.underlying22 Tryz.underlying5 (by kernel_rfl) hf with ⟨hcs,_⟩ | ⟨x,l,c,zs,hcs,_,hl,hm,hz,_,hcell,hwz⟩
  ·simp [Value.cells] at hcs
   obtain⟨rfl,rfl,rfl⟩:=hcs
   exact⟨[],.inl ⟨rfl,rfl,rfl,rfl⟩,by simp⟩
  ·simp [Value.cells] at hcs
   obtain⟨rfl,rfl,rfl⟩:=hcs
   exact⟨zs,.inr ⟨_,rfl,hl,by simpa using hz,hcell⟩,hwz⟩
 clear hA0 hval0 hsz0
 have hp:=Pure.FnMendFalse.pure (z0.take len0) (fun x hx=>E.byte_wf (b0 x (List.mem_of_mem_take hx))) (fun b=>some ((),(b,())))
 rw [←E.sl_eq] at hp
 refine(E.law_bytes E.laws_FnMendFalse.ok w0 hp).mono fun e W' ⟨he,bel⟩=>?_
 subst he
 exact⟨_,rfl,_,_,_,[],_,[],hW',trodAll_mk1 (shut_bool Tryz.underlying4 _),(trodAll_cons_mk (Below.trod laidOut (by kernel_rfl) (of_decide_eq_true (by kernel_rfl)) k0 bel lt0) trodAll_mk0),rfl,bel.frame _,fun h=>by cases h⟩
theorem closed:joinedFacts Tryz.prog 14 Tryz.f14 Rows.fnMendFalseSpec Rows.fnMendFalseRow=true:=by
 unfold joinedFacts
 rw [Head.make,Head.final,Head.enter]
 kernel_rfl
theorem over:Rows.fnMendFalseRow.holds Tryz.pinned (OpenSpec.ofChange Rows.fnMendFalseSpec):=
 OpenClaim.holds_of_wide 14 Tryz.f14 rfl rfl rfl rfl rfl rfl rfl ⟨rfl,rfl,rfl,rfl,rfl⟩ rfl rfl rfl rfl rfl (by kernel_rfl) Tryz.func14 closed
  (of_decide_eq_true (by kernel_rfl)) (by unfold Func.isWrapper; first | (rw [if_pos (by decide +kernel)]; kernel_rfl) | (rw [if_neg (by decide +kernel)]; exact⟨rfl,rfl⟩))
  (fun os started H enc _=>lifted os started H enc)
theorem proved:Rows.FnMendFalseSaid:=over
#print axioms proved
end Go.Proofs.YtnbighmbgmjbkaaGreat.fnMendFalse
end
