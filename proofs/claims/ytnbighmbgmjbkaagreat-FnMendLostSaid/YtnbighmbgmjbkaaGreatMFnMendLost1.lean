/- Part 1 of the proof of the statement FnMendLost; the last part states it. No condition. -/
import Derived.Test.YtnbighmbgmjbkaaGreatRows
import Derived.WalkKit
import Derived.ProofKit
import Derived.OpenShut
import Derived.ShutString
import Derived.ChangeOld
import Derived.Below
import Derived.SizedLaws
import Derived.Test.YtnbighmbgmjbkaaGreatMGM2
import Derived.Test.YtnbighmbgmjbkaaGreatMGM3
import Derived.Test.YtnbighmbgmjbkaaGreatMGM4
import Derived.Test.YtnbighmbgmjbkaaGreatMGM23
import Derived.Test.YtnbighmbgmjbkaaGreatMGM34
set_option linter.unusedVariables false
set_option linter.unusedSimpArgs false
section
namespace Go.Proofs.YtnbighmbgmjbkaaGreat.E
open Go Go.RowKit
set_option maxRecDepth 100000
namespace laws_FnMendLost
def sin:Sig:=⟨[],[.one (.val (.sl (.int .u8)) false),.one (.val (.sl (.int .u8)) false)]⟩
def sout:Sig:=⟨[],[.one (.val .bool false)]⟩
noncomputable def G {β:Type}(S:Sl)(a0:(List Int))(a1:(List Int))(K:Bool→Option β):Option β:=bif(S.lt 1048576 (a0.length:Int))then(K true)else(bif(S.lt 1048576 (a1.length:Int))then(K true)else(spec_DrawStripeNew.G S a0 (fun y1 y2 y3=>spec_StripeNew.G S y1 y2 y3 (fun y4 y5 y6 y7 y8=>impl_StripeNew.G S y1 y2 y3 (fun y9 y10 y11 y12 y13=>bif(y13 != y8)then(bif(y13==y8)then(laws_lkStripe.G S y12 y9 y10 y11 y7 y4 y5 y6 (fun y14=>K y14))else(K false))else(laws_lkStripe.G S y12 y9 y10 y11 y7 y4 y5 y6 (fun y15=>bif(!y15)then(bif(y13==y8)then(laws_lkStripe.G S y12 y9 y10 y11 y7 y4 y5 y6 (fun y16=>K y16))else(K false))else(bif(!y13)then(bif(y13==y8)then(laws_lkStripe.G S y12 y9 y10 y11 y7 y4 y5 y6 (fun y17=>K y17))else(K false))else(impl_StripeLose.G S y12 y9 y10 y11 (Int.tmod (a1.length:Int) 8) (fun y18 y19 y20 y21=>impl_StripeMend.G S y21 y18 y19 y20 (Int.tmod (a1.length:Int) 8) (fun y22 y23 y24 y25 y26=>bif y26 then(laws_lkStripe.G S y25 y22 y23 y24 y12 y9 y10 y11 (fun y27=>K y27))else(K false))))))))))))
noncomputable def o:Orac:=⟨16,sin,sout,fun s K=>G sl0 s.2.1 s.2.2.1 (fun x0=>K ((),(x0,())))⟩
noncomputable def C:Ctx:=⟨tyT,[impl_StripeLose.o,impl_StripeMend.o,impl_StripeNew.o,laws_lkStripe.o,spec_DrawStripeNew.o,spec_StripeNew.o],[],81,0⟩
theorem ctx:CtxOk Tryz.prog C:=⟨tyOk,all1 impl_StripeLose.ok (all1 impl_StripeMend.ok (all1 impl_StripeNew.ok (all1 laws_lkStripe.ok (all1 spec_DrawStripeNew.ok (all1 spec_StripeNew.ok (all0))))))⟩
noncomputable def Cg (g0:{β:Type}→(Int)→((List Int))→((List Int))→((List Bool))→(Int)→((List Int)→(List Int)→(List Bool)→Int→Option β)→Option β)(g1:{β:Type}→(Int)→((List Int))→((List Int))→((List Bool))→(Int)→((List Int)→(List Int)→(List Bool)→Int→Bool→Option β)→Option β)(g2:{β:Type}→(Int)→((List Int))→(Int)→((List Int)→(List Int)→(List Bool)→Int→Bool→Option β)→Option β)(g3:{β:Type}→(Int)→((List Int))→((List Int))→((List Bool))→(Int)→((List Int))→((List Int))→((List Bool))→(Bool→Option β)→Option β)(g4:{β:Type}→((List Int))→(Int→(List Int)→Int→Option β)→Option β)(g5:{β:Type}→(Int)→((List Int))→(Int)→((List Int)→(List Int)→(List Bool)→Int→Bool→Option β)→Option β):Ctx:=⟨tyT,[⟨57,impl_StripeLose.sin,impl_StripeLose.sout,fun s K=>g0 s.2.1.1 s.2.1.2.1 s.2.1.2.2.1 s.2.1.2.2.2.1 s.2.2.1 (fun x0 x1 x2 x3=>K ((x0,(x1,(x2,()))),((x3,()),())))⟩,⟨61,impl_StripeMend.sin,impl_StripeMend.sout,fun s K=>g1 s.2.1.1 s.2.1.2.1 s.2.1.2.2.1 s.2.1.2.2.2.1 s.2.2.1 (fun x0 x1 x2 x3 x4=>K ((x0,(x1,(x2,()))),((x3,()),(x4,()))))⟩,⟨53,impl_StripeNew.sin,impl_StripeNew.sout,fun s K=>g2 s.2.1 s.2.2.1 s.2.2.2.1 (fun x0 x1 x2 x3 x4=>K ((x0,(x1,(x2,()))),((x3,()),(x4,()))))⟩,⟨23,laws_lkStripe.sin,laws_lkStripe.sout,fun s K=>g3 s.2.1.1 s.2.1.2.1 s.2.1.2.2.1 s.2.1.2.2.2.1 s.2.2.1.1 s.2.2.1.2.1 s.2.2.1.2.2.1 s.2.2.1.2.2.2.1 (fun x0=>K ((),(x0,())))⟩,⟨54,spec_DrawStripeNew.sin,spec_DrawStripeNew.sout,fun s K=>g4 s.2.1 (fun x0 x1 x2=>K ((),(x0,(x1,(x2,())))))⟩,⟨55,spec_StripeNew.sin,spec_StripeNew.sout,fun s K=>g5 s.2.1 s.2.2.1 s.2.2.2.1 (fun x0 x1 x2 x3 x4=>K ((x0,(x1,(x2,()))),((x3,()),(x4,()))))⟩],[],81,0⟩
noncomputable def bc {α:Type}(b:Bool) (x y:α):α:=Bool.rec (motive:=fun _=>α) y x b
noncomputable def Gg (g0:{β:Type}→(Int)→((List Int))→((List Int))→((List Bool))→(Int)→((List Int)→(List Int)→(List Bool)→Int→Option β)→Option β)(g1:{β:Type}→(Int)→((List Int))→((List Int))→((List Bool))→(Int)→((List Int)→(List Int)→(List Bool)→Int→Bool→Option β)→Option β)(g2:{β:Type}→(Int)→((List Int))→(Int)→((List Int)→(List Int)→(List Bool)→Int→Bool→Option β)→Option β)(g3:{β:Type}→(Int)→((List Int))→((List Int))→((List Bool))→(Int)→((List Int))→((List Int))→((List Bool))→(Bool→Option β)→Option β)(g4:{β:Type}→((List Int))→(Int→(List Int)→Int→Option β)→Option β)(g5:{β:Type}→(Int)→((List Int))→(Int)→((List Int)→(List Int)→(List Bool)→Int→Bool→Option β)→Option β) {β:Type}(S:Sl)(a0:(List Int))(a1:(List Int))(K:Bool→Option β):Option β:=bc ((S.lt 1048576 (a0.length:Int))) (K true) (bc ((S.lt 1048576 (a1.length:Int))) (K true) (g4 a0 (fun y1 y2 y3=>g5 y1 y2 y3 (fun y4 y5 y6 y7 y8=>g2 y1 y2 y3 (fun y9 y10 y11 y12 y13=>bc ((y13 != y8)) (bc ((y13==y8)) (g3 y12 y9 y10 y11 y7 y4 y5 y6 (fun y14=>K y14)) (K false)) (g3 y12 y9 y10 y11 y7 y4 y5 y6 (fun y15=>bc ((!y15)) (bc ((y13==y8)) (g3 y12 y9 y10 y11 y7 y4 y5 y6 (fun y16=>K y16)) (K false)) (bc ((!y13)) (bc ((y13==y8)) (g3 y12 y9 y10 y11 y7 y4 y5 y6 (fun y17=>K y17)) (K false)) (g0 y12 y9 y10 y11 (Int.tmod (a1.length:Int) 8) (fun y18 y19 y20 y21=>g1 y21 y18 y19 y20 (Int.tmod (a1.length:Int) 8) (fun y22 y23 y24 y25 y26=>bc (y26) (g3 y25 y22 y23 y24 y12 y9 y10 y11 (fun y27=>K y27)) (K false))))))))))))
theorem eGg (g0:{β:Type}→(Int)→((List Int))→((List Int))→((List Bool))→(Int)→((List Int)→(List Int)→(List Bool)→Int→Option β)→Option β)(g1:{β:Type}→(Int)→((List Int))→((List Int))→((List Bool))→(Int)→((List Int)→(List Int)→(List Bool)→Int→Bool→Option β)→Option β)(g2:{β:Type}→(Int)→((List Int))→(Int)→((List Int)→(List Int)→(List Bool)→Int→Bool→Option β)→Option β)(g3:{β:Type}→(Int)→((List Int))→((List Int))→((List Bool))→(Int)→((List Int))→((List Int))→((List Bool))→(Bool→Option β)→Option β)(g4:{β:Type}→((List Int))→(Int→(List Int)→Int→Option β)→Option β)(g5:{β:Type}→(Int)→((List Int))→(Int)→((List Int)→(List Int)→(List Bool)→Int→Bool→Option β)→Option β) (β:Type)(s:sin.den)(K:sout.den→Option β):evalFn (Cg g0 g1 g2 g3 g4 g5) Tryz.f16 sin sout s K=Gg g0 g1 g2 g3 g4 g5 sl0 s.2.1 s.2.2.1 (fun x0=>K ((),(x0,()))):=by kernel_rfl
theorem eG (β:Type)(s:sin.den)(K:sout.den→Option β):evalFn C Tryz.f16 sin sout s K=o.F s K:=by
 have h:=eGg (impl_StripeLose.G sl0) (impl_StripeMend.G sl0) (impl_StripeNew.G sl0) (laws_lkStripe.G sl0) (spec_DrawStripeNew.G sl0) (spec_StripeNew.G sl0) β s K
 have hc:Cg (impl_StripeLose.G sl0) (impl_StripeMend.G sl0) (impl_StripeNew.G sl0) (laws_lkStripe.G sl0) (spec_DrawStripeNew.G sl0) (spec_StripeNew.G sl0)=C:=by kernel_rfl
 rw [hc] at h
 exact h.trans (by kernel_rfl)
theorem ok:OracOk Tryz.prog o:=fn_ok mixed Tryz.func16 (by kernel_rfl) ctx (c:=bodyC Tryz.f16) (by kernel_rfl) (all0) (by kernel_rfl) (by kernel_rfl) (by kernel_rfl) (Nat.le_of_ble_eq_true (by kernel_rfl)) eG (by kernel_rfl) (Nat.le_of_ble_eq_true (by kernel_rfl))
end laws_FnMendLost
end Go.Proofs.YtnbighmbgmjbkaaGreat.E
end
section
namespace Go.Proofs.YtnbighmbgmjbkaaGreat.E
open Go Go.RowKit
set_option maxRecDepth 100000
theorem one_1:(List.range 8).all (fun i=>covL 1 (thereL ((List.replicate 8 true).set i false) 0 8))=true:=by kernel_rfl
theorem one_2:(List.range 8).all (fun i=>covL 2 (thereL ((List.replicate 8 true).set i false) 0 8))=true:=by kernel_rfl
theorem set_back {α:Type} (d:α) {A:List α} (h:A.length=8) {i:Nat} (hi:i<8) (x y:α) (e:A.getD i d=y):(A.set i x).set i y=A:=by
 refine ext8 d (by rw [List.length_set,List.length_set]; exact h) h fun j hj=>?_
 rw [getD_set _ _ _ _ _ (by rw [List.length_set]; omega),getD_set _ _ _ _ _ (by omega)]
 by_cases c:i=j
 ·subst c; rw [if_pos rfl,e]
 ·rw [if_neg c,if_neg c]
theorem lost_read {kind:Int} {data:List Int} {v:Int} (h:newOk kind data v=true) {i:Nat} (hi:i<8):readL kind ((List.replicate 8 v).set i 0) ((List.replicate 8 true).set i false)=some v∧Told1 kind ((allV kind data).set i 0) ((List.replicate 8 v).set i 0) ((List.replicate 8 true).set i false) v data:=by
 obtain⟨hk,hd,hv⟩:=newOk_iff.1 h
 have hal:=allV_len kind data
 have hb:∀ a,a<8→((List.replicate 8 true).set i false).getD a false=true→a≠i∧((List.replicate 8 v).set i 0).getD a 0=v∧((allV kind data).set i 0).getD a 0=(allV kind data).getD a 0:=fun a ha ta=>by
  rw [getD_set _ _ _ _ _ (by simp; omega)] at ta
  by_cases c:i=a
  ·rw [if_pos c] at ta; cases ta
  ·rw [getD_set _ _ _ _ _ (by simp; omega), getD_set _ _ _ _ _ (by omega), if_neg c, if_neg c, rep8 _ _ ha]
   exact⟨fun e=>c e.symm,rfl,rfl⟩
 have hc:covL kind (thereL ((List.replicate 8 true).set i false) 0 8)=true:=by
  rcases hk with rfl | rfl
  ·exact List.all_eq_true.1 one_1 i (List.mem_range.2 hi)
  ·exact List.all_eq_true.1 one_2 i (List.mem_range.2 hi)
 have hcv:covV kind ((List.replicate 8 v).set i 0) ((List.replicate 8 true).set i false) v=true:=covL_mono (fun b hb'=>by
  obtain⟨q1,q2⟩:=thereL_mem.1 hb'
  exact ofL_mem'.2 ⟨q1,q2,(hb b q1 q2).2.1⟩) hc
 obtain⟨w,hw,_⟩:=readL_ge hk hcv
 obtain⟨a,ha,ta,va⟩:=versL_mem.1 (List.mem_of_find?_eq_some hw)
 rw [(hb a ha ta).2.1] at va
 refine⟨by rw [hw,va],vec_V4 hd,fun a ha=>?_⟩
 obtain⟨q1,q2,_⟩:=ofL_mem'.1 ha
 rw [(hb a q1 q2).2.2]
 exact allV_at hk (vec_V4 hd) q1
end Go.Proofs.YtnbighmbgmjbkaaGreat.E
namespace Go.Proofs.YtnbighmbgmjbkaaGreat.Pure.FnMendLost
open Go Go.Proofs.YtnbighmbgmjbkaaGreat.E
theorem pure {β:Type} (l m:List Int) (hl:∀ x∈l,0≤x∧x≤255) (hm:∀ x∈m,0≤x∧x≤255) (K:Bool→Option β):laws_FnMendLost.G sl1 l m K=K true:=by
 obtain⟨kind,data,v,d4,hd⟩:=drawNew hl
 unfold laws_FnMendLost.G
 by_cases h:1048576<(l.length:Int)
 ·exact cT (ltT h) rfl
 refine cF (ltF (by omega)) ?_
 by_cases h':1048576<(m.length:Int)
 ·exact cT (ltT h') rfl
 refine cF (ltF (by omega)) ((hd _ _).trans ((newS_G kind v (by omega) _).trans ?_))
 cases ok:newOk kind data v
 ·have same := fun {γ : Type} (K : Bool → Option γ) => lkStripe_same (β := γ) 0 (vals := []) (vers := []) (there := []) (by simp) (by simp) (by simp) K
  refine cF rfl ((newI_G kind v (by omega) _).trans ?_)
  rw [ok]
  exact cF rfl (cF rfl ((same _).trans (cF rfl (cT rfl (cT rfl (same _))))))
 ·have la := allV_len kind data
  have same:=fun {γ:Type} (K:Bool→Option γ)=>lkStripe_same (β:=γ) kind (vals:=allV kind data) (vers:=List.replicate 8 v) (there:=List.replicate 8 true) (by omega) (by simp) (by simp) K
  refine cT rfl ((newI_G kind v (by omega) _).trans ?_)
  rw [ok]
  obtain⟨i,hi,e8⟩:∃ i:Nat,i<8∧Int.tmod (m.length:Int) 8=(i:Int):=⟨m.length%8,by omega,by rw [Int.tmod_eq_emod_of_nonneg (by omega)]; omega⟩
  obtain⟨hk,hdv,_⟩:=newOk_iff.1 ok
  have cs:=all_stripe ok
  have cs':=stripe_lose cs hi
  obtain⟨r1,r2⟩:=lost_read ok hi
  have hT:=toldD_told cs' r1
  have ed:toldD kind ((allV kind data).set i 0) ((List.replicate 8 v).set i 0) ((List.replicate 8 true).set i false)=data:=tells_uniq hk (show Tells kind ((allV kind data).set i 0) ((List.replicate 8 v).set i 0) ((List.replicate 8 true).set i false) _ by unfold Tells; rw [r1]; exact hT) (by unfold Tells; rw [r1]; exact r2)
  have hm':=mend_yes cs' r1 hi (fun h=>by
   have:=h.1
   rw [getD_set _ _ _ _ _ (by simp; omega),if_pos rfl] at this
   cases this)
  obtain⟨_,ei⟩:=mend_G (kind:=kind) (vers:=(List.replicate 8 v).set i 0) (there:=(List.replicate 8 true).set i false) (show((allV kind data).set i 0).length≤1000000000 by rw [List.length_set]; omega) (i:Int)
  rw [mendV_yes cs' hi r1 hm',ed,set_back 0 la hi 0 _ (allV_at hk (vec_V4 hdv) hi),set_back 0 (by simp) hi 0 v (rep8 _ _ hi),set_back false (by simp) hi false true (rep8 _ _ hi)] at ei
  refine cT rfl (cF rfl ((same _).trans (cF rfl (cF rfl ((implLose_G kind _ _).trans ?_)))))
  rw [e8]
  have el:loseV kind (allV kind data) (List.replicate 8 v) (List.replicate 8 true) (i:Int)=((allV kind data).set i 0,(List.replicate 8 v).set i 0,(List.replicate 8 true).set i false,kind):=by
   unfold loseV
   rw [cs,inV_iff.2 ⟨by omega,by omega⟩,Int.toNat_natCast]; rfl
  rw [el]
  exact(ei _ _).trans (cT rfl (same _))
end Go.Proofs.YtnbighmbgmjbkaaGreat.Pure.FnMendLost
end
section
namespace Go.Proofs.YtnbighmbgmjbkaaGreat.fnMendLost
open Go.ChangeShapes Go.WideShapes Go.ChangeAt Go.RowKit
open Go.ChangeMaps (open_string shut_string)
theorem own:ownKnob Tryz.prog.godebug=none:=by kernel_rfl
theorem laidOut:laidOutB Tryz.prog=true:=by kernel_rfl
set_option maxRecDepth 100000 in
theorem lifted (os:Os) (started:os.Started) (H:Type) (enc:TypeId×Value→H):
  ReturnsInHanded {} Tryz.checked os 16 .any (Rows.fnMendLostSpec.pre6 enc Tryz.prog Tryz.f16 Rows.fnMendLostRow.domain false) (Rows.fnMendLostSpec.post enc Tryz.prog Tryz.f16 false true false false):=by
 refine returnsInHanded_of_change_sized (C:=Tryz.checked) own started (by kernel_rfl) Tryz.func16
  (ChangeSpec.witness6 (enc:=enc) (C:=Tryz.checked) false ⟨#[],#[.slice none 0 0,.slice none 0 0],[]⟩ 8 (by kernel_rfl) (by kernel_rfl) (by kernel_rfl) (by kernel_rfl)) ?_
 intro W base args ds gs before hval0 hW hcnd hsz0 _
 have hval:∀ (j:Nat) t v,Tryz.f16.params[j]? = some t→args[j]? = some v→Value.okWide Tryz.prog W .any base t v:=hval0
 have hW':=hW
 obtain⟨p,q,hA0,hV,rfl,hfz,hnd⟩:=hW
 have hA:DataW.TrodAll enc Tryz.prog W 0 (fun _=>true) true Tryz.f16.params.toList args.toList ds p:=hA0
 rw [Tryz.params16] at hA hval
 obtain⟨v0,vs0,d0,ds0,p0,q0,hargs0,rfl,rfl,h0,r0⟩:=trodAll_cons hA
 obtain⟨v1,vs1,d1,ds1,p1,q1,hargs1,rfl,rfl,h1,r1⟩:=trodAll_cons r0
 obtain⟨rfl,rfl,rfl⟩:=trodAll_nil r1
 obtain rfl:args = #[v0,v1]:=by cases args; simp_all
 obtain⟨rfl,rfl⟩:=trodVars_none hV
 obtain⟨a0,len0,cap0,rfl⟩:=okWide_slice Tryz.underlying22 (hval 0 22 v0 rfl rfl)
 obtain⟨a1,len1,cap1,rfl⟩:=okWide_slice Tryz.underlying22 (hval 1 22 v1 rfl rfl)
 have k0:=h0
 have lt0:∀ x∈p0,x.block<W.heap.size:=by obtain⟨m,hm⟩:=k0; exact DataW.trod_lt m _ _ _ hm
 obtain⟨z0,w0,b0⟩:∃ zs,E.IsRowK .u8 W a0 len0 cap0 zs∧(∀ x∈zs,(Lit.int .u8 x).wf=true):=by
  obtain⟨fuel,hf⟩:=h0
  rcases open_ints Tryz.underlying22 Tryz.underlying5 (by kernel_rfl) hf with ⟨hcs,_⟩ | ⟨x,l,c,zs,hcs,_,hl,hm,hz,_,hcell,hwz⟩
  ·simp [Value.cells] at hcs
   obtain⟨rfl,rfl,rfl⟩:=hcs
   exact⟨[],.inl ⟨rfl,rfl,rfl,rfl⟩,by simp⟩
  ·simp [Value.cells] at hcs
   obtain⟨rfl,rfl,rfl⟩:=hcs
   exact⟨zs,.inr ⟨_,rfl,hl,by simpa using hz,hcell⟩,hwz⟩
 have k1:=h1
 have lt1:∀ x∈p1,x.block<W.heap.size:=by obtain⟨m,hm⟩:=k1; exact DataW.trod_lt m _ _ _ hm
 obtain⟨z1,w1,b1⟩:∃ zs,E.IsRowK .u8 W a1 len1 cap1 zs∧(∀ x∈zs,(Lit.int .u8 x).wf=true):=by
  obtain⟨fuel,hf⟩:=h1
  rcases open_ints Tryz.underlying22 Tryz.underlying5 (by kernel_rfl) hf with ⟨hcs,_⟩ | ⟨x,l,c,zs,hcs,_,hl,hm,hz,_,hcell,hwz⟩
  ·simp [Value.cells] at hcs
   obtain⟨rfl,rfl,rfl⟩:=hcs
   exact⟨[],.inl ⟨rfl,rfl,rfl,rfl⟩,by simp⟩
  ·simp [Value.cells] at hcs
   obtain⟨rfl,rfl,rfl⟩:=hcs
   exact⟨zs,.inr ⟨_,rfl,hl,by simpa using hz,hcell⟩,hwz⟩
 clear hA0 hval0 hsz0
 have hp:=Pure.FnMendLost.pure (z0.take len0) (z1.take len1) (fun x hx=>E.byte_wf (b0 x (List.mem_of_mem_take hx))) (fun x hx=>E.byte_wf (b1 x (List.mem_of_mem_take hx))) (fun b=>some ((),(b,())))
 rw [←E.sl_eq] at hp
 refine(E.law_bytes2 E.laws_FnMendLost.ok w0 w1 hp).mono fun e W' ⟨he,bel⟩=>?_
 subst he
 exact⟨_,rfl,_,_,_,[],_,[],hW',trodAll_mk1 (shut_bool Tryz.underlying4 _),(trodAll_cons_mk (Below.trod laidOut (by kernel_rfl) (of_decide_eq_true (by kernel_rfl)) k0 bel lt0) (trodAll_cons_mk (Below.trod laidOut (by kernel_rfl) (of_decide_eq_true (by kernel_rfl)) k1 bel lt1) trodAll_mk0)),rfl,bel.frame _,fun h=>by cases h⟩
theorem closed:joinedFacts Tryz.prog 16 Tryz.f16 Rows.fnMendLostSpec Rows.fnMendLostRow=true:=by
 unfold joinedFacts
 rw [Head.make,Head.final,Head.enter]
 kernel_rfl
theorem over:Rows.fnMendLostRow.holds Tryz.pinned (OpenSpec.ofChange Rows.fnMendLostSpec):=
 OpenClaim.holds_of_wide 16 Tryz.f16 rfl rfl rfl rfl rfl rfl rfl ⟨rfl,rfl,rfl,rfl,rfl⟩ rfl rfl rfl rfl rfl (by kernel_rfl) Tryz.func16 closed
  (of_decide_eq_true (by kernel_rfl)) (by unfold Func.isWrapper; first | (rw [if_pos (by decide +kernel)]; kernel_rfl) | (rw [if_neg (by decide +kernel)]; exact⟨rfl,rfl⟩))
  (fun os started H enc _=>lifted os started H enc)
theorem proved:Rows.FnMendLostSaid:=over
#print axioms proved
end Go.Proofs.YtnbighmbgmjbkaaGreat.fnMendLost
end
