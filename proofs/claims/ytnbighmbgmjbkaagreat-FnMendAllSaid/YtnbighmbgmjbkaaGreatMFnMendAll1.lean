/- Part 1 of the proof of the statement FnMendAll; the last part states it. No condition. -/
import Derived.Test.YtnbighmbgmjbkaaGreatRows
import Derived.WalkKit
import Derived.ProofKit
import Derived.OpenShut
import Derived.ShutString
import Derived.ChangeOld
import Derived.Below
import Derived.SizedLaws
import Derived.Test.YtnbighmbgmjbkaaGreatMGM2
import Derived.Test.YtnbighmbgmjbkaaGreatMGM3
import Derived.Test.YtnbighmbgmjbkaaGreatMGM4
import Derived.Test.YtnbighmbgmjbkaaGreatMGM23
import Derived.Test.YtnbighmbgmjbkaaGreatMGM34
set_option linter.unusedVariables false
set_option linter.unusedSimpArgs false
section
namespace Go.Proofs.YtnbighmbgmjbkaaGreat.E
open Go Go.RowKit
set_option maxRecDepth 100000
namespace spec_DrawStripeRead
def sin:Sig:=⟨[],[.one (.val (.sl (.int .u8)) false)]⟩
def sout:Sig:=⟨[.buf I false,.buf I false,.buf .bool false],[.agg [.val I false,.ref (.own 0),.ref (.own 1),.ref (.own 2)]]⟩
noncomputable def G {β:Type}(S:Sl)(a0:(List Int))(K:(List Int)→(List Int)→(List Bool)→Int→Option β):Option β:=spec_l6Open.G S a0 (fun y1 y2=>spec_l92Stripe.G S y1 y2 (fun y3 y4 y5 y6 y7 y8=>K y5 y6 y7 y8))
noncomputable def o:Orac:=⟨64,sin,sout,fun s K=>G sl0 s.2.1 (fun x0 x1 x2 x3=>K ((x0,(x1,(x2,()))),((x3,()),())))⟩
noncomputable def C:Ctx:=⟨tyT,[spec_l6Open.o,spec_l92Stripe.o],[],6,0⟩
theorem ctx:CtxOk Tryz.prog C:=⟨tyOk,all1 spec_l6Open.ok (all1 spec_l92Stripe.ok (all0))⟩
theorem eG (β:Type)(s:sin.den)(K:sout.den→Option β):evalFn C Tryz.f64 sin sout s K=o.F s K:=by kernel_rfl
theorem ok:OracOk Tryz.prog o:=fn_ok mixed Tryz.func64 (by kernel_rfl) ctx (c:=bodyC Tryz.f64) (by kernel_rfl) (all0) (by kernel_rfl) (by kernel_rfl) (by kernel_rfl) (Nat.le_of_ble_eq_true (by kernel_rfl)) eG (by kernel_rfl) (Nat.le_of_ble_eq_true (by kernel_rfl))
end spec_DrawStripeRead
namespace spec_StripeRead
def sin:Sig:=⟨[],[.agg [.val I false,.val (.sl I) false,.val (.sl I) false,.val (.sl .bool) false]]⟩
def sout:Sig:=⟨[.buf I false],[.one (.ref (.own 0)),.one (.val I false),.one (.val .bool false)]⟩
noncomputable def G {β:Type}(S:Sl)(a0:Int)(a1:(List Int))(a2:(List Int))(a3:(List Bool))(K:(List Int)→Int→Bool→Option β):Option β:=spec_StripeOk.G S a0 a1 a2 a3 (fun y1=>bif(!y1)then(K [] 0 false)else(spec_l21Read.G S a0 a1 a2 a3 (fun y2 y3 y4=>K y2 y3 y4)))
noncomputable def o:Orac:=⟨65,sin,sout,fun s K=>G sl0 s.2.1.1 s.2.1.2.1 s.2.1.2.2.1 s.2.1.2.2.2.1 (fun x0 x1 x2=>K ((x0,()),(x1,(x2,()))))⟩
noncomputable def C:Ctx:=⟨tyT,[spec_StripeOk.o,spec_l21Read.o],[],14,0⟩
theorem ctx:CtxOk Tryz.prog C:=⟨tyOk,all1 spec_StripeOk.ok (all1 spec_l21Read.ok (all0))⟩
theorem eG (β:Type)(s:sin.den)(K:sout.den→Option β):evalFn C Tryz.f65 sin sout s K=o.F s K:=by kernel_rfl
theorem ok:OracOk Tryz.prog o:=fn_ok mixed Tryz.func65 (by kernel_rfl) ctx (c:=bodyC Tryz.f65) (by kernel_rfl) (all0) (by kernel_rfl) (by kernel_rfl) (by kernel_rfl) (Nat.le_of_ble_eq_true (by kernel_rfl)) eG (by kernel_rfl) (Nat.le_of_ble_eq_true (by kernel_rfl))
end spec_StripeRead
namespace laws_FnMendAll
def sin:Sig:=⟨[],[.one (.val (.sl (.int .u8)) false)]⟩
def sout:Sig:=⟨[],[.one (.val .bool false)]⟩
def h12:SS:=⟨[3,7,8,10,11],⟨[.box [.val I false,.val (.sl I) false,.val (.sl I) false,.val (.sl .bool) false],.buf I false,.box [.val I false,.val (.sl I) false,.val (.sl I) false,.val (.sl .bool) false]],[.one (.ref (.ptr 0)),.one (.ref (.own 1)),.one (.val I false),.one (.ref (.ptr 2)),.one (.val I false)]⟩⟩
def x12:SS:=⟨[3,7,8,10],⟨[.box [.val I false,.val (.sl I) false,.val (.sl I) false,.val (.sl .bool) false],.buf I false,.box [.val I false,.val (.sl I) false,.val (.sl I) false,.val (.sl .bool) false]],[.one (.ref (.ptr 0)),.one (.ref (.own 1)),.one (.val I false),.one (.ref (.ptr 2))]⟩⟩
def y12:SS:=⟨[2],⟨[],[.one (.val .bool false)]⟩⟩
noncomputable def b12 {β:Type}(S:Sl)(L:Int→(List Int)→(List Int)→(List Bool)→(List Int)→Int→(List Int)→(List Int)→(List Bool)→Int→Int→Option β)(kx:Int→(List Int)→(List Int)→(List Bool)→(List Int)→Int→(List Int)→(List Int)→(List Bool)→Int→Option β)(kr:Bool→Option β)(s0:Int)(s1:(List Int))(s2:(List Int))(s3:(List Bool))(s4:(List Int))(s5:Int)(s6:(List Int))(s7:(List Int))(s8:(List Bool))(s9:Int)(s10:Int):Option β:=bif(S.lt s10 8)then(bif(S.ir s10 s8.length)then(bif(!(List.getD s8 (Int.toNat s10) false))then(impl_StripeMend.G S s5 s6 s7 s8 s10 (fun y1 y2 y3 y4 y5=>bif(!y5)then(kr false)else(L s0 s1 s2 s3 s4 y4 y1 y2 y3 s9 (S.w (s10+1)))))else(bif(S.ir s10 s7.length)then(bif(!S.eq (List.getD s7 (Int.toNat s10) 0) s9)then(impl_StripeMend.G S s5 s6 s7 s8 s10 (fun y6 y7 y8 y9 y10=>bif(!y10)then(kr false)else(L s0 s1 s2 s3 s4 y9 y6 y7 y8 s9 (S.w (s10+1)))))else(L s0 s1 s2 s3 s4 s5 s6 s7 s8 s9 (S.w (s10+1))))else(none)))else(none))else(kx s0 s1 s2 s3 s4 s5 s6 s7 s8 s9)
noncomputable def r12 {β:Type}(S:Sl)(n:Nat)(kx:x12.sig.den→Option β)(kr:y12.sig.den→Option β)(s:h12.sig.den):Option β:=rounds (fun L kx kr s=>b12 S (fun x0 x1 x2 x3 x4 x5 x6 x7 x8 x9 x10=>L (((x0,(x1,(x2,(x3,())))),(x4,((x5,(x6,(x7,(x8,())))),()))),(x9,(x10,())))) (fun x0 x1 x2 x3 x4 x5 x6 x7 x8 x9=>kx (((x0,(x1,(x2,(x3,())))),(x4,((x5,(x6,(x7,(x8,())))),()))),(x9,()))) (fun x0=>kr ((),(x0,()))) s.1.1.1 s.1.1.2.1 s.1.1.2.2.1 s.1.1.2.2.2.1 s.1.2.1 s.1.2.2.1.1 s.1.2.2.1.2.1 s.1.2.2.1.2.2.1 s.1.2.2.1.2.2.2.1 s.2.1 s.2.2.1) kx kr n s
noncomputable def l12 {β:Type}(S:Sl)(n:Nat)(kx:Int→(List Int)→(List Int)→(List Bool)→(List Int)→Int→(List Int)→(List Int)→(List Bool)→Int→Option β)(kr:Bool→Option β)(s0:Int)(s1:(List Int))(s2:(List Int))(s3:(List Bool))(s4:(List Int))(s5:Int)(s6:(List Int))(s7:(List Int))(s8:(List Bool))(s9:Int)(s10:Int):Option β:=r12 S n (fun s=>kx s.1.1.1 s.1.1.2.1 s.1.1.2.2.1 s.1.1.2.2.2.1 s.1.2.1 s.1.2.2.1.1 s.1.2.2.1.2.1 s.1.2.2.1.2.2.1 s.1.2.2.1.2.2.2.1 s.2.1) (fun s=>kr s.2.1) (((s0,(s1,(s2,(s3,())))),(s4,((s5,(s6,(s7,(s8,())))),()))),(s9,(s10,())))
theorem t12 {β:Type}(S:Sl)(n:Nat)(kx:Int→(List Int)→(List Int)→(List Bool)→(List Int)→Int→(List Int)→(List Int)→(List Bool)→Int→Option β)(kr:Bool→Option β)(s0:Int)(s1:(List Int))(s2:(List Int))(s3:(List Bool))(s4:(List Int))(s5:Int)(s6:(List Int))(s7:(List Int))(s8:(List Bool))(s9:Int)(s10:Int):l12 S (n+1) kx kr s0 s1 s2 s3 s4 s5 s6 s7 s8 s9 s10=b12 S (l12 S n kx kr) kx kr s0 s1 s2 s3 s4 s5 s6 s7 s8 s9 s10:=by kernel_rfl
noncomputable def G {β:Type}(S:Sl)(a0:(List Int))(K:Bool→Option β):Option β:=bif(S.lt 1048576 (a0.length:Int))then(K true)else(spec_DrawStripeRead.G S a0 (fun y1 y2 y3 y4=>spec_StripeRead.G S y4 y1 y2 y3 (fun y5 y6 y7=>impl_StripeRead.G S y4 y1 y2 y3 (fun y8 y9 y10=>bif(y10 != y7)then(bif(y10==y7)then(bif(S.eq y9 y6)then(laws_lkInts.G S y8 y5 (fun y11=>K y11))else(K false))else(K false))else(bif(!S.eq y9 y6)then(bif(y10==y7)then(bif(S.eq y9 y6)then(laws_lkInts.G S y8 y5 (fun y12=>K y12))else(K false))else(K false))else(laws_lkInts.G S y8 y5 (fun y13=>bif(!y13)then(bif(y10==y7)then(bif(S.eq y9 y6)then(laws_lkInts.G S y8 y5 (fun y14=>K y14))else(K false))else(K false))else(spec_StripeOk.G S y4 y1 y2 y3 (fun y15=>bif(!y15)then(bif(y10==y7)then(bif(S.eq y9 y6)then(laws_lkInts.G S y8 y5 (fun y16=>K y16))else(K false))else(K false))else(bif(!y10)then(K true)else(l12 S S.n (fun y17 y18 y19 y20 y21 y22 y23 y24 y25 y26=>impl_StripeNew.G S y17 y21 y26 (fun y27 y28 y29 y30 y31=>bif y31 then(laws_lkStripe.G S y22 y23 y24 y25 y30 y27 y28 y29 (fun y32=>K y32))else(K false))) (fun y33=>K y33) y4 y1 y2 y3 y8 y4 y1 y2 y3 y9 0)))))))))))
noncomputable def o:Orac:=⟨15,sin,sout,fun s K=>G sl0 s.2.1 (fun x0=>K ((),(x0,())))⟩
noncomputable def C:Ctx:=⟨tyT,[impl_StripeMend.o,impl_StripeNew.o,impl_StripeRead.o,laws_lkInts.o,laws_lkStripe.o,spec_DrawStripeRead.o,spec_StripeOk.o,spec_StripeRead.o],[⟨12,0,h12,x12,y12,fun s kx kr=>r12 sl0 sl0.n kx kr s⟩],110,0⟩
theorem ctx:CtxOk Tryz.prog C:=⟨tyOk,all1 impl_StripeMend.ok (all1 impl_StripeNew.ok (all1 impl_StripeRead.ok (all1 laws_lkInts.ok (all1 laws_lkStripe.ok (all1 spec_DrawStripeRead.ok (all1 spec_StripeOk.ok (all1 spec_StripeRead.ok (all0))))))))⟩
theorem e12 (β:Type)(L:h12.sig.den→Option β)(kx:x12.sig.den→Option β)(kr:y12.sig.den→Option β)(s:h12.sig.den):evalBody C (nthC (loopsOf (bodyC Tryz.f15)) 0) 0 h12 x12 y12 L kx kr s=b12 sl0 (fun x0 x1 x2 x3 x4 x5 x6 x7 x8 x9 x10=>L (((x0,(x1,(x2,(x3,())))),(x4,((x5,(x6,(x7,(x8,())))),()))),(x9,(x10,())))) (fun x0 x1 x2 x3 x4 x5 x6 x7 x8 x9=>kx (((x0,(x1,(x2,(x3,())))),(x4,((x5,(x6,(x7,(x8,())))),()))),(x9,()))) (fun x0=>kr ((),(x0,()))) s.1.1.1 s.1.1.2.1 s.1.1.2.2.1 s.1.1.2.2.2.1 s.1.2.1 s.1.2.2.1.1 s.1.2.2.1.2.1 s.1.2.2.1.2.2.1 s.1.2.2.1.2.2.2.1 s.2.1 s.2.2.1:=by kernel_rfl
theorem g12:LS Tryz.prog C ⟨12,0,h12,x12,y12,fun s kx kr=>r12 sl0 sl0.n kx kr s⟩ (loopsOf (bodyC Tryz.f15)):=LS.at (i:=0) (by kernel_rfl) (loop_good mixed ctx (ctx_nat ctx) (N:=sl0.n) (fun _ _ _ _=>rfl) e12 (all1 (LS.none (by kernel_rfl)) (all0)))
theorem eG (β:Type)(s:sin.den)(K:sout.den→Option β):evalFn C Tryz.f15 sin sout s K=o.F s K:=by kernel_rfl
theorem ok:OracOk Tryz.prog o:=fn_ok mixed Tryz.func15 (by kernel_rfl) ctx (c:=bodyC Tryz.f15) (by kernel_rfl) (all1 g12 (all0)) (by kernel_rfl) (by kernel_rfl) (by kernel_rfl) (Nat.le_of_ble_eq_true (by kernel_rfl)) eG (by kernel_rfl) (Nat.le_of_ble_eq_true (by kernel_rfl))
end laws_FnMendAll
end Go.Proofs.YtnbighmbgmjbkaaGreat.E
end
section
namespace Go.Proofs.YtnbighmbgmjbkaaGreat.E
open Go Go.RowKit
set_option maxRecDepth 100000
structure MendTo (kind:Int) (v:Int) (d:List Int) (i:Nat) (A B:List Int) (C:List Bool):Prop where
 ok:stripeV kind A B C=true
 rd:readL kind B C=some v
 told:Told1 kind A B C v d
 done:∀ j,j<i→C.getD j false=true∧B.getD j 0=v
theorem MendTo.same {kind:Int} {v:Int} {d:List Int} {i:Nat} {A B:List Int} {C:List Bool} (h:MendTo kind v d i A B C) (hc:C.getD i false=true∧B.getD i 0=v):MendTo kind v d (i+1) A B C:=
 ⟨h.ok, h.rd, h.told, fun j hj => by
  by_cases e:j=i
  ·subst e; exact hc
  ·exact h.done j (by omega)⟩
theorem MendTo.mend {kind:Int} {v:Int} {d:List Int} {i:Nat} {A B:List Int} {C:List Bool} (h:MendTo kind v d i A B C) (hi:i<8) (hc:¬(C.getD i false=true∧B.getD i 0=v)):
  MendTo kind v d (i+1) (A.set i (dotM (rowS kind (i:Int)) d)) (B.set i v) (C.set i true)∧mendV kind A B C (i:Int)=((A.set i (dotM (rowS kind (i:Int)) d),B.set i v,C.set i true),kind,true):=by
 obtain⟨hk,hf,h1,h2,h3,_⟩:=stripe_iff.1 h.ok
 have hT:=toldD_told h.ok h.rd
 have ed:toldD kind A B C=d:=tells_uniq hk (show Tells kind A B C _ by unfold Tells; rw [h.rd]; exact hT) (by unfold Tells; rw [h.rd]; exact h.told)
 have hm:=mendV_yes h.ok hi h.rd (mend_yes h.ok h.rd hi hc)
 rw [ed] at hm
 obtain⟨o1,o2,o3⟩:=mended_ok h.ok hi h.rd h.told
 refine⟨⟨o1,o2,o3,fun j hj=>?_⟩,hm⟩
 rw [getD_set _ _ _ _ _ (by omega),getD_set _ _ _ _ _ (by omega)]
 by_cases e:i=j
 ·rw [if_pos e,if_pos e]; exact⟨rfl,rfl⟩
 ·rw [if_neg e,if_neg e]; exact h.done j (by omega)
theorem MendTo.all {kind:Int} {v:Int} {d:List Int} {A B:List Int} {C:List Bool} (h:MendTo kind v d 8 A B C):A=allV kind d∧B=List.replicate 8 v∧C=List.replicate 8 true:=by
 obtain⟨hk,hf,h1,h2,h3,_⟩:=stripe_iff.1 h.ok
 refine⟨ext8 0 h1 (allV_len _ _) fun j hj=>?_,ext8 0 h2 (by simp) fun j hj=>?_,ext8 false h3 (by simp) fun j hj=>?_⟩
 ·rw [allV_at hk h.told.1 hj]
  exact h.told.2 j (ofL_mem'.2 ⟨hj,h.done j hj⟩)
 ·rw [rep8 _ _ hj]; exact(h.done j hj).2
 ·rw [rep8 _ _ hj]; exact(h.done j hj).1
theorem mendAll_l {β:Type} (k0:Int) (s1 s2:List Int) (s3:List Bool) (s4:List Int) {kind v:Int} {d:List Int} (kx:Int→List Int→List Int→List Bool→List Int→Int→List Int→List Int→List Bool→Int→Option β) (kr:Bool→Option β) (k:Nat):∀ (i n:Nat) (A B:List Int) (C:List Bool),i+k=8→k<n→MendTo kind v d i A B C→
  laws_FnMendAll.l12 sl1 n kx kr k0 s1 s2 s3 s4 kind A B C v (i:Int)=kx k0 s1 s2 s3 s4 kind (allV kind d) (List.replicate 8 v) (List.replicate 8 true) v:=by
 induction k with
 | zero =>
  intro i n A B C hi hn h
  obtain⟨n,rfl⟩:∃ m,n=m+1:=⟨n-1,by omega⟩
  obtain rfl:i=8:=by omega
  obtain⟨rfl,rfl,rfl⟩:=h.all
  rw [laws_FnMendAll.t12]; exact cF (ltF (by omega)) rfl
 | succ k ih =>
  intro i n A B C hi hn h
  obtain⟨n,rfl⟩:∃ m,n=m+1:=⟨n-1,by omega⟩
  obtain⟨hk,hf,h1,h2,h3,_⟩:=stripe_iff.1 h.ok
  obtain⟨_,ei⟩:=mend_G (kind:=kind) (vers:=B) (there:=C) (show A.length≤1000000000 by omega) (i:Int)
  rw [laws_FnMendAll.t12]
  unfold laws_FnMendAll.b12
  rw [w_succ (by omega),getC,getC]
  refine cT (ltT (by omega)) (cT (irT (by omega) (by omega)) ?_)
  cases ct:C.getD i false
  ·obtain ⟨q1, q2⟩ := h.mend (by omega) (fun hc => by rw [ct] at hc; cases hc.1)
   rw [q2] at ei
   exact cT rfl ((ei _ _).trans (cF rfl (ih (i+1) n _ _ _ (by omega) (by omega) q1)))
  ·refine cF rfl (cT (irT (by omega) (by omega)) ?_)
   by_cases cv:B.getD i 0=v
   ·exact cF (neF cv) (ih (i+1) n A B C (by omega) (by omega) (h.same ⟨ct,cv⟩))
   ·obtain ⟨q1, q2⟩ := h.mend (by omega) (fun hc => cv hc.2)
    rw [q2] at ei
    exact cT (neT cv) ((ei _ _).trans (cF rfl (ih (i+1) n _ _ _ (by omega) (by omega) q1)))
end Go.Proofs.YtnbighmbgmjbkaaGreat.E
namespace Go.Proofs.YtnbighmbgmjbkaaGreat.Pure.FnMendAll
open Go Go.Proofs.YtnbighmbgmjbkaaGreat.E
theorem pure {β:Type} (l:List Int) (hl:∀ x∈l,0≤x∧x≤255) (K:Bool→Option β):laws_FnMendAll.G sl1 l K=K true:=by
 obtain⟨b,hb,ho⟩:=open_G hl
 obtain⟨q,kind,vals,vers,there,q0,q1,hs,hd⟩:=stripe_S hb (p:=0) (by omega) (by omega)
 have l1:=hs.l1
 have l2:=hs.l2
 have l3:=hs.l3
 unfold laws_FnMendAll.G
 by_cases h:1048576<(l.length:Int)
 ·exact cT (ltT h) rfl
 refine cF (ltF (by omega)) ?_
 unfold spec_DrawStripeRead.G
 refine(ho _ _).trans ((hd _ _).trans ?_)
 cases cs:stripeV kind vals vers there
 ·have es : ∀ (β : Type) (K : List Int → Int → Bool → Option β), spec_StripeRead.G sl1 kind vals vers there K = K [] 0 false := fun β K => by
   unfold spec_StripeRead.G
   refine(stripeOk_G kind vals vers there (by omega) _).trans ?_
   rw [cs]; exact cT rfl rfl
  have ei:∀ (β:Type) (K:List Int→Int→Bool→Option β),impl_StripeRead.G sl1 kind vals vers there K=K [] 0 false:=fun β K=>by
   unfold impl_StripeRead.G
   refine(stripeI_G kind vals vers there _).trans ?_
   rw [cs]; exact cT rfl rfl
  refine(es _ _).trans ((ei _ _).trans (cF rfl (cF (neF rfl) ((lkInts_same _ (by simp) _).trans (cF rfl ((stripeOk_G kind vals vers there (by omega) _).trans ?_))))))
  rw [cs]
  exact cT rfl (cT rfl (cT (eqT rfl) (lkInts_same _ (by simp) _)))
 ·obtain ⟨hk, hf, h1, h2, h3, _⟩ := stripe_iff.1 cs
  obtain⟨d,hT,er⟩:=stripeRead_E cs
  obtain⟨d',hT',es⟩:=readS_E cs
  obtain rfl:d'=d:=tells_uniq hk hT' hT
  have hdl:d'.length≤1000000:=by
   have hd:=hT
   unfold Tells at hd
   split at hd
   ·rw [hd]; simp
   ·rw [hd.1.len]; omega
  have es':∀ (β:Type) (K:List Int→Int→Bool→Option β),spec_StripeRead.G sl1 kind vals vers there K=K d' ((readL kind vers there).getD 0) (readL kind vers there).isSome:=fun β K=>by
   unfold spec_StripeRead.G
   refine(stripeOk_G kind vals vers there (by omega) _).trans ?_
   rw [cs]
   exact cF rfl (es _ _)
  refine(es' _ _).trans ((er _ _).trans (cF (bne_self_eq_false _) (cF (neF rfl) ((lkInts_same _ hdl _).trans (cF rfl ((stripeOk_G kind vals vers there (by omega) _).trans ?_))))))
  rw [cs]
  refine cF rfl ?_
  cases hr:readL kind vers there with
  | none => exact cT rfl rfl
  | some v =>
   unfold Tells at hT
   rw [hr] at hT
   have hT:Told1 kind vals vers there v d':=hT
   obtain⟨a,ha,ta,va⟩:=versL_mem.1 (List.mem_of_find?_eq_some hr)
   have h99:=(((stripe_iff.1 cs).2.2.2.2.2 a ha).1 ta).1
   rw [va] at h99
   have hn:newOk kind d' v=true:=newOk_iff.2 ⟨hk,V4_vec hT.1,h99.1,h99.2⟩
   have hal:=allV_len kind d'
   refine cF rfl ((mendAll_l kind vals vers there d' _ _ 8 0 sl1.n vals vers there (by omega) (by rw [rounds_n]; omega) ⟨cs,hr,hT,fun j hj=>by omega⟩).trans ?_)
   refine(newI_G kind v (by omega) _).trans ?_
   rw [hn]
   exact cT rfl (cT rfl (lkStripe_same kind (by omega) (by simp) (by simp) _))
end Go.Proofs.YtnbighmbgmjbkaaGreat.Pure.FnMendAll
end
section
namespace Go.Proofs.YtnbighmbgmjbkaaGreat.fnMendAll
open Go.ChangeShapes Go.WideShapes Go.ChangeAt Go.RowKit
open Go.ChangeMaps (open_string shut_string)
theorem own:ownKnob Tryz.prog.godebug=none:=by kernel_rfl
theorem laidOut:laidOutB Tryz.prog=true:=by kernel_rfl
set_option maxRecDepth 100000 in
theorem lifted (os:Os) (started:os.Started) (H:Type) (enc:TypeId×Value→H):
  ReturnsInHanded {} Tryz.checked os 15 .any (Rows.fnMendAllSpec.pre6 enc Tryz.prog Tryz.f15 Rows.fnMendAllRow.domain false) (Rows.fnMendAllSpec.post enc Tryz.prog Tryz.f15 false true false false):=by
 refine returnsInHanded_of_change_sized (C:=Tryz.checked) own started (by kernel_rfl) Tryz.func15
  (ChangeSpec.witness6 (enc:=enc) (C:=Tryz.checked) false ⟨#[],#[.slice none 0 0],[]⟩ 8 (by kernel_rfl) (by kernel_rfl) (by kernel_rfl) (by kernel_rfl)) ?_
 intro W base args ds gs before hval0 hW hcnd hsz0 _
 have hval:∀ (j:Nat) t v,Tryz.f15.params[j]? = some t→args[j]? = some v→Value.okWide Tryz.prog W .any base t v:=hval0
 have hW':=hW
 obtain⟨p,q,hA0,hV,rfl,hfz,hnd⟩:=hW
 have hA:DataW.TrodAll enc Tryz.prog W 0 (fun _=>true) true Tryz.f15.params.toList args.toList ds p:=hA0
 rw [Tryz.params15] at hA hval
 obtain⟨v0,vs0,d0,ds0,p0,q0,hargs,rfl,rfl,h0,r0⟩:=trodAll_cons hA
 obtain⟨rfl,rfl,rfl⟩:=trodAll_nil r0
 obtain rfl:args = #[v0]:=by cases args; simp_all
 obtain⟨rfl,rfl⟩:=trodVars_none hV
 obtain⟨a0,len0,cap0,rfl⟩:=okWide_slice Tryz.underlying22 (hval 0 22 v0 rfl rfl)
 have k0:=h0
 have lt0:∀ x∈p0,x.block<W.heap.size:=by obtain⟨m,hm⟩:=k0; exact DataW.trod_lt m _ _ _ hm
 obtain⟨z0,w0,b0⟩:∃ zs,E.IsRowK .u8 W a0 len0 cap0 zs∧(∀ x∈zs,(Lit.int .u8 x).wf=true):=by
  obtain⟨fuel,hf⟩:=h0
  rcases open_ints Tryz.underlying22 Tryz.underlying5 (by kernel_rfl) hf with ⟨hcs,_⟩ | ⟨x,l,c,zs,hcs,_,hl,hm,hz,_,hcell,hwz⟩
  ·simp [Value.cells] at hcs
   obtain⟨rfl,rfl,rfl⟩:=hcs
   exact⟨[],.inl ⟨rfl,rfl,rfl,rfl⟩,by simp⟩
  ·simp [Value.cells] at hcs
   obtain⟨rfl,rfl,rfl⟩:=hcs
   exact⟨zs,.inr ⟨_,rfl,hl,by simpa using hz,hcell⟩,hwz⟩
 clear hA0 hval0 hsz0
 have hp:=Pure.FnMendAll.pure (z0.take len0) (fun x hx=>E.byte_wf (b0 x (List.mem_of_mem_take hx))) (fun b=>some ((),(b,())))
 rw [←E.sl_eq] at hp
 refine(E.law_bytes E.laws_FnMendAll.ok w0 hp).mono fun e W' ⟨he,bel⟩=>?_
 subst he
 exact⟨_,rfl,_,_,_,[],_,[],hW',trodAll_mk1 (shut_bool Tryz.underlying4 _),(trodAll_cons_mk (Below.trod laidOut (by kernel_rfl) (of_decide_eq_true (by kernel_rfl)) k0 bel lt0) trodAll_mk0),rfl,bel.frame _,fun h=>by cases h⟩
theorem closed:joinedFacts Tryz.prog 15 Tryz.f15 Rows.fnMendAllSpec Rows.fnMendAllRow=true:=by
 unfold joinedFacts
 rw [Head.make,Head.final,Head.enter]
 kernel_rfl
theorem over:Rows.fnMendAllRow.holds Tryz.pinned (OpenSpec.ofChange Rows.fnMendAllSpec):=
 OpenClaim.holds_of_wide 15 Tryz.f15 rfl rfl rfl rfl rfl rfl rfl ⟨rfl,rfl,rfl,rfl,rfl⟩ rfl rfl rfl rfl rfl (by kernel_rfl) Tryz.func15 closed
  (of_decide_eq_true (by kernel_rfl)) (by unfold Func.isWrapper; first | (rw [if_pos (by decide +kernel)]; kernel_rfl) | (rw [if_neg (by decide +kernel)]; exact⟨rfl,rfl⟩))
  (fun os started H enc _=>lifted os started H enc)
theorem proved:Rows.FnMendAllSaid:=over
#print axioms proved
end Go.Proofs.YtnbighmbgmjbkaaGreat.fnMendAll
end
