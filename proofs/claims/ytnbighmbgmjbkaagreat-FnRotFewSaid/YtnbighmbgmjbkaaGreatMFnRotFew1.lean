/- Part 1 of the proof of the statement FnRotFew; the last part states it. No condition. -/
import Derived.Test.YtnbighmbgmjbkaaGreatRows
import Derived.WalkKit
import Derived.ProofKit
import Derived.OpenShut
import Derived.ShutString
import Derived.ChangeOld
import Derived.Below
import Derived.SizedLaws
import Derived.Test.YtnbighmbgmjbkaaGreatMGM2
import Derived.Test.YtnbighmbgmjbkaaGreatMGM3
import Derived.Test.YtnbighmbgmjbkaaGreatMGM4
import Derived.Test.YtnbighmbgmjbkaaGreatMGM5
import Derived.Test.YtnbighmbgmjbkaaGreatMGM23
import Derived.Test.YtnbighmbgmjbkaaGreatMGM34
set_option linter.unusedVariables false
set_option linter.unusedSimpArgs false
section
namespace Go.Proofs.YtnbighmbgmjbkaaGreat.E
open Go Go.RowKit
set_option maxRecDepth 100000
namespace impl_FieldSum
def sin:Sig:=⟨[],[.one (.val I false),.one (.val I false)]⟩
def sout:Sig:=⟨[],[.one (.val I false)]⟩
noncomputable def G {β:Type}(S:Sl)(a0:Int)(a1:Int)(K:Int→Option β):Option β:=impl_FieldOk.G S a0 (fun y1=>bif(!y1)then(K 0)else(impl_FieldOk.G S a1 (fun y2=>bif(!y2)then(K 0)else(impl_element_plus.G S a0 a1 (fun y3=>K y3)))))
noncomputable def o:Orac:=⟨79,sin,sout,fun s K=>G sl0 s.2.1 s.2.2.1 (fun x0=>K ((),(x0,())))⟩
noncomputable def C:Ctx:=⟨tyT,[impl_FieldOk.o,impl_element_plus.o],[],16,0⟩
theorem ctx:CtxOk Tryz.prog C:=⟨tyOk,all1 impl_FieldOk.ok (all1 impl_element_plus.ok (all0))⟩
theorem eG (β:Type)(s:sin.den)(K:sout.den→Option β):evalFn C Tryz.f79 sin sout s K=o.F s K:=by kernel_rfl
theorem ok:OracOk Tryz.prog o:=fn_ok mixed Tryz.func79 (by kernel_rfl) ctx (c:=bodyC Tryz.f79) (by kernel_rfl) (all0) (by kernel_rfl) (by kernel_rfl) (by kernel_rfl) (Nat.le_of_ble_eq_true (by kernel_rfl)) eG (by kernel_rfl) (Nat.le_of_ble_eq_true (by kernel_rfl))
end impl_FieldSum
namespace laws_lkDisks
def sin:Sig:=⟨[],[.one (.val (.sl (.pair I (.pair I (.pair I .unit)))) false),.one (.val (.sl (.pair I (.pair I (.pair I .unit)))) false)]⟩
def sout:Sig:=⟨[],[.one (.val .bool false)]⟩
def h4:SS:=⟨[0,1,5],⟨[],[.one (.val (.sl (.pair I (.pair I (.pair I .unit)))) false),.one (.val (.sl (.pair I (.pair I (.pair I .unit)))) false),.one (.val I false)]⟩⟩
def x4:SS:=⟨[],⟨[],[]⟩⟩
def y4:SS:=⟨[4],⟨[],[.one (.val .bool false)]⟩⟩
noncomputable def b4 {β:Type}(S:Sl)(L:(List (Int×(Int×(Int×Unit))))→(List (Int×(Int×(Int×Unit))))→Int→Option β)(kx:Option β)(kr:Bool→Option β)(s0:(List (Int×(Int×(Int×Unit)))))(s1:(List (Int×(Int×(Int×Unit)))))(s2:Int):Option β:=bif(S.lt s2 (s0.length:Int))then(bif(S.ir s2 s0.length)then(bif(S.ir s2 s1.length)then(bif(!((S.eq ((List.getD s0 (Int.toNat s2) (0,(0,(0,())))).1) ((List.getD s1 (Int.toNat s2) (0,(0,(0,())))).1))&&((S.eq ((List.getD s0 (Int.toNat s2) (0,(0,(0,())))).2.1) ((List.getD s1 (Int.toNat s2) (0,(0,(0,())))).2.1))&&((S.eq ((List.getD s0 (Int.toNat s2) (0,(0,(0,())))).2.2.1) ((List.getD s1 (Int.toNat s2) (0,(0,(0,())))).2.2.1))&&true))))then(kr false)else(L s0 s1 (S.w (s2+1))))else(none))else(none))else(kx)
noncomputable def r4 {β:Type}(S:Sl)(n:Nat)(kx:x4.sig.den→Option β)(kr:y4.sig.den→Option β)(s:h4.sig.den):Option β:=rounds (fun L kx kr s=>b4 S (fun x0 x1 x2=>L ((),(x0,(x1,(x2,()))))) (kx ((),())) (fun x0=>kr ((),(x0,()))) s.2.1 s.2.2.1 s.2.2.2.1) kx kr n s
noncomputable def l4 {β:Type}(S:Sl)(n:Nat)(kx:Option β)(kr:Bool→Option β)(s0:(List (Int×(Int×(Int×Unit)))))(s1:(List (Int×(Int×(Int×Unit)))))(s2:Int):Option β:=r4 S n (fun s=>kx) (fun s=>kr s.2.1) ((),(s0,(s1,(s2,()))))
theorem t4 {β:Type}(S:Sl)(n:Nat)(kx:Option β)(kr:Bool→Option β)(s0:(List (Int×(Int×(Int×Unit)))))(s1:(List (Int×(Int×(Int×Unit)))))(s2:Int):l4 S (n+1) kx kr s0 s1 s2=b4 S (l4 S n kx kr) kx kr s0 s1 s2:=by kernel_rfl
noncomputable def G {β:Type}(S:Sl)(a0:(List (Int×(Int×(Int×Unit)))))(a1:(List (Int×(Int×(Int×Unit)))))(K:Bool→Option β):Option β:=bif(!S.eq (a0.length:Int) (a1.length:Int))then(K false)else(l4 S S.n (K true) (fun y1=>K y1) a0 a1 0)
noncomputable def o:Orac:=⟨80,sin,sout,fun s K=>G sl0 s.2.1 s.2.2.1 (fun x0=>K ((),(x0,())))⟩
noncomputable def C:Ctx:=⟨tyT,[],[⟨4,0,h4,x4,y4,fun s kx kr=>r4 sl0 sl0.n kx kr s⟩],26,0⟩
theorem ctx:CtxOk Tryz.prog C:=⟨tyOk,all0⟩
theorem e4 (β:Type)(L:h4.sig.den→Option β)(kx:x4.sig.den→Option β)(kr:y4.sig.den→Option β)(s:h4.sig.den):evalBody C (nthC (loopsOf (bodyC Tryz.f80)) 0) 0 h4 x4 y4 L kx kr s=b4 sl0 (fun x0 x1 x2=>L ((),(x0,(x1,(x2,()))))) (kx ((),())) (fun x0=>kr ((),(x0,()))) s.2.1 s.2.2.1 s.2.2.2.1:=by kernel_rfl
theorem g4:LS Tryz.prog C ⟨4,0,h4,x4,y4,fun s kx kr=>r4 sl0 sl0.n kx kr s⟩ (loopsOf (bodyC Tryz.f80)):=LS.at (i:=0) (by kernel_rfl) (loop_good mixed ctx (ctx_nat ctx) (N:=sl0.n) (fun _ _ _ _=>rfl) e4 (all1 (LS.none (by kernel_rfl)) (all0)))
theorem eG (β:Type)(s:sin.den)(K:sout.den→Option β):evalFn C Tryz.f80 sin sout s K=o.F s K:=by kernel_rfl
theorem ok:OracOk Tryz.prog o:=fn_ok mixed Tryz.func80 (by kernel_rfl) ctx (c:=bodyC Tryz.f80) (by kernel_rfl) (all1 g4 (all0)) (by kernel_rfl) (by kernel_rfl) (by kernel_rfl) (Nat.le_of_ble_eq_true (by kernel_rfl)) eG (by kernel_rfl) (Nat.le_of_ble_eq_true (by kernel_rfl))
end laws_lkDisks
namespace laws_FnRotFew
def sin:Sig:=⟨[],[.one (.val (.sl (.int .u8)) false),.one (.val (.sl (.int .u8)) false)]⟩
def sout:Sig:=⟨[],[.one (.val .bool false)]⟩
def h11:SS:=⟨[1,5,12,13,14],⟨[.buf (.pair I (.pair I (.pair I .unit))) false,.buf (.pair I (.pair I (.pair I .unit))) false],[.one (.val (.sl (.int .u8)) false),.one (.val I false),.one (.ref (.own 0)),.one (.ref (.own 1)),.one (.val I false)]⟩⟩
def x11:SS:=⟨[5,12,13],⟨[.buf (.pair I (.pair I (.pair I .unit))) false,.buf (.pair I (.pair I (.pair I .unit))) false],[.one (.val I false),.one (.ref (.own 0)),.one (.ref (.own 1))]⟩⟩
def y11:SS:=⟨[],⟨[],[]⟩⟩
noncomputable def b11 {β:Type}(S:Sl)(L:(List (Int×(Int×(Int×Unit))))→(List (Int×(Int×(Int×Unit))))→(List Int)→Int→Int→Option β)(kx:(List (Int×(Int×(Int×Unit))))→(List (Int×(Int×(Int×Unit))))→Int→Option β)(kr:Option β)(s0:(List (Int×(Int×(Int×Unit)))))(s1:(List (Int×(Int×(Int×Unit)))))(s2:(List Int))(s3:Int)(s4:Int):Option β:=impl_CodeMost.G S s3 (fun y1=>bif(S.lt s4 y1)then(bif(S.ir (Int.tmod (S.w ((s2.length:Int)+(S.w ((3:Int)*s4)))) 8) s0.length)then(impl_FieldSum.G S ((List.getD s0 (Int.toNat (Int.tmod (S.w ((s2.length:Int)+(S.w ((3:Int)*s4)))) 8)) (0,(0,(0,())))).1) (S.w ((1:Int)+(Int.tmod (s2.length:Int) 30))) (fun y2=>bif(S.ir (Int.tmod (S.w ((s2.length:Int)+(S.w ((3:Int)*s4)))) 8) s1.length)then(L s0 (List.set s1 (Int.toNat (Int.tmod (S.w ((s2.length:Int)+(S.w ((3:Int)*s4)))) 8)) (y2,(List.getD s1 (Int.toNat (Int.tmod (S.w ((s2.length:Int)+(S.w ((3:Int)*s4)))) 8)) (0,(0,(0,())))).2)) s2 s3 (S.w (s4+1)))else(none)))else(none))else(kx s0 s1 s3))
noncomputable def r11 {β:Type}(S:Sl)(n:Nat)(kx:x11.sig.den→Option β)(kr:y11.sig.den→Option β)(s:h11.sig.den):Option β:=rounds (fun L kx kr s=>b11 S (fun x0 x1 x2 x3 x4=>L ((x0,(x1,())),(x2,(x3,(x4,()))))) (fun x0 x1 x2=>kx ((x0,(x1,())),(x2,()))) (kr ((),())) s.1.1 s.1.2.1 s.2.1 s.2.2.1 s.2.2.2.1) kx kr n s
noncomputable def l11 {β:Type}(S:Sl)(n:Nat)(kx:(List (Int×(Int×(Int×Unit))))→(List (Int×(Int×(Int×Unit))))→Int→Option β)(kr:Option β)(s0:(List (Int×(Int×(Int×Unit)))))(s1:(List (Int×(Int×(Int×Unit)))))(s2:(List Int))(s3:Int)(s4:Int):Option β:=r11 S n (fun s=>kx s.1.1 s.1.2.1 s.2.1) (fun s=>kr) ((s0,(s1,())),(s2,(s3,(s4,()))))
theorem t11 {β:Type}(S:Sl)(n:Nat)(kx:(List (Int×(Int×(Int×Unit))))→(List (Int×(Int×(Int×Unit))))→Int→Option β)(kr:Option β)(s0:(List (Int×(Int×(Int×Unit)))))(s1:(List (Int×(Int×(Int×Unit)))))(s2:(List Int))(s3:Int)(s4:Int):l11 S (n+1) kx kr s0 s1 s2 s3 s4=b11 S (l11 S n kx kr) kx kr s0 s1 s2 s3 s4:=by kernel_rfl
noncomputable def G {β:Type}(S:Sl)(a0:(List Int))(a1:(List Int))(K:Bool→Option β):Option β:=bif(S.lt 1048576 (a0.length:Int))then(K true)else(bif(S.lt 1048576 (a1.length:Int))then(K true)else(spec_DrawStripeNew.G S a0 (fun y1 y2 y3=>spec_StripeNew.G S y1 y2 y3 (fun y4 y5 y6 y7 y8=>impl_StripeNew.G S y1 y2 y3 (fun y9 y10 y11 y12 y13=>bif(y13 != y8)then(bif(y13==y8)then(laws_lkStripe.G S y12 y9 y10 y11 y7 y4 y5 y6 (fun y14=>K y14))else(K false))else(laws_lkStripe.G S y12 y9 y10 y11 y7 y4 y5 y6 (fun y15=>bif(!y15)then(bif(y13==y8)then(laws_lkStripe.G S y12 y9 y10 y11 y7 y4 y5 y6 (fun y16=>K y16))else(K false))else(bif(!y13)then(bif(y13==y8)then(laws_lkStripe.G S y12 y9 y10 y11 y7 y4 y5 y6 (fun y17=>K y17))else(K false))else(impl_RotWrite.G S y12 y9 y10 y11 (fun y18=>bif(S.fw ([]++y18).length)then(l11 S S.n (fun y19 y20 y21=>impl_RotMend.G S y21 y20 (fun y22 y23 y24=>bif y24 then(laws_lkDisks.G S y22 y19 (fun y25=>bif y25 then(impl_CodeMost.G S y21 (fun y26=>K (S.eq y23 y26)))else(K false)))else(K false))) none y18 ([]++y18) a1 y1 0)else(none)))))))))))
noncomputable def o:Orac:=⟨19,sin,sout,fun s K=>G sl0 s.2.1 s.2.2.1 (fun x0=>K ((),(x0,())))⟩
noncomputable def C:Ctx:=⟨tyT,[impl_CodeMost.o,impl_FieldSum.o,impl_RotMend.o,impl_RotWrite.o,impl_StripeNew.o,laws_lkDisks.o,laws_lkStripe.o,spec_DrawStripeNew.o,spec_StripeNew.o],[⟨11,0,h11,x11,y11,fun s kx kr=>r11 sl0 sl0.n kx kr s⟩],118,0⟩
theorem ctx:CtxOk Tryz.prog C:=⟨tyOk,all1 impl_CodeMost.ok (all1 impl_FieldSum.ok (all1 impl_RotMend.ok (all1 impl_RotWrite.ok (all1 impl_StripeNew.ok (all1 laws_lkDisks.ok (all1 laws_lkStripe.ok (all1 spec_DrawStripeNew.ok (all1 spec_StripeNew.ok (all0)))))))))⟩
theorem e11 (β:Type)(L:h11.sig.den→Option β)(kx:x11.sig.den→Option β)(kr:y11.sig.den→Option β)(s:h11.sig.den):evalBody C (nthC (loopsOf (bodyC Tryz.f19)) 0) 0 h11 x11 y11 L kx kr s=b11 sl0 (fun x0 x1 x2 x3 x4=>L ((x0,(x1,())),(x2,(x3,(x4,()))))) (fun x0 x1 x2=>kx ((x0,(x1,())),(x2,()))) (kr ((),())) s.1.1 s.1.2.1 s.2.1 s.2.2.1 s.2.2.2.1:=by kernel_rfl
theorem g11:LS Tryz.prog C ⟨11,0,h11,x11,y11,fun s kx kr=>r11 sl0 sl0.n kx kr s⟩ (loopsOf (bodyC Tryz.f19)):=LS.at (i:=0) (by kernel_rfl) (loop_good mixed ctx (ctx_nat ctx) (N:=sl0.n) (fun _ _ _ _=>rfl) e11 (all1 (LS.none (by kernel_rfl)) (all0)))
theorem eG (β:Type)(s:sin.den)(K:sout.den→Option β):evalFn C Tryz.f19 sin sout s K=o.F s K:=by kernel_rfl
theorem ok:OracOk Tryz.prog o:=fn_ok mixed Tryz.func19 (by kernel_rfl) ctx (c:=bodyC Tryz.f19) (by kernel_rfl) (all1 g11 (all0)) (by kernel_rfl) (by kernel_rfl) (by kernel_rfl) (Nat.le_of_ble_eq_true (by kernel_rfl)) eG (by kernel_rfl) (Nat.le_of_ble_eq_true (by kernel_rfl))
end laws_FnRotFew
theorem lkDisks_l {β:Type} (l:List Dk') (hl:l.length≤1048576) (kx:Option β) (kr:Bool→Option β) (d:Nat):∀ (i n:Nat),i+d=l.length→d<n→laws_lkDisks.l4 sl1 n kx kr l l (i:Int)=kx:=by
 induction d with
 | zero =>
  intro i n hi hn
  obtain⟨n,rfl⟩:∃ m,n=m+1:=⟨n-1,by omega⟩
  rw [laws_lkDisks.t4]; exact cF (ltF (by omega)) rfl
 | succ d ih =>
  intro i n hi hn
  obtain⟨n,rfl⟩:∃ m,n=m+1:=⟨n-1,by omega⟩
  rw [laws_lkDisks.t4]
  unfold laws_lkDisks.b4
  rw [w_succ (by omega),eqT rfl,eqT rfl,eqT rfl]
  exact cT (ltT (by omega)) (cT (irT (by omega) (by omega)) (cT (irT (by omega) (by omega)) (cF rfl (ih (i+1) n (by omega) (by omega)))))
theorem lkDisks_same {β:Type} {l:List Dk'} (hl:l.length≤1048576) (K:Bool→Option β):laws_lkDisks.G sl1 l l K=K true:=by
 unfold laws_lkDisks.G
 exact cF (neF rfl) (lkDisks_l l hl _ _ l.length 0 sl1.n (by omega) (by rw [rounds_n]; omega))
end Go.Proofs.YtnbighmbgmjbkaaGreat.E
end
section
namespace Go.Proofs.YtnbighmbgmjbkaaGreat.E
open Go Go.RowKit
set_option maxRecDepth 100000
theorem missF_1:(List.range 8).all (fun r=>missN (fewT r 3) 8 0==3)=true:=by kernel_rfl
theorem missF_2:(List.range 8).all (fun r=>missN (fewT r 4) 8 0==4)=true:=by kernel_rfl
theorem Few.miss {kind:Int} (hk:kind=1∨kind=2) {data:List Int} {v:Int} {r:Nat} {A B:List Int} {C:List Bool} (h:Few kind data v r (mostN kind) A B C):missN C 8 0=(mostN kind:Int):=by
 have e:C=fewT (r%8) (mostN kind):=ext8 false h.l3 (by unfold fewT; simp) fun j hj=>by
  rw [(h.at_ j hj).2.2,fewT_at _ _ hj,lostN_mod]
 have hr:r%8∈List.range 8:=List.mem_range.2 (by omega)
 rw [e]
 rcases hk with rfl | rfl
 ·exact beq_iff_eq.1 (List.all_eq_true.1 missF_1 _ hr)
 ·exact beq_iff_eq.1 (List.all_eq_true.1 missF_2 _ hr)
theorem few_is {kind:Int} {data:List Int} {v:Int} (h:newOk kind data v=true) (r:Nat):∀ i,∃ (A B:List Int) (C:List Bool),Few kind data v r i A B C
 | 0 => ⟨_, _, _, Few.zero h r⟩
 | i + 1 => by
  obtain⟨A,B,C,hF⟩:=few_is h r i
  exact⟨_,_,_,hF.succ⟩
structure Bad (D:List Dk') (r e i:Nat) (L:List Dk'):Prop where
 l8:L.length=8
 at_:∀ j,j<8→L.getD j noDk=if lostN r i j=true then(((D.getD j noDk).1+(1+(e:Int)))%31,(D.getD j noDk).2)else D.getD j noDk
theorem Bad.zero {D:List Dk'} (h:D.length=8) (r e:Nat):Bad D r e 0 D:=⟨h,fun j hj=>rfl⟩
theorem Bad.succ {D:List Dk'} {r e i:Nat} {L:List Dk'} (h:Bad D r e i L):
  Bad D r e (i+1) (L.set ((r+3*i)%8) (((D.getD ((r+3*i)%8) noDk).1+(1+(e:Int)))%31,(L.getD ((r+3*i)%8) noDk).2)):=by
 have l8:=h.l8
 refine⟨by rw [List.length_set]; exact l8,fun j hj=>?_⟩
 rw [set_at _ _ _ (by omega),lostN_succ]
 by_cases c:(r+3*i)%8=j
 ·rw [if_pos c, beq_iff_eq.2 c, Bool.or_true, if_pos rfl, c, h.at_ j hj]
  split <;> rfl
 ·rw [if_neg c,beq_eq_false_iff_ne.2 c,Bool.or_false]; exact h.at_ j hj
theorem bad_l {kind:Int} (hk:kind=1∨kind=2) {D:List Dk'} (h8:D.length=8) (hD:∀ j,j<8→0≤(D.getD j noDk).1∧(D.getD j noDk).1≤30) (more:List Int) (hm:more.length≤1048576) (d:Nat):∀ (i n:Nat) (L:List Dk'),i+d=mostN kind→d<n→Bad D more.length (more.length%30) i L→
  ∃ L',Bad D more.length (more.length%30) (mostN kind) L'∧∀ (β:Type) (kx:List Dk'→List Dk'→Int→Option β) (kr:Option β),laws_FnRotFew.l11 sl1 n kx kr D L more kind (i:Int)=kx D L' kind:=by
 have hm4:mostN kind≤4:=by unfold mostN; split <;> omega
 induction d with
 | zero =>
  intro i n L hi hn' h
  obtain⟨n,rfl⟩:∃ m,n=m+1:=⟨n-1,by omega⟩
  obtain rfl:i=mostN kind:=by omega
  refine⟨L,h,fun β kx kr=>?_⟩
  rw [laws_FnRotFew.t11]
  unfold laws_FnRotFew.b11
  exact(most_G hk _).trans (cF (ltF (Int.le_refl _)) rfl)
 | succ d ih =>
  intro i n L hi hn' h
  obtain⟨n,rfl⟩:∃ m,n=m+1:=⟨n-1,by omega⟩
  obtain⟨L',h',e⟩:=ih (i+1) n _ (by omega) (by omega) h.succ
  have l8:=h.l8
  refine⟨L',h',fun β kx kr=>?_⟩
  have ew:Int.tmod (sl1.w ((more.length:Int)+sl1.w ((3:Int)*(i:Int)))) 8=(((more.length+3*i)%8:Nat):Int):=by
   rw [wE (a:=(3:Int)*(i:Int)) (by omega) (by omega),wE (by omega) (by omega),Int.tmod_eq_emod_of_nonneg (by omega)]; omega
  have e30:Int.tmod (more.length:Int) 30=((more.length%30:Nat):Int):=by rw [Int.tmod_eq_emod_of_nonneg (by omega)]; omega
  have hv:=hD ((more.length+3*i)%8) (by omega)
  have hq:(more.length+3*i)%8<8:=by omega
  have hr:more.length%30<30:=by omega
  have e:=e β kx kr
  rw [laws_FnRotFew.t11]
  unfold laws_FnRotFew.b11
  rw [ew,e30,w_succ (by omega)]
  generalize (more.length+3*i)%8=q at *
  generalize more.length%30=s at *
  rw [Int.toNat_natCast,wE (a:=(1:Int)+(s:Int)) (by omega) (by omega)]
  refine(most_G hk _).trans (cT (ltT (by omega)) (cT (irT (by omega) (by omega)) ?_))
  unfold impl_FieldSum.G
  refine(impl_field _ _).trans ?_
  rw [inV_iff.2 (show 0≤(List.getD D q (0,(0,(0,())))).1∧(List.getD D q (0,(0,(0,())))).1≤30 from hv)]
  refine cF rfl ((impl_field _ _).trans ?_)
  rw [inV_iff.2 ⟨by omega,by omega⟩]
  refine cF rfl ((plus_G (El.wide (show El (List.getD D q (0,(0,(0,())))).1 from hv)) (by omega) _).trans ?_)
  exact cT (irT (by omega) (by omega)) e
theorem bad_read {kind:Int} {data:List Int} {v:Int} (hn:newOk kind data v=true) {r e:Nat} (he:e<30) {L:List Dk'} (h:Bad (disksV (allV kind data) (List.replicate 8 v) (List.replicate 8 true) 8) r e (mostN kind) L) {A B:List Int} {C:List Bool} (hF:Few kind data v r (mostN kind) A B C):
  rdV kind L=(A,B,C,kind,true):=by
 obtain⟨hk,hd,hv⟩:=newOk_iff.1 hn
 have cs:=all_stripe hn
 obtain⟨_,hf,h1,h2,h3,ho⟩:=stripe_iff.1 cs
 have at_:∀ j,j<8→goodV (L.getD j noDk) (j:Int)=(!lostN r (mostN kind) j)∧(lostN r (mostN kind) j=false→(L.getD j noDk).1=(allV kind data).getD j 0∧(L.getD j noDk).2.1=v):=fun j hj=>by
  have e1:=h.at_ j hj
  rw [disksV_at _ _ _ hj] at e1
  have t:=rep8 true false hj
  have d1:(diskV (allV kind data) (List.replicate 8 v) (List.replicate 8 true) j).1=(allV kind data).getD j 0:=by unfold diskV; rw [t]; rfl
  have d2:(diskV (allV kind data) (List.replicate 8 v) (List.replicate 8 true) j).2.1=v:=by unfold diskV; rw [t]; exact rep8 v 0 hj
  rw [e1]
  cases cl:lostN r (mostN kind) j
  ·rw [if_neg Bool.false_ne_true]
   exact⟨by rw [good_disk cs hj,t]; rfl,fun _=>⟨d1,d2⟩⟩
  ·rw [if_pos rfl]
   refine⟨?_,fun q=>by cases q⟩
   have hvj:=getD_in hf (i:=j) (by omega)
   rw [d1]
   exact(disk_bad cs hj t (v':=((allV kind data).getD j 0+(1+(e:Int)))%31) (by omega) (by omega)).1
 have eA:rowN (rdA L) 8=A:=rowN_eq 0 hF.l1 fun j hj=>by
  obtain⟨g1,g2⟩:=at_ j hj
  unfold rdA
  rw [g1,(hF.at_ j hj).1]
  cases cl:lostN r (mostN kind) j
  ·rw [if_neg Bool.false_ne_true]; exact(g2 cl).1
  ·rw [if_pos rfl]; rfl
 have eB:rowN (rdB L) 8=B:=rowN_eq 0 hF.l2 fun j hj=>by
  obtain⟨g1,g2⟩:=at_ j hj
  unfold rdB
  rw [g1,(hF.at_ j hj).2.1]
  cases cl:lostN r (mostN kind) j
  ·rw [if_neg Bool.false_ne_true]; exact(g2 cl).2
  ·rw [if_pos rfl]; rfl
 have eC:rowN (rdC L) 8=C:=rowN_eq false hF.l3 fun j hj=>by
  unfold rdC
  rw [(at_ j hj).1,(hF.at_ j hj).2.2]
 unfold rdV
 rw [eA,eB,eC,hF.ok,h.l8,inV_iff.2 (show 1≤kind∧kind≤2 by omega)]; rfl
theorem Few.back {kind:Int} {data:List Int} {v:Int} (hn:newOk kind data v=true) {r:Nat} {A B:List Int} {C:List Bool} (hF:Few kind data v r (mostN kind) A B C) {A' B':List Int} {C':List Bool} (h:RotTo kind v data B C 8 A' B' C'):
  A'=allV kind data∧B'=List.replicate 8 v∧C'=List.replicate 8 true:=by
 obtain⟨hk,hd,hv⟩:=newOk_iff.1 hn
 obtain⟨_,hf,h1,h2,h3,ho⟩:=stripe_iff.1 h.ok
 have eB:∀ j,j<8→B'.getD j 0=v:=fun j hj=>by
  cases ct:C.getD j false
  ·exact(h.done j hj).2 ct
  ·rw [h.kept j hj ct, (hF.at_ j hj).2.1]
   rw [(hF.at_ j hj).2.2] at ct
   rw [if_neg (by intro q; rw [q] at ct; cases ct)]
 refine⟨ext8 0 h1 (allV_len _ _) fun j hj=>?_,ext8 0 h2 (by simp) fun j hj=>?_,ext8 false h3 (by simp) fun j hj=>?_⟩
 ·rw [allV_at hk (vec_V4 hd) hj]
  exact h.told.2 j (ofL_mem'.2 ⟨hj,(h.done j hj).1,eB j hj⟩)
 ·rw [rep8 _ _ hj]; exact eB j hj
 ·rw [rep8 _ _ hj]; exact(h.done j hj).1
end Go.Proofs.YtnbighmbgmjbkaaGreat.E
namespace Go.Proofs.YtnbighmbgmjbkaaGreat.Pure.FnRotFew
open Go Go.Proofs.YtnbighmbgmjbkaaGreat.E
theorem pure {β:Type} (l m:List Int) (hl:∀ x∈l,0≤x∧x≤255) (_:∀ x∈m,0≤x∧x≤255) (K:Bool→Option β):laws_FnRotFew.G sl1 l m K=K true:=by
 obtain⟨kind,data,v,d4,hd⟩:=drawNew hl
 unfold laws_FnRotFew.G
 by_cases h:1048576<(l.length:Int)
 ·exact cT (ltT h) rfl
 refine cF (ltF (by omega)) ?_
 by_cases h':1048576<(m.length:Int)
 ·exact cT (ltT h') rfl
 refine cF (ltF (by omega)) ((hd _ _).trans ((newS_G kind v (by omega) _).trans ?_))
 cases ok:newOk kind data v
 ·have same := fun {γ : Type} (K : Bool → Option γ) => lkStripe_same (β := γ) 0 (vals := []) (vers := []) (there := []) (by simp) (by simp) (by simp) K
  refine cF rfl ((newI_G kind v (by omega) _).trans ?_)
  rw [ok]
  exact cF rfl (cF rfl ((same _).trans (cF rfl (cT rfl (cT rfl (same _))))))
 ·have la := allV_len kind data
  have same:=fun {γ:Type} (K:Bool→Option γ)=>lkStripe_same (β:=γ) kind (vals:=allV kind data) (vers:=List.replicate 8 v) (there:=List.replicate 8 true) (by omega) (by simp) (by simp) K
  refine cT rfl ((newI_G kind v (by omega) _).trans ?_)
  rw [ok]
  have cs:=all_stripe ok
  obtain⟨hk,hdv,_⟩:=newOk_iff.1 ok
  obtain⟨_,hf,h1,h2,h3,_⟩:=stripe_iff.1 cs
  have ew:wrV kind (allV kind data) (List.replicate 8 v) (List.replicate 8 true)=disksV (allV kind data) (List.replicate 8 v) (List.replicate 8 true) 8:=by unfold wrV; rw [cs]; rfl
  have hlen:=disksV_len (allV kind data) (List.replicate 8 v) (List.replicate 8 true) 8
  obtain⟨L,hL,e⟩:=bad_l hk hlen (fun j hj=>by
   rw [disksV_at _ _ _ hj]
   unfold diskV
   rw [rep8 true false hj]
   exact getD_in hf (i:=j) (by omega)) m (by omega) (mostN kind) 0 sl1.n _ (by omega) (by rw [rounds_n]; unfold mostN; split <;> omega) (Bad.zero hlen m.length (m.length%30))
  obtain⟨A,B,C,hF⟩:=few_is ok m.length (mostN kind)
  obtain⟨r1,r2⟩:=hF.read ok
  have er:=bad_read ok (by omega) hL hF
  have l8:=hL.l8
  obtain⟨A',B',C',hR,_,ei⟩:=rotM_some (l:=L) (by omega) hF.ok er r1 r2
  obtain⟨rfl,rfl,rfl⟩:=hF.back ok hR
  rw [hF.miss hk] at ei
  refine cT rfl (cF rfl ((same _).trans (cF rfl (cF rfl ((implWr_G kind _ _ _ _).trans ?_)))))
  rw [ew,List.nil_append]
  refine cT (fwT (by omega)) ((e _ _ _).trans ((ei _ _).trans (cT rfl ((lkDisks_same (by omega) _).trans (cT rfl ((most_G hk _).trans ?_))))))
  exact congrArg K (eqT rfl)
end Go.Proofs.YtnbighmbgmjbkaaGreat.Pure.FnRotFew
end
section
namespace Go.Proofs.YtnbighmbgmjbkaaGreat.fnRotFew
open Go.ChangeShapes Go.WideShapes Go.ChangeAt Go.RowKit
open Go.ChangeMaps (open_string shut_string)
theorem own:ownKnob Tryz.prog.godebug=none:=by kernel_rfl
theorem laidOut:laidOutB Tryz.prog=true:=by kernel_rfl
set_option maxRecDepth 100000 in
theorem lifted (os:Os) (started:os.Started) (H:Type) (enc:TypeId×Value→H):
  ReturnsInHanded {} Tryz.checked os 19 .any (Rows.fnRotFewSpec.pre6 enc Tryz.prog Tryz.f19 Rows.fnRotFewRow.domain false) (Rows.fnRotFewSpec.post enc Tryz.prog Tryz.f19 false true false false):=by
 refine returnsInHanded_of_change_sized (C:=Tryz.checked) own started (by kernel_rfl) Tryz.func19
  (ChangeSpec.witness6 (enc:=enc) (C:=Tryz.checked) false ⟨#[],#[.slice none 0 0,.slice none 0 0],[]⟩ 8 (by kernel_rfl) (by kernel_rfl) (by kernel_rfl) (by kernel_rfl)) ?_
 intro W base args ds gs before hval0 hW hcnd hsz0 _
 have hval:∀ (j:Nat) t v,Tryz.f19.params[j]? = some t→args[j]? = some v→Value.okWide Tryz.prog W .any base t v:=hval0
 have hW':=hW
 obtain⟨p,q,hA0,hV,rfl,hfz,hnd⟩:=hW
 have hA:DataW.TrodAll enc Tryz.prog W 0 (fun _=>true) true Tryz.f19.params.toList args.toList ds p:=hA0
 rw [Tryz.params19] at hA hval
 obtain⟨v0,vs0,d0,ds0,p0,q0,hargs0,rfl,rfl,h0,r0⟩:=trodAll_cons hA
 obtain⟨v1,vs1,d1,ds1,p1,q1,hargs1,rfl,rfl,h1,r1⟩:=trodAll_cons r0
 obtain⟨rfl,rfl,rfl⟩:=trodAll_nil r1
 obtain rfl:args = #[v0,v1]:=by cases args; simp_all
 obtain⟨rfl,rfl⟩:=trodVars_none hV
 obtain⟨a0,len0,cap0,rfl⟩:=okWide_slice Tryz.underlying22 (hval 0 22 v0 rfl rfl)
 obtain⟨a1,len1,cap1,rfl⟩:=okWide_slice Tryz.underlying22 (hval 1 22 v1 rfl rfl)
 have k0:=h0
 have lt0:∀ x∈p0,x.block<W.heap.size:=by obtain⟨m,hm⟩:=k0; exact DataW.trod_lt m _ _ _ hm
 obtain⟨z0,w0,b0⟩:∃ zs,E.IsRowK .u8 W a0 len0 cap0 zs∧(∀ x∈zs,(Lit.int .u8 x).wf=true):=by
  obtain⟨fuel,hf⟩:=h0
  rcases open_ints Tryz.underlying22 Tryz.underlying5 (by kernel_rfl) hf with ⟨hcs,_⟩ | ⟨x,l,c,zs,hcs,_,hl,hm,hz,_,hcell,hwz⟩
  ·simp [Value.cells] at hcs
   obtain⟨rfl,rfl,rfl⟩:=hcs
   exact⟨[],.inl ⟨rfl,rfl,rfl,rfl⟩,by simp⟩
  ·simp [Value.cells] at hcs
   obtain⟨rfl,rfl,rfl⟩:=hcs
   exact⟨zs,.inr ⟨_,rfl,hl,by simpa using hz,hcell⟩,hwz⟩
 have k1:=h1
 have lt1:∀ x∈p1,x.block<W.heap.size:=by obtain⟨m,hm⟩:=k1; exact DataW.trod_lt m _ _ _ hm
 obtain⟨z1,w1,b1⟩:∃ zs,E.IsRowK .u8 W a1 len1 cap1 zs∧(∀ x∈zs,(Lit.int .u8 x).wf=true):=by
  obtain⟨fuel,hf⟩:=h1
  rcases open_ints Tryz.underlying22 Tryz.underlying5 (by kernel_rfl) hf with ⟨hcs,_⟩ | ⟨x,l,c,zs,hcs,_,hl,hm,hz,_,hcell,hwz⟩
  ·simp [Value.cells] at hcs
   obtain⟨rfl,rfl,rfl⟩:=hcs
   exact⟨[],.inl ⟨rfl,rfl,rfl,rfl⟩,by simp⟩
  ·simp [Value.cells] at hcs
   obtain⟨rfl,rfl,rfl⟩:=hcs
   exact⟨zs,.inr ⟨_,rfl,hl,by simpa using hz,hcell⟩,hwz⟩
 clear hA0 hval0 hsz0
 have hp:=Pure.FnRotFew.pure (z0.take len0) (z1.take len1) (fun x hx=>E.byte_wf (b0 x (List.mem_of_mem_take hx))) (fun x hx=>E.byte_wf (b1 x (List.mem_of_mem_take hx))) (fun b=>some ((),(b,())))
 rw [←E.sl_eq] at hp
 refine(E.law_bytes2 E.laws_FnRotFew.ok w0 w1 hp).mono fun e W' ⟨he,bel⟩=>?_
 subst he
 exact⟨_,rfl,_,_,_,[],_,[],hW',trodAll_mk1 (shut_bool Tryz.underlying4 _),(trodAll_cons_mk (Below.trod laidOut (by kernel_rfl) (of_decide_eq_true (by kernel_rfl)) k0 bel lt0) (trodAll_cons_mk (Below.trod laidOut (by kernel_rfl) (of_decide_eq_true (by kernel_rfl)) k1 bel lt1) trodAll_mk0)),rfl,bel.frame _,fun h=>by cases h⟩
theorem closed:joinedFacts Tryz.prog 19 Tryz.f19 Rows.fnRotFewSpec Rows.fnRotFewRow=true:=by
 unfold joinedFacts
 rw [Head.make,Head.final,Head.enter]
 kernel_rfl
theorem over:Rows.fnRotFewRow.holds Tryz.pinned (OpenSpec.ofChange Rows.fnRotFewSpec):=
 OpenClaim.holds_of_wide 19 Tryz.f19 rfl rfl rfl rfl rfl rfl rfl ⟨rfl,rfl,rfl,rfl,rfl⟩ rfl rfl rfl rfl rfl (by kernel_rfl) Tryz.func19 closed
  (of_decide_eq_true (by kernel_rfl)) (by unfold Func.isWrapper; first | (rw [if_pos (by decide +kernel)]; kernel_rfl) | (rw [if_neg (by decide +kernel)]; exact⟨rfl,rfl⟩))
  (fun os started H enc _=>lifted os started H enc)
theorem proved:Rows.FnRotFewSaid:=over
#print axioms proved
end Go.Proofs.YtnbighmbgmjbkaaGreat.fnRotFew
end
