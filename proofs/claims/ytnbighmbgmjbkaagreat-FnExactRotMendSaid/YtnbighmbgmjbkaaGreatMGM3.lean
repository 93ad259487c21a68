/- What the functions of several statements compute, step by step. No condition. -/
import Derived.Test.YtnbighmbgmjbkaaGreatMGM2
set_option linter.unusedVariables false
set_option linter.unusedSimpArgs false
section
namespace Go.Proofs.YtnbighmbgmjbkaaGreat.E
open Go Go.RowKit
set_option maxRecDepth 100000
namespace impl_Stripe_versions
def sin:Sig:=⟨[],[.agg [.val I false,.val (.sl I) false,.val (.sl I) false,.val (.sl .bool) false]]⟩
def sout:Sig:=⟨[.buf I false],[.one (.ref (.own 0))]⟩
def h3:SS:=⟨[1,3,9,10,11],⟨[.box [.val I false,.val (.sl I) false,.val (.sl I) false,.val (.sl .bool) false],.buf I false,.buf I false],[.one (.ref (.ptr 0)),.one (.ref (.own 1)),.one (.ref (.own 2)),.one (.val I false),.one (.val I false)]⟩⟩
def x3:SS:=⟨[3],⟨[.buf I false],[.one (.ref (.own 0))]⟩⟩
def y3:SS:=⟨[],⟨[],[]⟩⟩
noncomputable def b3 {β:Type}(S:Sl)(L:Int→(List Int)→(List Int)→(List Bool)→(List Int)→(List Int)→Int→Int→Option β)(kx:(List Int)→Option β)(kr:Option β)(s0:Int)(s1:(List Int))(s2:(List Int))(s3:(List Bool))(s4:(List Int))(s5:(List Int))(s6:Int)(s7:Int):Option β:=bif(S.lt s7 s6)then(bif(S.ir s7 s5.length)then(bif(S.ir (List.getD s5 (Int.toNat s7) 0) s2.length)then(bif(S.fw (s4 ++ [(List.getD s2 (Int.toNat (List.getD s5 (Int.toNat s7) 0)) 0)]).length)then(L s0 s1 s2 s3 (s4 ++ [(List.getD s2 (Int.toNat (List.getD s5 (Int.toNat s7) 0)) 0)]) s5 s6 (S.w (s7+1)))else(none))else(none))else(none))else(kx s4)
noncomputable def r3 {β:Type}(S:Sl)(n:Nat)(kx:x3.sig.den→Option β)(kr:y3.sig.den→Option β)(s:h3.sig.den):Option β:=rounds (fun L kx kr s=>b3 S (fun x0 x1 x2 x3 x4 x5 x6 x7=>L (((x0,(x1,(x2,(x3,())))),(x4,(x5,()))),(x6,(x7,())))) (fun x0=>kx ((x0,()),())) (kr ((),())) s.1.1.1 s.1.1.2.1 s.1.1.2.2.1 s.1.1.2.2.2.1 s.1.2.1 s.1.2.2.1 s.2.1 s.2.2.1) kx kr n s
noncomputable def l3 {β:Type}(S:Sl)(n:Nat)(kx:(List Int)→Option β)(kr:Option β)(s0:Int)(s1:(List Int))(s2:(List Int))(s3:(List Bool))(s4:(List Int))(s5:(List Int))(s6:Int)(s7:Int):Option β:=r3 S n (fun s=>kx s.1.1) (fun s=>kr) (((s0,(s1,(s2,(s3,())))),(s4,(s5,()))),(s6,(s7,())))
theorem t3 {β:Type}(S:Sl)(n:Nat)(kx:(List Int)→Option β)(kr:Option β)(s0:Int)(s1:(List Int))(s2:(List Int))(s3:(List Bool))(s4:(List Int))(s5:(List Int))(s6:Int)(s7:Int):l3 S (n+1) kx kr s0 s1 s2 s3 s4 s5 s6 s7=b3 S (l3 S n kx kr) kx kr s0 s1 s2 s3 s4 s5 s6 s7:=by kernel_rfl
noncomputable def G {β:Type}(S:Sl)(a0:Int)(a1:(List Int))(a2:(List Int))(a3:(List Bool))(K:(List Int)→Option β):Option β:=impl_flagged.G S a3 (fun y1=>l3 S S.n (fun y2=>slices_Sort_Sint_int_.G S y2 (fun y3=>slices_Reverse_Sint_int_.G S y3 (fun y4=>slices_Compact_Sint_int.G S y4 (fun y5=>K y5)))) none a0 a1 a2 a3 [] y1 (y1.length:Int) 0)
noncomputable def o:Orac:=⟨126,sin,sout,fun s K=>G sl0 s.2.1.1 s.2.1.2.1 s.2.1.2.2.1 s.2.1.2.2.2.1 (fun x0=>K ((x0,()),()))⟩
noncomputable def C:Ctx:=⟨tyT,[impl_flagged.o,slices_Compact_Sint_int.o,slices_Reverse_Sint_int_.o,slices_Sort_Sint_int_.o],[⟨3,0,h3,x3,y3,fun s kx kr=>r3 sl0 sl0.n kx kr s⟩],30,0⟩
theorem ctx:CtxOk Tryz.prog C:=⟨tyOk,all1 impl_flagged.ok (all1 slices_Compact_Sint_int.ok (all1 slices_Reverse_Sint_int_.ok (all1 slices_Sort_Sint_int_.ok (all0))))⟩
theorem e3 (β:Type)(L:h3.sig.den→Option β)(kx:x3.sig.den→Option β)(kr:y3.sig.den→Option β)(s:h3.sig.den):evalBody C (nthC (loopsOf (bodyC Tryz.f126)) 0) 0 h3 x3 y3 L kx kr s=b3 sl0 (fun x0 x1 x2 x3 x4 x5 x6 x7=>L (((x0,(x1,(x2,(x3,())))),(x4,(x5,()))),(x6,(x7,())))) (fun x0=>kx ((x0,()),())) (kr ((),())) s.1.1.1 s.1.1.2.1 s.1.1.2.2.1 s.1.1.2.2.2.1 s.1.2.1 s.1.2.2.1 s.2.1 s.2.2.1:=by kernel_rfl
theorem g3:LS Tryz.prog C ⟨3,0,h3,x3,y3,fun s kx kr=>r3 sl0 sl0.n kx kr s⟩ (loopsOf (bodyC Tryz.f126)):=LS.at (i:=0) (by kernel_rfl) (loop_good mixed ctx (ctx_nat ctx) (N:=sl0.n) (fun _ _ _ _=>rfl) e3 (all1 (LS.none (by kernel_rfl)) (all0)))
theorem eG (β:Type)(s:sin.den)(K:sout.den→Option β):evalFn C Tryz.f126 sin sout s K=o.F s K:=by kernel_rfl
theorem ok:OracOk Tryz.prog o:=fn_ok mixed Tryz.func126 (by kernel_rfl) ctx (c:=bodyC Tryz.f126) (by kernel_rfl) (all1 g3 (all0)) (by kernel_rfl) (by kernel_rfl) (by kernel_rfl) (Nat.le_of_ble_eq_true (by kernel_rfl)) eG (by kernel_rfl) (Nat.le_of_ble_eq_true (by kernel_rfl))
end impl_Stripe_versions
namespace impl_versOk
def sin:Sig:=⟨[],[.one (.val I false)]⟩
def sout:Sig:=⟨[],[.one (.val .bool false)]⟩
noncomputable def G {β:Type}(S:Sl)(a0:Int)(K:Bool→Option β):Option β:=impl_within.G S a0 1 99 (fun y1=>K y1)
noncomputable def o:Orac:=⟨127,sin,sout,fun s K=>G sl0 s.2.1 (fun x0=>K ((),(x0,())))⟩
noncomputable def C:Ctx:=⟨tyT,[impl_within.o],[],5,0⟩
theorem ctx:CtxOk Tryz.prog C:=⟨tyOk,all1 impl_within.ok (all0)⟩
theorem eG (β:Type)(s:sin.den)(K:sout.den→Option β):evalFn C Tryz.f127 sin sout s K=o.F s K:=by kernel_rfl
theorem ok:OracOk Tryz.prog o:=fn_ok mixed Tryz.func127 (by kernel_rfl) ctx (c:=bodyC Tryz.f127) (by kernel_rfl) (all0) (by kernel_rfl) (by kernel_rfl) (by kernel_rfl) (Nat.le_of_ble_eq_true (by kernel_rfl)) eG (by kernel_rfl) (Nat.le_of_ble_eq_true (by kernel_rfl))
end impl_versOk
namespace impl_Stripe_of_1
def sin:Sig:=⟨[.box [.val I false,.val (.sl I) false,.val (.sl I) false,.val (.sl .bool) false],.box [.val I false]],[.one (.val I false),.one (.ref (.ptr 0)),.one (.ref (.ptr 1))]⟩
def sout:Sig:=⟨[.box [.val I false,.val (.sl I) false,.val (.sl I) false,.val (.sl .bool) false],.box [.val I false]],[.one (.val .bool false)]⟩
noncomputable def G {β:Type}(S:Sl)(a0:Int)(a1:(List Int))(a2:(List Int))(a3:(List Bool))(a4:Int)(a5:Int)(K:Int→(List Int)→(List Int)→(List Bool)→Int→Bool→Option β):Option β:=bif(S.ir a5 a2.length)then(K a0 a1 a2 a3 a4 (!S.eq (List.getD a2 (Int.toNat a5) 0) a4))else(none)
noncomputable def o:Orac:=⟨185,sin,sout,fun s K=>G sl0 s.1.1.1 s.1.1.2.1 s.1.1.2.2.1 s.1.1.2.2.2.1 s.1.2.1.1 s.2.1 (fun x0 x1 x2 x3 x4 x5=>K (((x0,(x1,(x2,(x3,())))),((x4,()),())),(x5,())))⟩
noncomputable def C:Ctx:=⟨tyT,[],[],12,2⟩
theorem ctx:CtxOk Tryz.prog C:=⟨tyOk,all0⟩
theorem eG (β:Type)(s:sin.den)(K:sout.den→Option β):evalFn C Tryz.f185 sin sout s K=o.F s K:=by kernel_rfl
theorem ok:OracOk Tryz.prog o:=fn_ok mixed Tryz.func185 (by kernel_rfl) ctx (c:=bodyC Tryz.f185) (by kernel_rfl) (all0) (by kernel_rfl) (by kernel_rfl) (by kernel_rfl) (Nat.le_of_ble_eq_true (by kernel_rfl)) eG (by kernel_rfl) (Nat.le_of_ble_eq_true (by kernel_rfl))
end impl_Stripe_of_1
namespace slices_IndexFunc_Sint_int
def sin:Sig:=⟨[.buf I false,.box [.val I false,.val (.sl I) false,.val (.sl I) false,.val (.sl .bool) false],.box [.val I false]],[.one (.ref (.own 0)),.one (.ref (.fn 185 [1,2]))]⟩
def sout:Sig:=⟨[.buf I false,.box [.val I false,.val (.sl I) false,.val (.sl I) false,.val (.sl .bool) false],.box [.val I false]],[.one (.val I false)]⟩
def h2:SS:=⟨[0,1,7,8],⟨[.buf I false,.box [.val I false,.val (.sl I) false,.val (.sl I) false,.val (.sl .bool) false],.box [.val I false]],[.one (.ref (.own 0)),.one (.ref (.fn 185 [1,2])),.one (.val I false),.one (.val I false)]⟩⟩
def x2:SS:=⟨[],⟨[.buf I false,.box [.val I false,.val (.sl I) false,.val (.sl I) false,.val (.sl .bool) false],.box [.val I false]],[]⟩⟩
def y2:SS:=⟨[4],⟨[.buf I false,.box [.val I false,.val (.sl I) false,.val (.sl I) false,.val (.sl .bool) false],.box [.val I false]],[.one (.val I false)]⟩⟩
noncomputable def b2 {β:Type}(S:Sl)(L:(List Int)→Int→(List Int)→(List Int)→(List Bool)→Int→Int→Int→Option β)(kx:(List Int)→Int→(List Int)→(List Int)→(List Bool)→Int→Option β)(kr:(List Int)→Int→(List Int)→(List Int)→(List Bool)→Int→Int→Option β)(s0:(List Int))(s1:Int)(s2:(List Int))(s3:(List Int))(s4:(List Bool))(s5:Int)(s6:Int)(s7:Int):Option β:=bif(S.lt s7 s6)then(bif(S.ir s7 s0.length)then(impl_Stripe_of_1.G S s1 s2 s3 s4 s5 (List.getD s0 (Int.toNat s7) 0) (fun y1 y2 y3 y4 y5 y6=>bif y6 then(kr s0 y1 y2 y3 y4 y5 s7)else(L s0 y1 y2 y3 y4 y5 s6 (S.w (s7+1)))))else(none))else(kx s0 s1 s2 s3 s4 s5)
noncomputable def r2 {β:Type}(S:Sl)(n:Nat)(kx:x2.sig.den→Option β)(kr:y2.sig.den→Option β)(s:h2.sig.den):Option β:=rounds (fun L kx kr s=>b2 S (fun x0 x1 x2 x3 x4 x5 x6 x7=>L ((x0,((x1,(x2,(x3,(x4,())))),((x5,()),()))),(x6,(x7,())))) (fun x0 x1 x2 x3 x4 x5=>kx ((x0,((x1,(x2,(x3,(x4,())))),((x5,()),()))),())) (fun x0 x1 x2 x3 x4 x5 x6=>kr ((x0,((x1,(x2,(x3,(x4,())))),((x5,()),()))),(x6,()))) s.1.1 s.1.2.1.1 s.1.2.1.2.1 s.1.2.1.2.2.1 s.1.2.1.2.2.2.1 s.1.2.2.1.1 s.2.1 s.2.2.1) kx kr n s
noncomputable def l2 {β:Type}(S:Sl)(n:Nat)(kx:(List Int)→Int→(List Int)→(List Int)→(List Bool)→Int→Option β)(kr:(List Int)→Int→(List Int)→(List Int)→(List Bool)→Int→Int→Option β)(s0:(List Int))(s1:Int)(s2:(List Int))(s3:(List Int))(s4:(List Bool))(s5:Int)(s6:Int)(s7:Int):Option β:=r2 S n (fun s=>kx s.1.1 s.1.2.1.1 s.1.2.1.2.1 s.1.2.1.2.2.1 s.1.2.1.2.2.2.1 s.1.2.2.1.1) (fun s=>kr s.1.1 s.1.2.1.1 s.1.2.1.2.1 s.1.2.1.2.2.1 s.1.2.1.2.2.2.1 s.1.2.2.1.1 s.2.1) ((s0,((s1,(s2,(s3,(s4,())))),((s5,()),()))),(s6,(s7,())))
theorem t2 {β:Type}(S:Sl)(n:Nat)(kx:(List Int)→Int→(List Int)→(List Int)→(List Bool)→Int→Option β)(kr:(List Int)→Int→(List Int)→(List Int)→(List Bool)→Int→Int→Option β)(s0:(List Int))(s1:Int)(s2:(List Int))(s3:(List Int))(s4:(List Bool))(s5:Int)(s6:Int)(s7:Int):l2 S (n+1) kx kr s0 s1 s2 s3 s4 s5 s6 s7=b2 S (l2 S n kx kr) kx kr s0 s1 s2 s3 s4 s5 s6 s7:=by kernel_rfl
noncomputable def G {β:Type}(S:Sl)(a0:(List Int))(a1:Int)(a2:(List Int))(a3:(List Int))(a4:(List Bool))(a5:Int)(K:(List Int)→Int→(List Int)→(List Int)→(List Bool)→Int→Int→Option β):Option β:=l2 S S.n (fun y1 y2 y3 y4 y5 y6=>K y1 y2 y3 y4 y5 y6 (-1)) (fun y7 y8 y9 y10 y11 y12 y13=>K y7 y8 y9 y10 y11 y12 y13) a0 a1 a2 a3 a4 a5 (a0.length:Int) 0
noncomputable def o:Orac:=⟨201,sin,sout,fun s K=>G sl0 s.1.1 s.1.2.1.1 s.1.2.1.2.1 s.1.2.1.2.2.1 s.1.2.1.2.2.2.1 s.1.2.2.1.1 (fun x0 x1 x2 x3 x4 x5 x6=>K ((x0,((x1,(x2,(x3,(x4,())))),((x5,()),()))),(x6,())))⟩
noncomputable def C:Ctx:=⟨tyT,[impl_Stripe_of_1.o],[⟨2,0,h2,x2,y2,fun s kx kr=>r2 sl0 sl0.n kx kr s⟩],19,3⟩
theorem ctx:CtxOk Tryz.prog C:=⟨tyOk,all1 impl_Stripe_of_1.ok (all0)⟩
theorem e2 (β:Type)(L:h2.sig.den→Option β)(kx:x2.sig.den→Option β)(kr:y2.sig.den→Option β)(s:h2.sig.den):evalBody C (nthC (loopsOf (bodyC Tryz.f201)) 0) 0 h2 x2 y2 L kx kr s=b2 sl0 (fun x0 x1 x2 x3 x4 x5 x6 x7=>L ((x0,((x1,(x2,(x3,(x4,())))),((x5,()),()))),(x6,(x7,())))) (fun x0 x1 x2 x3 x4 x5=>kx ((x0,((x1,(x2,(x3,(x4,())))),((x5,()),()))),())) (fun x0 x1 x2 x3 x4 x5 x6=>kr ((x0,((x1,(x2,(x3,(x4,())))),((x5,()),()))),(x6,()))) s.1.1 s.1.2.1.1 s.1.2.1.2.1 s.1.2.1.2.2.1 s.1.2.1.2.2.2.1 s.1.2.2.1.1 s.2.1 s.2.2.1:=by kernel_rfl
theorem g2:LS Tryz.prog C ⟨2,0,h2,x2,y2,fun s kx kr=>r2 sl0 sl0.n kx kr s⟩ (loopsOf (bodyC Tryz.f201)):=LS.at (i:=0) (by kernel_rfl) (loop_good mixed ctx (ctx_nat ctx) (N:=sl0.n) (fun _ _ _ _=>rfl) e2 (all1 (LS.none (by kernel_rfl)) (all0)))
theorem eG (β:Type)(s:sin.den)(K:sout.den→Option β):evalFn C Tryz.f201 sin sout s K=o.F s K:=by kernel_rfl
theorem ok:OracOk Tryz.prog o:=fn_ok mixed Tryz.func201 (by kernel_rfl) ctx (c:=bodyC Tryz.f201) (by kernel_rfl) (all1 g2 (all0)) (by kernel_rfl) (by kernel_rfl) (by kernel_rfl) (Nat.le_of_ble_eq_true (by kernel_rfl)) eG (by kernel_rfl) (Nat.le_of_ble_eq_true (by kernel_rfl))
end slices_IndexFunc_Sint_int
namespace slices_DeleteFunc_Sint_int
def sin:Sig:=⟨[.buf I false,.box [.val I false,.val (.sl I) false,.val (.sl I) false,.val (.sl .bool) false],.box [.val I false]],[.one (.ref (.own 0)),.one (.ref (.fn 185 [1,2]))]⟩
def sout:Sig:=⟨[.dead,.box [.val I false,.val (.sl I) false,.val (.sl I) false,.val (.sl .bool) false],.box [.val I false],.buf I false],[.one (.ref (.own 3))]⟩
def h5:SS:=⟨[0,1,5,6],⟨[.buf I false,.box [.val I false,.val (.sl I) false,.val (.sl I) false,.val (.sl .bool) false],.box [.val I false]],[.one (.ref (.own 0)),.one (.ref (.fn 185 [1,2])),.one (.val I false),.one (.val I false)]⟩⟩
def x5:SS:=⟨[0,5],⟨[.buf I false,.box [.val I false,.val (.sl I) false,.val (.sl I) false,.val (.sl .bool) false],.box [.val I false]],[.one (.ref (.own 0)),.one (.val I false)]⟩⟩
def y5:SS:=⟨[],⟨[],[]⟩⟩
noncomputable def b5 {β:Type}(S:Sl)(L:(List Int)→Int→(List Int)→(List Int)→(List Bool)→Int→Int→Int→Option β)(kx:(List Int)→Int→(List Int)→(List Int)→(List Bool)→Int→Int→Option β)(kr:Option β)(s0:(List Int))(s1:Int)(s2:(List Int))(s3:(List Int))(s4:(List Bool))(s5:Int)(s6:Int)(s7:Int):Option β:=bif(S.lt s7 (s0.length:Int))then(bif(S.ir s7 s0.length)then(impl_Stripe_of_1.G S s1 s2 s3 s4 s5 (List.getD s0 (Int.toNat s7) 0) (fun y1 y2 y3 y4 y5 y6=>bif(!y6)then(bif(S.ir s6 s0.length)then(L (List.set s0 (Int.toNat s6) (List.getD s0 (Int.toNat s7) 0)) y1 y2 y3 y4 y5 (S.w (s6+1)) (S.w (s7+1)))else(none))else(L s0 y1 y2 y3 y4 y5 s6 (S.w (s7+1)))))else(none))else(kx s0 s1 s2 s3 s4 s5 s6)
noncomputable def r5 {β:Type}(S:Sl)(n:Nat)(kx:x5.sig.den→Option β)(kr:y5.sig.den→Option β)(s:h5.sig.den):Option β:=rounds (fun L kx kr s=>b5 S (fun x0 x1 x2 x3 x4 x5 x6 x7=>L ((x0,((x1,(x2,(x3,(x4,())))),((x5,()),()))),(x6,(x7,())))) (fun x0 x1 x2 x3 x4 x5 x6=>kx ((x0,((x1,(x2,(x3,(x4,())))),((x5,()),()))),(x6,()))) (kr ((),())) s.1.1 s.1.2.1.1 s.1.2.1.2.1 s.1.2.1.2.2.1 s.1.2.1.2.2.2.1 s.1.2.2.1.1 s.2.1 s.2.2.1) kx kr n s
noncomputable def l5 {β:Type}(S:Sl)(n:Nat)(kx:(List Int)→Int→(List Int)→(List Int)→(List Bool)→Int→Int→Option β)(kr:Option β)(s0:(List Int))(s1:Int)(s2:(List Int))(s3:(List Int))(s4:(List Bool))(s5:Int)(s6:Int)(s7:Int):Option β:=r5 S n (fun s=>kx s.1.1 s.1.2.1.1 s.1.2.1.2.1 s.1.2.1.2.2.1 s.1.2.1.2.2.2.1 s.1.2.2.1.1 s.2.1) (fun s=>kr) ((s0,((s1,(s2,(s3,(s4,())))),((s5,()),()))),(s6,(s7,())))
theorem t5 {β:Type}(S:Sl)(n:Nat)(kx:(List Int)→Int→(List Int)→(List Int)→(List Bool)→Int→Int→Option β)(kr:Option β)(s0:(List Int))(s1:Int)(s2:(List Int))(s3:(List Int))(s4:(List Bool))(s5:Int)(s6:Int)(s7:Int):l5 S (n+1) kx kr s0 s1 s2 s3 s4 s5 s6 s7=b5 S (l5 S n kx kr) kx kr s0 s1 s2 s3 s4 s5 s6 s7:=by kernel_rfl
noncomputable def G {β:Type}(S:Sl)(a0:(List Int))(a1:Int)(a2:(List Int))(a3:(List Int))(a4:(List Bool))(a5:Int)(K:Int→(List Int)→(List Int)→(List Bool)→Int→(List Int)→Option β):Option β:=slices_IndexFunc_Sint_int.G S a0 a1 a2 a3 a4 a5 (fun y1 y2 y3 y4 y5 y6 y7=>bif(S.eq y7 (-1))then(K y2 y3 y4 y5 y6 y1)else(l5 S S.n (fun y8 y9 y10 y11 y12 y13 y14=>bif((S.le 0 y14)&&(S.le y14 (y8.length:Int))&&(S.le (y8.length:Int) (y8.length:Int))&&(S.le (y8.length:Int) (y8.length:Int)))then(bif((S.le 0 y14)&&(S.le y14 ((clr 0 y8 (Int.toNat y14) (Int.toNat (y8.length:Int))).length:Int))&&(S.le ((clr 0 y8 (Int.toNat y14) (Int.toNat (y8.length:Int))).length:Int) ((clr 0 y8 (Int.toNat y14) (Int.toNat (y8.length:Int))).length:Int)))then(K y9 y10 y11 y12 y13 (List.take (Int.toNat y14) (clr 0 y8 (Int.toNat y14) (Int.toNat (y8.length:Int)))))else(none))else(none)) none y1 y2 y3 y4 y5 y6 y7 (S.w (y7+1))))
noncomputable def o:Orac:=⟨184,sin,sout,fun s K=>G sl0 s.1.1 s.1.2.1.1 s.1.2.1.2.1 s.1.2.1.2.2.1 s.1.2.1.2.2.2.1 s.1.2.2.1.1 (fun x0 x1 x2 x3 x4 x5=>K (((x0,(x1,(x2,(x3,())))),((x4,()),(x5,()))),()))⟩
noncomputable def C:Ctx:=⟨tyT,[impl_Stripe_of_1.o,slices_IndexFunc_Sint_int.o],[⟨5,0,h5,x5,y5,fun s kx kr=>r5 sl0 sl0.n kx kr s⟩],42,3⟩
theorem ctx:CtxOk Tryz.prog C:=⟨tyOk,all1 impl_Stripe_of_1.ok (all1 slices_IndexFunc_Sint_int.ok (all0))⟩
theorem e5 (β:Type)(L:h5.sig.den→Option β)(kx:x5.sig.den→Option β)(kr:y5.sig.den→Option β)(s:h5.sig.den):evalBody C (nthC (loopsOf (bodyC Tryz.f184)) 0) 0 h5 x5 y5 L kx kr s=b5 sl0 (fun x0 x1 x2 x3 x4 x5 x6 x7=>L ((x0,((x1,(x2,(x3,(x4,())))),((x5,()),()))),(x6,(x7,())))) (fun x0 x1 x2 x3 x4 x5 x6=>kx ((x0,((x1,(x2,(x3,(x4,())))),((x5,()),()))),(x6,()))) (kr ((),())) s.1.1 s.1.2.1.1 s.1.2.1.2.1 s.1.2.1.2.2.1 s.1.2.1.2.2.2.1 s.1.2.2.1.1 s.2.1 s.2.2.1:=by kernel_rfl
theorem g5:LS Tryz.prog C ⟨5,0,h5,x5,y5,fun s kx kr=>r5 sl0 sl0.n kx kr s⟩ (loopsOf (bodyC Tryz.f184)):=LS.at (i:=0) (by kernel_rfl) (loop_good mixed ctx (ctx_nat ctx) (N:=sl0.n) (fun _ _ _ _=>rfl) e5 (all1 (LS.none (by kernel_rfl)) (all0)))
theorem eG (β:Type)(s:sin.den)(K:sout.den→Option β):evalFn C Tryz.f184 sin sout s K=o.F s K:=by kernel_rfl
theorem ok:OracOk Tryz.prog o:=fn_ok mixed Tryz.func184 (by kernel_rfl) ctx (c:=bodyC Tryz.f184) (by kernel_rfl) (all1 g5 (all0)) (by kernel_rfl) (by kernel_rfl) (by kernel_rfl) (Nat.le_of_ble_eq_true (by kernel_rfl)) eG (by kernel_rfl) (Nat.le_of_ble_eq_true (by kernel_rfl))
end slices_DeleteFunc_Sint_int
namespace impl_Stripe_of
def sin:Sig:=⟨[],[.agg [.val I false,.val (.sl I) false,.val (.sl I) false,.val (.sl .bool) false],.one (.val I false)]⟩
def sout:Sig:=⟨[.buf I false],[.one (.ref (.own 0))]⟩
noncomputable def G {β:Type}(S:Sl)(a0:Int)(a1:(List Int))(a2:(List Int))(a3:(List Bool))(a4:Int)(K:(List Int)→Option β):Option β:=impl_flagged.G S a3 (fun y1=>slices_DeleteFunc_Sint_int.G S y1 a0 a1 a2 a3 a4 (fun y2 y3 y4 y5 y6 y7=>K y7))
noncomputable def o:Orac:=⟨106,sin,sout,fun s K=>G sl0 s.2.1.1 s.2.1.2.1 s.2.1.2.2.1 s.2.1.2.2.2.1 s.2.2.1 (fun x0=>K ((x0,()),()))⟩
noncomputable def C:Ctx:=⟨tyT,[impl_flagged.o,slices_DeleteFunc_Sint_int.o],[],10,0⟩
theorem ctx:CtxOk Tryz.prog C:=⟨tyOk,all1 impl_flagged.ok (all1 slices_DeleteFunc_Sint_int.ok (all0))⟩
theorem eG (β:Type)(s:sin.den)(K:sout.den→Option β):evalFn C Tryz.f106 sin sout s K=o.F s K:=by kernel_rfl
theorem ok:OracOk Tryz.prog o:=fn_ok mixed Tryz.func106 (by kernel_rfl) ctx (c:=bodyC Tryz.f106) (by kernel_rfl) (all0) (by kernel_rfl) (by kernel_rfl) (by kernel_rfl) (Nat.le_of_ble_eq_true (by kernel_rfl)) eG (by kernel_rfl) (Nat.le_of_ble_eq_true (by kernel_rfl))
end impl_Stripe_of
namespace impl_element_minus
def sin:Sig:=⟨[],[.one (.val I false),.one (.val I false)]⟩
def sout:Sig:=⟨[],[.one (.val I false)]⟩
noncomputable def G {β:Type}(S:Sl)(a0:Int)(a1:Int)(K:Int→Option β):Option β:=impl_elementOf.G S (S.w (a0-a1)) (fun y1=>K y1)
noncomputable def o:Orac:=⟨228,sin,sout,fun s K=>G sl0 s.2.1 s.2.2.1 (fun x0=>K ((),(x0,())))⟩
noncomputable def C:Ctx:=⟨tyT,[impl_elementOf.o],[],9,0⟩
theorem ctx:CtxOk Tryz.prog C:=⟨tyOk,all1 impl_elementOf.ok (all0)⟩
theorem eG (β:Type)(s:sin.den)(K:sout.den→Option β):evalFn C Tryz.f228 sin sout s K=o.F s K:=by kernel_rfl
theorem ok:OracOk Tryz.prog o:=fn_ok mixed Tryz.func228 (by kernel_rfl) ctx (c:=bodyC Tryz.f228) (by kernel_rfl) (all0) (by kernel_rfl) (by kernel_rfl) (by kernel_rfl) (Nat.le_of_ble_eq_true (by kernel_rfl)) eG (by kernel_rfl) (Nat.le_of_ble_eq_true (by kernel_rfl))
end impl_element_minus
namespace impl_rowsOf
def sin:Sig:=⟨[],[.one (.val I false),.one (.val (.sl I) false)]⟩
def sout:Sig:=⟨[.buf (.arr 4 I) false],[.one (.ref (.own 0))]⟩
def h3:SS:=⟨[0,5,11,12,13],⟨[.buf (.arr 4 I) false],[.one (.val I false),.one (.ref (.own 0)),.one (.val (.sl I) false),.one (.val I false),.one (.val I false)]⟩⟩
def x3:SS:=⟨[5],⟨[.buf (.arr 4 I) false],[.one (.ref (.own 0))]⟩⟩
def y3:SS:=⟨[],⟨[],[]⟩⟩
noncomputable def b3 {β:Type}(S:Sl)(L:(List (List Int))→Int→(List Int)→Int→Int→Option β)(kx:(List (List Int))→Option β)(kr:Option β)(s0:(List (List Int)))(s1:Int)(s2:(List Int))(s3:Int)(s4:Int):Option β:=bif(S.lt s4 s3)then(bif(S.ir s4 s2.length)then(impl_rowOf.G S s1 (List.getD s2 (Int.toNat s4) 0) (fun y1=>bif(S.fw (s0 ++ [y1]).length)then(L (s0 ++ [y1]) s1 s2 s3 (S.w (s4+1)))else(none)))else(none))else(kx s0)
noncomputable def r3 {β:Type}(S:Sl)(n:Nat)(kx:x3.sig.den→Option β)(kr:y3.sig.den→Option β)(s:h3.sig.den):Option β:=rounds (fun L kx kr s=>b3 S (fun x0 x1 x2 x3 x4=>L ((x0,()),(x1,(x2,(x3,(x4,())))))) (fun x0=>kx ((x0,()),())) (kr ((),())) s.1.1 s.2.1 s.2.2.1 s.2.2.2.1 s.2.2.2.2.1) kx kr n s
noncomputable def l3 {β:Type}(S:Sl)(n:Nat)(kx:(List (List Int))→Option β)(kr:Option β)(s0:(List (List Int)))(s1:Int)(s2:(List Int))(s3:Int)(s4:Int):Option β:=r3 S n (fun s=>kx s.1.1) (fun s=>kr) ((s0,()),(s1,(s2,(s3,(s4,())))))
theorem t3 {β:Type}(S:Sl)(n:Nat)(kx:(List (List Int))→Option β)(kr:Option β)(s0:(List (List Int)))(s1:Int)(s2:(List Int))(s3:Int)(s4:Int):l3 S (n+1) kx kr s0 s1 s2 s3 s4=b3 S (l3 S n kx kr) kx kr s0 s1 s2 s3 s4:=by kernel_rfl
noncomputable def G {β:Type}(S:Sl)(a0:Int)(a1:(List Int))(K:(List (List Int))→Option β):Option β:=bif((S.le 0 0)&&(S.le 0 (a1.length:Int))&&S.fw (Int.toNat (a1.length:Int)))then(l3 S S.n (fun y1=>K y1) none (List.replicate (Int.toNat 0) ((List.replicate 4 0):(List Int))) a0 a1 (a1.length:Int) 0)else(none)
noncomputable def o:Orac:=⟨179,sin,sout,fun s K=>G sl0 s.2.1 s.2.2.1 (fun x0=>K ((x0,()),()))⟩
noncomputable def C:Ctx:=⟨tyT,[impl_rowOf.o],[⟨3,0,h3,x3,y3,fun s kx kr=>r3 sl0 sl0.n kx kr s⟩],25,0⟩
theorem ctx:CtxOk Tryz.prog C:=⟨tyOk,all1 impl_rowOf.ok (all0)⟩
theorem e3 (β:Type)(L:h3.sig.den→Option β)(kx:x3.sig.den→Option β)(kr:y3.sig.den→Option β)(s:h3.sig.den):evalBody C (nthC (loopsOf (bodyC Tryz.f179)) 0) 0 h3 x3 y3 L kx kr s=b3 sl0 (fun x0 x1 x2 x3 x4=>L ((x0,()),(x1,(x2,(x3,(x4,())))))) (fun x0=>kx ((x0,()),())) (kr ((),())) s.1.1 s.2.1 s.2.2.1 s.2.2.2.1 s.2.2.2.2.1:=by kernel_rfl
theorem g3:LS Tryz.prog C ⟨3,0,h3,x3,y3,fun s kx kr=>r3 sl0 sl0.n kx kr s⟩ (loopsOf (bodyC Tryz.f179)):=LS.at (i:=0) (by kernel_rfl) (loop_good mixed ctx (ctx_nat ctx) (N:=sl0.n) (fun _ _ _ _=>rfl) e3 (all1 (LS.none (by kernel_rfl)) (all0)))
theorem eG (β:Type)(s:sin.den)(K:sout.den→Option β):evalFn C Tryz.f179 sin sout s K=o.F s K:=by kernel_rfl
theorem ok:OracOk Tryz.prog o:=fn_ok mixed Tryz.func179 (by kernel_rfl) ctx (c:=bodyC Tryz.f179) (by kernel_rfl) (all1 g3 (all0)) (by kernel_rfl) (by kernel_rfl) (by kernel_rfl) (Nat.le_of_ble_eq_true (by kernel_rfl)) eG (by kernel_rfl) (Nat.le_of_ble_eq_true (by kernel_rfl))
end impl_rowsOf
namespace impl_element_inverse
def sin:Sig:=⟨[],[.one (.val I false)]⟩
def sout:Sig:=⟨[],[.one (.val I false)]⟩
def h3:SS:=⟨[3,4,5,6],⟨[],[.one (.val I false),.one (.val I false),.one (.val I false),.one (.val I false)]⟩⟩
def x3:SS:=⟨[5],⟨[],[.one (.val I false)]⟩⟩
def y3:SS:=⟨[],⟨[],[]⟩⟩
noncomputable def b3 {β:Type}(S:Sl)(L:Int→Int→Int→Int→Option β)(kx:Int→Option β)(kr:Option β)(s0:Int)(s1:Int)(s2:Int)(s3:Int):Option β:=bif(!S.eq s1 0)then(bif(!(s1==0))then(L s1 (S.w (s0-(S.w ((S.w (Int.tdiv s0 s1))*s1)))) s3 (S.w (s2-(S.w ((S.w (Int.tdiv s0 s1))*s3)))))else(none))else(kx s2)
noncomputable def r3 {β:Type}(S:Sl)(n:Nat)(kx:x3.sig.den→Option β)(kr:y3.sig.den→Option β)(s:h3.sig.den):Option β:=rounds (fun L kx kr s=>b3 S (fun x0 x1 x2 x3=>L ((),(x0,(x1,(x2,(x3,())))))) (fun x0=>kx ((),(x0,()))) (kr ((),())) s.2.1 s.2.2.1 s.2.2.2.1 s.2.2.2.2.1) kx kr n s
noncomputable def l3 {β:Type}(S:Sl)(n:Nat)(kx:Int→Option β)(kr:Option β)(s0:Int)(s1:Int)(s2:Int)(s3:Int):Option β:=r3 S n (fun s=>kx s.2.1) (fun s=>kr) ((),(s0,(s1,(s2,(s3,())))))
theorem t3 {β:Type}(S:Sl)(n:Nat)(kx:Int→Option β)(kr:Option β)(s0:Int)(s1:Int)(s2:Int)(s3:Int):l3 S (n+1) kx kr s0 s1 s2 s3=b3 S (l3 S n kx kr) kx kr s0 s1 s2 s3:=by kernel_rfl
noncomputable def G {β:Type}(S:Sl)(a0:Int)(K:Int→Option β):Option β:=l3 S S.n (fun y1=>impl_elementOf.G S y1 (fun y2=>K y2)) none 31 a0 0 1
noncomputable def o:Orac:=⟨235,sin,sout,fun s K=>G sl0 s.2.1 (fun x0=>K ((),(x0,())))⟩
noncomputable def C:Ctx:=⟨tyT,[impl_elementOf.o],[⟨3,0,h3,x3,y3,fun s kx kr=>r3 sl0 sl0.n kx kr s⟩],28,0⟩
theorem ctx:CtxOk Tryz.prog C:=⟨tyOk,all1 impl_elementOf.ok (all0)⟩
theorem e3 (β:Type)(L:h3.sig.den→Option β)(kx:x3.sig.den→Option β)(kr:y3.sig.den→Option β)(s:h3.sig.den):evalBody C (nthC (loopsOf (bodyC Tryz.f235)) 0) 0 h3 x3 y3 L kx kr s=b3 sl0 (fun x0 x1 x2 x3=>L ((),(x0,(x1,(x2,(x3,())))))) (fun x0=>kx ((),(x0,()))) (kr ((),())) s.2.1 s.2.2.1 s.2.2.2.1 s.2.2.2.2.1:=by kernel_rfl
theorem g3:LS Tryz.prog C ⟨3,0,h3,x3,y3,fun s kx kr=>r3 sl0 sl0.n kx kr s⟩ (loopsOf (bodyC Tryz.f235)):=LS.at (i:=0) (by kernel_rfl) (loop_good mixed ctx (ctx_nat ctx) (N:=sl0.n) (fun _ _ _ _=>rfl) e3 (all1 (LS.none (by kernel_rfl)) (all0)))
theorem eG (β:Type)(s:sin.den)(K:sout.den→Option β):evalFn C Tryz.f235 sin sout s K=o.F s K:=by kernel_rfl
theorem ok:OracOk Tryz.prog o:=fn_ok mixed Tryz.func235 (by kernel_rfl) ctx (c:=bodyC Tryz.f235) (by kernel_rfl) (all1 g3 (all0)) (by kernel_rfl) (by kernel_rfl) (by kernel_rfl) (Nat.le_of_ble_eq_true (by kernel_rfl)) eG (by kernel_rfl) (Nat.le_of_ble_eq_true (by kernel_rfl))
end impl_element_inverse
namespace impl_vector_lead_1
def sin:Sig:=⟨[],[.one (.val I false)]⟩
def sout:Sig:=⟨[],[.one (.val .bool false)]⟩
noncomputable def G {β:Type}(S:Sl)(a0:Int)(K:Bool→Option β):Option β:=K (!S.eq a0 0)
noncomputable def o:Orac:=⟨253,sin,sout,fun s K=>G sl0 s.2.1 (fun x0=>K ((),(x0,())))⟩
noncomputable def C:Ctx:=⟨tyT,[],[],5,0⟩
theorem ctx:CtxOk Tryz.prog C:=⟨tyOk,all0⟩
theorem eG (β:Type)(s:sin.den)(K:sout.den→Option β):evalFn C Tryz.f253 sin sout s K=o.F s K:=by kernel_rfl
theorem ok:OracOk Tryz.prog o:=fn_ok mixed Tryz.func253 (by kernel_rfl) ctx (c:=bodyC Tryz.f253) (by kernel_rfl) (all0) (by kernel_rfl) (by kernel_rfl) (by kernel_rfl) (Nat.le_of_ble_eq_true (by kernel_rfl)) eG (by kernel_rfl) (Nat.le_of_ble_eq_true (by kernel_rfl))
end impl_vector_lead_1
namespace slices_IndexFunc_Simpl_element_impl_element
def sin:Sig:=⟨[],[.one (.val (.sl I) false),.one (.ref (.fn 253 []))]⟩
def sout:Sig:=⟨[],[.one (.val I false)]⟩
def h2:SS:=⟨[0,1,7,8],⟨[],[.one (.val (.sl I) false),.one (.ref (.fn 253 [])),.one (.val I false),.one (.val I false)]⟩⟩
def x2:SS:=⟨[],⟨[],[]⟩⟩
def y2:SS:=⟨[4],⟨[],[.one (.val I false)]⟩⟩
noncomputable def b2 {β:Type}(S:Sl)(L:(List Int)→Int→Int→Option β)(kx:Option β)(kr:Int→Option β)(s0:(List Int))(s1:Int)(s2:Int):Option β:=bif(S.lt s2 s1)then(bif(S.ir s2 s0.length)then(impl_vector_lead_1.G S (List.getD s0 (Int.toNat s2) 0) (fun y1=>bif y1 then(kr s2)else(L s0 s1 (S.w (s2+1)))))else(none))else(kx)
noncomputable def r2 {β:Type}(S:Sl)(n:Nat)(kx:x2.sig.den→Option β)(kr:y2.sig.den→Option β)(s:h2.sig.den):Option β:=rounds (fun L kx kr s=>b2 S (fun x0 x1 x2=>L ((),(x0,(x1,(x2,()))))) (kx ((),())) (fun x0=>kr ((),(x0,()))) s.2.1 s.2.2.1 s.2.2.2.1) kx kr n s
noncomputable def l2 {β:Type}(S:Sl)(n:Nat)(kx:Option β)(kr:Int→Option β)(s0:(List Int))(s1:Int)(s2:Int):Option β:=r2 S n (fun s=>kx) (fun s=>kr s.2.1) ((),(s0,(s1,(s2,()))))
theorem t2 {β:Type}(S:Sl)(n:Nat)(kx:Option β)(kr:Int→Option β)(s0:(List Int))(s1:Int)(s2:Int):l2 S (n+1) kx kr s0 s1 s2=b2 S (l2 S n kx kr) kx kr s0 s1 s2:=by kernel_rfl
noncomputable def G {β:Type}(S:Sl)(a0:(List Int))(K:Int→Option β):Option β:=l2 S S.n (K (-1)) (fun y1=>K y1) a0 (a0.length:Int) 0
noncomputable def o:Orac:=⟨252,sin,sout,fun s K=>G sl0 s.2.1 (fun x0=>K ((),(x0,())))⟩
noncomputable def C:Ctx:=⟨tyT,[impl_vector_lead_1.o],[⟨2,0,h2,x2,y2,fun s kx kr=>r2 sl0 sl0.n kx kr s⟩],19,0⟩
theorem ctx:CtxOk Tryz.prog C:=⟨tyOk,all1 impl_vector_lead_1.ok (all0)⟩
theorem e2 (β:Type)(L:h2.sig.den→Option β)(kx:x2.sig.den→Option β)(kr:y2.sig.den→Option β)(s:h2.sig.den):evalBody C (nthC (loopsOf (bodyC Tryz.f252)) 0) 0 h2 x2 y2 L kx kr s=b2 sl0 (fun x0 x1 x2=>L ((),(x0,(x1,(x2,()))))) (kx ((),())) (fun x0=>kr ((),(x0,()))) s.2.1 s.2.2.1 s.2.2.2.1:=by kernel_rfl
theorem g2:LS Tryz.prog C ⟨2,0,h2,x2,y2,fun s kx kr=>r2 sl0 sl0.n kx kr s⟩ (loopsOf (bodyC Tryz.f252)):=LS.at (i:=0) (by kernel_rfl) (loop_good mixed ctx (ctx_nat ctx) (N:=sl0.n) (fun _ _ _ _=>rfl) e2 (all1 (LS.none (by kernel_rfl)) (all0)))
theorem eG (β:Type)(s:sin.den)(K:sout.den→Option β):evalFn C Tryz.f252 sin sout s K=o.F s K:=by kernel_rfl
theorem ok:OracOk Tryz.prog o:=fn_ok mixed Tryz.func252 (by kernel_rfl) ctx (c:=bodyC Tryz.f252) (by kernel_rfl) (all1 g2 (all0)) (by kernel_rfl) (by kernel_rfl) (by kernel_rfl) (Nat.le_of_ble_eq_true (by kernel_rfl)) eG (by kernel_rfl) (Nat.le_of_ble_eq_true (by kernel_rfl))
end slices_IndexFunc_Simpl_element_impl_element
namespace impl_vector_lead
def sin:Sig:=⟨[],[.one (.val (.arr 4 I) false)]⟩
def sout:Sig:=⟨[],[.one (.val I false)]⟩
noncomputable def G {β:Type}(S:Sl)(a0:(List Int))(K:Int→Option β):Option β:=slices_IndexFunc_Simpl_element_impl_element.G S a0 (fun y1=>K y1)
noncomputable def o:Orac:=⟨226,sin,sout,fun s K=>G sl0 s.2.1 (fun x0=>K ((),(x0,())))⟩
noncomputable def C:Ctx:=⟨tyT,[slices_IndexFunc_Simpl_element_impl_element.o],[],5,0⟩
theorem ctx:CtxOk Tryz.prog C:=⟨tyOk,all1 slices_IndexFunc_Simpl_element_impl_element.ok (all0)⟩
theorem eG (β:Type)(s:sin.den)(K:sout.den→Option β):evalFn C Tryz.f226 sin sout s K=o.F s K:=by kernel_rfl
theorem ok:OracOk Tryz.prog o:=fn_ok mixed Tryz.func226 (by kernel_rfl) ctx (c:=bodyC Tryz.f226) (by kernel_rfl) (all0) (by kernel_rfl) (by kernel_rfl) (by kernel_rfl) (Nat.le_of_ble_eq_true (by kernel_rfl)) eG (by kernel_rfl) (Nat.le_of_ble_eq_true (by kernel_rfl))
end impl_vector_lead
namespace impl_vector_times
def sin:Sig:=⟨[],[.one (.val (.arr 4 I) false),.one (.val I false)]⟩
def sout:Sig:=⟨[],[.agg [.val (.arr 4 I) false]]⟩
def h2:SS:=⟨[1,2,4,6],⟨[.box [.val (.arr 4 I) false],.box [.val (.arr 4 I) false]],[.one (.val I false),.one (.ref (.ptr 0)),.one (.ref (.ptr 1)),.one (.val I false)]⟩⟩
def x2:SS:=⟨[2,4],⟨[.box [.val (.arr 4 I) false],.box [.val (.arr 4 I) false]],[.one (.ref (.ptr 0)),.one (.ref (.ptr 1))]⟩⟩
def y2:SS:=⟨[],⟨[],[]⟩⟩
noncomputable def b2 {β:Type}(S:Sl)(L:(List Int)→(List Int)→Int→Int→Option β)(kx:(List Int)→(List Int)→Option β)(kr:Option β)(s0:(List Int))(s1:(List Int))(s2:Int)(s3:Int):Option β:=bif(S.lt s3 4)then(bif(S.ir s3 4)then(impl_element_times.G S (List.getD s0 (Int.toNat s3) 0) s2 (fun y1=>bif(S.ir s3 4)then(L (List.set s0 (Int.toNat s3) y1) s1 s2 (S.w (s3+1)))else(none)))else(none))else(kx s0 s1)
noncomputable def r2 {β:Type}(S:Sl)(n:Nat)(kx:x2.sig.den→Option β)(kr:y2.sig.den→Option β)(s:h2.sig.den):Option β:=rounds (fun L kx kr s=>b2 S (fun x0 x1 x2 x3=>L (((x0,()),((x1,()),())),(x2,(x3,())))) (fun x0 x1=>kx (((x0,()),((x1,()),())),())) (kr ((),())) s.1.1.1 s.1.2.1.1 s.2.1 s.2.2.1) kx kr n s
noncomputable def l2 {β:Type}(S:Sl)(n:Nat)(kx:(List Int)→(List Int)→Option β)(kr:Option β)(s0:(List Int))(s1:(List Int))(s2:Int)(s3:Int):Option β:=r2 S n (fun s=>kx s.1.1.1 s.1.2.1.1) (fun s=>kr) (((s0,()),((s1,()),())),(s2,(s3,())))
theorem t2 {β:Type}(S:Sl)(n:Nat)(kx:(List Int)→(List Int)→Option β)(kr:Option β)(s0:(List Int))(s1:(List Int))(s2:Int)(s3:Int):l2 S (n+1) kx kr s0 s1 s2 s3=b2 S (l2 S n kx kr) kx kr s0 s1 s2 s3:=by kernel_rfl
noncomputable def G {β:Type}(S:Sl)(a0:(List Int))(a1:Int)(K:(List Int)→Option β):Option β:=l2 S S.n (fun y1 y2=>K y1) none a0 (List.replicate 4 0) a1 0
noncomputable def o:Orac:=⟨183,sin,sout,fun s K=>G sl0 s.2.1 s.2.2.1 (fun x0=>K ((),((x0,()),())))⟩
noncomputable def C:Ctx:=⟨tyT,[impl_element_times.o],[⟨2,0,h2,x2,y2,fun s kx kr=>r2 sl0 sl0.n kx kr s⟩],18,0⟩
theorem ctx:CtxOk Tryz.prog C:=⟨tyOk,all1 impl_element_times.ok (all0)⟩
theorem e2 (β:Type)(L:h2.sig.den→Option β)(kx:x2.sig.den→Option β)(kr:y2.sig.den→Option β)(s:h2.sig.den):evalBody C (nthC (loopsOf (bodyC Tryz.f183)) 0) 0 h2 x2 y2 L kx kr s=b2 sl0 (fun x0 x1 x2 x3=>L (((x0,()),((x1,()),())),(x2,(x3,())))) (fun x0 x1=>kx (((x0,()),((x1,()),())),())) (kr ((),())) s.1.1.1 s.1.2.1.1 s.2.1 s.2.2.1:=by kernel_rfl
theorem g2:LS Tryz.prog C ⟨2,0,h2,x2,y2,fun s kx kr=>r2 sl0 sl0.n kx kr s⟩ (loopsOf (bodyC Tryz.f183)):=LS.at (i:=0) (by kernel_rfl) (loop_good mixed ctx (ctx_nat ctx) (N:=sl0.n) (fun _ _ _ _=>rfl) e2 (all1 (LS.none (by kernel_rfl)) (all0)))
theorem eG (β:Type)(s:sin.den)(K:sout.den→Option β):evalFn C Tryz.f183 sin sout s K=o.F s K:=by kernel_rfl
theorem ok:OracOk Tryz.prog o:=fn_ok mixed Tryz.func183 (by kernel_rfl) ctx (c:=bodyC Tryz.f183) (by kernel_rfl) (all1 g2 (all0)) (by kernel_rfl) (by kernel_rfl) (by kernel_rfl) (Nat.le_of_ble_eq_true (by kernel_rfl)) eG (by kernel_rfl) (Nat.le_of_ble_eq_true (by kernel_rfl))
end impl_vector_times
namespace impl_vector_minus
def sin:Sig:=⟨[],[.one (.val (.arr 4 I) false),.one (.val (.arr 4 I) false)]⟩
def sout:Sig:=⟨[],[.agg [.val (.arr 4 I) false]]⟩
noncomputable def G {β:Type}(S:Sl)(a0:(List Int))(a1:(List Int))(K:(List Int)→Option β):Option β:=impl_elementOf.G S (-1) (fun y1=>impl_vector_times.G S a1 y1 (fun y2=>impl_vector_plus.G S a0 y2 (fun y3=>K y3)))
noncomputable def o:Orac:=⟨227,sin,sout,fun s K=>G sl0 s.2.1 s.2.2.1 (fun x0=>K ((),((x0,()),())))⟩
noncomputable def C:Ctx:=⟨tyT,[impl_elementOf.o,impl_vector_plus.o,impl_vector_times.o],[],10,0⟩
theorem ctx:CtxOk Tryz.prog C:=⟨tyOk,all1 impl_elementOf.ok (all1 impl_vector_plus.ok (all1 impl_vector_times.ok (all0)))⟩
theorem eG (β:Type)(s:sin.den)(K:sout.den→Option β):evalFn C Tryz.f227 sin sout s K=o.F s K:=by kernel_rfl
theorem ok:OracOk Tryz.prog o:=fn_ok mixed Tryz.func227 (by kernel_rfl) ctx (c:=bodyC Tryz.f227) (by kernel_rfl) (all0) (by kernel_rfl) (by kernel_rfl) (by kernel_rfl) (Nat.le_of_ble_eq_true (by kernel_rfl)) eG (by kernel_rfl) (Nat.le_of_ble_eq_true (by kernel_rfl))
end impl_vector_minus
namespace impl_span_less__
def sin:Sig:=⟨[.box [.ref (.own 1),.ref (.own 2)],.buf (.pair (.arr 4 I) (.pair (.arr 8 I) .unit)) false,.buf I false],[.one (.ref (.ptr 0)),.agg [.val (.arr 4 I) false,.val (.arr 8 I) false]]⟩
def sout:Sig:=⟨[.box [.ref (.own 1),.ref (.own 2)],.buf (.pair (.arr 4 I) (.pair (.arr 8 I) .unit)) false,.buf I false],[.agg [.val (.arr 4 I) false,.val (.arr 8 I) false]]⟩
def h7:SS:=⟨[3,4,6,7,12,13,14,32],⟨[.box [.ref (.own 1),.ref (.own 2)],.buf (.pair (.arr 4 I) (.pair (.arr 8 I) .unit)) false,.buf I false,.box [.val (.arr 4 I) false,.val (.arr 8 I) false],.box [.val (.arr 4 I) false,.val (.arr 8 I) false],.box [.val (.arr 4 I) false,.val (.arr 8 I) false]],[.one (.ref (.ptr 3)),.one (.ref (.ptr 4)),.one (.ref (.ptr 5)),.one (.val I false),.one (.ref (.own 1)),.one (.val I false),.one (.val I false),.one (.val I false)]⟩⟩
def x7:SS:=⟨[3,4,12,13,14],⟨[.box [.ref (.own 1),.ref (.own 2)],.buf (.pair (.arr 4 I) (.pair (.arr 8 I) .unit)) false,.buf I false,.box [.val (.arr 4 I) false,.val (.arr 8 I) false],.box [.val (.arr 4 I) false,.val (.arr 8 I) false]],[.one (.ref (.ptr 3)),.one (.ref (.ptr 4)),.one (.ref (.own 1)),.one (.val I false),.one (.val I false)]⟩⟩
def y7:SS:=⟨[],⟨[],[]⟩⟩
noncomputable def b7 {β:Type}(S:Sl)(L:(List ((List Int)×((List Int)×Unit)))→(List Int)→(List Int)→(List Int)→(List Int)→(List Int)→(List Int)→(List Int)→Int→Int→Int→Int→Option β)(kx:(List ((List Int)×((List Int)×Unit)))→(List Int)→(List Int)→(List Int)→(List Int)→(List Int)→Int→Int→Option β)(kr:Option β)(s0:(List ((List Int)×((List Int)×Unit))))(s1:(List Int))(s2:(List Int))(s3:(List Int))(s4:(List Int))(s5:(List Int))(s6:(List Int))(s7:(List Int))(s8:Int)(s9:Int)(s10:Int)(s11:Int):Option β:=bif(S.lt s11 8)then(bif(S.ir s11 8)then(bif(S.ir s11 8)then(impl_element_times.G S (List.getD s7 (Int.toNat s11) 0) s8 (fun y1=>impl_element_minus.G S (List.getD s3 (Int.toNat s11) 0) y1 (fun y2=>bif(S.ir s11 8)then(L s0 s1 s2 (List.set s3 (Int.toNat s11) y2) s4 s5 s6 s7 s8 s9 s10 (S.w (s11+1)))else(none))))else(none))else(none))else(kx s0 s1 s2 s3 s4 s5 s9 s10)
noncomputable def r7 {β:Type}(S:Sl)(n:Nat)(kx:x7.sig.den→Option β)(kr:y7.sig.den→Option β)(s:h7.sig.den):Option β:=rounds (fun L kx kr s=>b7 S (fun x0 x1 x2 x3 x4 x5 x6 x7 x8 x9 x10 x11=>L (((),(x0,(x1,((x2,(x3,())),((x4,(x5,())),((x6,(x7,())),())))))),(x8,(x9,(x10,(x11,())))))) (fun x0 x1 x2 x3 x4 x5 x6 x7=>kx (((),(x0,(x1,((x2,(x3,())),((x4,(x5,())),()))))),(x6,(x7,())))) (kr ((),())) s.1.2.1 s.1.2.2.1 s.1.2.2.2.1.1 s.1.2.2.2.1.2.1 s.1.2.2.2.2.1.1 s.1.2.2.2.2.1.2.1 s.1.2.2.2.2.2.1.1 s.1.2.2.2.2.2.1.2.1 s.2.1 s.2.2.1 s.2.2.2.1 s.2.2.2.2.1) kx kr n s
noncomputable def l7 {β:Type}(S:Sl)(n:Nat)(kx:(List ((List Int)×((List Int)×Unit)))→(List Int)→(List Int)→(List Int)→(List Int)→(List Int)→Int→Int→Option β)(kr:Option β)(s0:(List ((List Int)×((List Int)×Unit))))(s1:(List Int))(s2:(List Int))(s3:(List Int))(s4:(List Int))(s5:(List Int))(s6:(List Int))(s7:(List Int))(s8:Int)(s9:Int)(s10:Int)(s11:Int):Option β:=r7 S n (fun s=>kx s.1.2.1 s.1.2.2.1 s.1.2.2.2.1.1 s.1.2.2.2.1.2.1 s.1.2.2.2.2.1.1 s.1.2.2.2.2.1.2.1 s.2.1 s.2.2.1) (fun s=>kr) (((),(s0,(s1,((s2,(s3,())),((s4,(s5,())),((s6,(s7,())),())))))),(s8,(s9,(s10,(s11,())))))
theorem t7 {β:Type}(S:Sl)(n:Nat)(kx:(List ((List Int)×((List Int)×Unit)))→(List Int)→(List Int)→(List Int)→(List Int)→(List Int)→Int→Int→Option β)(kr:Option β)(s0:(List ((List Int)×((List Int)×Unit))))(s1:(List Int))(s2:(List Int))(s3:(List Int))(s4:(List Int))(s5:(List Int))(s6:(List Int))(s7:(List Int))(s8:Int)(s9:Int)(s10:Int)(s11:Int):l7 S (n+1) kx kr s0 s1 s2 s3 s4 s5 s6 s7 s8 s9 s10 s11=b7 S (l7 S n kx kr) kx kr s0 s1 s2 s3 s4 s5 s6 s7 s8 s9 s10 s11:=by kernel_rfl
def h2:SS:=⟨[3,4,12,13,14],⟨[.box [.ref (.own 1),.ref (.own 2)],.buf (.pair (.arr 4 I) (.pair (.arr 8 I) .unit)) false,.buf I false,.box [.val (.arr 4 I) false,.val (.arr 8 I) false],.box [.val (.arr 4 I) false,.val (.arr 8 I) false]],[.one (.ref (.ptr 3)),.one (.ref (.ptr 4)),.one (.ref (.own 1)),.one (.val I false),.one (.val I false)]⟩⟩
def x2:SS:=⟨[3,4],⟨[.box [.ref (.own 1),.ref (.own 2)],.buf (.pair (.arr 4 I) (.pair (.arr 8 I) .unit)) false,.buf I false,.box [.val (.arr 4 I) false,.val (.arr 8 I) false],.box [.val (.arr 4 I) false,.val (.arr 8 I) false]],[.one (.ref (.ptr 3)),.one (.ref (.ptr 4))]⟩⟩
def y2:SS:=⟨[],⟨[],[]⟩⟩
noncomputable def b2 {β:Type}(S:Sl)(L:(List ((List Int)×((List Int)×Unit)))→(List Int)→(List Int)→(List Int)→(List Int)→(List Int)→Int→Int→Option β)(kx:(List ((List Int)×((List Int)×Unit)))→(List Int)→(List Int)→(List Int)→(List Int)→(List Int)→Option β)(kr:Option β)(s0:(List ((List Int)×((List Int)×Unit))))(s1:(List Int))(s2:(List Int))(s3:(List Int))(s4:(List Int))(s5:(List Int))(s6:Int)(s7:Int):Option β:=bif(S.lt s7 s6)then(bif(S.ir s7 s0.length)then(impl_vector_lead.G S ((List.getD s0 (Int.toNat s7) ((List.replicate 4 0),((List.replicate 8 0),()))).1) (fun y1=>bif(S.ir y1 4)then(impl_vector_times.G S ((List.getD s0 (Int.toNat s7) ((List.replicate 4 0),((List.replicate 8 0),()))).1) (List.getD s2 (Int.toNat y1) 0) (fun y2=>impl_vector_minus.G S s2 y2 (fun y3=>l7 S S.n (fun y4 y5 y6 y7 y8 y9 y10 y11=>L y4 y5 y6 y7 y8 y9 y10 (S.w (y11+1))) none s0 s1 y3 s3 s4 s5 ((List.getD s0 (Int.toNat s7) ((List.replicate 4 0),((List.replicate 8 0),()))).1) ((List.getD s0 (Int.toNat s7) ((List.replicate 4 0),((List.replicate 8 0),()))).2.1) (List.getD s2 (Int.toNat y1) 0) s6 s7 0)))else(none)))else(none))else(kx s0 s1 s2 s3 s4 s5)
noncomputable def r2 {β:Type}(S:Sl)(n:Nat)(kx:x2.sig.den→Option β)(kr:y2.sig.den→Option β)(s:h2.sig.den):Option β:=rounds (fun L kx kr s=>b2 S (fun x0 x1 x2 x3 x4 x5 x6 x7=>L (((),(x0,(x1,((x2,(x3,())),((x4,(x5,())),()))))),(x6,(x7,())))) (fun x0 x1 x2 x3 x4 x5=>kx (((),(x0,(x1,((x2,(x3,())),((x4,(x5,())),()))))),())) (kr ((),())) s.1.2.1 s.1.2.2.1 s.1.2.2.2.1.1 s.1.2.2.2.1.2.1 s.1.2.2.2.2.1.1 s.1.2.2.2.2.1.2.1 s.2.1 s.2.2.1) kx kr n s
noncomputable def l2 {β:Type}(S:Sl)(n:Nat)(kx:(List ((List Int)×((List Int)×Unit)))→(List Int)→(List Int)→(List Int)→(List Int)→(List Int)→Option β)(kr:Option β)(s0:(List ((List Int)×((List Int)×Unit))))(s1:(List Int))(s2:(List Int))(s3:(List Int))(s4:(List Int))(s5:(List Int))(s6:Int)(s7:Int):Option β:=r2 S n (fun s=>kx s.1.2.1 s.1.2.2.1 s.1.2.2.2.1.1 s.1.2.2.2.1.2.1 s.1.2.2.2.2.1.1 s.1.2.2.2.2.1.2.1) (fun s=>kr) (((),(s0,(s1,((s2,(s3,())),((s4,(s5,())),()))))),(s6,(s7,())))
theorem t2 {β:Type}(S:Sl)(n:Nat)(kx:(List ((List Int)×((List Int)×Unit)))→(List Int)→(List Int)→(List Int)→(List Int)→(List Int)→Option β)(kr:Option β)(s0:(List ((List Int)×((List Int)×Unit))))(s1:(List Int))(s2:(List Int))(s3:(List Int))(s4:(List Int))(s5:(List Int))(s6:Int)(s7:Int):l2 S (n+1) kx kr s0 s1 s2 s3 s4 s5 s6 s7=b2 S (l2 S n kx kr) kx kr s0 s1 s2 s3 s4 s5 s6 s7:=by kernel_rfl
noncomputable def G {β:Type}(S:Sl)(a0:(List ((List Int)×((List Int)×Unit))))(a1:(List Int))(a2:(List Int))(a3:(List Int))(K:(List ((List Int)×((List Int)×Unit)))→(List Int)→(List Int)→(List Int)→Option β):Option β:=l2 S S.n (fun y1 y2 y3 y4 y5 y6=>K y1 y2 y3 y4) none a0 a1 a2 a3 (List.replicate 4 0) (List.replicate 8 0) (a0.length:Int) 0
noncomputable def o:Orac:=⟨234,sin,sout,fun s K=>G sl0 s.1.2.1 s.1.2.2.1 s.2.1.1 s.2.1.2.1 (fun x0 x1 x2 x3=>K (((),(x0,(x1,()))),((x2,(x3,())),())))⟩
noncomputable def C:Ctx:=⟨tyT,[impl_element_minus.o,impl_element_times.o,impl_vector_lead.o,impl_vector_minus.o,impl_vector_times.o],[⟨2,0,h2,x2,y2,fun s kx kr=>r2 sl0 sl0.n kx kr s⟩,⟨7,2,h7,x7,y7,fun s kx kr=>r7 sl0 sl0.n kx kr s⟩],52,3⟩
theorem ctx:CtxOk Tryz.prog C:=⟨tyOk,all1 impl_element_minus.ok (all1 impl_element_times.ok (all1 impl_vector_lead.ok (all1 impl_vector_minus.ok (all1 impl_vector_times.ok (all0)))))⟩
theorem e7 (β:Type)(L:h7.sig.den→Option β)(kx:x7.sig.den→Option β)(kr:y7.sig.den→Option β)(s:h7.sig.den):evalBody C (nthC (loopsOf (bodyC Tryz.f234)) 1) 2 h7 x7 y7 L kx kr s=b7 sl0 (fun x0 x1 x2 x3 x4 x5 x6 x7 x8 x9 x10 x11=>L (((),(x0,(x1,((x2,(x3,())),((x4,(x5,())),((x6,(x7,())),())))))),(x8,(x9,(x10,(x11,())))))) (fun x0 x1 x2 x3 x4 x5 x6 x7=>kx (((),(x0,(x1,((x2,(x3,())),((x4,(x5,())),()))))),(x6,(x7,())))) (kr ((),())) s.1.2.1 s.1.2.2.1 s.1.2.2.2.1.1 s.1.2.2.2.1.2.1 s.1.2.2.2.2.1.1 s.1.2.2.2.2.1.2.1 s.1.2.2.2.2.2.1.1 s.1.2.2.2.2.2.1.2.1 s.2.1 s.2.2.1 s.2.2.2.1 s.2.2.2.2.1:=by kernel_rfl
theorem g7:LS Tryz.prog C ⟨7,2,h7,x7,y7,fun s kx kr=>r7 sl0 sl0.n kx kr s⟩ (loopsOf (bodyC Tryz.f234)):=LS.at (i:=1) (by kernel_rfl) (loop_good mixed ctx (ctx_nat ctx) (N:=sl0.n) (fun _ _ _ _=>rfl) e7 (all1 (LS.none (by kernel_rfl)) (all1 (LS.none (by kernel_rfl)) (all0))))
theorem e2 (β:Type)(L:h2.sig.den→Option β)(kx:x2.sig.den→Option β)(kr:y2.sig.den→Option β)(s:h2.sig.den):evalBody C (nthC (loopsOf (bodyC Tryz.f234)) 0) 0 h2 x2 y2 L kx kr s=b2 sl0 (fun x0 x1 x2 x3 x4 x5 x6 x7=>L (((),(x0,(x1,((x2,(x3,())),((x4,(x5,())),()))))),(x6,(x7,())))) (fun x0 x1 x2 x3 x4 x5=>kx (((),(x0,(x1,((x2,(x3,())),((x4,(x5,())),()))))),())) (kr ((),())) s.1.2.1 s.1.2.2.1 s.1.2.2.2.1.1 s.1.2.2.2.1.2.1 s.1.2.2.2.2.1.1 s.1.2.2.2.2.1.2.1 s.2.1 s.2.2.1:=by kernel_rfl
theorem g2:LS Tryz.prog C ⟨2,0,h2,x2,y2,fun s kx kr=>r2 sl0 sl0.n kx kr s⟩ (loopsOf (bodyC Tryz.f234)):=LS.at (i:=0) (by kernel_rfl) (loop_good mixed ctx (ctx_nat ctx) (N:=sl0.n) (fun _ _ _ _=>rfl) e2 (all1 (LS.none (by kernel_rfl)) (all1 ((g7).sub (nthC_mem (by kernel_rfl))) (all0))))
theorem eG (β:Type)(s:sin.den)(K:sout.den→Option β):evalFn C Tryz.f234 sin sout s K=o.F s K:=by kernel_rfl
theorem ok:OracOk Tryz.prog o:=fn_ok mixed Tryz.func234 (by kernel_rfl) ctx (c:=bodyC Tryz.f234) (by kernel_rfl) (all1 g2 (all1 g7 (all0))) (by kernel_rfl) (by kernel_rfl) (by kernel_rfl) (Nat.le_of_ble_eq_true (by kernel_rfl)) eG (by kernel_rfl) (Nat.le_of_ble_eq_true (by kernel_rfl))
end impl_span_less__
namespace impl_spanOf
def sin:Sig:=⟨[],[.one (.val (.sl (.arr 4 I)) false)]⟩
def sout:Sig:=⟨[.box [.ref (.own 1),.ref (.own 2)],.buf (.pair (.arr 4 I) (.pair (.arr 8 I) .unit)) false,.buf I false],[.one (.ref (.ptr 0))]⟩
def h13:SS:=⟨[3,4,6,8,12,13,14,42],⟨[.box [.ref (.own 2),.ref (.own 3)],.box [.val (.arr 4 I) false,.val (.arr 8 I) false],.buf (.pair (.arr 4 I) (.pair (.arr 8 I) .unit)) false,.buf I false],[.one (.ref (.ptr 0)),.one (.val I false),.one (.ref (.ptr 1)),.one (.val I false),.one (.val (.sl (.arr 4 I)) false),.one (.val I false),.one (.val I false),.one (.val I false)]⟩⟩
def x13:SS:=⟨[3,4,6,12,13,14],⟨[.box [.ref (.own 2),.ref (.own 3)],.box [.val (.arr 4 I) false,.val (.arr 8 I) false],.buf (.pair (.arr 4 I) (.pair (.arr 8 I) .unit)) false,.buf I false],[.one (.ref (.ptr 0)),.one (.val I false),.one (.ref (.ptr 1)),.one (.val (.sl (.arr 4 I)) false),.one (.val I false),.one (.val I false)]⟩⟩
def y13:SS:=⟨[],⟨[],[]⟩⟩
noncomputable def b13 {β:Type}(S:Sl)(L:(List Int)→(List Int)→(List ((List Int)×((List Int)×Unit)))→(List Int)→Int→Int→(List (List Int))→Int→Int→Int→Option β)(kx:(List Int)→(List Int)→(List ((List Int)×((List Int)×Unit)))→(List Int)→Int→(List (List Int))→Int→Int→Option β)(kr:Option β)(s0:(List Int))(s1:(List Int))(s2:(List ((List Int)×((List Int)×Unit))))(s3:(List Int))(s4:Int)(s5:Int)(s6:(List (List Int)))(s7:Int)(s8:Int)(s9:Int):Option β:=bif(S.lt s9 8)then(bif(S.ir s9 8)then(impl_element_times.G S (List.getD s1 (Int.toNat s9) 0) s5 (fun y1=>bif(S.ir s9 8)then(L s0 (List.set s1 (Int.toNat s9) y1) s2 s3 s4 s5 s6 s7 s8 (S.w (s9+1)))else(none)))else(none))else(kx s0 s1 s2 s3 s4 s6 s7 s8)
noncomputable def r13 {β:Type}(S:Sl)(n:Nat)(kx:x13.sig.den→Option β)(kr:y13.sig.den→Option β)(s:h13.sig.den):Option β:=rounds (fun L kx kr s=>b13 S (fun x0 x1 x2 x3 x4 x5 x6 x7 x8 x9=>L (((),((x0,(x1,())),(x2,(x3,())))),(x4,(x5,(x6,(x7,(x8,(x9,())))))))) (fun x0 x1 x2 x3 x4 x5 x6 x7=>kx (((),((x0,(x1,())),(x2,(x3,())))),(x4,(x5,(x6,(x7,())))))) (kr ((),())) s.1.2.1.1 s.1.2.1.2.1 s.1.2.2.1 s.1.2.2.2.1 s.2.1 s.2.2.1 s.2.2.2.1 s.2.2.2.2.1 s.2.2.2.2.2.1 s.2.2.2.2.2.2.1) kx kr n s
noncomputable def l13 {β:Type}(S:Sl)(n:Nat)(kx:(List Int)→(List Int)→(List ((List Int)×((List Int)×Unit)))→(List Int)→Int→(List (List Int))→Int→Int→Option β)(kr:Option β)(s0:(List Int))(s1:(List Int))(s2:(List ((List Int)×((List Int)×Unit))))(s3:(List Int))(s4:Int)(s5:Int)(s6:(List (List Int)))(s7:Int)(s8:Int)(s9:Int):Option β:=r13 S n (fun s=>kx s.1.2.1.1 s.1.2.1.2.1 s.1.2.2.1 s.1.2.2.2.1 s.2.1 s.2.2.1 s.2.2.2.1 s.2.2.2.2.1) (fun s=>kr) (((),((s0,(s1,())),(s2,(s3,())))),(s4,(s5,(s6,(s7,(s8,(s9,())))))))
theorem t13 {β:Type}(S:Sl)(n:Nat)(kx:(List Int)→(List Int)→(List ((List Int)×((List Int)×Unit)))→(List Int)→Int→(List (List Int))→Int→Int→Option β)(kr:Option β)(s0:(List Int))(s1:(List Int))(s2:(List ((List Int)×((List Int)×Unit))))(s3:(List Int))(s4:Int)(s5:Int)(s6:(List (List Int)))(s7:Int)(s8:Int)(s9:Int):l13 S (n+1) kx kr s0 s1 s2 s3 s4 s5 s6 s7 s8 s9=b13 S (l13 S n kx kr) kx kr s0 s1 s2 s3 s4 s5 s6 s7 s8 s9:=by kernel_rfl
def h3:SS:=⟨[3,12,13,14],⟨[.box [.ref (.own 1),.ref (.own 2)],.buf (.pair (.arr 4 I) (.pair (.arr 8 I) .unit)) false,.buf I false],[.one (.ref (.ptr 0)),.one (.val (.sl (.arr 4 I)) false),.one (.val I false),.one (.val I false)]⟩⟩
def x3:SS:=⟨[3],⟨[.box [.ref (.own 1),.ref (.own 2)],.buf (.pair (.arr 4 I) (.pair (.arr 8 I) .unit)) false,.buf I false],[.one (.ref (.ptr 0))]⟩⟩
def y3:SS:=⟨[],⟨[],[]⟩⟩
noncomputable def b3 {β:Type}(S:Sl)(L:(List ((List Int)×((List Int)×Unit)))→(List Int)→(List (List Int))→Int→Int→Option β)(kx:(List ((List Int)×((List Int)×Unit)))→(List Int)→Option β)(kr:Option β)(s0:(List ((List Int)×((List Int)×Unit))))(s1:(List Int))(s2:(List (List Int)))(s3:Int)(s4:Int):Option β:=bif(S.lt s4 s3)then(bif(S.ir s4 s2.length)then(bif(S.ir s4 8)then(impl_span_less__.G S s0 s1 (List.getD s2 (Int.toNat s4) (List.replicate 4 0)) (List.set (List.replicate 8 0) (Int.toNat s4) 1) (fun y1 y2 y3 y4=>impl_vector_lead.G S y3 (fun y5=>bif(S.lt y5 0)then(L y1 y2 s2 s3 (S.w (s4+1)))else(bif(S.ir y5 4)then(impl_element_inverse.G S (List.getD y3 (Int.toNat y5) 0) (fun y6=>impl_vector_times.G S y3 y6 (fun y7=>l13 S S.n (fun y8 y9 y10 y11 y12 y13 y14 y15=>bif(S.fw (y10 ++ [(y8,(y9,()))]).length)then(bif(S.fw (y11 ++ [y12]).length)then(L (y10 ++ [(y8,(y9,()))]) (y11 ++ [y12]) y13 y14 (S.w (y15+1)))else(none))else(none)) none y7 y4 y1 y2 s4 y6 s2 s3 s4 0)))else(none)))))else(none))else(none))else(kx s0 s1)
noncomputable def r3 {β:Type}(S:Sl)(n:Nat)(kx:x3.sig.den→Option β)(kr:y3.sig.den→Option β)(s:h3.sig.den):Option β:=rounds (fun L kx kr s=>b3 S (fun x0 x1 x2 x3 x4=>L (((),(x0,(x1,()))),(x2,(x3,(x4,()))))) (fun x0 x1=>kx (((),(x0,(x1,()))),())) (kr ((),())) s.1.2.1 s.1.2.2.1 s.2.1 s.2.2.1 s.2.2.2.1) kx kr n s
noncomputable def l3 {β:Type}(S:Sl)(n:Nat)(kx:(List ((List Int)×((List Int)×Unit)))→(List Int)→Option β)(kr:Option β)(s0:(List ((List Int)×((List Int)×Unit))))(s1:(List Int))(s2:(List (List Int)))(s3:Int)(s4:Int):Option β:=r3 S n (fun s=>kx s.1.2.1 s.1.2.2.1) (fun s=>kr) (((),(s0,(s1,()))),(s2,(s3,(s4,()))))
theorem t3 {β:Type}(S:Sl)(n:Nat)(kx:(List ((List Int)×((List Int)×Unit)))→(List Int)→Option β)(kr:Option β)(s0:(List ((List Int)×((List Int)×Unit))))(s1:(List Int))(s2:(List (List Int)))(s3:Int)(s4:Int):l3 S (n+1) kx kr s0 s1 s2 s3 s4=b3 S (l3 S n kx kr) kx kr s0 s1 s2 s3 s4:=by kernel_rfl
noncomputable def G {β:Type}(S:Sl)(a0:(List (List Int)))(K:(List ((List Int)×((List Int)×Unit)))→(List Int)→Option β):Option β:=l3 S S.n (fun y1 y2=>K y1 y2) none [] [] a0 (a0.length:Int) 0
noncomputable def o:Orac:=⟨213,sin,sout,fun s K=>G sl0 s.2.1 (fun x0 x1=>K (((),(x0,(x1,()))),()))⟩
noncomputable def C:Ctx:=⟨tyT,[impl_element_inverse.o,impl_element_times.o,impl_span_less__.o,impl_vector_lead.o,impl_vector_times.o],[⟨3,0,h3,x3,y3,fun s kx kr=>r3 sl0 sl0.n kx kr s⟩,⟨13,2,h13,x13,y13,fun s kx kr=>r13 sl0 sl0.n kx kr s⟩],77,0⟩
theorem ctx:CtxOk Tryz.prog C:=⟨tyOk,all1 impl_element_inverse.ok (all1 impl_element_times.ok (all1 impl_span_less__.ok (all1 impl_vector_lead.ok (all1 impl_vector_times.ok (all0)))))⟩
theorem e13 (β:Type)(L:h13.sig.den→Option β)(kx:x13.sig.den→Option β)(kr:y13.sig.den→Option β)(s:h13.sig.den):evalBody C (nthC (loopsOf (bodyC Tryz.f213)) 1) 2 h13 x13 y13 L kx kr s=b13 sl0 (fun x0 x1 x2 x3 x4 x5 x6 x7 x8 x9=>L (((),((x0,(x1,())),(x2,(x3,())))),(x4,(x5,(x6,(x7,(x8,(x9,())))))))) (fun x0 x1 x2 x3 x4 x5 x6 x7=>kx (((),((x0,(x1,())),(x2,(x3,())))),(x4,(x5,(x6,(x7,())))))) (kr ((),())) s.1.2.1.1 s.1.2.1.2.1 s.1.2.2.1 s.1.2.2.2.1 s.2.1 s.2.2.1 s.2.2.2.1 s.2.2.2.2.1 s.2.2.2.2.2.1 s.2.2.2.2.2.2.1:=by kernel_rfl
theorem g13:LS Tryz.prog C ⟨13,2,h13,x13,y13,fun s kx kr=>r13 sl0 sl0.n kx kr s⟩ (loopsOf (bodyC Tryz.f213)):=LS.at (i:=1) (by kernel_rfl) (loop_good mixed ctx (ctx_nat ctx) (N:=sl0.n) (fun _ _ _ _=>rfl) e13 (all1 (LS.none (by kernel_rfl)) (all1 (LS.none (by kernel_rfl)) (all0))))
theorem e3 (β:Type)(L:h3.sig.den→Option β)(kx:x3.sig.den→Option β)(kr:y3.sig.den→Option β)(s:h3.sig.den):evalBody C (nthC (loopsOf (bodyC Tryz.f213)) 0) 0 h3 x3 y3 L kx kr s=b3 sl0 (fun x0 x1 x2 x3 x4=>L (((),(x0,(x1,()))),(x2,(x3,(x4,()))))) (fun x0 x1=>kx (((),(x0,(x1,()))),())) (kr ((),())) s.1.2.1 s.1.2.2.1 s.2.1 s.2.2.1 s.2.2.2.1:=by kernel_rfl
theorem g3:LS Tryz.prog C ⟨3,0,h3,x3,y3,fun s kx kr=>r3 sl0 sl0.n kx kr s⟩ (loopsOf (bodyC Tryz.f213)):=LS.at (i:=0) (by kernel_rfl) (loop_good mixed ctx (ctx_nat ctx) (N:=sl0.n) (fun _ _ _ _=>rfl) e3 (all1 (LS.none (by kernel_rfl)) (all1 ((g13).sub (nthC_mem (by kernel_rfl))) (all0))))
theorem eG (β:Type)(s:sin.den)(K:sout.den→Option β):evalFn C Tryz.f213 sin sout s K=o.F s K:=by kernel_rfl
theorem ok:OracOk Tryz.prog o:=fn_ok mixed Tryz.func213 (by kernel_rfl) ctx (c:=bodyC Tryz.f213) (by kernel_rfl) (all1 g3 (all1 g13 (all0))) (by kernel_rfl) (by kernel_rfl) (by kernel_rfl) (Nat.le_of_ble_eq_true (by kernel_rfl)) eG (by kernel_rfl) (Nat.le_of_ble_eq_true (by kernel_rfl))
end impl_spanOf
namespace impl_solve
def sin:Sig:=⟨[],[.one (.val I false),.one (.val (.sl I) false),.one (.val (.sl I) false)]⟩
def sout:Sig:=⟨[],[.agg [.val (.arr 4 I) false]]⟩
def h29:SS:=⟨[6,7,128,129,130],⟨[.box [.val (.arr 4 I) false],.box [.val (.arr 4 I) false],.buf (.pair (.arr 4 I) (.pair I .unit)) false],[.one (.ref (.ptr 0)),.one (.ref (.ptr 1)),.one (.ref (.own 2)),.one (.val I false),.one (.val I false)]⟩⟩
def x29:SS:=⟨[6,7],⟨[.box [.val (.arr 4 I) false],.box [.val (.arr 4 I) false]],[.one (.ref (.ptr 0)),.one (.ref (.ptr 1))]⟩⟩
def y29:SS:=⟨[],⟨[],[]⟩⟩
noncomputable def b29 {β:Type}(S:Sl)(L:(List Int)→(List Int)→(List ((List Int)×(Int×Unit)))→Int→Int→Option β)(kx:(List Int)→(List Int)→Option β)(kr:Option β)(s0:(List Int))(s1:(List Int))(s2:(List ((List Int)×(Int×Unit))))(s3:Int)(s4:Int):Option β:=bif(S.lt s4 s3)then(bif(S.ir s4 s2.length)then(impl_vector_lead.G S ((List.getD s2 (Int.toNat s4) ((List.replicate 4 0),(0,()))).1) (fun y1=>bif(S.ir y1 4)then(L s0 (List.set s1 (Int.toNat y1) ((List.getD s2 (Int.toNat s4) ((List.replicate 4 0),(0,()))).2.1)) s2 s3 (S.w (s4+1)))else(none)))else(none))else(kx s0 s1)
noncomputable def r29 {β:Type}(S:Sl)(n:Nat)(kx:x29.sig.den→Option β)(kr:y29.sig.den→Option β)(s:h29.sig.den):Option β:=rounds (fun L kx kr s=>b29 S (fun x0 x1 x2 x3 x4=>L (((x0,()),((x1,()),(x2,()))),(x3,(x4,())))) (fun x0 x1=>kx (((x0,()),((x1,()),())),())) (kr ((),())) s.1.1.1 s.1.2.1.1 s.1.2.2.1 s.2.1 s.2.2.1) kx kr n s
noncomputable def l29 {β:Type}(S:Sl)(n:Nat)(kx:(List Int)→(List Int)→Option β)(kr:Option β)(s0:(List Int))(s1:(List Int))(s2:(List ((List Int)×(Int×Unit))))(s3:Int)(s4:Int):Option β:=r29 S n (fun s=>kx s.1.1.1 s.1.2.1.1) (fun s=>kr) (((s0,()),((s1,()),(s2,()))),(s3,(s4,())))
theorem t29 {β:Type}(S:Sl)(n:Nat)(kx:(List Int)→(List Int)→Option β)(kr:Option β)(s0:(List Int))(s1:(List Int))(s2:(List ((List Int)×(Int×Unit))))(s3:Int)(s4:Int):l29 S (n+1) kx kr s0 s1 s2 s3 s4=b29 S (l29 S n kx kr) kx kr s0 s1 s2 s3 s4:=by kernel_rfl
def h20:SS:=⟨[6,7,9,15,16,63,64,74,75],⟨[.box [.val (.arr 4 I) false],.box [.val (.arr 4 I) false],.buf (.pair (.arr 4 I) (.pair I .unit)) false],[.one (.ref (.ptr 0)),.one (.ref (.ptr 1)),.one (.ref (.own 2)),.one (.val I false),.one (.val I false),.one (.val I false),.one (.val I false),.one (.val I false),.one (.val I false)]⟩⟩
def x20:SS:=⟨[6,7,9,63,64],⟨[.box [.val (.arr 4 I) false],.box [.val (.arr 4 I) false],.buf (.pair (.arr 4 I) (.pair I .unit)) false],[.one (.ref (.ptr 0)),.one (.ref (.ptr 1)),.one (.ref (.own 2)),.one (.val I false),.one (.val I false)]⟩⟩
def y20:SS:=⟨[],⟨[],[]⟩⟩
noncomputable def b20 {β:Type}(S:Sl)(L:(List Int)→(List Int)→(List ((List Int)×(Int×Unit)))→Int→Int→Int→Int→Int→Int→Option β)(kx:(List Int)→(List Int)→(List ((List Int)×(Int×Unit)))→Int→Int→Option β)(kr:Option β)(s0:(List Int))(s1:(List Int))(s2:(List ((List Int)×(Int×Unit))))(s3:Int)(s4:Int)(s5:Int)(s6:Int)(s7:Int)(s8:Int):Option β:=bif(S.lt s8 s7)then(bif(S.ir s8 s2.length)then(bif(S.ir s4 4)then(bif(!S.eq s8 s3)then(bif(!S.eq (List.getD ((List.getD s2 (Int.toNat s8) ((List.replicate 4 0),(0,()))).1) (Int.toNat s4) 0) 0)then(bif(S.ir s8 s2.length)then(bif(S.ir s3 s2.length)then(impl_vector_times.G S ((List.getD s2 (Int.toNat s3) ((List.replicate 4 0),(0,()))).1) (List.getD ((List.getD s2 (Int.toNat s8) ((List.replicate 4 0),(0,()))).1) (Int.toNat s4) 0) (fun y1=>impl_vector_minus.G S ((List.getD s2 (Int.toNat s8) ((List.replicate 4 0),(0,()))).1) y1 (fun y2=>bif(S.ir s8 s2.length)then(bif(S.ir s8 (List.set s2 (Int.toNat s8) (y2,(List.getD s2 (Int.toNat s8) ((List.replicate 4 0),(0,()))).2)).length)then(bif(S.ir s3 (List.set s2 (Int.toNat s8) (y2,(List.getD s2 (Int.toNat s8) ((List.replicate 4 0),(0,()))).2)).length)then(impl_element_times.G S ((List.getD (List.set s2 (Int.toNat s8) (y2,(List.getD s2 (Int.toNat s8) ((List.replicate 4 0),(0,()))).2)) (Int.toNat s3) ((List.replicate 4 0),(0,()))).2.1) (List.getD ((List.getD s2 (Int.toNat s8) ((List.replicate 4 0),(0,()))).1) (Int.toNat s4) 0) (fun y3=>impl_element_minus.G S ((List.getD (List.set s2 (Int.toNat s8) (y2,(List.getD s2 (Int.toNat s8) ((List.replicate 4 0),(0,()))).2)) (Int.toNat s8) ((List.replicate 4 0),(0,()))).2.1) y3 (fun y4=>bif(S.ir s8 (List.set s2 (Int.toNat s8) (y2,(List.getD s2 (Int.toNat s8) ((List.replicate 4 0),(0,()))).2)).length)then(L s0 s1 (List.set (List.set s2 (Int.toNat s8) (y2,(List.getD s2 (Int.toNat s8) ((List.replicate 4 0),(0,()))).2)) (Int.toNat s8) ((List.getD (List.set s2 (Int.toNat s8) (y2,(List.getD s2 (Int.toNat s8) ((List.replicate 4 0),(0,()))).2)) (Int.toNat s8) ((List.replicate 4 0),(0,()))).1,(y4,(List.getD (List.set s2 (Int.toNat s8) (y2,(List.getD s2 (Int.toNat s8) ((List.replicate 4 0),(0,()))).2)) (Int.toNat s8) ((List.replicate 4 0),(0,()))).2.2))) s3 s4 s5 s6 s7 (S.w (s8+1)))else(none))))else(none))else(none))else(none))))else(none))else(none))else(L s0 s1 s2 s3 s4 s5 s6 s7 (S.w (s8+1))))else(L s0 s1 s2 s3 s4 s5 s6 s7 (S.w (s8+1))))else(none))else(none))else(kx s0 s1 s2 s5 s6)
noncomputable def r20 {β:Type}(S:Sl)(n:Nat)(kx:x20.sig.den→Option β)(kr:y20.sig.den→Option β)(s:h20.sig.den):Option β:=rounds (fun L kx kr s=>b20 S (fun x0 x1 x2 x3 x4 x5 x6 x7 x8=>L (((x0,()),((x1,()),(x2,()))),(x3,(x4,(x5,(x6,(x7,(x8,())))))))) (fun x0 x1 x2 x3 x4=>kx (((x0,()),((x1,()),(x2,()))),(x3,(x4,())))) (kr ((),())) s.1.1.1 s.1.2.1.1 s.1.2.2.1 s.2.1 s.2.2.1 s.2.2.2.1 s.2.2.2.2.1 s.2.2.2.2.2.1 s.2.2.2.2.2.2.1) kx kr n s
noncomputable def l20 {β:Type}(S:Sl)(n:Nat)(kx:(List Int)→(List Int)→(List ((List Int)×(Int×Unit)))→Int→Int→Option β)(kr:Option β)(s0:(List Int))(s1:(List Int))(s2:(List ((List Int)×(Int×Unit))))(s3:Int)(s4:Int)(s5:Int)(s6:Int)(s7:Int)(s8:Int):Option β:=r20 S n (fun s=>kx s.1.1.1 s.1.2.1.1 s.1.2.2.1 s.2.1 s.2.2.1) (fun s=>kr) (((s0,()),((s1,()),(s2,()))),(s3,(s4,(s5,(s6,(s7,(s8,())))))))
theorem t20 {β:Type}(S:Sl)(n:Nat)(kx:(List Int)→(List Int)→(List ((List Int)×(Int×Unit)))→Int→Int→Option β)(kr:Option β)(s0:(List Int))(s1:(List Int))(s2:(List ((List Int)×(Int×Unit))))(s3:Int)(s4:Int)(s5:Int)(s6:Int)(s7:Int)(s8:Int):l20 S (n+1) kx kr s0 s1 s2 s3 s4 s5 s6 s7 s8=b20 S (l20 S n kx kr) kx kr s0 s1 s2 s3 s4 s5 s6 s7 s8:=by kernel_rfl
def h16:SS:=⟨[6,7,9,63,64],⟨[.box [.val (.arr 4 I) false],.box [.val (.arr 4 I) false],.buf (.pair (.arr 4 I) (.pair I .unit)) false],[.one (.ref (.ptr 0)),.one (.ref (.ptr 1)),.one (.ref (.own 2)),.one (.val I false),.one (.val I false)]⟩⟩
def x16:SS:=⟨[6,7,9],⟨[.box [.val (.arr 4 I) false],.box [.val (.arr 4 I) false],.buf (.pair (.arr 4 I) (.pair I .unit)) false],[.one (.ref (.ptr 0)),.one (.ref (.ptr 1)),.one (.ref (.own 2))]⟩⟩
def y16:SS:=⟨[],⟨[],[]⟩⟩
noncomputable def b16 {β:Type}(S:Sl)(L:(List Int)→(List Int)→(List ((List Int)×(Int×Unit)))→Int→Int→Option β)(kx:(List Int)→(List Int)→(List ((List Int)×(Int×Unit)))→Option β)(kr:Option β)(s0:(List Int))(s1:(List Int))(s2:(List ((List Int)×(Int×Unit))))(s3:Int)(s4:Int):Option β:=bif(S.lt s4 s3)then(bif(S.ir s4 s2.length)then(impl_vector_lead.G S ((List.getD s2 (Int.toNat s4) ((List.replicate 4 0),(0,()))).1) (fun y1=>l20 S S.n (fun y2 y3 y4 y5 y6=>L y2 y3 y4 y5 (S.w (y6+1))) none s0 s1 s2 s4 y1 s3 s4 (s2.length:Int) 0))else(none))else(kx s0 s1 s2)
noncomputable def r16 {β:Type}(S:Sl)(n:Nat)(kx:x16.sig.den→Option β)(kr:y16.sig.den→Option β)(s:h16.sig.den):Option β:=rounds (fun L kx kr s=>b16 S (fun x0 x1 x2 x3 x4=>L (((x0,()),((x1,()),(x2,()))),(x3,(x4,())))) (fun x0 x1 x2=>kx (((x0,()),((x1,()),(x2,()))),())) (kr ((),())) s.1.1.1 s.1.2.1.1 s.1.2.2.1 s.2.1 s.2.2.1) kx kr n s
noncomputable def l16 {β:Type}(S:Sl)(n:Nat)(kx:(List Int)→(List Int)→(List ((List Int)×(Int×Unit)))→Option β)(kr:Option β)(s0:(List Int))(s1:(List Int))(s2:(List ((List Int)×(Int×Unit))))(s3:Int)(s4:Int):Option β:=r16 S n (fun s=>kx s.1.1.1 s.1.2.1.1 s.1.2.2.1) (fun s=>kr) (((s0,()),((s1,()),(s2,()))),(s3,(s4,())))
theorem t16 {β:Type}(S:Sl)(n:Nat)(kx:(List Int)→(List Int)→(List ((List Int)×(Int×Unit)))→Option β)(kr:Option β)(s0:(List Int))(s1:(List Int))(s2:(List ((List Int)×(Int×Unit))))(s3:Int)(s4:Int):l16 S (n+1) kx kr s0 s1 s2 s3 s4=b16 S (l16 S n kx kr) kx kr s0 s1 s2 s3 s4:=by kernel_rfl
def h9:SS:=⟨[1,2,6,7,9,11,12,29,30,31,35,36,37],⟨[.box [.val (.arr 4 I) false],.box [.val (.arr 4 I) false],.buf (.pair (.arr 4 I) (.pair I .unit)) false,.box [.val (.arr 4 I) false,.val (.arr 8 I) false],.buf (.pair (.arr 4 I) (.pair (.arr 8 I) .unit)) false],[.one (.val (.sl I) false),.one (.val (.sl I) false),.one (.ref (.ptr 0)),.one (.ref (.ptr 1)),.one (.ref (.own 2)),.one (.ref (.ptr 3)),.one (.val I false),.one (.ref (.own 4)),.one (.val I false),.one (.val I false),.one (.val (.sl I) false),.one (.val I false),.one (.val I false)]⟩⟩
def x9:SS:=⟨[1,2,6,7,9,11,12,29,30,31],⟨[.box [.val (.arr 4 I) false],.box [.val (.arr 4 I) false],.buf (.pair (.arr 4 I) (.pair I .unit)) false,.box [.val (.arr 4 I) false,.val (.arr 8 I) false],.buf (.pair (.arr 4 I) (.pair (.arr 8 I) .unit)) false],[.one (.val (.sl I) false),.one (.val (.sl I) false),.one (.ref (.ptr 0)),.one (.ref (.ptr 1)),.one (.ref (.own 2)),.one (.ref (.ptr 3)),.one (.val I false),.one (.ref (.own 4)),.one (.val I false),.one (.val I false)]⟩⟩
def y9:SS:=⟨[],⟨[],[]⟩⟩
noncomputable def b9 {β:Type}(S:Sl)(L:(List Int)→(List Int)→(List ((List Int)×(Int×Unit)))→(List Int)→(List Int)→(List ((List Int)×((List Int)×Unit)))→(List Int)→(List Int)→Int→Int→Int→(List Int)→Int→Int→Option β)(kx:(List Int)→(List Int)→(List ((List Int)×(Int×Unit)))→(List Int)→(List Int)→(List ((List Int)×((List Int)×Unit)))→(List Int)→(List Int)→Int→Int→Int→Option β)(kr:Option β)(s0:(List Int))(s1:(List Int))(s2:(List ((List Int)×(Int×Unit))))(s3:(List Int))(s4:(List Int))(s5:(List ((List Int)×((List Int)×Unit))))(s6:(List Int))(s7:(List Int))(s8:Int)(s9:Int)(s10:Int)(s11:(List Int))(s12:Int)(s13:Int):Option β:=bif(S.lt s13 s12)then(bif(S.ir s13 s11.length)then(bif(S.ir s13 8)then(bif(S.ir (List.getD s11 (Int.toNat s13) 0) s6.length)then(impl_element_times.G S (List.getD s4 (Int.toNat s13) 0) (List.getD s6 (Int.toNat (List.getD s11 (Int.toNat s13) 0)) 0) (fun y1=>impl_element_plus.G S s8 y1 (fun y2=>L s0 s1 s2 s3 s4 s5 s6 s7 y2 s9 s10 s11 s12 (S.w (s13+1)))))else(none))else(none))else(none))else(kx s0 s1 s2 s3 s4 s5 s6 s7 s8 s9 s10)
noncomputable def r9 {β:Type}(S:Sl)(n:Nat)(kx:x9.sig.den→Option β)(kr:y9.sig.den→Option β)(s:h9.sig.den):Option β:=rounds (fun L kx kr s=>b9 S (fun x0 x1 x2 x3 x4 x5 x6 x7 x8 x9 x10 x11 x12 x13=>L (((x0,()),((x1,()),(x2,((x3,(x4,())),(x5,()))))),(x6,(x7,(x8,(x9,(x10,(x11,(x12,(x13,())))))))))) (fun x0 x1 x2 x3 x4 x5 x6 x7 x8 x9 x10=>kx (((x0,()),((x1,()),(x2,((x3,(x4,())),(x5,()))))),(x6,(x7,(x8,(x9,(x10,()))))))) (kr ((),())) s.1.1.1 s.1.2.1.1 s.1.2.2.1 s.1.2.2.2.1.1 s.1.2.2.2.1.2.1 s.1.2.2.2.2.1 s.2.1 s.2.2.1 s.2.2.2.1 s.2.2.2.2.1 s.2.2.2.2.2.1 s.2.2.2.2.2.2.1 s.2.2.2.2.2.2.2.1 s.2.2.2.2.2.2.2.2.1) kx kr n s
noncomputable def l9 {β:Type}(S:Sl)(n:Nat)(kx:(List Int)→(List Int)→(List ((List Int)×(Int×Unit)))→(List Int)→(List Int)→(List ((List Int)×((List Int)×Unit)))→(List Int)→(List Int)→Int→Int→Int→Option β)(kr:Option β)(s0:(List Int))(s1:(List Int))(s2:(List ((List Int)×(Int×Unit))))(s3:(List Int))(s4:(List Int))(s5:(List ((List Int)×((List Int)×Unit))))(s6:(List Int))(s7:(List Int))(s8:Int)(s9:Int)(s10:Int)(s11:(List Int))(s12:Int)(s13:Int):Option β:=r9 S n (fun s=>kx s.1.1.1 s.1.2.1.1 s.1.2.2.1 s.1.2.2.2.1.1 s.1.2.2.2.1.2.1 s.1.2.2.2.2.1 s.2.1 s.2.2.1 s.2.2.2.1 s.2.2.2.2.1 s.2.2.2.2.2.1) (fun s=>kr) (((s0,()),((s1,()),(s2,((s3,(s4,())),(s5,()))))),(s6,(s7,(s8,(s9,(s10,(s11,(s12,(s13,())))))))))
theorem t9 {β:Type}(S:Sl)(n:Nat)(kx:(List Int)→(List Int)→(List ((List Int)×(Int×Unit)))→(List Int)→(List Int)→(List ((List Int)×((List Int)×Unit)))→(List Int)→(List Int)→Int→Int→Int→Option β)(kr:Option β)(s0:(List Int))(s1:(List Int))(s2:(List ((List Int)×(Int×Unit))))(s3:(List Int))(s4:(List Int))(s5:(List ((List Int)×((List Int)×Unit))))(s6:(List Int))(s7:(List Int))(s8:Int)(s9:Int)(s10:Int)(s11:(List Int))(s12:Int)(s13:Int):l9 S (n+1) kx kr s0 s1 s2 s3 s4 s5 s6 s7 s8 s9 s10 s11 s12 s13=b9 S (l9 S n kx kr) kx kr s0 s1 s2 s3 s4 s5 s6 s7 s8 s9 s10 s11 s12 s13:=by kernel_rfl
def h5:SS:=⟨[1,2,6,7,9,29,30,31],⟨[.box [.val (.arr 4 I) false],.box [.val (.arr 4 I) false],.buf (.pair (.arr 4 I) (.pair I .unit)) false,.buf (.pair (.arr 4 I) (.pair (.arr 8 I) .unit)) false],[.one (.val (.sl I) false),.one (.val (.sl I) false),.one (.ref (.ptr 0)),.one (.ref (.ptr 1)),.one (.ref (.own 2)),.one (.ref (.own 3)),.one (.val I false),.one (.val I false)]⟩⟩
def x5:SS:=⟨[6,7,9],⟨[.box [.val (.arr 4 I) false],.box [.val (.arr 4 I) false],.buf (.pair (.arr 4 I) (.pair I .unit)) false],[.one (.ref (.ptr 0)),.one (.ref (.ptr 1)),.one (.ref (.own 2))]⟩⟩
def y5:SS:=⟨[],⟨[],[]⟩⟩
noncomputable def b5 {β:Type}(S:Sl)(L:(List Int)→(List Int)→(List ((List Int)×(Int×Unit)))→(List ((List Int)×((List Int)×Unit)))→(List Int)→(List Int)→Int→Int→Option β)(kx:(List Int)→(List Int)→(List ((List Int)×(Int×Unit)))→Option β)(kr:Option β)(s0:(List Int))(s1:(List Int))(s2:(List ((List Int)×(Int×Unit))))(s3:(List ((List Int)×((List Int)×Unit))))(s4:(List Int))(s5:(List Int))(s6:Int)(s7:Int):Option β:=bif(S.lt s7 s6)then(bif(S.ir s7 s3.length)then(l9 S S.n (fun y1 y2 y3 y4 y5 y6 y7 y8 y9 y10 y11=>bif(S.fw (y3 ++ [(y4,(y9,()))]).length)then(L y1 y2 (y3 ++ [(y4,(y9,()))]) y6 y7 y8 y10 (S.w (y11+1)))else(none)) none s0 s1 s2 ((List.getD s3 (Int.toNat s7) ((List.replicate 4 0),((List.replicate 8 0),()))).1) ((List.getD s3 (Int.toNat s7) ((List.replicate 4 0),((List.replicate 8 0),()))).2.1) s3 s4 s5 0 s6 s7 s5 (s5.length:Int) 0)else(none))else(kx s0 s1 s2)
noncomputable def r5 {β:Type}(S:Sl)(n:Nat)(kx:x5.sig.den→Option β)(kr:y5.sig.den→Option β)(s:h5.sig.den):Option β:=rounds (fun L kx kr s=>b5 S (fun x0 x1 x2 x3 x4 x5 x6 x7=>L (((x0,()),((x1,()),(x2,(x3,())))),(x4,(x5,(x6,(x7,())))))) (fun x0 x1 x2=>kx (((x0,()),((x1,()),(x2,()))),())) (kr ((),())) s.1.1.1 s.1.2.1.1 s.1.2.2.1 s.1.2.2.2.1 s.2.1 s.2.2.1 s.2.2.2.1 s.2.2.2.2.1) kx kr n s
noncomputable def l5 {β:Type}(S:Sl)(n:Nat)(kx:(List Int)→(List Int)→(List ((List Int)×(Int×Unit)))→Option β)(kr:Option β)(s0:(List Int))(s1:(List Int))(s2:(List ((List Int)×(Int×Unit))))(s3:(List ((List Int)×((List Int)×Unit))))(s4:(List Int))(s5:(List Int))(s6:Int)(s7:Int):Option β:=r5 S n (fun s=>kx s.1.1.1 s.1.2.1.1 s.1.2.2.1) (fun s=>kr) (((s0,()),((s1,()),(s2,(s3,())))),(s4,(s5,(s6,(s7,())))))
theorem t5 {β:Type}(S:Sl)(n:Nat)(kx:(List Int)→(List Int)→(List ((List Int)×(Int×Unit)))→Option β)(kr:Option β)(s0:(List Int))(s1:(List Int))(s2:(List ((List Int)×(Int×Unit))))(s3:(List ((List Int)×((List Int)×Unit))))(s4:(List Int))(s5:(List Int))(s6:Int)(s7:Int):l5 S (n+1) kx kr s0 s1 s2 s3 s4 s5 s6 s7=b5 S (l5 S n kx kr) kx kr s0 s1 s2 s3 s4 s5 s6 s7:=by kernel_rfl
noncomputable def G {β:Type}(S:Sl)(a0:Int)(a1:(List Int))(a2:(List Int))(K:(List Int)→Option β):Option β:=impl_rowsOf.G S a0 a2 (fun y1=>impl_spanOf.G S y1 (fun y2 y3=>l5 S S.n (fun y4 y5 y6=>l16 S S.n (fun y7 y8 y9=>l29 S S.n (fun y10 y11=>K y11) none y7 y8 y9 (y9.length:Int) 0) none y4 y5 y6 (y6.length:Int) 0) none (List.replicate 4 0) (List.replicate 4 0) [] y2 a1 a2 (y2.length:Int) 0))
noncomputable def o:Orac:=⟨202,sin,sout,fun s K=>G sl0 s.2.1 s.2.2.1 s.2.2.2.1 (fun x0=>K ((),((x0,()),())))⟩
noncomputable def C:Ctx:=⟨tyT,[impl_element_minus.o,impl_element_plus.o,impl_element_times.o,impl_rowsOf.o,impl_spanOf.o,impl_vector_lead.o,impl_vector_minus.o,impl_vector_times.o],[⟨5,0,h5,x5,y5,fun s kx kr=>r5 sl0 sl0.n kx kr s⟩,⟨9,2,h9,x9,y9,fun s kx kr=>r9 sl0 sl0.n kx kr s⟩,⟨16,4,h16,x16,y16,fun s kx kr=>r16 sl0 sl0.n kx kr s⟩,⟨20,6,h20,x20,y20,fun s kx kr=>r20 sl0 sl0.n kx kr s⟩,⟨29,8,h29,x29,y29,fun s kx kr=>r29 sl0 sl0.n kx kr s⟩],142,0⟩
theorem ctx:CtxOk Tryz.prog C:=⟨tyOk,all1 impl_element_minus.ok (all1 impl_element_plus.ok (all1 impl_element_times.ok (all1 impl_rowsOf.ok (all1 impl_spanOf.ok (all1 impl_vector_lead.ok (all1 impl_vector_minus.ok (all1 impl_vector_times.ok (all0))))))))⟩
theorem e29 (β:Type)(L:h29.sig.den→Option β)(kx:x29.sig.den→Option β)(kr:y29.sig.den→Option β)(s:h29.sig.den):evalBody C (nthC (loopsOf (bodyC Tryz.f202)) 4) 8 h29 x29 y29 L kx kr s=b29 sl0 (fun x0 x1 x2 x3 x4=>L (((x0,()),((x1,()),(x2,()))),(x3,(x4,())))) (fun x0 x1=>kx (((x0,()),((x1,()),())),())) (kr ((),())) s.1.1.1 s.1.2.1.1 s.1.2.2.1 s.2.1 s.2.2.1:=by kernel_rfl
theorem g29:LS Tryz.prog C ⟨29,8,h29,x29,y29,fun s kx kr=>r29 sl0 sl0.n kx kr s⟩ (loopsOf (bodyC Tryz.f202)):=LS.at (i:=4) (by kernel_rfl) (loop_good mixed ctx (ctx_nat ctx) (N:=sl0.n) (fun _ _ _ _=>rfl) e29 (all1 (LS.none (by kernel_rfl)) (all1 (LS.none (by kernel_rfl)) (all1 (LS.none (by kernel_rfl)) (all1 (LS.none (by kernel_rfl)) (all1 (LS.none (by kernel_rfl)) (all0)))))))
theorem e20 (β:Type)(L:h20.sig.den→Option β)(kx:x20.sig.den→Option β)(kr:y20.sig.den→Option β)(s:h20.sig.den):evalBody C (nthC (loopsOf (bodyC Tryz.f202)) 3) 6 h20 x20 y20 L kx kr s=b20 sl0 (fun x0 x1 x2 x3 x4 x5 x6 x7 x8=>L (((x0,()),((x1,()),(x2,()))),(x3,(x4,(x5,(x6,(x7,(x8,())))))))) (fun x0 x1 x2 x3 x4=>kx (((x0,()),((x1,()),(x2,()))),(x3,(x4,())))) (kr ((),())) s.1.1.1 s.1.2.1.1 s.1.2.2.1 s.2.1 s.2.2.1 s.2.2.2.1 s.2.2.2.2.1 s.2.2.2.2.2.1 s.2.2.2.2.2.2.1:=by kernel_rfl
theorem g20:LS Tryz.prog C ⟨20,6,h20,x20,y20,fun s kx kr=>r20 sl0 sl0.n kx kr s⟩ (loopsOf (bodyC Tryz.f202)):=LS.at (i:=3) (by kernel_rfl) (loop_good mixed ctx (ctx_nat ctx) (N:=sl0.n) (fun _ _ _ _=>rfl) e20 (all1 (LS.none (by kernel_rfl)) (all1 (LS.none (by kernel_rfl)) (all1 (LS.none (by kernel_rfl)) (all1 (LS.none (by kernel_rfl)) (all1 (LS.none (by kernel_rfl)) (all0)))))))
theorem e16 (β:Type)(L:h16.sig.den→Option β)(kx:x16.sig.den→Option β)(kr:y16.sig.den→Option β)(s:h16.sig.den):evalBody C (nthC (loopsOf (bodyC Tryz.f202)) 2) 4 h16 x16 y16 L kx kr s=b16 sl0 (fun x0 x1 x2 x3 x4=>L (((x0,()),((x1,()),(x2,()))),(x3,(x4,())))) (fun x0 x1 x2=>kx (((x0,()),((x1,()),(x2,()))),())) (kr ((),())) s.1.1.1 s.1.2.1.1 s.1.2.2.1 s.2.1 s.2.2.1:=by kernel_rfl
theorem g16:LS Tryz.prog C ⟨16,4,h16,x16,y16,fun s kx kr=>r16 sl0 sl0.n kx kr s⟩ (loopsOf (bodyC Tryz.f202)):=LS.at (i:=2) (by kernel_rfl) (loop_good mixed ctx (ctx_nat ctx) (N:=sl0.n) (fun _ _ _ _=>rfl) e16 (all1 (LS.none (by kernel_rfl)) (all1 (LS.none (by kernel_rfl)) (all1 (LS.none (by kernel_rfl)) (all1 ((g20).sub (nthC_mem (by kernel_rfl))) (all1 (LS.none (by kernel_rfl)) (all0)))))))
theorem e9 (β:Type)(L:h9.sig.den→Option β)(kx:x9.sig.den→Option β)(kr:y9.sig.den→Option β)(s:h9.sig.den):evalBody C (nthC (loopsOf (bodyC Tryz.f202)) 1) 2 h9 x9 y9 L kx kr s=b9 sl0 (fun x0 x1 x2 x3 x4 x5 x6 x7 x8 x9 x10 x11 x12 x13=>L (((x0,()),((x1,()),(x2,((x3,(x4,())),(x5,()))))),(x6,(x7,(x8,(x9,(x10,(x11,(x12,(x13,())))))))))) (fun x0 x1 x2 x3 x4 x5 x6 x7 x8 x9 x10=>kx (((x0,()),((x1,()),(x2,((x3,(x4,())),(x5,()))))),(x6,(x7,(x8,(x9,(x10,()))))))) (kr ((),())) s.1.1.1 s.1.2.1.1 s.1.2.2.1 s.1.2.2.2.1.1 s.1.2.2.2.1.2.1 s.1.2.2.2.2.1 s.2.1 s.2.2.1 s.2.2.2.1 s.2.2.2.2.1 s.2.2.2.2.2.1 s.2.2.2.2.2.2.1 s.2.2.2.2.2.2.2.1 s.2.2.2.2.2.2.2.2.1:=by kernel_rfl
theorem g9:LS Tryz.prog C ⟨9,2,h9,x9,y9,fun s kx kr=>r9 sl0 sl0.n kx kr s⟩ (loopsOf (bodyC Tryz.f202)):=LS.at (i:=1) (by kernel_rfl) (loop_good mixed ctx (ctx_nat ctx) (N:=sl0.n) (fun _ _ _ _=>rfl) e9 (all1 (LS.none (by kernel_rfl)) (all1 (LS.none (by kernel_rfl)) (all1 (LS.none (by kernel_rfl)) (all1 (LS.none (by kernel_rfl)) (all1 (LS.none (by kernel_rfl)) (all0)))))))
theorem e5 (β:Type)(L:h5.sig.den→Option β)(kx:x5.sig.den→Option β)(kr:y5.sig.den→Option β)(s:h5.sig.den):evalBody C (nthC (loopsOf (bodyC Tryz.f202)) 0) 0 h5 x5 y5 L kx kr s=b5 sl0 (fun x0 x1 x2 x3 x4 x5 x6 x7=>L (((x0,()),((x1,()),(x2,(x3,())))),(x4,(x5,(x6,(x7,())))))) (fun x0 x1 x2=>kx (((x0,()),((x1,()),(x2,()))),())) (kr ((),())) s.1.1.1 s.1.2.1.1 s.1.2.2.1 s.1.2.2.2.1 s.2.1 s.2.2.1 s.2.2.2.1 s.2.2.2.2.1:=by kernel_rfl
theorem g5:LS Tryz.prog C ⟨5,0,h5,x5,y5,fun s kx kr=>r5 sl0 sl0.n kx kr s⟩ (loopsOf (bodyC Tryz.f202)):=LS.at (i:=0) (by kernel_rfl) (loop_good mixed ctx (ctx_nat ctx) (N:=sl0.n) (fun _ _ _ _=>rfl) e5 (all1 (LS.none (by kernel_rfl)) (all1 ((g9).sub (nthC_mem (by kernel_rfl))) (all1 (LS.none (by kernel_rfl)) (all1 (LS.none (by kernel_rfl)) (all1 (LS.none (by kernel_rfl)) (all0)))))))
theorem eG (β:Type)(s:sin.den)(K:sout.den→Option β):evalFn C Tryz.f202 sin sout s K=o.F s K:=by kernel_rfl
theorem ok:OracOk Tryz.prog o:=fn_ok mixed Tryz.func202 (by kernel_rfl) ctx (c:=bodyC Tryz.f202) (by kernel_rfl) (all1 g5 (all1 g9 (all1 g16 (all1 g20 (all1 g29 (all0)))))) (by kernel_rfl) (by kernel_rfl) (by kernel_rfl) (Nat.le_of_ble_eq_true (by kernel_rfl)) eG (by kernel_rfl) (Nat.le_of_ble_eq_true (by kernel_rfl))
end impl_solve
namespace impl_fits
def sin:Sig:=⟨[],[.one (.val I false),.one (.val (.sl I) false),.one (.val (.sl I) false)]⟩
def sout:Sig:=⟨[],[.one (.val .bool false)]⟩
def h3:SS:=⟨[0,1,7,14,15,16],⟨[.box [.val (.arr 4 I) false]],[.one (.val I false),.one (.val (.sl I) false),.one (.ref (.ptr 0)),.one (.val (.sl I) false),.one (.val I false),.one (.val I false)]⟩⟩
def x3:SS:=⟨[],⟨[],[]⟩⟩
def y3:SS:=⟨[6],⟨[],[.one (.val .bool false)]⟩⟩
noncomputable def b3 {β:Type}(S:Sl)(L:(List Int)→Int→(List Int)→(List Int)→Int→Int→Option β)(kx:Option β)(kr:Bool→Option β)(s0:(List Int))(s1:Int)(s2:(List Int))(s3:(List Int))(s4:Int)(s5:Int):Option β:=bif(S.lt s5 s4)then(bif(S.ir s5 s3.length)then(impl_rowOf.G S s1 (List.getD s3 (Int.toNat s5) 0) (fun y1=>impl_vector_dot.G S y1 s0 (fun y2=>bif(S.ir (List.getD s3 (Int.toNat s5) 0) s2.length)then(bif(!S.eq y2 (List.getD s2 (Int.toNat (List.getD s3 (Int.toNat s5) 0)) 0))then(kr false)else(L s0 s1 s2 s3 s4 (S.w (s5+1))))else(none))))else(none))else(kx)
noncomputable def r3 {β:Type}(S:Sl)(n:Nat)(kx:x3.sig.den→Option β)(kr:y3.sig.den→Option β)(s:h3.sig.den):Option β:=rounds (fun L kx kr s=>b3 S (fun x0 x1 x2 x3 x4 x5=>L (((x0,()),()),(x1,(x2,(x3,(x4,(x5,()))))))) (kx ((),())) (fun x0=>kr ((),(x0,()))) s.1.1.1 s.2.1 s.2.2.1 s.2.2.2.1 s.2.2.2.2.1 s.2.2.2.2.2.1) kx kr n s
noncomputable def l3 {β:Type}(S:Sl)(n:Nat)(kx:Option β)(kr:Bool→Option β)(s0:(List Int))(s1:Int)(s2:(List Int))(s3:(List Int))(s4:Int)(s5:Int):Option β:=r3 S n (fun s=>kx) (fun s=>kr s.2.1) (((s0,()),()),(s1,(s2,(s3,(s4,(s5,()))))))
theorem t3 {β:Type}(S:Sl)(n:Nat)(kx:Option β)(kr:Bool→Option β)(s0:(List Int))(s1:Int)(s2:(List Int))(s3:(List Int))(s4:Int)(s5:Int):l3 S (n+1) kx kr s0 s1 s2 s3 s4 s5=b3 S (l3 S n kx kr) kx kr s0 s1 s2 s3 s4 s5:=by kernel_rfl
noncomputable def G {β:Type}(S:Sl)(a0:Int)(a1:(List Int))(a2:(List Int))(K:Bool→Option β):Option β:=impl_solve.G S a0 a1 a2 (fun y1=>l3 S S.n (K true) (fun y2=>K y2) y1 a0 a1 a2 (a2.length:Int) 0)
noncomputable def o:Orac:=⟨146,sin,sout,fun s K=>G sl0 s.2.1 s.2.2.1 s.2.2.2.1 (fun x0=>K ((),(x0,())))⟩
noncomputable def C:Ctx:=⟨tyT,[impl_rowOf.o,impl_solve.o,impl_vector_dot.o],[⟨3,0,h3,x3,y3,fun s kx kr=>r3 sl0 sl0.n kx kr s⟩],31,0⟩
theorem ctx:CtxOk Tryz.prog C:=⟨tyOk,all1 impl_rowOf.ok (all1 impl_solve.ok (all1 impl_vector_dot.ok (all0)))⟩
theorem e3 (β:Type)(L:h3.sig.den→Option β)(kx:x3.sig.den→Option β)(kr:y3.sig.den→Option β)(s:h3.sig.den):evalBody C (nthC (loopsOf (bodyC Tryz.f146)) 0) 0 h3 x3 y3 L kx kr s=b3 sl0 (fun x0 x1 x2 x3 x4 x5=>L (((x0,()),()),(x1,(x2,(x3,(x4,(x5,()))))))) (kx ((),())) (fun x0=>kr ((),(x0,()))) s.1.1.1 s.2.1 s.2.2.1 s.2.2.2.1 s.2.2.2.2.1 s.2.2.2.2.2.1:=by kernel_rfl
theorem g3:LS Tryz.prog C ⟨3,0,h3,x3,y3,fun s kx kr=>r3 sl0 sl0.n kx kr s⟩ (loopsOf (bodyC Tryz.f146)):=LS.at (i:=0) (by kernel_rfl) (loop_good mixed ctx (ctx_nat ctx) (N:=sl0.n) (fun _ _ _ _=>rfl) e3 (all1 (LS.none (by kernel_rfl)) (all0)))
theorem eG (β:Type)(s:sin.den)(K:sout.den→Option β):evalFn C Tryz.f146 sin sout s K=o.F s K:=by kernel_rfl
theorem ok:OracOk Tryz.prog o:=fn_ok mixed Tryz.func146 (by kernel_rfl) ctx (c:=bodyC Tryz.f146) (by kernel_rfl) (all1 g3 (all0)) (by kernel_rfl) (by kernel_rfl) (by kernel_rfl) (Nat.le_of_ble_eq_true (by kernel_rfl)) eG (by kernel_rfl) (Nat.le_of_ble_eq_true (by kernel_rfl))
end impl_fits
namespace impl_StripeOk_1
def sin:Sig:=⟨[.box [.val I false,.val (.sl I) false,.val (.sl I) false,.val (.sl .bool) false]],[.one (.val I false),.one (.ref (.ptr 0))]⟩
def sout:Sig:=⟨[.box [.val I false,.val (.sl I) false,.val (.sl I) false,.val (.sl .bool) false]],[.one (.val .bool false)]⟩
noncomputable def G {β:Type}(S:Sl)(a0:Int)(a1:(List Int))(a2:(List Int))(a3:(List Bool))(a4:Int)(K:Int→(List Int)→(List Int)→(List Bool)→Bool→Option β):Option β:=impl_Stripe_of.G S a0 a1 a2 a3 a4 (fun y1=>impl_fits.G S a0 a1 y1 (fun y2=>K a0 a1 a2 a3 (!y2)))
noncomputable def o:Orac:=⟨145,sin,sout,fun s K=>G sl0 s.1.1.1 s.1.1.2.1 s.1.1.2.2.1 s.1.1.2.2.2.1 s.2.1 (fun x0 x1 x2 x3 x4=>K (((x0,(x1,(x2,(x3,())))),()),(x4,())))⟩
noncomputable def C:Ctx:=⟨tyT,[impl_Stripe_of.o,impl_fits.o],[],13,1⟩
theorem ctx:CtxOk Tryz.prog C:=⟨tyOk,all1 impl_Stripe_of.ok (all1 impl_fits.ok (all0))⟩
theorem eG (β:Type)(s:sin.den)(K:sout.den→Option β):evalFn C Tryz.f145 sin sout s K=o.F s K:=by kernel_rfl
theorem ok:OracOk Tryz.prog o:=fn_ok mixed Tryz.func145 (by kernel_rfl) ctx (c:=bodyC Tryz.f145) (by kernel_rfl) (all0) (by kernel_rfl) (by kernel_rfl) (by kernel_rfl) (Nat.le_of_ble_eq_true (by kernel_rfl)) eG (by kernel_rfl) (Nat.le_of_ble_eq_true (by kernel_rfl))
end impl_StripeOk_1
namespace slices_IndexFunc_Sint_int_
def sin:Sig:=⟨[.buf I false,.box [.val I false,.val (.sl I) false,.val (.sl I) false,.val (.sl .bool) false]],[.one (.ref (.own 0)),.one (.ref (.fn 145 [1]))]⟩
def sout:Sig:=⟨[.buf I false,.box [.val I false,.val (.sl I) false,.val (.sl I) false,.val (.sl .bool) false]],[.one (.val I false)]⟩
def h2:SS:=⟨[0,1,7,8],⟨[.buf I false,.box [.val I false,.val (.sl I) false,.val (.sl I) false,.val (.sl .bool) false]],[.one (.ref (.own 0)),.one (.ref (.fn 145 [1])),.one (.val I false),.one (.val I false)]⟩⟩
def x2:SS:=⟨[],⟨[.buf I false,.box [.val I false,.val (.sl I) false,.val (.sl I) false,.val (.sl .bool) false]],[]⟩⟩
def y2:SS:=⟨[4],⟨[.buf I false,.box [.val I false,.val (.sl I) false,.val (.sl I) false,.val (.sl .bool) false]],[.one (.val I false)]⟩⟩
noncomputable def b2 {β:Type}(S:Sl)(L:(List Int)→Int→(List Int)→(List Int)→(List Bool)→Int→Int→Option β)(kx:(List Int)→Int→(List Int)→(List Int)→(List Bool)→Option β)(kr:(List Int)→Int→(List Int)→(List Int)→(List Bool)→Int→Option β)(s0:(List Int))(s1:Int)(s2:(List Int))(s3:(List Int))(s4:(List Bool))(s5:Int)(s6:Int):Option β:=bif(S.lt s6 s5)then(bif(S.ir s6 s0.length)then(impl_StripeOk_1.G S s1 s2 s3 s4 (List.getD s0 (Int.toNat s6) 0) (fun y1 y2 y3 y4 y5=>bif y5 then(kr s0 y1 y2 y3 y4 s6)else(L s0 y1 y2 y3 y4 s5 (S.w (s6+1)))))else(none))else(kx s0 s1 s2 s3 s4)
noncomputable def r2 {β:Type}(S:Sl)(n:Nat)(kx:x2.sig.den→Option β)(kr:y2.sig.den→Option β)(s:h2.sig.den):Option β:=rounds (fun L kx kr s=>b2 S (fun x0 x1 x2 x3 x4 x5 x6=>L ((x0,((x1,(x2,(x3,(x4,())))),())),(x5,(x6,())))) (fun x0 x1 x2 x3 x4=>kx ((x0,((x1,(x2,(x3,(x4,())))),())),())) (fun x0 x1 x2 x3 x4 x5=>kr ((x0,((x1,(x2,(x3,(x4,())))),())),(x5,()))) s.1.1 s.1.2.1.1 s.1.2.1.2.1 s.1.2.1.2.2.1 s.1.2.1.2.2.2.1 s.2.1 s.2.2.1) kx kr n s
noncomputable def l2 {β:Type}(S:Sl)(n:Nat)(kx:(List Int)→Int→(List Int)→(List Int)→(List Bool)→Option β)(kr:(List Int)→Int→(List Int)→(List Int)→(List Bool)→Int→Option β)(s0:(List Int))(s1:Int)(s2:(List Int))(s3:(List Int))(s4:(List Bool))(s5:Int)(s6:Int):Option β:=r2 S n (fun s=>kx s.1.1 s.1.2.1.1 s.1.2.1.2.1 s.1.2.1.2.2.1 s.1.2.1.2.2.2.1) (fun s=>kr s.1.1 s.1.2.1.1 s.1.2.1.2.1 s.1.2.1.2.2.1 s.1.2.1.2.2.2.1 s.2.1) ((s0,((s1,(s2,(s3,(s4,())))),())),(s5,(s6,())))
theorem t2 {β:Type}(S:Sl)(n:Nat)(kx:(List Int)→Int→(List Int)→(List Int)→(List Bool)→Option β)(kr:(List Int)→Int→(List Int)→(List Int)→(List Bool)→Int→Option β)(s0:(List Int))(s1:Int)(s2:(List Int))(s3:(List Int))(s4:(List Bool))(s5:Int)(s6:Int):l2 S (n+1) kx kr s0 s1 s2 s3 s4 s5 s6=b2 S (l2 S n kx kr) kx kr s0 s1 s2 s3 s4 s5 s6:=by kernel_rfl
noncomputable def G {β:Type}(S:Sl)(a0:(List Int))(a1:Int)(a2:(List Int))(a3:(List Int))(a4:(List Bool))(K:(List Int)→Int→(List Int)→(List Int)→(List Bool)→Int→Option β):Option β:=l2 S S.n (fun y1 y2 y3 y4 y5=>K y1 y2 y3 y4 y5 (-1)) (fun y6 y7 y8 y9 y10 y11=>K y6 y7 y8 y9 y10 y11) a0 a1 a2 a3 a4 (a0.length:Int) 0
noncomputable def o:Orac:=⟨201,sin,sout,fun s K=>G sl0 s.1.1 s.1.2.1.1 s.1.2.1.2.1 s.1.2.1.2.2.1 s.1.2.1.2.2.2.1 (fun x0 x1 x2 x3 x4 x5=>K ((x0,((x1,(x2,(x3,(x4,())))),())),(x5,())))⟩
noncomputable def C:Ctx:=⟨tyT,[impl_StripeOk_1.o],[⟨2,0,h2,x2,y2,fun s kx kr=>r2 sl0 sl0.n kx kr s⟩],19,2⟩
theorem ctx:CtxOk Tryz.prog C:=⟨tyOk,all1 impl_StripeOk_1.ok (all0)⟩
theorem e2 (β:Type)(L:h2.sig.den→Option β)(kx:x2.sig.den→Option β)(kr:y2.sig.den→Option β)(s:h2.sig.den):evalBody C (nthC (loopsOf (bodyC Tryz.f201)) 0) 0 h2 x2 y2 L kx kr s=b2 sl0 (fun x0 x1 x2 x3 x4 x5 x6=>L ((x0,((x1,(x2,(x3,(x4,())))),())),(x5,(x6,())))) (fun x0 x1 x2 x3 x4=>kx ((x0,((x1,(x2,(x3,(x4,())))),())),())) (fun x0 x1 x2 x3 x4 x5=>kr ((x0,((x1,(x2,(x3,(x4,())))),())),(x5,()))) s.1.1 s.1.2.1.1 s.1.2.1.2.1 s.1.2.1.2.2.1 s.1.2.1.2.2.2.1 s.2.1 s.2.2.1:=by kernel_rfl
theorem g2:LS Tryz.prog C ⟨2,0,h2,x2,y2,fun s kx kr=>r2 sl0 sl0.n kx kr s⟩ (loopsOf (bodyC Tryz.f201)):=LS.at (i:=0) (by kernel_rfl) (loop_good mixed ctx (ctx_nat ctx) (N:=sl0.n) (fun _ _ _ _=>rfl) e2 (all1 (LS.none (by kernel_rfl)) (all0)))
theorem eG (β:Type)(s:sin.den)(K:sout.den→Option β):evalFn C Tryz.f201 sin sout s K=o.F s K:=by kernel_rfl
theorem ok:OracOk Tryz.prog o:=fn_ok mixed Tryz.func201 (by kernel_rfl) ctx (c:=bodyC Tryz.f201) (by kernel_rfl) (all1 g2 (all0)) (by kernel_rfl) (by kernel_rfl) (by kernel_rfl) (Nat.le_of_ble_eq_true (by kernel_rfl)) eG (by kernel_rfl) (Nat.le_of_ble_eq_true (by kernel_rfl))
end slices_IndexFunc_Sint_int_
namespace slices_ContainsFunc_Sint_int
def sin:Sig:=⟨[.buf I false,.box [.val I false,.val (.sl I) false,.val (.sl I) false,.val (.sl .bool) false]],[.one (.ref (.own 0)),.one (.ref (.fn 145 [1]))]⟩
def sout:Sig:=⟨[.buf I false,.box [.val I false,.val (.sl I) false,.val (.sl I) false,.val (.sl .bool) false]],[.one (.val .bool false)]⟩
noncomputable def G {β:Type}(S:Sl)(a0:(List Int))(a1:Int)(a2:(List Int))(a3:(List Int))(a4:(List Bool))(K:(List Int)→Int→(List Int)→(List Int)→(List Bool)→Bool→Option β):Option β:=slices_IndexFunc_Sint_int_.G S a0 a1 a2 a3 a4 (fun y1 y2 y3 y4 y5 y6=>K y1 y2 y3 y4 y5 (S.le 0 y6))
noncomputable def o:Orac:=⟨144,sin,sout,fun s K=>G sl0 s.1.1 s.1.2.1.1 s.1.2.1.2.1 s.1.2.1.2.2.1 s.1.2.1.2.2.2.1 (fun x0 x1 x2 x3 x4 x5=>K ((x0,((x1,(x2,(x3,(x4,())))),())),(x5,())))⟩
noncomputable def C:Ctx:=⟨tyT,[slices_IndexFunc_Sint_int_.o],[],9,2⟩
theorem ctx:CtxOk Tryz.prog C:=⟨tyOk,all1 slices_IndexFunc_Sint_int_.ok (all0)⟩
theorem eG (β:Type)(s:sin.den)(K:sout.den→Option β):evalFn C Tryz.f144 sin sout s K=o.F s K:=by kernel_rfl
theorem ok:OracOk Tryz.prog o:=fn_ok mixed Tryz.func144 (by kernel_rfl) ctx (c:=bodyC Tryz.f144) (by kernel_rfl) (all0) (by kernel_rfl) (by kernel_rfl) (by kernel_rfl) (Nat.le_of_ble_eq_true (by kernel_rfl)) eG (by kernel_rfl) (Nat.le_of_ble_eq_true (by kernel_rfl))
end slices_ContainsFunc_Sint_int
namespace impl_StripeOk
def sin:Sig:=⟨[],[.agg [.val I false,.val (.sl I) false,.val (.sl I) false,.val (.sl .bool) false]]⟩
def sout:Sig:=⟨[],[.one (.val .bool false)]⟩
def h4:SS:=⟨[1,15,16,17],⟨[.box [.val I false,.val (.sl I) false,.val (.sl I) false,.val (.sl .bool) false]],[.one (.ref (.ptr 0)),.one (.val (.sl .bool) false),.one (.val I false),.one (.val I false)]⟩⟩
def x4:SS:=⟨[1],⟨[.box [.val I false,.val (.sl I) false,.val (.sl I) false,.val (.sl .bool) false]],[.one (.ref (.ptr 0))]⟩⟩
def y4:SS:=⟨[2],⟨[],[.one (.val .bool false)]⟩⟩
noncomputable def b4 {β:Type}(S:Sl)(L:Int→(List Int)→(List Int)→(List Bool)→(List Bool)→Int→Int→Option β)(kx:Int→(List Int)→(List Int)→(List Bool)→Option β)(kr:Bool→Option β)(s0:Int)(s1:(List Int))(s2:(List Int))(s3:(List Bool))(s4:(List Bool))(s5:Int)(s6:Int):Option β:=bif(S.lt s6 s5)then(bif(S.ir s6 s4.length)then(bif(List.getD s4 (Int.toNat s6) false)then(bif(S.ir s6 s1.length)then(impl_FieldOk.G S (List.getD s1 (Int.toNat s6) 0) (fun y1=>bif(!y1)then(kr false)else(bif(S.ir s6 s2.length)then(impl_versOk.G S (List.getD s2 (Int.toNat s6) 0) (fun y2=>bif(!y2)then(kr false)else(bif(!(List.getD s4 (Int.toNat s6) false))then(bif(S.ir s6 s1.length)then(bif(!S.eq (List.getD s1 (Int.toNat s6) 0) 0)then(kr false)else(bif(S.ir s6 s2.length)then(bif(!S.eq (List.getD s2 (Int.toNat s6) 0) 0)then(kr false)else(L s0 s1 s2 s3 s4 s5 (S.w (s6+1))))else(none)))else(none))else(L s0 s1 s2 s3 s4 s5 (S.w (s6+1))))))else(none))))else(none))else(bif(!(List.getD s4 (Int.toNat s6) false))then(bif(S.ir s6 s1.length)then(bif(!S.eq (List.getD s1 (Int.toNat s6) 0) 0)then(kr false)else(bif(S.ir s6 s2.length)then(bif(!S.eq (List.getD s2 (Int.toNat s6) 0) 0)then(kr false)else(L s0 s1 s2 s3 s4 s5 (S.w (s6+1))))else(none)))else(none))else(L s0 s1 s2 s3 s4 s5 (S.w (s6+1)))))else(none))else(kx s0 s1 s2 s3)
noncomputable def r4 {β:Type}(S:Sl)(n:Nat)(kx:x4.sig.den→Option β)(kr:y4.sig.den→Option β)(s:h4.sig.den):Option β:=rounds (fun L kx kr s=>b4 S (fun x0 x1 x2 x3 x4 x5 x6=>L (((x0,(x1,(x2,(x3,())))),()),(x4,(x5,(x6,()))))) (fun x0 x1 x2 x3=>kx (((x0,(x1,(x2,(x3,())))),()),())) (fun x0=>kr ((),(x0,()))) s.1.1.1 s.1.1.2.1 s.1.1.2.2.1 s.1.1.2.2.2.1 s.2.1 s.2.2.1 s.2.2.2.1) kx kr n s
noncomputable def l4 {β:Type}(S:Sl)(n:Nat)(kx:Int→(List Int)→(List Int)→(List Bool)→Option β)(kr:Bool→Option β)(s0:Int)(s1:(List Int))(s2:(List Int))(s3:(List Bool))(s4:(List Bool))(s5:Int)(s6:Int):Option β:=r4 S n (fun s=>kx s.1.1.1 s.1.1.2.1 s.1.1.2.2.1 s.1.1.2.2.2.1) (fun s=>kr s.2.1) (((s0,(s1,(s2,(s3,())))),()),(s4,(s5,(s6,()))))
theorem t4 {β:Type}(S:Sl)(n:Nat)(kx:Int→(List Int)→(List Int)→(List Bool)→Option β)(kr:Bool→Option β)(s0:Int)(s1:(List Int))(s2:(List Int))(s3:(List Bool))(s4:(List Bool))(s5:Int)(s6:Int):l4 S (n+1) kx kr s0 s1 s2 s3 s4 s5 s6=b4 S (l4 S n kx kr) kx kr s0 s1 s2 s3 s4 s5 s6:=by kernel_rfl
noncomputable def G {β:Type}(S:Sl)(a0:Int)(a1:(List Int))(a2:(List Int))(a3:(List Bool))(K:Bool→Option β):Option β:=impl_kindOk.G S a0 (fun y1=>bif(!y1)then(K false)else(impl_Stripe_shaped.G S a0 a1 a2 a3 (fun y2=>bif(!y2)then(K false)else(l4 S S.n (fun y3 y4 y5 y6=>impl_Stripe_versions.G S y3 y4 y5 y6 (fun y7=>slices_ContainsFunc_Sint_int.G S y7 y3 y4 y5 y6 (fun y8 y9 y10 y11 y12 y13=>K (!y13)))) (fun y14=>K y14) a0 a1 a2 a3 a3 (a3.length:Int) 0))))
noncomputable def o:Orac:=⟨62,sin,sout,fun s K=>G sl0 s.2.1.1 s.2.1.2.1 s.2.1.2.2.1 s.2.1.2.2.2.1 (fun x0=>K ((),(x0,())))⟩
noncomputable def C:Ctx:=⟨tyT,[impl_FieldOk.o,impl_Stripe_shaped.o,impl_Stripe_versions.o,impl_kindOk.o,impl_versOk.o,slices_ContainsFunc_Sint_int.o],[⟨4,0,h4,x4,y4,fun s kx kr=>r4 sl0 sl0.n kx kr s⟩],67,0⟩
theorem ctx:CtxOk Tryz.prog C:=⟨tyOk,all1 impl_FieldOk.ok (all1 impl_Stripe_shaped.ok (all1 impl_Stripe_versions.ok (all1 impl_kindOk.ok (all1 impl_versOk.ok (all1 slices_ContainsFunc_Sint_int.ok (all0))))))⟩
theorem e4 (β:Type)(L:h4.sig.den→Option β)(kx:x4.sig.den→Option β)(kr:y4.sig.den→Option β)(s:h4.sig.den):evalBody C (nthC (loopsOf (bodyC Tryz.f62)) 0) 0 h4 x4 y4 L kx kr s=b4 sl0 (fun x0 x1 x2 x3 x4 x5 x6=>L (((x0,(x1,(x2,(x3,())))),()),(x4,(x5,(x6,()))))) (fun x0 x1 x2 x3=>kx (((x0,(x1,(x2,(x3,())))),()),())) (fun x0=>kr ((),(x0,()))) s.1.1.1 s.1.1.2.1 s.1.1.2.2.1 s.1.1.2.2.2.1 s.2.1 s.2.2.1 s.2.2.2.1:=by kernel_rfl
theorem g4:LS Tryz.prog C ⟨4,0,h4,x4,y4,fun s kx kr=>r4 sl0 sl0.n kx kr s⟩ (loopsOf (bodyC Tryz.f62)):=LS.at (i:=0) (by kernel_rfl) (loop_good mixed ctx (ctx_nat ctx) (N:=sl0.n) (fun _ _ _ _=>rfl) e4 (all1 (LS.none (by kernel_rfl)) (all0)))
theorem eG (β:Type)(s:sin.den)(K:sout.den→Option β):evalFn C Tryz.f62 sin sout s K=o.F s K:=by kernel_rfl
theorem ok:OracOk Tryz.prog o:=fn_ok mixed Tryz.func62 (by kernel_rfl) ctx (c:=bodyC Tryz.f62) (by kernel_rfl) (all1 g4 (all0)) (by kernel_rfl) (by kernel_rfl) (by kernel_rfl) (Nat.le_of_ble_eq_true (by kernel_rfl)) eG (by kernel_rfl) (Nat.le_of_ble_eq_true (by kernel_rfl))
end impl_StripeOk
namespace impl_Plan_do
def sin:Sig:=⟨[],[.agg [.val I false,.val (.sl I) false,.val (.sl I) false],.one (.val (.sl I) false)]⟩
def sout:Sig:=⟨[],[.one (.val I false)]⟩
def h3:SS:=⟨[1,2,5,9,10,11],⟨[.box [.val I false,.val (.sl I) false,.val (.sl I) false]],[.one (.val (.sl I) false),.one (.ref (.ptr 0)),.one (.val I false),.one (.val (.sl I) false),.one (.val I false),.one (.val I false)]⟩⟩
def x3:SS:=⟨[5],⟨[],[.one (.val I false)]⟩⟩
def y3:SS:=⟨[],⟨[],[]⟩⟩
noncomputable def b3 {β:Type}(S:Sl)(L:Int→(List Int)→(List Int)→(List Int)→Int→(List Int)→Int→Int→Option β)(kx:Int→Option β)(kr:Option β)(s0:Int)(s1:(List Int))(s2:(List Int))(s3:(List Int))(s4:Int)(s5:(List Int))(s6:Int)(s7:Int):Option β:=bif(S.lt s7 s6)then(bif(S.ir s7 s5.length)then(bif(S.ir (List.getD s5 (Int.toNat s7) 0) s3.length)then(bif(S.ir s7 s2.length)then(impl_element_times.G S (List.getD s3 (Int.toNat (List.getD s5 (Int.toNat s7) 0)) 0) (List.getD s2 (Int.toNat s7) 0) (fun y1=>impl_element_plus.G S s4 y1 (fun y2=>L s0 s1 s2 s3 y2 s5 s6 (S.w (s7+1)))))else(none))else(none))else(none))else(kx s4)
noncomputable def r3 {β:Type}(S:Sl)(n:Nat)(kx:x3.sig.den→Option β)(kr:y3.sig.den→Option β)(s:h3.sig.den):Option β:=rounds (fun L kx kr s=>b3 S (fun x0 x1 x2 x3 x4 x5 x6 x7=>L (((x0,(x1,(x2,()))),()),(x3,(x4,(x5,(x6,(x7,()))))))) (fun x0=>kx ((),(x0,()))) (kr ((),())) s.1.1.1 s.1.1.2.1 s.1.1.2.2.1 s.2.1 s.2.2.1 s.2.2.2.1 s.2.2.2.2.1 s.2.2.2.2.2.1) kx kr n s
noncomputable def l3 {β:Type}(S:Sl)(n:Nat)(kx:Int→Option β)(kr:Option β)(s0:Int)(s1:(List Int))(s2:(List Int))(s3:(List Int))(s4:Int)(s5:(List Int))(s6:Int)(s7:Int):Option β:=r3 S n (fun s=>kx s.2.1) (fun s=>kr) (((s0,(s1,(s2,()))),()),(s3,(s4,(s5,(s6,(s7,()))))))
theorem t3 {β:Type}(S:Sl)(n:Nat)(kx:Int→Option β)(kr:Option β)(s0:Int)(s1:(List Int))(s2:(List Int))(s3:(List Int))(s4:Int)(s5:(List Int))(s6:Int)(s7:Int):l3 S (n+1) kx kr s0 s1 s2 s3 s4 s5 s6 s7=b3 S (l3 S n kx kr) kx kr s0 s1 s2 s3 s4 s5 s6 s7:=by kernel_rfl
noncomputable def G {β:Type}(S:Sl)(a0:Int)(a1:(List Int))(a2:(List Int))(a3:(List Int))(K:Int→Option β):Option β:=l3 S S.n (fun y1=>K y1) none a0 a1 a2 a3 0 a1 (a1.length:Int) 0
noncomputable def o:Orac:=⟨200,sin,sout,fun s K=>G sl0 s.2.1.1 s.2.1.2.1 s.2.1.2.2.1 s.2.2.1 (fun x0=>K ((),(x0,())))⟩
noncomputable def C:Ctx:=⟨tyT,[impl_element_plus.o,impl_element_times.o],[⟨3,0,h3,x3,y3,fun s kx kr=>r3 sl0 sl0.n kx kr s⟩],30,0⟩
theorem ctx:CtxOk Tryz.prog C:=⟨tyOk,all1 impl_element_plus.ok (all1 impl_element_times.ok (all0))⟩
theorem e3 (β:Type)(L:h3.sig.den→Option β)(kx:x3.sig.den→Option β)(kr:y3.sig.den→Option β)(s:h3.sig.den):evalBody C (nthC (loopsOf (bodyC Tryz.f200)) 0) 0 h3 x3 y3 L kx kr s=b3 sl0 (fun x0 x1 x2 x3 x4 x5 x6 x7=>L (((x0,(x1,(x2,()))),()),(x3,(x4,(x5,(x6,(x7,()))))))) (fun x0=>kx ((),(x0,()))) (kr ((),())) s.1.1.1 s.1.1.2.1 s.1.1.2.2.1 s.2.1 s.2.2.1 s.2.2.2.1 s.2.2.2.2.1 s.2.2.2.2.2.1:=by kernel_rfl
theorem g3:LS Tryz.prog C ⟨3,0,h3,x3,y3,fun s kx kr=>r3 sl0 sl0.n kx kr s⟩ (loopsOf (bodyC Tryz.f200)):=LS.at (i:=0) (by kernel_rfl) (loop_good mixed ctx (ctx_nat ctx) (N:=sl0.n) (fun _ _ _ _=>rfl) e3 (all1 (LS.none (by kernel_rfl)) (all0)))
theorem eG (β:Type)(s:sin.den)(K:sout.den→Option β):evalFn C Tryz.f200 sin sout s K=o.F s K:=by kernel_rfl
theorem ok:OracOk Tryz.prog o:=fn_ok mixed Tryz.func200 (by kernel_rfl) ctx (c:=bodyC Tryz.f200) (by kernel_rfl) (all1 g3 (all0)) (by kernel_rfl) (by kernel_rfl) (by kernel_rfl) (Nat.le_of_ble_eq_true (by kernel_rfl)) eG (by kernel_rfl) (Nat.le_of_ble_eq_true (by kernel_rfl))
end impl_Plan_do
namespace slices_Clip_Sbool_bool_
def sin:Sig:=⟨[.buf .bool false],[.one (.ref (.own 0))]⟩
def sout:Sig:=⟨[.dead,.buf .bool false],[.one (.ref (.own 1))]⟩
noncomputable def G {β:Type}(S:Sl)(a0:(List Bool))(K:(List Bool)→Option β):Option β:=bif((S.le 0 (a0.length:Int))&&(S.le (a0.length:Int) (a0.length:Int))&&(S.le (a0.length:Int) (a0.length:Int)))then(K (List.take (Int.toNat (a0.length:Int)) a0))else(none)
noncomputable def o:Orac:=⟨172,sin,sout,fun s K=>G sl0 s.1.1 (fun x0=>K ((x0,()),()))⟩
noncomputable def C:Ctx:=⟨tyT,[],[],9,1⟩
theorem ctx:CtxOk Tryz.prog C:=⟨tyOk,all0⟩
theorem eG (β:Type)(s:sin.den)(K:sout.den→Option β):evalFn C Tryz.f172 sin sout s K=o.F s K:=by kernel_rfl
theorem ok:OracOk Tryz.prog o:=fn_ok mixed Tryz.func172 (by kernel_rfl) ctx (c:=bodyC Tryz.f172) (by kernel_rfl) (all0) (by kernel_rfl) (by kernel_rfl) (by kernel_rfl) (Nat.le_of_ble_eq_true (by kernel_rfl)) eG (by kernel_rfl) (Nat.le_of_ble_eq_true (by kernel_rfl))
end slices_Clip_Sbool_bool_
namespace slices_Clip_Sint_int_
def sin:Sig:=⟨[.buf I false],[.one (.ref (.own 0))]⟩
def sout:Sig:=⟨[.dead,.buf I false],[.one (.ref (.own 1))]⟩
noncomputable def G {β:Type}(S:Sl)(a0:(List Int))(K:(List Int)→Option β):Option β:=bif((S.le 0 (a0.length:Int))&&(S.le (a0.length:Int) (a0.length:Int))&&(S.le (a0.length:Int) (a0.length:Int)))then(K (List.take (Int.toNat (a0.length:Int)) a0))else(none)
noncomputable def o:Orac:=⟨113,sin,sout,fun s K=>G sl0 s.1.1 (fun x0=>K ((x0,()),()))⟩
noncomputable def C:Ctx:=⟨tyT,[],[],9,1⟩
theorem ctx:CtxOk Tryz.prog C:=⟨tyOk,all0⟩
theorem eG (β:Type)(s:sin.den)(K:sout.den→Option β):evalFn C Tryz.f113 sin sout s K=o.F s K:=by kernel_rfl
theorem ok:OracOk Tryz.prog o:=fn_ok mixed Tryz.func113 (by kernel_rfl) ctx (c:=bodyC Tryz.f113) (by kernel_rfl) (all0) (by kernel_rfl) (by kernel_rfl) (by kernel_rfl) (Nat.le_of_ble_eq_true (by kernel_rfl)) eG (by kernel_rfl) (Nat.le_of_ble_eq_true (by kernel_rfl))
end slices_Clip_Sint_int_
namespace slices_Clone_Sbool_bool
def sin:Sig:=⟨[],[.one (.val (.sl .bool) false)]⟩
def sout:Sig:=⟨[.buf .bool false],[.one (.ref (.own 0))]⟩
noncomputable def G {β:Type}(S:Sl)(a0:(List Bool))(K:(List Bool)→Option β):Option β:=bif S.fw a0.length then K a0 else none
noncomputable def o:Orac:=⟨173,sin,sout,fun s K=>G sl0 s.2.1 (fun x=>K ((x,()),()))⟩
noncomputable def C:Ctx:=⟨tyT,[],[],8,0⟩
theorem ctx:CtxOk Tryz.prog C:=⟨tyOk,all0⟩
theorem h1 (l:List (Ty.den .bool)):evalFnV C Tryz.f173 sin sout ((),(l,())) [.one (.rk .bool false l)] some=bif fewer l.length then some ((l,()),())else none:=by kernel_rfl
theorem h2:evalFnV C Tryz.f173 sin sout ((),(([]:List (Ty.den .bool)),())) [.one (.rk .bool true [])] some=some ((([]:List (Ty.den .bool)),()),()):=by kernel_rfl
theorem ok:OracOk Tryz.prog o:=clone_ok (t:=.bool) mixed Tryz.func173 (by kernel_rfl) ctx (c:=bodyC Tryz.f173) (by kernel_rfl) (all0) (by kernel_rfl) (by kernel_rfl) (by kernel_rfl) (Nat.le_of_ble_eq_true (by kernel_rfl)) h1 h2
end slices_Clone_Sbool_bool
namespace slices_Clone_Sint_int
def sin:Sig:=⟨[],[.one (.val (.sl I) false)]⟩
def sout:Sig:=⟨[.buf I false],[.one (.ref (.own 0))]⟩
noncomputable def G {β:Type}(S:Sl)(a0:(List Int))(K:(List Int)→Option β):Option β:=bif S.fw a0.length then K a0 else none
noncomputable def o:Orac:=⟨114,sin,sout,fun s K=>G sl0 s.2.1 (fun x=>K ((x,()),()))⟩
noncomputable def C:Ctx:=⟨tyT,[],[],8,0⟩
theorem ctx:CtxOk Tryz.prog C:=⟨tyOk,all0⟩
theorem h1 (l:List (Ty.den I)):evalFnV C Tryz.f114 sin sout ((),(l,())) [.one (.rk I false l)] some=bif fewer l.length then some ((l,()),())else none:=by kernel_rfl
theorem h2:evalFnV C Tryz.f114 sin sout ((),(([]:List (Ty.den I)),())) [.one (.rk I true [])] some=some ((([]:List (Ty.den I)),()),()):=by kernel_rfl
theorem ok:OracOk Tryz.prog o:=clone_ok (t:=I) mixed Tryz.func114 (by kernel_rfl) ctx (c:=bodyC Tryz.f114) (by kernel_rfl) (all0) (by kernel_rfl) (by kernel_rfl) (by kernel_rfl) (Nat.le_of_ble_eq_true (by kernel_rfl)) h1 h2
end slices_Clone_Sint_int
namespace impl_Stripe_copied
def sin:Sig:=⟨[],[.agg [.val I false,.val (.sl I) false,.val (.sl I) false,.val (.sl .bool) false]]⟩
def sout:Sig:=⟨[.buf I false,.buf I false,.buf .bool false],[.agg [.val I false,.ref (.own 0),.ref (.own 1),.ref (.own 2)]]⟩
noncomputable def G {β:Type}(S:Sl)(a0:Int)(a1:(List Int))(a2:(List Int))(a3:(List Bool))(K:(List Int)→(List Int)→(List Bool)→Int→Option β):Option β:=slices_Clone_Sint_int.G S a1 (fun y1=>slices_Clip_Sint_int_.G S y1 (fun y2=>slices_Clone_Sint_int.G S a2 (fun y3=>slices_Clip_Sint_int_.G S y3 (fun y4=>slices_Clone_Sbool_bool.G S a3 (fun y5=>slices_Clip_Sbool_bool_.G S y5 (fun y6=>K y2 y4 y6 a0))))))
noncomputable def o:Orac:=⟨90,sin,sout,fun s K=>G sl0 s.2.1.1 s.2.1.2.1 s.2.1.2.2.1 s.2.1.2.2.2.1 (fun x0 x1 x2 x3=>K ((x0,(x1,(x2,()))),((x3,()),())))⟩
noncomputable def C:Ctx:=⟨tyT,[slices_Clip_Sbool_bool_.o,slices_Clip_Sint_int_.o,slices_Clone_Sbool_bool.o,slices_Clone_Sint_int.o],[],18,0⟩
theorem ctx:CtxOk Tryz.prog C:=⟨tyOk,all1 slices_Clip_Sbool_bool_.ok (all1 slices_Clip_Sint_int_.ok (all1 slices_Clone_Sbool_bool.ok (all1 slices_Clone_Sint_int.ok (all0))))⟩
theorem eG (β:Type)(s:sin.den)(K:sout.den→Option β):evalFn C Tryz.f90 sin sout s K=o.F s K:=by kernel_rfl
theorem ok:OracOk Tryz.prog o:=fn_ok mixed Tryz.func90 (by kernel_rfl) ctx (c:=bodyC Tryz.f90) (by kernel_rfl) (all0) (by kernel_rfl) (by kernel_rfl) (by kernel_rfl) (Nat.le_of_ble_eq_true (by kernel_rfl)) eG (by kernel_rfl) (Nat.le_of_ble_eq_true (by kernel_rfl))
end impl_Stripe_copied
namespace impl_Stripe_put
def sin:Sig:=⟨[.buf I false,.buf I false,.buf .bool false],[.agg [.val I false,.ref (.own 0),.ref (.own 1),.ref (.own 2)],.one (.val I false),.one (.val I false),.one (.val I false)]⟩
def sout:Sig:=⟨[.buf I false,.buf I false,.buf .bool false],[]⟩
noncomputable def G {β:Type}(S:Sl)(a0:(List Int))(a1:(List Int))(a2:(List Bool))(a3:Int)(a4:Int)(a5:Int)(a6:Int)(K:(List Int)→(List Int)→(List Bool)→Option β):Option β:=bif(S.ir a4 a0.length)then(bif(S.ir a4 a1.length)then(bif(S.ir a4 a2.length)then(K (List.set a0 (Int.toNat a4) a5) (List.set a1 (Int.toNat a4) a6) (List.set a2 (Int.toNat a4) true))else(none))else(none))else(none)
noncomputable def o:Orac:=⟨94,sin,sout,fun s K=>G sl0 s.1.1 s.1.2.1 s.1.2.2.1 s.2.1.1 s.2.2.1 s.2.2.2.1 s.2.2.2.2.1 (fun x0 x1 x2=>K ((x0,(x1,(x2,()))),()))⟩
noncomputable def C:Ctx:=⟨tyT,[],[],22,3⟩
theorem ctx:CtxOk Tryz.prog C:=⟨tyOk,all0⟩
theorem eG (β:Type)(s:sin.den)(K:sout.den→Option β):evalFn C Tryz.f94 sin sout s K=o.F s K:=by kernel_rfl
theorem ok:OracOk Tryz.prog o:=fn_ok mixed Tryz.func94 (by kernel_rfl) ctx (c:=bodyC Tryz.f94) (by kernel_rfl) (all0) (by kernel_rfl) (by kernel_rfl) (by kernel_rfl) (Nat.le_of_ble_eq_true (by kernel_rfl)) eG (by kernel_rfl) (Nat.le_of_ble_eq_true (by kernel_rfl))
end impl_Stripe_put
namespace impl_rank
def sin:Sig:=⟨[],[.one (.val (.sl (.arr 4 I)) false)]⟩
def sout:Sig:=⟨[],[.one (.val I false)]⟩
noncomputable def G {β:Type}(S:Sl)(a0:(List (List Int)))(K:Int→Option β):Option β:=impl_spanOf.G S a0 (fun y1 y2=>K (y2.length:Int))
noncomputable def o:Orac:=⟨178,sin,sout,fun s K=>G sl0 s.2.1 (fun x0=>K ((),(x0,())))⟩
noncomputable def C:Ctx:=⟨tyT,[impl_spanOf.o],[],9,0⟩
theorem ctx:CtxOk Tryz.prog C:=⟨tyOk,all1 impl_spanOf.ok (all0)⟩
theorem eG (β:Type)(s:sin.den)(K:sout.den→Option β):evalFn C Tryz.f178 sin sout s K=o.F s K:=by kernel_rfl
theorem ok:OracOk Tryz.prog o:=fn_ok mixed Tryz.func178 (by kernel_rfl) ctx (c:=bodyC Tryz.f178) (by kernel_rfl) (all0) (by kernel_rfl) (by kernel_rfl) (by kernel_rfl) (Nat.le_of_ble_eq_true (by kernel_rfl)) eG (by kernel_rfl) (Nat.le_of_ble_eq_true (by kernel_rfl))
end impl_rank
namespace impl_bears
def sin:Sig:=⟨[],[.one (.val I false),.one (.val (.sl I) false)]⟩
def sout:Sig:=⟨[],[.one (.val .bool false)]⟩
noncomputable def G {β:Type}(S:Sl)(a0:Int)(a1:(List Int))(K:Bool→Option β):Option β:=impl_rowsOf.G S a0 a1 (fun y1=>impl_rank.G S y1 (fun y2=>K (S.eq y2 4)))
noncomputable def o:Orac:=⟨98,sin,sout,fun s K=>G sl0 s.2.1 s.2.2.1 (fun x0=>K ((),(x0,())))⟩
noncomputable def C:Ctx:=⟨tyT,[impl_rank.o,impl_rowsOf.o],[],10,0⟩
theorem ctx:CtxOk Tryz.prog C:=⟨tyOk,all1 impl_rank.ok (all1 impl_rowsOf.ok (all0))⟩
theorem eG (β:Type)(s:sin.den)(K:sout.den→Option β):evalFn C Tryz.f98 sin sout s K=o.F s K:=by kernel_rfl
theorem ok:OracOk Tryz.prog o:=fn_ok mixed Tryz.func98 (by kernel_rfl) ctx (c:=bodyC Tryz.f98) (by kernel_rfl) (all0) (by kernel_rfl) (by kernel_rfl) (by kernel_rfl) (Nat.le_of_ble_eq_true (by kernel_rfl)) eG (by kernel_rfl) (Nat.le_of_ble_eq_true (by kernel_rfl))
end impl_bears
namespace impl_vector_list
def sin:Sig:=⟨[],[.one (.val (.arr 4 I) false)]⟩
def sout:Sig:=⟨[.buf I false],[.one (.ref (.own 0))]⟩
def h3:SS:=⟨[3,7,8],⟨[.buf I false],[.one (.ref (.own 0)),.agg [.val (.arr 4 I) false],.one (.val I false)]⟩⟩
def x3:SS:=⟨[3],⟨[.buf I false],[.one (.ref (.own 0))]⟩⟩
def y3:SS:=⟨[],⟨[],[]⟩⟩
noncomputable def b3 {β:Type}(S:Sl)(L:(List Int)→(List Int)→Int→Option β)(kx:(List Int)→Option β)(kr:Option β)(s0:(List Int))(s1:(List Int))(s2:Int):Option β:=bif(S.lt s2 4)then(bif(S.ir s2 4)then(bif(S.fw (s0 ++ [(List.getD s1 (Int.toNat s2) 0)]).length)then(L (s0 ++ [(List.getD s1 (Int.toNat s2) 0)]) s1 (S.w (s2+1)))else(none))else(none))else(kx s0)
noncomputable def r3 {β:Type}(S:Sl)(n:Nat)(kx:x3.sig.den→Option β)(kr:y3.sig.den→Option β)(s:h3.sig.den):Option β:=rounds (fun L kx kr s=>b3 S (fun x0 x1 x2=>L ((x0,()),((x1,()),(x2,())))) (fun x0=>kx ((x0,()),())) (kr ((),())) s.1.1 s.2.1.1 s.2.2.1) kx kr n s
noncomputable def l3 {β:Type}(S:Sl)(n:Nat)(kx:(List Int)→Option β)(kr:Option β)(s0:(List Int))(s1:(List Int))(s2:Int):Option β:=r3 S n (fun s=>kx s.1.1) (fun s=>kr) ((s0,()),((s1,()),(s2,())))
theorem t3 {β:Type}(S:Sl)(n:Nat)(kx:(List Int)→Option β)(kr:Option β)(s0:(List Int))(s1:(List Int))(s2:Int):l3 S (n+1) kx kr s0 s1 s2=b3 S (l3 S n kx kr) kx kr s0 s1 s2:=by kernel_rfl
noncomputable def G {β:Type}(S:Sl)(a0:(List Int))(K:(List Int)→Option β):Option β:=bif((S.le 0 0)&&(S.le 0 4)&&S.fw (Int.toNat 4))then(l3 S S.n (fun y1=>K y1) none (List.replicate (Int.toNat 0) (0:Int)) a0 0)else(none)
noncomputable def o:Orac:=⟨110,sin,sout,fun s K=>G sl0 s.2.1 (fun x0=>K ((x0,()),()))⟩
noncomputable def C:Ctx:=⟨tyT,[],[⟨3,0,h3,x3,y3,fun s kx kr=>r3 sl0 sl0.n kx kr s⟩],17,0⟩
theorem ctx:CtxOk Tryz.prog C:=⟨tyOk,all0⟩
theorem e3 (β:Type)(L:h3.sig.den→Option β)(kx:x3.sig.den→Option β)(kr:y3.sig.den→Option β)(s:h3.sig.den):evalBody C (nthC (loopsOf (bodyC Tryz.f110)) 0) 0 h3 x3 y3 L kx kr s=b3 sl0 (fun x0 x1 x2=>L ((x0,()),((x1,()),(x2,())))) (fun x0=>kx ((x0,()),())) (kr ((),())) s.1.1 s.2.1.1 s.2.2.1:=by kernel_rfl
theorem g3:LS Tryz.prog C ⟨3,0,h3,x3,y3,fun s kx kr=>r3 sl0 sl0.n kx kr s⟩ (loopsOf (bodyC Tryz.f110)):=LS.at (i:=0) (by kernel_rfl) (loop_good mixed ctx (ctx_nat ctx) (N:=sl0.n) (fun _ _ _ _=>rfl) e3 (all1 (LS.none (by kernel_rfl)) (all0)))
theorem eG (β:Type)(s:sin.den)(K:sout.den→Option β):evalFn C Tryz.f110 sin sout s K=o.F s K:=by kernel_rfl
theorem ok:OracOk Tryz.prog o:=fn_ok mixed Tryz.func110 (by kernel_rfl) ctx (c:=bodyC Tryz.f110) (by kernel_rfl) (all1 g3 (all0)) (by kernel_rfl) (by kernel_rfl) (by kernel_rfl) (Nat.le_of_ble_eq_true (by kernel_rfl)) eG (by kernel_rfl) (Nat.le_of_ble_eq_true (by kernel_rfl))
end impl_vector_list
namespace impl_readData
def sin:Sig:=⟨[],[.one (.val I false),.one (.val (.sl I) false),.one (.val (.sl I) false)]⟩
def sout:Sig:=⟨[.buf I false],[.one (.ref (.own 0)),.one (.val .bool false)]⟩
noncomputable def G {β:Type}(S:Sl)(a0:Int)(a1:(List Int))(a2:(List Int))(K:(List Int)→Bool→Option β):Option β:=impl_bears.G S a0 a2 (fun y1=>bif(!y1)then(K [] false)else(impl_fits.G S a0 a1 a2 (fun y2=>bif(!y2)then(K [] false)else(impl_solve.G S a0 a1 a2 (fun y3=>impl_vector_list.G S y3 (fun y4=>K y4 true))))))
noncomputable def o:Orac:=⟨176,sin,sout,fun s K=>G sl0 s.2.1 s.2.2.1 s.2.2.2.1 (fun x0 x1=>K ((x0,()),(x1,())))⟩
noncomputable def C:Ctx:=⟨tyT,[impl_bears.o,impl_fits.o,impl_solve.o,impl_vector_list.o],[],24,0⟩
theorem ctx:CtxOk Tryz.prog C:=⟨tyOk,all1 impl_bears.ok (all1 impl_fits.ok (all1 impl_solve.ok (all1 impl_vector_list.ok (all0))))⟩
theorem eG (β:Type)(s:sin.den)(K:sout.den→Option β):evalFn C Tryz.f176 sin sout s K=o.F s K:=by kernel_rfl
theorem ok:OracOk Tryz.prog o:=fn_ok mixed Tryz.func176 (by kernel_rfl) ctx (c:=bodyC Tryz.f176) (by kernel_rfl) (all0) (by kernel_rfl) (by kernel_rfl) (by kernel_rfl) (Nat.le_of_ble_eq_true (by kernel_rfl)) eG (by kernel_rfl) (Nat.le_of_ble_eq_true (by kernel_rfl))
end impl_readData
namespace impl_Stripe_read
def sin:Sig:=⟨[],[.agg [.val I false,.val (.sl I) false,.val (.sl I) false,.val (.sl .bool) false]]⟩
def sout:Sig:=⟨[.buf I false],[.one (.ref (.own 0)),.one (.val I false),.one (.val .bool false)]⟩
def h2:SS:=⟨[1,10,11,12],⟨[.box [.val I false,.val (.sl I) false,.val (.sl I) false,.val (.sl .bool) false],.buf I false],[.one (.ref (.ptr 0)),.one (.ref (.own 1)),.one (.val I false),.one (.val I false)]⟩⟩
def x2:SS:=⟨[],⟨[],[]⟩⟩
def y2:SS:=⟨[2,3,4],⟨[.buf I false],[.one (.ref (.own 0)),.one (.val I false),.one (.val .bool false)]⟩⟩
noncomputable def b2 {β:Type}(S:Sl)(L:Int→(List Int)→(List Int)→(List Bool)→(List Int)→Int→Int→Option β)(kx:Option β)(kr:(List Int)→Int→Bool→Option β)(s0:Int)(s1:(List Int))(s2:(List Int))(s3:(List Bool))(s4:(List Int))(s5:Int)(s6:Int):Option β:=bif(S.lt s6 s5)then(bif(S.ir s6 s4.length)then(impl_Stripe_of.G S s0 s1 s2 s3 (List.getD s4 (Int.toNat s6) 0) (fun y1=>impl_readData.G S s0 s1 y1 (fun y2 y3=>bif y3 then(kr y2 (List.getD s4 (Int.toNat s6) 0) true)else(L s0 s1 s2 s3 s4 s5 (S.w (s6+1))))))else(none))else(kx)
noncomputable def r2 {β:Type}(S:Sl)(n:Nat)(kx:x2.sig.den→Option β)(kr:y2.sig.den→Option β)(s:h2.sig.den):Option β:=rounds (fun L kx kr s=>b2 S (fun x0 x1 x2 x3 x4 x5 x6=>L (((x0,(x1,(x2,(x3,())))),(x4,())),(x5,(x6,())))) (kx ((),())) (fun x0 x1 x2=>kr ((x0,()),(x1,(x2,())))) s.1.1.1 s.1.1.2.1 s.1.1.2.2.1 s.1.1.2.2.2.1 s.1.2.1 s.2.1 s.2.2.1) kx kr n s
noncomputable def l2 {β:Type}(S:Sl)(n:Nat)(kx:Option β)(kr:(List Int)→Int→Bool→Option β)(s0:Int)(s1:(List Int))(s2:(List Int))(s3:(List Bool))(s4:(List Int))(s5:Int)(s6:Int):Option β:=r2 S n (fun s=>kx) (fun s=>kr s.1.1 s.2.1 s.2.2.1) (((s0,(s1,(s2,(s3,())))),(s4,())),(s5,(s6,())))
theorem t2 {β:Type}(S:Sl)(n:Nat)(kx:Option β)(kr:(List Int)→Int→Bool→Option β)(s0:Int)(s1:(List Int))(s2:(List Int))(s3:(List Bool))(s4:(List Int))(s5:Int)(s6:Int):l2 S (n+1) kx kr s0 s1 s2 s3 s4 s5 s6=b2 S (l2 S n kx kr) kx kr s0 s1 s2 s3 s4 s5 s6:=by kernel_rfl
noncomputable def G {β:Type}(S:Sl)(a0:Int)(a1:(List Int))(a2:(List Int))(a3:(List Bool))(K:(List Int)→Int→Bool→Option β):Option β:=impl_Stripe_versions.G S a0 a1 a2 a3 (fun y1=>l2 S S.n (K [] 0 false) (fun y2 y3 y4=>K y2 y3 y4) a0 a1 a2 a3 y1 (y1.length:Int) 0)
noncomputable def o:Orac:=⟨96,sin,sout,fun s K=>G sl0 s.2.1.1 s.2.1.2.1 s.2.1.2.2.1 s.2.1.2.2.2.1 (fun x0 x1 x2=>K ((x0,()),(x1,(x2,()))))⟩
noncomputable def C:Ctx:=⟨tyT,[impl_Stripe_of.o,impl_Stripe_versions.o,impl_readData.o],[⟨2,0,h2,x2,y2,fun s kx kr=>r2 sl0 sl0.n kx kr s⟩],31,0⟩
theorem ctx:CtxOk Tryz.prog C:=⟨tyOk,all1 impl_Stripe_of.ok (all1 impl_Stripe_versions.ok (all1 impl_readData.ok (all0)))⟩
theorem e2 (β:Type)(L:h2.sig.den→Option β)(kx:x2.sig.den→Option β)(kr:y2.sig.den→Option β)(s:h2.sig.den):evalBody C (nthC (loopsOf (bodyC Tryz.f96)) 0) 0 h2 x2 y2 L kx kr s=b2 sl0 (fun x0 x1 x2 x3 x4 x5 x6=>L (((x0,(x1,(x2,(x3,())))),(x4,())),(x5,(x6,())))) (kx ((),())) (fun x0 x1 x2=>kr ((x0,()),(x1,(x2,())))) s.1.1.1 s.1.1.2.1 s.1.1.2.2.1 s.1.1.2.2.2.1 s.1.2.1 s.2.1 s.2.2.1:=by kernel_rfl
theorem g2:LS Tryz.prog C ⟨2,0,h2,x2,y2,fun s kx kr=>r2 sl0 sl0.n kx kr s⟩ (loopsOf (bodyC Tryz.f96)):=LS.at (i:=0) (by kernel_rfl) (loop_good mixed ctx (ctx_nat ctx) (N:=sl0.n) (fun _ _ _ _=>rfl) e2 (all1 (LS.none (by kernel_rfl)) (all0)))
theorem eG (β:Type)(s:sin.den)(K:sout.den→Option β):evalFn C Tryz.f96 sin sout s K=o.F s K:=by kernel_rfl
theorem ok:OracOk Tryz.prog o:=fn_ok mixed Tryz.func96 (by kernel_rfl) ctx (c:=bodyC Tryz.f96) (by kernel_rfl) (all1 g2 (all0)) (by kernel_rfl) (by kernel_rfl) (by kernel_rfl) (Nat.le_of_ble_eq_true (by kernel_rfl)) eG (by kernel_rfl) (Nat.le_of_ble_eq_true (by kernel_rfl))
end impl_Stripe_read
namespace impl_shardOk
def sin:Sig:=⟨[],[.one (.val I false)]⟩
def sout:Sig:=⟨[],[.one (.val .bool false)]⟩
noncomputable def G {β:Type}(S:Sl)(a0:Int)(K:Bool→Option β):Option β:=impl_within.G S a0 0 7 (fun y1=>K y1)
noncomputable def o:Orac:=⟨116,sin,sout,fun s K=>G sl0 s.2.1 (fun x0=>K ((),(x0,())))⟩
noncomputable def C:Ctx:=⟨tyT,[impl_within.o],[],5,0⟩
theorem ctx:CtxOk Tryz.prog C:=⟨tyOk,all1 impl_within.ok (all0)⟩
theorem eG (β:Type)(s:sin.den)(K:sout.den→Option β):evalFn C Tryz.f116 sin sout s K=o.F s K:=by kernel_rfl
theorem ok:OracOk Tryz.prog o:=fn_ok mixed Tryz.func116 (by kernel_rfl) ctx (c:=bodyC Tryz.f116) (by kernel_rfl) (all0) (by kernel_rfl) (by kernel_rfl) (by kernel_rfl) (Nat.le_of_ble_eq_true (by kernel_rfl)) eG (by kernel_rfl) (Nat.le_of_ble_eq_true (by kernel_rfl))
end impl_shardOk
namespace impl_Plan_formed
def sin:Sig:=⟨[],[.agg [.val I false,.val (.sl I) false,.val (.sl I) false]]⟩
def sout:Sig:=⟨[],[.one (.val .bool false)]⟩
def h4:SS:=⟨[1,26,27,28],⟨[.box [.val I false,.val (.sl I) false,.val (.sl I) false]],[.one (.ref (.ptr 0)),.one (.val (.sl I) false),.one (.val I false),.one (.val I false)]⟩⟩
def x4:SS:=⟨[],⟨[],[]⟩⟩
def y4:SS:=⟨[2],⟨[],[.one (.val .bool false)]⟩⟩
noncomputable def b4 {β:Type}(S:Sl)(L:Int→(List Int)→(List Int)→(List Int)→Int→Int→Option β)(kx:Option β)(kr:Bool→Option β)(s0:Int)(s1:(List Int))(s2:(List Int))(s3:(List Int))(s4:Int)(s5:Int):Option β:=bif(S.lt s5 s4)then(bif(S.ir s5 s3.length)then(impl_shardOk.G S (List.getD s3 (Int.toNat s5) 0) (fun y1=>bif(!y1)then(kr false)else(bif(S.eq (List.getD s3 (Int.toNat s5) 0) s0)then(kr false)else(bif(S.lt 0 s5)then(bif(S.ir (S.w (s5-1)) s1.length)then(bif(S.le (List.getD s3 (Int.toNat s5) 0) (List.getD s1 (Int.toNat (S.w (s5-1))) 0))then(kr false)else(bif(S.ir s5 s2.length)then(impl_within.G S (List.getD s2 (Int.toNat s5) 0) 1 30 (fun y2=>bif(!y2)then(kr false)else(L s0 s1 s2 s3 s4 (S.w (s5+1)))))else(none)))else(none))else(bif(S.ir s5 s2.length)then(impl_within.G S (List.getD s2 (Int.toNat s5) 0) 1 30 (fun y3=>bif(!y3)then(kr false)else(L s0 s1 s2 s3 s4 (S.w (s5+1)))))else(none))))))else(none))else(kx)
noncomputable def r4 {β:Type}(S:Sl)(n:Nat)(kx:x4.sig.den→Option β)(kr:y4.sig.den→Option β)(s:h4.sig.den):Option β:=rounds (fun L kx kr s=>b4 S (fun x0 x1 x2 x3 x4 x5=>L (((x0,(x1,(x2,()))),()),(x3,(x4,(x5,()))))) (kx ((),())) (fun x0=>kr ((),(x0,()))) s.1.1.1 s.1.1.2.1 s.1.1.2.2.1 s.2.1 s.2.2.1 s.2.2.2.1) kx kr n s
noncomputable def l4 {β:Type}(S:Sl)(n:Nat)(kx:Option β)(kr:Bool→Option β)(s0:Int)(s1:(List Int))(s2:(List Int))(s3:(List Int))(s4:Int)(s5:Int):Option β:=r4 S n (fun s=>kx) (fun s=>kr s.2.1) (((s0,(s1,(s2,()))),()),(s3,(s4,(s5,()))))
theorem t4 {β:Type}(S:Sl)(n:Nat)(kx:Option β)(kr:Bool→Option β)(s0:Int)(s1:(List Int))(s2:(List Int))(s3:(List Int))(s4:Int)(s5:Int):l4 S (n+1) kx kr s0 s1 s2 s3 s4 s5=b4 S (l4 S n kx kr) kx kr s0 s1 s2 s3 s4 s5:=by kernel_rfl
noncomputable def G {β:Type}(S:Sl)(a0:Int)(a1:(List Int))(a2:(List Int))(K:Bool→Option β):Option β:=impl_shardOk.G S a0 (fun y1=>bif(!y1)then(K false)else(impl_within.G S (a1.length:Int) 1 4 (fun y2=>bif(!y2)then(K false)else(bif(!S.eq (a2.length:Int) (a1.length:Int))then(K false)else(l4 S S.n (K true) (fun y3=>K y3) a0 a1 a2 a1 (a1.length:Int) 0)))))
noncomputable def o:Orac:=⟨251,sin,sout,fun s K=>G sl0 s.2.1.1 s.2.1.2.1 s.2.1.2.2.1 (fun x0=>K ((),(x0,())))⟩
noncomputable def C:Ctx:=⟨tyT,[impl_shardOk.o,impl_within.o],[⟨4,0,h4,x4,y4,fun s kx kr=>r4 sl0 sl0.n kx kr s⟩],66,0⟩
theorem ctx:CtxOk Tryz.prog C:=⟨tyOk,all1 impl_shardOk.ok (all1 impl_within.ok (all0))⟩
theorem e4 (β:Type)(L:h4.sig.den→Option β)(kx:x4.sig.den→Option β)(kr:y4.sig.den→Option β)(s:h4.sig.den):evalBody C (nthC (loopsOf (bodyC Tryz.f251)) 0) 0 h4 x4 y4 L kx kr s=b4 sl0 (fun x0 x1 x2 x3 x4 x5=>L (((x0,(x1,(x2,()))),()),(x3,(x4,(x5,()))))) (kx ((),())) (fun x0=>kr ((),(x0,()))) s.1.1.1 s.1.1.2.1 s.1.1.2.2.1 s.2.1 s.2.2.1 s.2.2.2.1:=by kernel_rfl
theorem g4:LS Tryz.prog C ⟨4,0,h4,x4,y4,fun s kx kr=>r4 sl0 sl0.n kx kr s⟩ (loopsOf (bodyC Tryz.f251)):=LS.at (i:=0) (by kernel_rfl) (loop_good mixed ctx (ctx_nat ctx) (N:=sl0.n) (fun _ _ _ _=>rfl) e4 (all1 (LS.none (by kernel_rfl)) (all0)))
theorem eG (β:Type)(s:sin.den)(K:sout.den→Option β):evalFn C Tryz.f251 sin sout s K=o.F s K:=by kernel_rfl
theorem ok:OracOk Tryz.prog o:=fn_ok mixed Tryz.func251 (by kernel_rfl) ctx (c:=bodyC Tryz.f251) (by kernel_rfl) (all1 g4 (all0)) (by kernel_rfl) (by kernel_rfl) (by kernel_rfl) (Nat.le_of_ble_eq_true (by kernel_rfl)) eG (by kernel_rfl) (Nat.le_of_ble_eq_true (by kernel_rfl))
end impl_Plan_formed
namespace impl_span_by_
def sin:Sig:=⟨[.box [.ref (.own 1),.ref (.own 2)],.buf (.pair (.arr 4 I) (.pair (.arr 8 I) .unit)) false,.buf I false],[.one (.ref (.ptr 0)),.agg [.val (.arr 4 I) false]]⟩
def sout:Sig:=⟨[.box [.ref (.own 1),.ref (.own 2)],.buf (.pair (.arr 4 I) (.pair (.arr 8 I) .unit)) false,.buf I false],[.agg [.val (.arr 8 I) false],.one (.val .bool false)]⟩
def h3:SS:=⟨[4,6,12],⟨[.box [.ref (.own 1),.ref (.own 2)],.buf (.pair (.arr 4 I) (.pair (.arr 8 I) .unit)) false,.buf I false,.box [.val (.arr 8 I) false],.box [.val (.arr 4 I) false,.val (.arr 8 I) false]],[.one (.ref (.ptr 3)),.one (.ref (.ptr 4)),.one (.val I false)]⟩⟩
def x3:SS:=⟨[4,6],⟨[.box [.ref (.own 1),.ref (.own 2)],.buf (.pair (.arr 4 I) (.pair (.arr 8 I) .unit)) false,.buf I false,.box [.val (.arr 8 I) false],.box [.val (.arr 4 I) false,.val (.arr 8 I) false]],[.one (.ref (.ptr 3)),.one (.ref (.ptr 4))]⟩⟩
def y3:SS:=⟨[],⟨[],[]⟩⟩
noncomputable def b3 {β:Type}(S:Sl)(L:(List ((List Int)×((List Int)×Unit)))→(List Int)→(List Int)→(List Int)→(List Int)→Int→Option β)(kx:(List ((List Int)×((List Int)×Unit)))→(List Int)→(List Int)→(List Int)→(List Int)→Option β)(kr:Option β)(s0:(List ((List Int)×((List Int)×Unit))))(s1:(List Int))(s2:(List Int))(s3:(List Int))(s4:(List Int))(s5:Int):Option β:=bif(S.lt s5 8)then(bif(S.ir s5 8)then(impl_elementOf.G S (S.w (0-(List.getD s4 (Int.toNat s5) 0))) (fun y1=>bif(S.ir s5 8)then(L s0 s1 s2 s3 (List.set s4 (Int.toNat s5) y1) (S.w (s5+1)))else(none)))else(none))else(kx s0 s1 s2 s3 s4)
noncomputable def r3 {β:Type}(S:Sl)(n:Nat)(kx:x3.sig.den→Option β)(kr:y3.sig.den→Option β)(s:h3.sig.den):Option β:=rounds (fun L kx kr s=>b3 S (fun x0 x1 x2 x3 x4 x5=>L (((),(x0,(x1,((x2,()),((x3,(x4,())),()))))),(x5,()))) (fun x0 x1 x2 x3 x4=>kx (((),(x0,(x1,((x2,()),((x3,(x4,())),()))))),())) (kr ((),())) s.1.2.1 s.1.2.2.1 s.1.2.2.2.1.1 s.1.2.2.2.2.1.1 s.1.2.2.2.2.1.2.1 s.2.1) kx kr n s
noncomputable def l3 {β:Type}(S:Sl)(n:Nat)(kx:(List ((List Int)×((List Int)×Unit)))→(List Int)→(List Int)→(List Int)→(List Int)→Option β)(kr:Option β)(s0:(List ((List Int)×((List Int)×Unit))))(s1:(List Int))(s2:(List Int))(s3:(List Int))(s4:(List Int))(s5:Int):Option β:=r3 S n (fun s=>kx s.1.2.1 s.1.2.2.1 s.1.2.2.2.1.1 s.1.2.2.2.2.1.1 s.1.2.2.2.2.1.2.1) (fun s=>kr) (((),(s0,(s1,((s2,()),((s3,(s4,())),()))))),(s5,()))
theorem t3 {β:Type}(S:Sl)(n:Nat)(kx:(List ((List Int)×((List Int)×Unit)))→(List Int)→(List Int)→(List Int)→(List Int)→Option β)(kr:Option β)(s0:(List ((List Int)×((List Int)×Unit))))(s1:(List Int))(s2:(List Int))(s3:(List Int))(s4:(List Int))(s5:Int):l3 S (n+1) kx kr s0 s1 s2 s3 s4 s5=b3 S (l3 S n kx kr) kx kr s0 s1 s2 s3 s4 s5:=by kernel_rfl
noncomputable def G {β:Type}(S:Sl)(a0:(List ((List Int)×((List Int)×Unit))))(a1:(List Int))(a2:(List Int))(K:(List ((List Int)×((List Int)×Unit)))→(List Int)→(List Int)→Bool→Option β):Option β:=impl_span_less__.G S a0 a1 a2 (List.replicate 8 0) (fun y1 y2 y3 y4=>l3 S S.n (fun y5 y6 y7 y8 y9=>K y5 y6 y9 (S.lq y8 [0,0,0,0])) none y1 y2 (List.replicate 8 0) y3 y4 0)
noncomputable def o:Orac:=⟨250,sin,sout,fun s K=>G sl0 s.1.2.1 s.1.2.2.1 s.2.1.1 (fun x0 x1 x2 x3=>K (((),(x0,(x1,()))),((x2,()),(x3,()))))⟩
noncomputable def C:Ctx:=⟨tyT,[impl_elementOf.o,impl_span_less__.o],[⟨3,0,h3,x3,y3,fun s kx kr=>r3 sl0 sl0.n kx kr s⟩],31,3⟩
theorem ctx:CtxOk Tryz.prog C:=⟨tyOk,all1 impl_elementOf.ok (all1 impl_span_less__.ok (all0))⟩
theorem e3 (β:Type)(L:h3.sig.den→Option β)(kx:x3.sig.den→Option β)(kr:y3.sig.den→Option β)(s:h3.sig.den):evalBody C (nthC (loopsOf (bodyC Tryz.f250)) 0) 0 h3 x3 y3 L kx kr s=b3 sl0 (fun x0 x1 x2 x3 x4 x5=>L (((),(x0,(x1,((x2,()),((x3,(x4,())),()))))),(x5,()))) (fun x0 x1 x2 x3 x4=>kx (((),(x0,(x1,((x2,()),((x3,(x4,())),()))))),())) (kr ((),())) s.1.2.1 s.1.2.2.1 s.1.2.2.2.1.1 s.1.2.2.2.2.1.1 s.1.2.2.2.2.1.2.1 s.2.1:=by kernel_rfl
theorem g3:LS Tryz.prog C ⟨3,0,h3,x3,y3,fun s kx kr=>r3 sl0 sl0.n kx kr s⟩ (loopsOf (bodyC Tryz.f250)):=LS.at (i:=0) (by kernel_rfl) (loop_good mixed ctx (ctx_nat ctx) (N:=sl0.n) (fun _ _ _ _=>rfl) e3 (all1 (LS.none (by kernel_rfl)) (all0)))
theorem eG (β:Type)(s:sin.den)(K:sout.den→Option β):evalFn C Tryz.f250 sin sout s K=o.F s K:=by kernel_rfl
theorem ok:OracOk Tryz.prog o:=fn_ok mixed Tryz.func250 (by kernel_rfl) ctx (c:=bodyC Tryz.f250) (by kernel_rfl) (all1 g3 (all0)) (by kernel_rfl) (by kernel_rfl) (by kernel_rfl) (Nat.le_of_ble_eq_true (by kernel_rfl)) eG (by kernel_rfl) (Nat.le_of_ble_eq_true (by kernel_rfl))
end impl_span_by_
namespace impl_planBy
def sin:Sig:=⟨[],[.one (.val I false),.one (.val I false),.one (.val (.sl I) false)]⟩
def sout:Sig:=⟨[.buf I false,.buf I false],[.agg [.val I false,.ref (.own 0),.ref (.own 1)],.one (.val .bool false)]⟩
def h4:SS:=⟨[6,8,9,10,32,33],⟨[.box [.val I false,.val (.sl I) true,.val (.sl I) true],.box [.val (.arr 8 I) false],.box [.val I false,.ref (.own 3),.ref (.own 4)],.buf I false,.buf I false],[.one (.ref (.ptr 0)),.one (.ref (.ptr 1)),.one (.val .bool false),.one (.ref (.ptr 2)),.one (.val I false),.one (.val I false)]⟩⟩
def x4:SS:=⟨[6,9,10],⟨[.box [.val I false,.val (.sl I) true,.val (.sl I) true],.box [.val I false,.ref (.own 2),.ref (.own 3)],.buf I false,.buf I false],[.one (.ref (.ptr 0)),.one (.val .bool false),.one (.ref (.ptr 1))]⟩⟩
def y4:SS:=⟨[],⟨[],[]⟩⟩
noncomputable def b4 {β:Type}(S:Sl)(L:Int→(List Int)→(List Int)→(List Int)→Int→(List Int)→(List Int)→Bool→Int→Int→Option β)(kx:Int→(List Int)→(List Int)→Int→(List Int)→(List Int)→Bool→Option β)(kr:Option β)(s0:Int)(s1:(List Int))(s2:(List Int))(s3:(List Int))(s4:Int)(s5:(List Int))(s6:(List Int))(s7:Bool)(s8:Int)(s9:Int):Option β:=bif(S.lt s9 s8)then(bif(S.ir s9 8)then(bif(S.fw (s6 ++ [(List.getD s3 (Int.toNat s9) 0)]).length)then(L s0 s1 s2 s3 s4 s5 (s6 ++ [(List.getD s3 (Int.toNat s9) 0)]) s7 s8 (S.w (s9+1)))else(none))else(none))else(kx s0 s1 s2 s4 s5 s6 s7)
noncomputable def r4 {β:Type}(S:Sl)(n:Nat)(kx:x4.sig.den→Option β)(kr:y4.sig.den→Option β)(s:h4.sig.den):Option β:=rounds (fun L kx kr s=>b4 S (fun x0 x1 x2 x3 x4 x5 x6 x7 x8 x9=>L (((x0,(x1,(x2,()))),((x3,()),((x4,()),(x5,(x6,()))))),(x7,(x8,(x9,()))))) (fun x0 x1 x2 x3 x4 x5 x6=>kx (((x0,(x1,(x2,()))),((x3,()),(x4,(x5,())))),(x6,()))) (kr ((),())) s.1.1.1 s.1.1.2.1 s.1.1.2.2.1 s.1.2.1.1 s.1.2.2.1.1 s.1.2.2.2.1 s.1.2.2.2.2.1 s.2.1 s.2.2.1 s.2.2.2.1) kx kr n s
noncomputable def l4 {β:Type}(S:Sl)(n:Nat)(kx:Int→(List Int)→(List Int)→Int→(List Int)→(List Int)→Bool→Option β)(kr:Option β)(s0:Int)(s1:(List Int))(s2:(List Int))(s3:(List Int))(s4:Int)(s5:(List Int))(s6:(List Int))(s7:Bool)(s8:Int)(s9:Int):Option β:=r4 S n (fun s=>kx s.1.1.1 s.1.1.2.1 s.1.1.2.2.1 s.1.2.1.1 s.1.2.2.1 s.1.2.2.2.1 s.2.1) (fun s=>kr) (((s0,(s1,(s2,()))),((s3,()),((s4,()),(s5,(s6,()))))),(s7,(s8,(s9,()))))
theorem t4 {β:Type}(S:Sl)(n:Nat)(kx:Int→(List Int)→(List Int)→Int→(List Int)→(List Int)→Bool→Option β)(kr:Option β)(s0:Int)(s1:(List Int))(s2:(List Int))(s3:(List Int))(s4:Int)(s5:(List Int))(s6:(List Int))(s7:Bool)(s8:Int)(s9:Int):l4 S (n+1) kx kr s0 s1 s2 s3 s4 s5 s6 s7 s8 s9=b4 S (l4 S n kx kr) kx kr s0 s1 s2 s3 s4 s5 s6 s7 s8 s9:=by kernel_rfl
noncomputable def G {β:Type}(S:Sl)(a0:Int)(a1:Int)(a2:(List Int))(K:(List Int)→(List Int)→Int→Bool→Option β):Option β:=impl_rowsOf.G S a0 a2 (fun y1=>impl_spanOf.G S y1 (fun y2 y3=>impl_rowOf.G S a0 a1 (fun y4=>impl_span_by_.G S y2 y3 y4 (fun y5 y6 y7 y8=>slices_Clone_Sint_int.G S a2 (fun y9=>slices_Clip_Sint_int_.G S y9 (fun y10=>bif((S.le 0 0)&&(S.le 0 (a2.length:Int))&&S.fw (Int.toNat (a2.length:Int)))then(l4 S S.n (fun y11 y12 y13 y14 y15 y16 y17=>bif y17 then(impl_Plan_formed.G S y14 y15 y16 (fun y18=>K y15 y16 y14 y18))else(K y15 y16 y14 false)) none 0 [] [] y7 a1 y10 (List.replicate (Int.toNat 0) (0:Int)) y8 (a2.length:Int) 0)else(none)))))))
noncomputable def o:Orac:=⟨225,sin,sout,fun s K=>G sl0 s.2.1 s.2.2.1 s.2.2.2.1 (fun x0 x1 x2 x3=>K ((x0,(x1,())),((x2,()),(x3,()))))⟩
noncomputable def C:Ctx:=⟨tyT,[impl_Plan_formed.o,impl_rowOf.o,impl_rowsOf.o,impl_spanOf.o,impl_span_by_.o,slices_Clip_Sint_int_.o,slices_Clone_Sint_int.o],[⟨4,0,h4,x4,y4,fun s kx kr=>r4 sl0 sl0.n kx kr s⟩],51,0⟩
theorem ctx:CtxOk Tryz.prog C:=⟨tyOk,all1 impl_Plan_formed.ok (all1 impl_rowOf.ok (all1 impl_rowsOf.ok (all1 impl_spanOf.ok (all1 impl_span_by_.ok (all1 slices_Clip_Sint_int_.ok (all1 slices_Clone_Sint_int.ok (all0)))))))⟩
theorem e4 (β:Type)(L:h4.sig.den→Option β)(kx:x4.sig.den→Option β)(kr:y4.sig.den→Option β)(s:h4.sig.den):evalBody C (nthC (loopsOf (bodyC Tryz.f225)) 0) 0 h4 x4 y4 L kx kr s=b4 sl0 (fun x0 x1 x2 x3 x4 x5 x6 x7 x8 x9=>L (((x0,(x1,(x2,()))),((x3,()),((x4,()),(x5,(x6,()))))),(x7,(x8,(x9,()))))) (fun x0 x1 x2 x3 x4 x5 x6=>kx (((x0,(x1,(x2,()))),((x3,()),(x4,(x5,())))),(x6,()))) (kr ((),())) s.1.1.1 s.1.1.2.1 s.1.1.2.2.1 s.1.2.1.1 s.1.2.2.1.1 s.1.2.2.2.1 s.1.2.2.2.2.1 s.2.1 s.2.2.1 s.2.2.2.1:=by kernel_rfl
theorem g4:LS Tryz.prog C ⟨4,0,h4,x4,y4,fun s kx kr=>r4 sl0 sl0.n kx kr s⟩ (loopsOf (bodyC Tryz.f225)):=LS.at (i:=0) (by kernel_rfl) (loop_good mixed ctx (ctx_nat ctx) (N:=sl0.n) (fun _ _ _ _=>rfl) e4 (all1 (LS.none (by kernel_rfl)) (all0)))
theorem eG (β:Type)(s:sin.den)(K:sout.den→Option β):evalFn C Tryz.f225 sin sout s K=o.F s K:=by kernel_rfl
theorem ok:OracOk Tryz.prog o:=fn_ok mixed Tryz.func225 (by kernel_rfl) ctx (c:=bodyC Tryz.f225) (by kernel_rfl) (all1 g4 (all0)) (by kernel_rfl) (by kernel_rfl) (by kernel_rfl) (Nat.le_of_ble_eq_true (by kernel_rfl)) eG (by kernel_rfl) (Nat.le_of_ble_eq_true (by kernel_rfl))
end impl_planBy
namespace impl_planOf_2
def sin:Sig:=⟨[.buf I false,.box [.val I false],.box [.val I false],.box [.val I false,.val (.sl I) false,.val (.sl I) false]],[.one (.ref (.own 0)),.one (.ref (.ptr 1)),.one (.ref (.ptr 2)),.one (.ref (.ptr 3))]⟩
def sout:Sig:=⟨[.buf I false,.box [.val I false],.box [.val I false],.box [.val I false,.val (.sl I) false,.val (.sl I) false]],[.one (.val .bool false)]⟩
noncomputable def G {β:Type}(S:Sl)(a0:(List Int))(a1:Int)(a2:Int)(a3:Int)(a4:(List Int))(a5:(List Int))(K:(List Int)→Int→Int→Int→(List Int)→(List Int)→Bool→Option β):Option β:=impl_planBy.G S a1 a2 a0 (fun y1 y2 y3 y4=>bif y4 then(K a0 a1 a2 y3 y1 y2 y4)else(K a0 a1 a2 a3 a4 a5 y4))
noncomputable def o:Orac:=⟨224,sin,sout,fun s K=>G sl0 s.1.1 s.1.2.1.1 s.1.2.2.1.1 s.1.2.2.2.1.1 s.1.2.2.2.1.2.1 s.1.2.2.2.1.2.2.1 (fun x0 x1 x2 x3 x4 x5 x6=>K ((x0,((x1,()),((x2,()),((x3,(x4,(x5,()))),())))),(x6,())))⟩
noncomputable def C:Ctx:=⟨tyT,[impl_planBy.o],[],18,4⟩
theorem ctx:CtxOk Tryz.prog C:=⟨tyOk,all1 impl_planBy.ok (all0)⟩
theorem eG (β:Type)(s:sin.den)(K:sout.den→Option β):evalFn C Tryz.f224 sin sout s K=o.F s K:=by kernel_rfl
theorem ok:OracOk Tryz.prog o:=fn_ok mixed Tryz.func224 (by kernel_rfl) ctx (c:=bodyC Tryz.f224) (by kernel_rfl) (all0) (by kernel_rfl) (by kernel_rfl) (by kernel_rfl) (Nat.le_of_ble_eq_true (by kernel_rfl)) eG (by kernel_rfl) (Nat.le_of_ble_eq_true (by kernel_rfl))
end impl_planOf_2
namespace impl_chosen_1_
def sin:Sig:=⟨[.box [.ref (.own 5)],.box [.val I false],.box [.ref (.fn 224 [6,7,8])],.box [.ref (.own 9)],.box [.ref (.fn 196 [0,1,2,3,4])],.buf I false,.box [.val I false],.box [.val I false],.box [.val I false,.val (.sl I) false,.val (.sl I) false],.buf I false],[.one (.val I false),.one (.ref (.ptr 0)),.one (.ref (.ptr 1)),.one (.ref (.ptr 2)),.one (.ref (.ptr 3)),.one (.ref (.ptr 4))]⟩
def sout:Sig:=⟨[.box [.ref (.own 10)],.box [.val I false],.box [.ref (.fn 224 [6,7,8])],.box [.ref (.own 9)],.box [.ref (.fn 196 [0,1,2,3,4])],.dead,.box [.val I false],.box [.val I false],.box [.val I false,.val (.sl I) false,.val (.sl I) false],.buf I false,.buf I false],[.one (.val .bool false)]⟩
def h4:SS:=⟨[1,4,5,8],⟨[.box [.ref (.own 10)],.box [.val I false],.box [.ref (.fn 224 [6,7,8])],.box [.ref (.own 9)],.box [.ref (.fn 196 [0,1,2,3,4])],.dead,.box [.val I false],.box [.val I false],.box [.val I false,.val (.sl I) false,.val (.sl I) false],.buf I false,.buf I false],[.one (.ref (.ptr 0)),.one (.ref (.ptr 3)),.one (.ref (.ptr 4)),.one (.val I false)]⟩⟩
def x4:SS:=⟨[],⟨[.box [.ref (.own 10)],.box [.val I false],.box [.ref (.fn 224 [6,7,8])],.box [.ref (.own 9)],.box [.ref (.fn 196 [0,1,2,3,4])],.dead,.box [.val I false],.box [.val I false],.box [.val I false,.val (.sl I) false,.val (.sl I) false],.buf I false,.buf I false],[]⟩⟩
def y4:SS:=⟨[7],⟨[.box [.ref (.own 10)],.box [.val I false],.box [.ref (.fn 224 [6,7,8])],.box [.ref (.own 9)],.box [.ref (.fn 196 [0,1,2,3,4])],.dead,.box [.val I false],.box [.val I false],.box [.val I false,.val (.sl I) false,.val (.sl I) false],.buf I false,.buf I false],[.one (.val .bool false)]⟩⟩
noncomputable def b4 {β:Type}(S:Sl)(R:Int→(List Int)→Int→Int→Int→(List Int)→(List Int)→(List Int)→Int→(Int→Int→Int→Int→(List Int)→(List Int)→(List Int)→(List Int)→Bool→Option β)→Option β)(L:Int→Int→Int→Int→(List Int)→(List Int)→(List Int)→(List Int)→Int→Option β)(kx:Int→Int→Int→Int→(List Int)→(List Int)→(List Int)→(List Int)→Option β)(kr:Int→Int→Int→Int→(List Int)→(List Int)→(List Int)→(List Int)→Bool→Option β)(s0:Int)(s1:Int)(s2:Int)(s3:Int)(s4:(List Int))(s5:(List Int))(s6:(List Int))(s7:(List Int))(s8:Int):Option β:=bif(S.lt s8 (s6.length:Int))then(bif(S.ir s8 s6.length)then(bif(S.fw (s7 ++ [(List.getD s6 (Int.toNat s8) 0)]).length)then(R s0 (s7 ++ [(List.getD s6 (Int.toNat s8) 0)]) s1 s2 s3 s4 s5 s6 (S.w (s8+1)) (fun y1 y2 y3 y4 y5 y6 y7 y8 y9=>bif y9 then(kr y1 y2 y3 y4 y5 y6 y7 y8 true)else(bif((S.le 0 (S.w ((y8.length:Int)-1)))&&(S.le (S.w ((y8.length:Int)-1)) (y8.length:Int))&&(S.le (y8.length:Int) (y8.length:Int)))then(L y1 y2 y3 y4 y5 y6 y7 (List.take (Int.toNat (S.w ((y8.length:Int)-1))) y8) (S.w (s8+1)))else(none))))else(none))else(none))else(kx s0 s1 s2 s3 s4 s5 s6 s7)
noncomputable def r4 {β:Type}(S:Sl)(R:Int→(List Int)→Int→Int→Int→(List Int)→(List Int)→(List Int)→Int→(Int→Int→Int→Int→(List Int)→(List Int)→(List Int)→(List Int)→Bool→Option β)→Option β)(n:Nat)(kx:x4.sig.den→Option β)(kr:y4.sig.den→Option β)(s:h4.sig.den):Option β:=rounds (fun L kx kr s=>b4 S R (fun x0 x1 x2 x3 x4 x5 x6 x7 x8=>L (((),((x0,()),((),((),((),((x1,()),((x2,()),((x3,(x4,(x5,()))),(x6,(x7,())))))))))),(x8,()))) (fun x0 x1 x2 x3 x4 x5 x6 x7=>kx (((),((x0,()),((),((),((),((x1,()),((x2,()),((x3,(x4,(x5,()))),(x6,(x7,())))))))))),())) (fun x0 x1 x2 x3 x4 x5 x6 x7 x8=>kr (((),((x0,()),((),((),((),((x1,()),((x2,()),((x3,(x4,(x5,()))),(x6,(x7,())))))))))),(x8,()))) s.1.2.1.1 s.1.2.2.2.2.2.1.1 s.1.2.2.2.2.2.2.1.1 s.1.2.2.2.2.2.2.2.1.1 s.1.2.2.2.2.2.2.2.1.2.1 s.1.2.2.2.2.2.2.2.1.2.2.1 s.1.2.2.2.2.2.2.2.2.1 s.1.2.2.2.2.2.2.2.2.2.1 s.2.1) kx kr n s
noncomputable def l4 {β:Type}(S:Sl)(R:Int→(List Int)→Int→Int→Int→(List Int)→(List Int)→(List Int)→Int→(Int→Int→Int→Int→(List Int)→(List Int)→(List Int)→(List Int)→Bool→Option β)→Option β)(n:Nat)(kx:Int→Int→Int→Int→(List Int)→(List Int)→(List Int)→(List Int)→Option β)(kr:Int→Int→Int→Int→(List Int)→(List Int)→(List Int)→(List Int)→Bool→Option β)(s0:Int)(s1:Int)(s2:Int)(s3:Int)(s4:(List Int))(s5:(List Int))(s6:(List Int))(s7:(List Int))(s8:Int):Option β:=r4 S R n (fun s=>kx s.1.2.1.1 s.1.2.2.2.2.2.1.1 s.1.2.2.2.2.2.2.1.1 s.1.2.2.2.2.2.2.2.1.1 s.1.2.2.2.2.2.2.2.1.2.1 s.1.2.2.2.2.2.2.2.1.2.2.1 s.1.2.2.2.2.2.2.2.2.1 s.1.2.2.2.2.2.2.2.2.2.1) (fun s=>kr s.1.2.1.1 s.1.2.2.2.2.2.1.1 s.1.2.2.2.2.2.2.1.1 s.1.2.2.2.2.2.2.2.1.1 s.1.2.2.2.2.2.2.2.1.2.1 s.1.2.2.2.2.2.2.2.1.2.2.1 s.1.2.2.2.2.2.2.2.2.1 s.1.2.2.2.2.2.2.2.2.2.1 s.2.1) (((),((s0,()),((),((),((),((s1,()),((s2,()),((s3,(s4,(s5,()))),(s6,(s7,())))))))))),(s8,()))
theorem t4 {β:Type}(S:Sl)(R:Int→(List Int)→Int→Int→Int→(List Int)→(List Int)→(List Int)→Int→(Int→Int→Int→Int→(List Int)→(List Int)→(List Int)→(List Int)→Bool→Option β)→Option β)(n:Nat)(kx:Int→Int→Int→Int→(List Int)→(List Int)→(List Int)→(List Int)→Option β)(kr:Int→Int→Int→Int→(List Int)→(List Int)→(List Int)→(List Int)→Bool→Option β)(s0:Int)(s1:Int)(s2:Int)(s3:Int)(s4:(List Int))(s5:(List Int))(s6:(List Int))(s7:(List Int))(s8:Int):l4 S R (n+1) kx kr s0 s1 s2 s3 s4 s5 s6 s7 s8=b4 S R (l4 S R n kx kr) kx kr s0 s1 s2 s3 s4 s5 s6 s7 s8:=by kernel_rfl
noncomputable def B {β:Type}(S:Sl)(R:Int→(List Int)→Int→Int→Int→(List Int)→(List Int)→(List Int)→Int→(Int→Int→Int→Int→(List Int)→(List Int)→(List Int)→(List Int)→Bool→Option β)→Option β)(a0:Int)(a1:(List Int))(a2:Int)(a3:Int)(a4:Int)(a5:(List Int))(a6:(List Int))(a7:(List Int))(a8:Int)(K:Int→Int→Int→Int→(List Int)→(List Int)→(List Int)→(List Int)→Bool→Option β):Option β:=bif(S.eq (a1.length:Int) a0)then(impl_planOf_2.G S a1 a2 a3 a4 a5 a6 (fun y1 y2 y3 y4 y5 y6 y7=>K a0 y2 y3 y4 y5 y6 a7 y1 y7))else(l4 S R S.n (fun y8 y9 y10 y11 y12 y13 y14 y15=>K y8 y9 y10 y11 y12 y13 y14 y15 false) (fun y16 y17 y18 y19 y20 y21 y22 y23 y24=>K y16 y17 y18 y19 y20 y21 y22 y23 y24) a0 a2 a3 a4 a5 a6 a7 a1 a8)
noncomputable def Gn {β:Type}(S:Sl)(n:Nat):Int→(List Int)→Int→Int→Int→(List Int)→(List Int)→(List Int)→Int→(Int→Int→Int→Int→(List Int)→(List Int)→(List Int)→(List Int)→Bool→Option β)→Option β:=Nat.rec (motive:=fun _=>Int→(List Int)→Int→Int→Int→(List Int)→(List Int)→(List Int)→Int→(Int→Int→Int→Int→(List Int)→(List Int)→(List Int)→(List Int)→Bool→Option β)→Option β) (fun _ _ _ _ _ _ _ _ _ _=>none) (fun _ R=>B S R) n
noncomputable def G {β:Type}(S:Sl)(a0:Int)(a1:(List Int))(a2:Int)(a3:Int)(a4:Int)(a5:(List Int))(a6:(List Int))(a7:(List Int))(a8:Int)(K:Int→Int→Int→Int→(List Int)→(List Int)→(List Int)→(List Int)→Bool→Option β):Option β:=Gn S S.n a0 a1 a2 a3 a4 a5 a6 a7 a8 K
theorem tG {β:Type}(S:Sl)(n:Nat)(a0:Int)(a1:(List Int))(a2:Int)(a3:Int)(a4:Int)(a5:(List Int))(a6:(List Int))(a7:(List Int))(a8:Int)(K:Int→Int→Int→Int→(List Int)→(List Int)→(List Int)→(List Int)→Bool→Option β):Gn S (n+1) a0 a1 a2 a3 a4 a5 a6 a7 a8 K=B S (Gn S n) a0 a1 a2 a3 a4 a5 a6 a7 a8 K:=by kernel_rfl
noncomputable def o:Orac:=⟨196,sin,sout,fun s K=>G sl0 s.1.2.1.1 s.1.2.2.2.2.2.1 s.1.2.2.2.2.2.2.1.1 s.1.2.2.2.2.2.2.2.1.1 s.1.2.2.2.2.2.2.2.2.1.1 s.1.2.2.2.2.2.2.2.2.1.2.1 s.1.2.2.2.2.2.2.2.2.1.2.2.1 s.1.2.2.2.2.2.2.2.2.2.1 s.2.1 (fun x0 x1 x2 x3 x4 x5 x6 x7 x8=>K (((),((x0,()),((),((),((),((x1,()),((x2,()),((x3,(x4,(x5,()))),(x6,(x7,())))))))))),(x8,())))⟩
noncomputable def oN (n:Nat):Orac:=⟨196,sin,sout,fun s K=>Gn sl0 n s.1.2.1.1 s.1.2.2.2.2.2.1 s.1.2.2.2.2.2.2.1.1 s.1.2.2.2.2.2.2.2.1.1 s.1.2.2.2.2.2.2.2.2.1.1 s.1.2.2.2.2.2.2.2.2.1.2.1 s.1.2.2.2.2.2.2.2.2.1.2.2.1 s.1.2.2.2.2.2.2.2.2.2.1 s.2.1 (fun x0 x1 x2 x3 x4 x5 x6 x7 x8=>K (((),((x0,()),((),((),((),((x1,()),((x2,()),((x3,(x4,(x5,()))),(x6,(x7,())))))))))),(x8,())))⟩
noncomputable def C (n:Nat):Ctx:=⟨tyT,[oN n,impl_planOf_2.o],[⟨4,0,h4,x4,y4,fun s kx kr=>r4 sl0 (Gn sl0 n) sl0.n kx kr s⟩],39,10⟩
theorem ctx (n:Nat)(hn:OracOk Tryz.prog (oN n)):CtxOk Tryz.prog (C n):=⟨tyOk,all1 hn (all1 impl_planOf_2.ok (all0))⟩
theorem e4 (n:Nat) (β:Type)(L:h4.sig.den→Option β)(kx:x4.sig.den→Option β)(kr:y4.sig.den→Option β)(s:h4.sig.den):evalBody (C n) (nthC (loopsOf (bodyC Tryz.f196)) 0) 0 h4 x4 y4 L kx kr s=b4 sl0 (Gn sl0 n) (fun x0 x1 x2 x3 x4 x5 x6 x7 x8=>L (((),((x0,()),((),((),((),((x1,()),((x2,()),((x3,(x4,(x5,()))),(x6,(x7,())))))))))),(x8,()))) (fun x0 x1 x2 x3 x4 x5 x6 x7=>kx (((),((x0,()),((),((),((),((x1,()),((x2,()),((x3,(x4,(x5,()))),(x6,(x7,())))))))))),())) (fun x0 x1 x2 x3 x4 x5 x6 x7 x8=>kr (((),((x0,()),((),((),((),((x1,()),((x2,()),((x3,(x4,(x5,()))),(x6,(x7,())))))))))),(x8,()))) s.1.2.1.1 s.1.2.2.2.2.2.1.1 s.1.2.2.2.2.2.2.1.1 s.1.2.2.2.2.2.2.2.1.1 s.1.2.2.2.2.2.2.2.1.2.1 s.1.2.2.2.2.2.2.2.1.2.2.1 s.1.2.2.2.2.2.2.2.2.1 s.1.2.2.2.2.2.2.2.2.2.1 s.2.1:=by kernel_rfl
theorem g4 (n:Nat)(hn:OracOk Tryz.prog (oN n)):LS Tryz.prog (C n) ⟨4,0,h4,x4,y4,fun s kx kr=>r4 sl0 (Gn sl0 n) sl0.n kx kr s⟩ (loopsOf (bodyC Tryz.f196)):=LS.at (i:=0) (by kernel_rfl) (loop_good mixed (ctx n hn) (ctx_nat (ctx n hn)) (N:=sl0.n) (fun _ _ _ _=>rfl) (e4 n) (all1 (LS.none (by kernel_rfl)) (all0)))
theorem eG (n:Nat) (β:Type)(s:sin.den)(K:sout.den→Option β):evalFn (C n) Tryz.f196 sin sout s K=(oN (n+1)).F s K:=by kernel_rfl
theorem ok0:OracOk Tryz.prog (oN 0):=none_ok (o:=oN 0) Tryz.func196 (by kernel_rfl) (by kernel_rfl) (by kernel_rfl) (Nat.le_of_ble_eq_true (by kernel_rfl)) (fun _ _ _=>by kernel_rfl)
theorem ok1 (n:Nat)(hn:OracOk Tryz.prog (oN n)):OracOk Tryz.prog (oN (n+1)):=fn_ok mixed Tryz.func196 (by kernel_rfl) (ctx n hn) (c:=bodyC Tryz.f196) (by kernel_rfl) (all1 (g4 n hn) (all0)) (by kernel_rfl) (by kernel_rfl) (by kernel_rfl) (Nat.le_of_ble_eq_true (by kernel_rfl)) (eG n) (by kernel_rfl) (Nat.le_of_ble_eq_true (by kernel_rfl))
theorem okN (n:Nat):OracOk Tryz.prog (oN n):=Nat.rec ok0 (fun n hn=>ok1 n hn) n
theorem ok:OracOk Tryz.prog o:=okN sl0.n
end impl_chosen_1_
namespace impl_chosen_
def sin:Sig:=⟨[.buf I false,.box [.val I false],.box [.val I false],.box [.val I false,.val (.sl I) false,.val (.sl I) false]],[.one (.ref (.own 0)),.one (.val I false),.one (.ref (.fn 224 [1,2,3]))]⟩
def sout:Sig:=⟨[.buf I false,.box [.val I false],.box [.val I false],.box [.val I false,.val (.sl I) false,.val (.sl I) false]],[.one (.val .bool false)]⟩
noncomputable def G {β:Type}(S:Sl)(a0:(List Int))(a1:Int)(a2:Int)(a3:Int)(a4:(List Int))(a5:(List Int))(a6:Int)(K:(List Int)→Int→Int→Int→(List Int)→(List Int)→Bool→Option β):Option β:=bif((S.le 0 0)&&(S.le 0 a6)&&S.fw (Int.toNat a6))then(impl_chosen_1_.G S a6 (List.replicate (Int.toNat 0) (0:Int)) a1 a2 a3 a4 a5 a0 0 (fun y1 y2 y3 y4 y5 y6 y7 y8 y9=>K y7 y2 y3 y4 y5 y6 y9))else(none)
noncomputable def o:Orac:=⟨138,sin,sout,fun s K=>G sl0 s.1.1 s.1.2.1.1 s.1.2.2.1.1 s.1.2.2.2.1.1 s.1.2.2.2.1.2.1 s.1.2.2.2.1.2.2.1 s.2.1 (fun x0 x1 x2 x3 x4 x5 x6=>K ((x0,((x1,()),((x2,()),((x3,(x4,(x5,()))),())))),(x6,())))⟩
noncomputable def C:Ctx:=⟨tyT,[impl_chosen_1_.o],[],14,4⟩
theorem ctx:CtxOk Tryz.prog C:=⟨tyOk,all1 impl_chosen_1_.ok (all0)⟩
theorem eG (β:Type)(s:sin.den)(K:sout.den→Option β):evalFn C Tryz.f138 sin sout s K=o.F s K:=by kernel_rfl
theorem ok:OracOk Tryz.prog o:=fn_ok mixed Tryz.func138 (by kernel_rfl) ctx (c:=bodyC Tryz.f138) (by kernel_rfl) (all0) (by kernel_rfl) (by kernel_rfl) (by kernel_rfl) (Nat.le_of_ble_eq_true (by kernel_rfl)) eG (by kernel_rfl) (Nat.le_of_ble_eq_true (by kernel_rfl))
end impl_chosen_
namespace impl_planOf_1
def sin:Sig:=⟨[.box [.val I false]],[.one (.val I false),.one (.ref (.ptr 0))]⟩
def sout:Sig:=⟨[.box [.val I false]],[.one (.val .bool false)]⟩
noncomputable def G {β:Type}(S:Sl)(a0:Int)(a1:Int)(K:Int→Bool→Option β):Option β:=K a0 (S.eq a1 a0)
noncomputable def o:Orac:=⟨223,sin,sout,fun s K=>G sl0 s.1.1.1 s.2.1 (fun x0 x1=>K (((x0,()),()),(x1,())))⟩
noncomputable def C:Ctx:=⟨tyT,[],[],7,1⟩
theorem ctx:CtxOk Tryz.prog C:=⟨tyOk,all0⟩
theorem eG (β:Type)(s:sin.den)(K:sout.den→Option β):evalFn C Tryz.f223 sin sout s K=o.F s K:=by kernel_rfl
theorem ok:OracOk Tryz.prog o:=fn_ok mixed Tryz.func223 (by kernel_rfl) ctx (c:=bodyC Tryz.f223) (by kernel_rfl) (all0) (by kernel_rfl) (by kernel_rfl) (by kernel_rfl) (Nat.le_of_ble_eq_true (by kernel_rfl)) eG (by kernel_rfl) (Nat.le_of_ble_eq_true (by kernel_rfl))
end impl_planOf_1
namespace slices_IndexFunc_Sint_int___
def sin:Sig:=⟨[.buf I false,.box [.val I false]],[.one (.ref (.own 0)),.one (.ref (.fn 223 [1]))]⟩
def sout:Sig:=⟨[.buf I false,.box [.val I false]],[.one (.val I false)]⟩
def h2:SS:=⟨[0,1,7,8],⟨[.buf I false,.box [.val I false]],[.one (.ref (.own 0)),.one (.ref (.fn 223 [1])),.one (.val I false),.one (.val I false)]⟩⟩
def x2:SS:=⟨[],⟨[.buf I false,.box [.val I false]],[]⟩⟩
def y2:SS:=⟨[4],⟨[.buf I false,.box [.val I false]],[.one (.val I false)]⟩⟩
noncomputable def b2 {β:Type}(S:Sl)(L:(List Int)→Int→Int→Int→Option β)(kx:(List Int)→Int→Option β)(kr:(List Int)→Int→Int→Option β)(s0:(List Int))(s1:Int)(s2:Int)(s3:Int):Option β:=bif(S.lt s3 s2)then(bif(S.ir s3 s0.length)then(impl_planOf_1.G S s1 (List.getD s0 (Int.toNat s3) 0) (fun y1 y2=>bif y2 then(kr s0 y1 s3)else(L s0 y1 s2 (S.w (s3+1)))))else(none))else(kx s0 s1)
noncomputable def r2 {β:Type}(S:Sl)(n:Nat)(kx:x2.sig.den→Option β)(kr:y2.sig.den→Option β)(s:h2.sig.den):Option β:=rounds (fun L kx kr s=>b2 S (fun x0 x1 x2 x3=>L ((x0,((x1,()),())),(x2,(x3,())))) (fun x0 x1=>kx ((x0,((x1,()),())),())) (fun x0 x1 x2=>kr ((x0,((x1,()),())),(x2,()))) s.1.1 s.1.2.1.1 s.2.1 s.2.2.1) kx kr n s
noncomputable def l2 {β:Type}(S:Sl)(n:Nat)(kx:(List Int)→Int→Option β)(kr:(List Int)→Int→Int→Option β)(s0:(List Int))(s1:Int)(s2:Int)(s3:Int):Option β:=r2 S n (fun s=>kx s.1.1 s.1.2.1.1) (fun s=>kr s.1.1 s.1.2.1.1 s.2.1) ((s0,((s1,()),())),(s2,(s3,())))
theorem t2 {β:Type}(S:Sl)(n:Nat)(kx:(List Int)→Int→Option β)(kr:(List Int)→Int→Int→Option β)(s0:(List Int))(s1:Int)(s2:Int)(s3:Int):l2 S (n+1) kx kr s0 s1 s2 s3=b2 S (l2 S n kx kr) kx kr s0 s1 s2 s3:=by kernel_rfl
noncomputable def G {β:Type}(S:Sl)(a0:(List Int))(a1:Int)(K:(List Int)→Int→Int→Option β):Option β:=l2 S S.n (fun y1 y2=>K y1 y2 (-1)) (fun y3 y4 y5=>K y3 y4 y5) a0 a1 (a0.length:Int) 0
noncomputable def o:Orac:=⟨201,sin,sout,fun s K=>G sl0 s.1.1 s.1.2.1.1 (fun x0 x1 x2=>K ((x0,((x1,()),())),(x2,())))⟩
noncomputable def C:Ctx:=⟨tyT,[impl_planOf_1.o],[⟨2,0,h2,x2,y2,fun s kx kr=>r2 sl0 sl0.n kx kr s⟩],19,2⟩
theorem ctx:CtxOk Tryz.prog C:=⟨tyOk,all1 impl_planOf_1.ok (all0)⟩
theorem e2 (β:Type)(L:h2.sig.den→Option β)(kx:x2.sig.den→Option β)(kr:y2.sig.den→Option β)(s:h2.sig.den):evalBody C (nthC (loopsOf (bodyC Tryz.f201)) 0) 0 h2 x2 y2 L kx kr s=b2 sl0 (fun x0 x1 x2 x3=>L ((x0,((x1,()),())),(x2,(x3,())))) (fun x0 x1=>kx ((x0,((x1,()),())),())) (fun x0 x1 x2=>kr ((x0,((x1,()),())),(x2,()))) s.1.1 s.1.2.1.1 s.2.1 s.2.2.1:=by kernel_rfl
theorem g2:LS Tryz.prog C ⟨2,0,h2,x2,y2,fun s kx kr=>r2 sl0 sl0.n kx kr s⟩ (loopsOf (bodyC Tryz.f201)):=LS.at (i:=0) (by kernel_rfl) (loop_good mixed ctx (ctx_nat ctx) (N:=sl0.n) (fun _ _ _ _=>rfl) e2 (all1 (LS.none (by kernel_rfl)) (all0)))
theorem eG (β:Type)(s:sin.den)(K:sout.den→Option β):evalFn C Tryz.f201 sin sout s K=o.F s K:=by kernel_rfl
theorem ok:OracOk Tryz.prog o:=fn_ok mixed Tryz.func201 (by kernel_rfl) ctx (c:=bodyC Tryz.f201) (by kernel_rfl) (all1 g2 (all0)) (by kernel_rfl) (by kernel_rfl) (by kernel_rfl) (Nat.le_of_ble_eq_true (by kernel_rfl)) eG (by kernel_rfl) (Nat.le_of_ble_eq_true (by kernel_rfl))
end slices_IndexFunc_Sint_int___
namespace slices_DeleteFunc_Sint_int_
def sin:Sig:=⟨[.buf I false,.box [.val I false]],[.one (.ref (.own 0)),.one (.ref (.fn 223 [1]))]⟩
def sout:Sig:=⟨[.dead,.box [.val I false],.buf I false],[.one (.ref (.own 2))]⟩
def h5:SS:=⟨[0,1,5,6],⟨[.buf I false,.box [.val I false]],[.one (.ref (.own 0)),.one (.ref (.fn 223 [1])),.one (.val I false),.one (.val I false)]⟩⟩
def x5:SS:=⟨[0,5],⟨[.buf I false,.box [.val I false]],[.one (.ref (.own 0)),.one (.val I false)]⟩⟩
def y5:SS:=⟨[],⟨[],[]⟩⟩
noncomputable def b5 {β:Type}(S:Sl)(L:(List Int)→Int→Int→Int→Option β)(kx:(List Int)→Int→Int→Option β)(kr:Option β)(s0:(List Int))(s1:Int)(s2:Int)(s3:Int):Option β:=bif(S.lt s3 (s0.length:Int))then(bif(S.ir s3 s0.length)then(impl_planOf_1.G S s1 (List.getD s0 (Int.toNat s3) 0) (fun y1 y2=>bif(!y2)then(bif(S.ir s2 s0.length)then(L (List.set s0 (Int.toNat s2) (List.getD s0 (Int.toNat s3) 0)) y1 (S.w (s2+1)) (S.w (s3+1)))else(none))else(L s0 y1 s2 (S.w (s3+1)))))else(none))else(kx s0 s1 s2)
noncomputable def r5 {β:Type}(S:Sl)(n:Nat)(kx:x5.sig.den→Option β)(kr:y5.sig.den→Option β)(s:h5.sig.den):Option β:=rounds (fun L kx kr s=>b5 S (fun x0 x1 x2 x3=>L ((x0,((x1,()),())),(x2,(x3,())))) (fun x0 x1 x2=>kx ((x0,((x1,()),())),(x2,()))) (kr ((),())) s.1.1 s.1.2.1.1 s.2.1 s.2.2.1) kx kr n s
noncomputable def l5 {β:Type}(S:Sl)(n:Nat)(kx:(List Int)→Int→Int→Option β)(kr:Option β)(s0:(List Int))(s1:Int)(s2:Int)(s3:Int):Option β:=r5 S n (fun s=>kx s.1.1 s.1.2.1.1 s.2.1) (fun s=>kr) ((s0,((s1,()),())),(s2,(s3,())))
theorem t5 {β:Type}(S:Sl)(n:Nat)(kx:(List Int)→Int→Int→Option β)(kr:Option β)(s0:(List Int))(s1:Int)(s2:Int)(s3:Int):l5 S (n+1) kx kr s0 s1 s2 s3=b5 S (l5 S n kx kr) kx kr s0 s1 s2 s3:=by kernel_rfl
noncomputable def G {β:Type}(S:Sl)(a0:(List Int))(a1:Int)(K:Int→(List Int)→Option β):Option β:=slices_IndexFunc_Sint_int___.G S a0 a1 (fun y1 y2 y3=>bif(S.eq y3 (-1))then(K y2 y1)else(l5 S S.n (fun y4 y5 y6=>bif((S.le 0 y6)&&(S.le y6 (y4.length:Int))&&(S.le (y4.length:Int) (y4.length:Int))&&(S.le (y4.length:Int) (y4.length:Int)))then(bif((S.le 0 y6)&&(S.le y6 ((clr 0 y4 (Int.toNat y6) (Int.toNat (y4.length:Int))).length:Int))&&(S.le ((clr 0 y4 (Int.toNat y6) (Int.toNat (y4.length:Int))).length:Int) ((clr 0 y4 (Int.toNat y6) (Int.toNat (y4.length:Int))).length:Int)))then(K y5 (List.take (Int.toNat y6) (clr 0 y4 (Int.toNat y6) (Int.toNat (y4.length:Int)))))else(none))else(none)) none y1 y2 y3 (S.w (y3+1))))
noncomputable def o:Orac:=⟨184,sin,sout,fun s K=>G sl0 s.1.1 s.1.2.1.1 (fun x0 x1=>K (((x0,()),(x1,())),()))⟩
noncomputable def C:Ctx:=⟨tyT,[impl_planOf_1.o,slices_IndexFunc_Sint_int___.o],[⟨5,0,h5,x5,y5,fun s kx kr=>r5 sl0 sl0.n kx kr s⟩],42,2⟩
theorem ctx:CtxOk Tryz.prog C:=⟨tyOk,all1 impl_planOf_1.ok (all1 slices_IndexFunc_Sint_int___.ok (all0))⟩
theorem e5 (β:Type)(L:h5.sig.den→Option β)(kx:x5.sig.den→Option β)(kr:y5.sig.den→Option β)(s:h5.sig.den):evalBody C (nthC (loopsOf (bodyC Tryz.f184)) 0) 0 h5 x5 y5 L kx kr s=b5 sl0 (fun x0 x1 x2 x3=>L ((x0,((x1,()),())),(x2,(x3,())))) (fun x0 x1 x2=>kx ((x0,((x1,()),())),(x2,()))) (kr ((),())) s.1.1 s.1.2.1.1 s.2.1 s.2.2.1:=by kernel_rfl
theorem g5:LS Tryz.prog C ⟨5,0,h5,x5,y5,fun s kx kr=>r5 sl0 sl0.n kx kr s⟩ (loopsOf (bodyC Tryz.f184)):=LS.at (i:=0) (by kernel_rfl) (loop_good mixed ctx (ctx_nat ctx) (N:=sl0.n) (fun _ _ _ _=>rfl) e5 (all1 (LS.none (by kernel_rfl)) (all0)))
theorem eG (β:Type)(s:sin.den)(K:sout.den→Option β):evalFn C Tryz.f184 sin sout s K=o.F s K:=by kernel_rfl
theorem ok:OracOk Tryz.prog o:=fn_ok mixed Tryz.func184 (by kernel_rfl) ctx (c:=bodyC Tryz.f184) (by kernel_rfl) (all1 g5 (all0)) (by kernel_rfl) (by kernel_rfl) (by kernel_rfl) (Nat.le_of_ble_eq_true (by kernel_rfl)) eG (by kernel_rfl) (Nat.le_of_ble_eq_true (by kernel_rfl))
end slices_DeleteFunc_Sint_int_
namespace impl_planOf_
def sin:Sig:=⟨[.buf I false],[.one (.val I false),.one (.val I false),.one (.ref (.own 0))]⟩
def sout:Sig:=⟨[.buf I false],[.agg [.val I false,.val (.sl I) false,.val (.sl I) false],.one (.val .bool false)]⟩
def h4:SS:=⟨[3,4,6,8,9,10],⟨[.buf I false,.box [.val I false],.box [.val I false],.box [.val I false,.val (.sl I) true,.val (.sl I) true],.buf I false,.box [.val I false,.val (.sl I) false,.val (.sl I) false]],[.one (.ref (.ptr 1)),.one (.ref (.ptr 2)),.one (.ref (.ptr 3)),.one (.ref (.own 4)),.one (.ref (.ptr 5)),.one (.val I false)]⟩⟩
def x4:SS:=⟨[6],⟨[.buf I false,.box [.val I false,.val (.sl I) true,.val (.sl I) true]],[.one (.ref (.ptr 1))]⟩⟩
def y4:SS:=⟨[6,7],⟨[.buf I false,.box [.val I false,.val (.sl I) false,.val (.sl I) false]],[.one (.ref (.ptr 1)),.one (.val .bool false)]⟩⟩
noncomputable def b4 {β:Type}(S:Sl)(L:(List Int)→Int→Int→Int→(List Int)→(List Int)→(List Int)→Int→(List Int)→(List Int)→Int→Option β)(kx:(List Int)→Int→(List Int)→(List Int)→Option β)(kr:(List Int)→Int→(List Int)→(List Int)→Bool→Option β)(s0:(List Int))(s1:Int)(s2:Int)(s3:Int)(s4:(List Int))(s5:(List Int))(s6:(List Int))(s7:Int)(s8:(List Int))(s9:(List Int))(s10:Int):Option β:=bif(S.le s10 4)then(impl_chosen_.G S s6 s1 s2 s7 s8 s9 s10 (fun y1 y2 y3 y4 y5 y6 y7=>bif y7 then(kr s0 y4 y5 y6 true)else(L s0 y2 y3 s3 s4 s5 y1 y4 y5 y6 (S.w (s10+1)))))else(kx s0 s3 s4 s5)
noncomputable def r4 {β:Type}(S:Sl)(n:Nat)(kx:x4.sig.den→Option β)(kr:y4.sig.den→Option β)(s:h4.sig.den):Option β:=rounds (fun L kx kr s=>b4 S (fun x0 x1 x2 x3 x4 x5 x6 x7 x8 x9 x10=>L ((x0,((x1,()),((x2,()),((x3,(x4,(x5,()))),(x6,((x7,(x8,(x9,()))),())))))),(x10,()))) (fun x0 x1 x2 x3=>kx ((x0,((x1,(x2,(x3,()))),())),())) (fun x0 x1 x2 x3 x4=>kr ((x0,((x1,(x2,(x3,()))),())),(x4,()))) s.1.1 s.1.2.1.1 s.1.2.2.1.1 s.1.2.2.2.1.1 s.1.2.2.2.1.2.1 s.1.2.2.2.1.2.2.1 s.1.2.2.2.2.1 s.1.2.2.2.2.2.1.1 s.1.2.2.2.2.2.1.2.1 s.1.2.2.2.2.2.1.2.2.1 s.2.1) kx kr n s
noncomputable def l4 {β:Type}(S:Sl)(n:Nat)(kx:(List Int)→Int→(List Int)→(List Int)→Option β)(kr:(List Int)→Int→(List Int)→(List Int)→Bool→Option β)(s0:(List Int))(s1:Int)(s2:Int)(s3:Int)(s4:(List Int))(s5:(List Int))(s6:(List Int))(s7:Int)(s8:(List Int))(s9:(List Int))(s10:Int):Option β:=r4 S n (fun s=>kx s.1.1 s.1.2.1.1 s.1.2.1.2.1 s.1.2.1.2.2.1) (fun s=>kr s.1.1 s.1.2.1.1 s.1.2.1.2.1 s.1.2.1.2.2.1 s.2.1) ((s0,((s1,()),((s2,()),((s3,(s4,(s5,()))),(s6,((s7,(s8,(s9,()))),())))))),(s10,()))
theorem t4 {β:Type}(S:Sl)(n:Nat)(kx:(List Int)→Int→(List Int)→(List Int)→Option β)(kr:(List Int)→Int→(List Int)→(List Int)→Bool→Option β)(s0:(List Int))(s1:Int)(s2:Int)(s3:Int)(s4:(List Int))(s5:(List Int))(s6:(List Int))(s7:Int)(s8:(List Int))(s9:(List Int))(s10:Int):l4 S (n+1) kx kr s0 s1 s2 s3 s4 s5 s6 s7 s8 s9 s10=b4 S (l4 S n kx kr) kx kr s0 s1 s2 s3 s4 s5 s6 s7 s8 s9 s10:=by kernel_rfl
noncomputable def G {β:Type}(S:Sl)(a0:(List Int))(a1:Int)(a2:Int)(K:(List Int)→Int→(List Int)→(List Int)→Bool→Option β):Option β:=slices_Clone_Sint_int.G S a0 (fun y1=>slices_DeleteFunc_Sint_int_.G S y1 a2 (fun y2 y3=>l4 S S.n (fun y4 y5 y6 y7=>K y4 0 [] [] false) (fun y8 y9 y10 y11 y12=>K y8 y9 y10 y11 y12) a0 a1 y2 0 [] [] y3 0 [] [] 1))
noncomputable def o:Orac:=⟨199,sin,sout,fun s K=>G sl0 s.1.1 s.2.1 s.2.2.1 (fun x0 x1 x2 x3 x4=>K ((x0,()),((x1,(x2,(x3,()))),(x4,()))))⟩
noncomputable def C:Ctx:=⟨tyT,[impl_chosen_.o,slices_Clone_Sint_int.o,slices_DeleteFunc_Sint_int_.o],[⟨4,0,h4,x4,y4,fun s kx kr=>r4 sl0 sl0.n kx kr s⟩],27,1⟩
theorem ctx:CtxOk Tryz.prog C:=⟨tyOk,all1 impl_chosen_.ok (all1 slices_Clone_Sint_int.ok (all1 slices_DeleteFunc_Sint_int_.ok (all0)))⟩
theorem e4 (β:Type)(L:h4.sig.den→Option β)(kx:x4.sig.den→Option β)(kr:y4.sig.den→Option β)(s:h4.sig.den):evalBody C (nthC (loopsOf (bodyC Tryz.f199)) 0) 0 h4 x4 y4 L kx kr s=b4 sl0 (fun x0 x1 x2 x3 x4 x5 x6 x7 x8 x9 x10=>L ((x0,((x1,()),((x2,()),((x3,(x4,(x5,()))),(x6,((x7,(x8,(x9,()))),())))))),(x10,()))) (fun x0 x1 x2 x3=>kx ((x0,((x1,(x2,(x3,()))),())),())) (fun x0 x1 x2 x3 x4=>kr ((x0,((x1,(x2,(x3,()))),())),(x4,()))) s.1.1 s.1.2.1.1 s.1.2.2.1.1 s.1.2.2.2.1.1 s.1.2.2.2.1.2.1 s.1.2.2.2.1.2.2.1 s.1.2.2.2.2.1 s.1.2.2.2.2.2.1.1 s.1.2.2.2.2.2.1.2.1 s.1.2.2.2.2.2.1.2.2.1 s.2.1:=by kernel_rfl
theorem g4:LS Tryz.prog C ⟨4,0,h4,x4,y4,fun s kx kr=>r4 sl0 sl0.n kx kr s⟩ (loopsOf (bodyC Tryz.f199)):=LS.at (i:=0) (by kernel_rfl) (loop_good mixed ctx (ctx_nat ctx) (N:=sl0.n) (fun _ _ _ _=>rfl) e4 (all1 (LS.none (by kernel_rfl)) (all0)))
theorem eG (β:Type)(s:sin.den)(K:sout.den→Option β):evalFn C Tryz.f199 sin sout s K=o.F s K:=by kernel_rfl
theorem ok:OracOk Tryz.prog o:=fn_ok mixed Tryz.func199 (by kernel_rfl) ctx (c:=bodyC Tryz.f199) (by kernel_rfl) (all1 g4 (all0)) (by kernel_rfl) (by kernel_rfl) (by kernel_rfl) (Nat.le_of_ble_eq_true (by kernel_rfl)) eG (by kernel_rfl) (Nat.le_of_ble_eq_true (by kernel_rfl))
end impl_planOf_
namespace impl_Stripe_mended
def sin:Sig:=⟨[],[.agg [.val I false,.val (.sl I) false,.val (.sl I) false,.val (.sl .bool) false],.one (.val I false)]⟩
def sout:Sig:=⟨[.buf I false,.buf I false,.buf .bool false],[.agg [.val I false,.ref (.own 0),.ref (.own 1),.ref (.own 2)],.one (.val .bool false)]⟩
noncomputable def G {β:Type}(S:Sl)(a0:Int)(a1:(List Int))(a2:(List Int))(a3:(List Bool))(a4:Int)(K:(List Int)→(List Int)→(List Bool)→Int→Bool→Option β):Option β:=impl_Stripe_copied.G S a0 a1 a2 a3 (fun y1 y2 y3 y4=>impl_Stripe_read.G S a0 a1 a2 a3 (fun y5 y6 y7=>bif(!y7)then(K y1 y2 y3 y4 false)else(impl_Stripe_of.G S a0 a1 a2 a3 y6 (fun y8=>impl_planOf_.G S y8 a0 a4 (fun y9 y10 y11 y12 y13=>bif(!y13)then(K y1 y2 y3 y4 false)else(impl_Plan_do.G S y10 y11 y12 a1 (fun y14=>impl_Stripe_put.G S y1 y2 y3 y4 a4 y14 y6 (fun y15 y16 y17=>K y15 y16 y17 y4 true))))))))
noncomputable def o:Orac:=⟨142,sin,sout,fun s K=>G sl0 s.2.1.1 s.2.1.2.1 s.2.1.2.2.1 s.2.1.2.2.2.1 s.2.2.1 (fun x0 x1 x2 x3 x4=>K ((x0,(x1,(x2,()))),((x3,()),(x4,()))))⟩
noncomputable def C:Ctx:=⟨tyT,[impl_Plan_do.o,impl_Stripe_copied.o,impl_Stripe_of.o,impl_Stripe_put.o,impl_Stripe_read.o,impl_planOf_.o],[],45,0⟩
theorem ctx:CtxOk Tryz.prog C:=⟨tyOk,all1 impl_Plan_do.ok (all1 impl_Stripe_copied.ok (all1 impl_Stripe_of.ok (all1 impl_Stripe_put.ok (all1 impl_Stripe_read.ok (all1 impl_planOf_.ok (all0))))))⟩
theorem eG (β:Type)(s:sin.den)(K:sout.den→Option β):evalFn C Tryz.f142 sin sout s K=o.F s K:=by kernel_rfl
theorem ok:OracOk Tryz.prog o:=fn_ok mixed Tryz.func142 (by kernel_rfl) ctx (c:=bodyC Tryz.f142) (by kernel_rfl) (all0) (by kernel_rfl) (by kernel_rfl) (by kernel_rfl) (Nat.le_of_ble_eq_true (by kernel_rfl)) eG (by kernel_rfl) (Nat.le_of_ble_eq_true (by kernel_rfl))
end impl_Stripe_mended
namespace impl_StripeMend
def sin:Sig:=⟨[],[.agg [.val I false,.val (.sl I) false,.val (.sl I) false,.val (.sl .bool) false],.one (.val I false)]⟩
def sout:Sig:=⟨[.buf I false,.buf I false,.buf .bool false],[.agg [.val I false,.ref (.own 0),.ref (.own 1),.ref (.own 2)],.one (.val .bool false)]⟩
noncomputable def G {β:Type}(S:Sl)(a0:Int)(a1:(List Int))(a2:(List Int))(a3:(List Bool))(a4:Int)(K:(List Int)→(List Int)→(List Bool)→Int→Bool→Option β):Option β:=impl_StripeOk.G S a0 a1 a2 a3 (fun y1=>bif(!y1)then(K [] [] [] 0 false)else(impl_shardOk.G S a4 (fun y2=>bif(!y2)then(K [] [] [] 0 false)else(impl_Stripe_mended.G S a0 a1 a2 a3 a4 (fun y3 y4 y5 y6 y7=>K y3 y4 y5 y6 y7)))))
noncomputable def o:Orac:=⟨61,sin,sout,fun s K=>G sl0 s.2.1.1 s.2.1.2.1 s.2.1.2.2.1 s.2.1.2.2.2.1 s.2.2.1 (fun x0 x1 x2 x3 x4=>K ((x0,(x1,(x2,()))),((x3,()),(x4,()))))⟩
noncomputable def C:Ctx:=⟨tyT,[impl_StripeOk.o,impl_Stripe_mended.o,impl_shardOk.o],[],20,0⟩
theorem ctx:CtxOk Tryz.prog C:=⟨tyOk,all1 impl_StripeOk.ok (all1 impl_Stripe_mended.ok (all1 impl_shardOk.ok (all0)))⟩
theorem eG (β:Type)(s:sin.den)(K:sout.den→Option β):evalFn C Tryz.f61 sin sout s K=o.F s K:=by kernel_rfl
theorem ok:OracOk Tryz.prog o:=fn_ok mixed Tryz.func61 (by kernel_rfl) ctx (c:=bodyC Tryz.f61) (by kernel_rfl) (all0) (by kernel_rfl) (by kernel_rfl) (by kernel_rfl) (Nat.le_of_ble_eq_true (by kernel_rfl)) eG (by kernel_rfl) (Nat.le_of_ble_eq_true (by kernel_rfl))
end impl_StripeMend
namespace impl_StripeRead
def sin:Sig:=⟨[],[.agg [.val I false,.val (.sl I) false,.val (.sl I) false,.val (.sl .bool) false]]⟩
def sout:Sig:=⟨[.buf I false],[.one (.ref (.own 0)),.one (.val I false),.one (.val .bool false)]⟩
noncomputable def G {β:Type}(S:Sl)(a0:Int)(a1:(List Int))(a2:(List Int))(a3:(List Bool))(K:(List Int)→Int→Bool→Option β):Option β:=impl_StripeOk.G S a0 a1 a2 a3 (fun y1=>bif(!y1)then(K [] 0 false)else(impl_Stripe_read.G S a0 a1 a2 a3 (fun y2 y3 y4=>K y2 y3 y4)))
noncomputable def o:Orac:=⟨24,sin,sout,fun s K=>G sl0 s.2.1.1 s.2.1.2.1 s.2.1.2.2.1 s.2.1.2.2.2.1 (fun x0 x1 x2=>K ((x0,()),(x1,(x2,()))))⟩
noncomputable def C:Ctx:=⟨tyT,[impl_StripeOk.o,impl_Stripe_read.o],[],13,0⟩
theorem ctx:CtxOk Tryz.prog C:=⟨tyOk,all1 impl_StripeOk.ok (all1 impl_Stripe_read.ok (all0))⟩
theorem eG (β:Type)(s:sin.den)(K:sout.den→Option β):evalFn C Tryz.f24 sin sout s K=o.F s K:=by kernel_rfl
theorem ok:OracOk Tryz.prog o:=fn_ok mixed Tryz.func24 (by kernel_rfl) ctx (c:=bodyC Tryz.f24) (by kernel_rfl) (all0) (by kernel_rfl) (by kernel_rfl) (by kernel_rfl) (Nat.le_of_ble_eq_true (by kernel_rfl)) eG (by kernel_rfl) (Nat.le_of_ble_eq_true (by kernel_rfl))
end impl_StripeRead
namespace laws_lkInts
def sin:Sig:=⟨[],[.one (.val (.sl I) false),.one (.val (.sl I) false)]⟩
def sout:Sig:=⟨[],[.one (.val .bool false)]⟩
def h4:SS:=⟨[0,1,5],⟨[],[.one (.val (.sl I) false),.one (.val (.sl I) false),.one (.val I false)]⟩⟩
def x4:SS:=⟨[],⟨[],[]⟩⟩
def y4:SS:=⟨[4],⟨[],[.one (.val .bool false)]⟩⟩
noncomputable def b4 {β:Type}(S:Sl)(L:(List Int)→(List Int)→Int→Option β)(kx:Option β)(kr:Bool→Option β)(s0:(List Int))(s1:(List Int))(s2:Int):Option β:=bif(S.lt s2 (s0.length:Int))then(bif(S.ir s2 s0.length)then(bif(S.ir s2 s1.length)then(bif(!S.eq (List.getD s0 (Int.toNat s2) 0) (List.getD s1 (Int.toNat s2) 0))then(kr false)else(L s0 s1 (S.w (s2+1))))else(none))else(none))else(kx)
noncomputable def r4 {β:Type}(S:Sl)(n:Nat)(kx:x4.sig.den→Option β)(kr:y4.sig.den→Option β)(s:h4.sig.den):Option β:=rounds (fun L kx kr s=>b4 S (fun x0 x1 x2=>L ((),(x0,(x1,(x2,()))))) (kx ((),())) (fun x0=>kr ((),(x0,()))) s.2.1 s.2.2.1 s.2.2.2.1) kx kr n s
noncomputable def l4 {β:Type}(S:Sl)(n:Nat)(kx:Option β)(kr:Bool→Option β)(s0:(List Int))(s1:(List Int))(s2:Int):Option β:=r4 S n (fun s=>kx) (fun s=>kr s.2.1) ((),(s0,(s1,(s2,()))))
theorem t4 {β:Type}(S:Sl)(n:Nat)(kx:Option β)(kr:Bool→Option β)(s0:(List Int))(s1:(List Int))(s2:Int):l4 S (n+1) kx kr s0 s1 s2=b4 S (l4 S n kx kr) kx kr s0 s1 s2:=by kernel_rfl
noncomputable def G {β:Type}(S:Sl)(a0:(List Int))(a1:(List Int))(K:Bool→Option β):Option β:=bif(!S.eq (a0.length:Int) (a1.length:Int))then(K false)else(l4 S S.n (K true) (fun y1=>K y1) a0 a1 0)
noncomputable def o:Orac:=⟨26,sin,sout,fun s K=>G sl0 s.2.1 s.2.2.1 (fun x0=>K ((),(x0,())))⟩
noncomputable def C:Ctx:=⟨tyT,[],[⟨4,0,h4,x4,y4,fun s kx kr=>r4 sl0 sl0.n kx kr s⟩],26,0⟩
theorem ctx:CtxOk Tryz.prog C:=⟨tyOk,all0⟩
theorem e4 (β:Type)(L:h4.sig.den→Option β)(kx:x4.sig.den→Option β)(kr:y4.sig.den→Option β)(s:h4.sig.den):evalBody C (nthC (loopsOf (bodyC Tryz.f26)) 0) 0 h4 x4 y4 L kx kr s=b4 sl0 (fun x0 x1 x2=>L ((),(x0,(x1,(x2,()))))) (kx ((),())) (fun x0=>kr ((),(x0,()))) s.2.1 s.2.2.1 s.2.2.2.1:=by kernel_rfl
theorem g4:LS Tryz.prog C ⟨4,0,h4,x4,y4,fun s kx kr=>r4 sl0 sl0.n kx kr s⟩ (loopsOf (bodyC Tryz.f26)):=LS.at (i:=0) (by kernel_rfl) (loop_good mixed ctx (ctx_nat ctx) (N:=sl0.n) (fun _ _ _ _=>rfl) e4 (all1 (LS.none (by kernel_rfl)) (all0)))
theorem eG (β:Type)(s:sin.den)(K:sout.den→Option β):evalFn C Tryz.f26 sin sout s K=o.F s K:=by kernel_rfl
theorem ok:OracOk Tryz.prog o:=fn_ok mixed Tryz.func26 (by kernel_rfl) ctx (c:=bodyC Tryz.f26) (by kernel_rfl) (all1 g4 (all0)) (by kernel_rfl) (by kernel_rfl) (by kernel_rfl) (Nat.le_of_ble_eq_true (by kernel_rfl)) eG (by kernel_rfl) (Nat.le_of_ble_eq_true (by kernel_rfl))
end laws_lkInts
namespace laws_lkBools
def sin:Sig:=⟨[],[.one (.val (.sl .bool) false),.one (.val (.sl .bool) false)]⟩
def sout:Sig:=⟨[],[.one (.val .bool false)]⟩
def h4:SS:=⟨[0,1,5],⟨[],[.one (.val (.sl .bool) false),.one (.val (.sl .bool) false),.one (.val I false)]⟩⟩
def x4:SS:=⟨[],⟨[],[]⟩⟩
def y4:SS:=⟨[4],⟨[],[.one (.val .bool false)]⟩⟩
noncomputable def b4 {β:Type}(S:Sl)(L:(List Bool)→(List Bool)→Int→Option β)(kx:Option β)(kr:Bool→Option β)(s0:(List Bool))(s1:(List Bool))(s2:Int):Option β:=bif(S.lt s2 (s0.length:Int))then(bif(S.ir s2 s0.length)then(bif(S.ir s2 s1.length)then(bif((List.getD s0 (Int.toNat s2) false) != (List.getD s1 (Int.toNat s2) false))then(kr false)else(L s0 s1 (S.w (s2+1))))else(none))else(none))else(kx)
noncomputable def r4 {β:Type}(S:Sl)(n:Nat)(kx:x4.sig.den→Option β)(kr:y4.sig.den→Option β)(s:h4.sig.den):Option β:=rounds (fun L kx kr s=>b4 S (fun x0 x1 x2=>L ((),(x0,(x1,(x2,()))))) (kx ((),())) (fun x0=>kr ((),(x0,()))) s.2.1 s.2.2.1 s.2.2.2.1) kx kr n s
noncomputable def l4 {β:Type}(S:Sl)(n:Nat)(kx:Option β)(kr:Bool→Option β)(s0:(List Bool))(s1:(List Bool))(s2:Int):Option β:=r4 S n (fun s=>kx) (fun s=>kr s.2.1) ((),(s0,(s1,(s2,()))))
theorem t4 {β:Type}(S:Sl)(n:Nat)(kx:Option β)(kr:Bool→Option β)(s0:(List Bool))(s1:(List Bool))(s2:Int):l4 S (n+1) kx kr s0 s1 s2=b4 S (l4 S n kx kr) kx kr s0 s1 s2:=by kernel_rfl
noncomputable def G {β:Type}(S:Sl)(a0:(List Bool))(a1:(List Bool))(K:Bool→Option β):Option β:=bif(!S.eq (a0.length:Int) (a1.length:Int))then(K false)else(l4 S S.n (K true) (fun y1=>K y1) a0 a1 0)
noncomputable def o:Orac:=⟨95,sin,sout,fun s K=>G sl0 s.2.1 s.2.2.1 (fun x0=>K ((),(x0,())))⟩
noncomputable def C:Ctx:=⟨tyT,[],[⟨4,0,h4,x4,y4,fun s kx kr=>r4 sl0 sl0.n kx kr s⟩],26,0⟩
theorem ctx:CtxOk Tryz.prog C:=⟨tyOk,all0⟩
theorem e4 (β:Type)(L:h4.sig.den→Option β)(kx:x4.sig.den→Option β)(kr:y4.sig.den→Option β)(s:h4.sig.den):evalBody C (nthC (loopsOf (bodyC Tryz.f95)) 0) 0 h4 x4 y4 L kx kr s=b4 sl0 (fun x0 x1 x2=>L ((),(x0,(x1,(x2,()))))) (kx ((),())) (fun x0=>kr ((),(x0,()))) s.2.1 s.2.2.1 s.2.2.2.1:=by kernel_rfl
theorem g4:LS Tryz.prog C ⟨4,0,h4,x4,y4,fun s kx kr=>r4 sl0 sl0.n kx kr s⟩ (loopsOf (bodyC Tryz.f95)):=LS.at (i:=0) (by kernel_rfl) (loop_good mixed ctx (ctx_nat ctx) (N:=sl0.n) (fun _ _ _ _=>rfl) e4 (all1 (LS.none (by kernel_rfl)) (all0)))
theorem eG (β:Type)(s:sin.den)(K:sout.den→Option β):evalFn C Tryz.f95 sin sout s K=o.F s K:=by kernel_rfl
theorem ok:OracOk Tryz.prog o:=fn_ok mixed Tryz.func95 (by kernel_rfl) ctx (c:=bodyC Tryz.f95) (by kernel_rfl) (all1 g4 (all0)) (by kernel_rfl) (by kernel_rfl) (by kernel_rfl) (Nat.le_of_ble_eq_true (by kernel_rfl)) eG (by kernel_rfl) (Nat.le_of_ble_eq_true (by kernel_rfl))
end laws_lkBools
namespace laws_lkStripe
def sin:Sig:=⟨[],[.agg [.val I false,.val (.sl I) false,.val (.sl I) false,.val (.sl .bool) false],.agg [.val I false,.val (.sl I) false,.val (.sl I) false,.val (.sl .bool) false]]⟩
def sout:Sig:=⟨[],[.one (.val .bool false)]⟩
noncomputable def G {β:Type}(S:Sl)(a0:Int)(a1:(List Int))(a2:(List Int))(a3:(List Bool))(a4:Int)(a5:(List Int))(a6:(List Int))(a7:(List Bool))(K:Bool→Option β):Option β:=bif(S.eq a0 a4)then(laws_lkInts.G S a1 a5 (fun y1=>bif y1 then(laws_lkInts.G S a2 a6 (fun y2=>bif y2 then(laws_lkBools.G S a3 a7 (fun y3=>K y3))else(K false)))else(K false)))else(K false)
noncomputable def o:Orac:=⟨23,sin,sout,fun s K=>G sl0 s.2.1.1 s.2.1.2.1 s.2.1.2.2.1 s.2.1.2.2.2.1 s.2.2.1.1 s.2.2.1.2.1 s.2.2.1.2.2.1 s.2.2.1.2.2.2.1 (fun x0=>K ((),(x0,())))⟩
noncomputable def C:Ctx:=⟨tyT,[laws_lkBools.o,laws_lkInts.o],[],31,0⟩
theorem ctx:CtxOk Tryz.prog C:=⟨tyOk,all1 laws_lkBools.ok (all1 laws_lkInts.ok (all0))⟩
theorem eG (β:Type)(s:sin.den)(K:sout.den→Option β):evalFn C Tryz.f23 sin sout s K=o.F s K:=by kernel_rfl
theorem ok:OracOk Tryz.prog o:=fn_ok mixed Tryz.func23 (by kernel_rfl) ctx (c:=bodyC Tryz.f23) (by kernel_rfl) (all0) (by kernel_rfl) (by kernel_rfl) (by kernel_rfl) (Nat.le_of_ble_eq_true (by kernel_rfl)) eG (by kernel_rfl) (Nat.le_of_ble_eq_true (by kernel_rfl))
end laws_lkStripe
namespace spec_l6Open
def sin:Sig:=⟨[],[.one (.val (.sl (.int .u8)) false)]⟩
def sout:Sig:=⟨[.box [.val (.sl (.int .u8)) false,.val I false]],[.one (.ref (.ptr 0))]⟩
noncomputable def G {β:Type}(S:Sl)(a0:(List Int))(K:(List Int)→Int→Option β):Option β:=bif(S.lt 2000 (a0.length:Int))then(bif((S.le 0 0)&&(S.le 0 2000)&&(S.le 2000 (a0.length:Int))&&(S.le (a0.length:Int) (a0.length:Int)))then(K (cutL a0 (Int.toNat 0) (Int.toNat 2000)) 0)else(none))else(K a0 0)
noncomputable def o:Orac:=⟨81,sin,sout,fun s K=>G sl0 s.2.1 (fun x0 x1=>K (((x0,(x1,())),()),()))⟩
noncomputable def C:Ctx:=⟨tyT,[],[],11,0⟩
theorem ctx:CtxOk Tryz.prog C:=⟨tyOk,all0⟩
theorem eG (β:Type)(s:sin.den)(K:sout.den→Option β):evalFn C Tryz.f81 sin sout s K=o.F s K:=by kernel_rfl
theorem ok:OracOk Tryz.prog o:=fn_ok mixed Tryz.func81 (by kernel_rfl) ctx (c:=bodyC Tryz.f81) (by kernel_rfl) (all0) (by kernel_rfl) (by kernel_rfl) (by kernel_rfl) (Nat.le_of_ble_eq_true (by kernel_rfl)) eG (by kernel_rfl) (Nat.le_of_ble_eq_true (by kernel_rfl))
end spec_l6Open
namespace spec_l6Rd_pick
def sin:Sig:=⟨[.box [.val (.sl (.int .u8)) false,.val I false]],[.one (.ref (.ptr 0)),.one (.val I false)]⟩
def sout:Sig:=⟨[.box [.val (.sl (.int .u8)) false,.val I false]],[.one (.val I false)]⟩
noncomputable def G {β:Type}(S:Sl)(a0:(List Int))(a1:Int)(a2:Int)(K:(List Int)→Int→Int→Option β):Option β:=bif(S.lt a2 1)then(K a0 (S.w (a1+1)) 0)else(bif(S.eq (a0.length:Int) 0)then(K a0 (S.w (a1+1)) 0)else(bif(S.lt (S.w ((S.w (a1+1))-1)) (a0.length:Int))then(bif(S.ir (S.w ((S.w (a1+1))-1)) a0.length)then(bif(!(a2==0))then(K a0 (S.w (a1+1)) (Int.tmod (S.w (List.getD a0 (Int.toNat (S.w ((S.w (a1+1))-1))) 0)) a2))else(none))else(none))else(bif(!((a0.length:Int)==0))then(bif(S.ir (Int.tmod (S.w ((S.w (a1+1))-1)) (a0.length:Int)) a0.length)then(bif(!((a0.length:Int)==0))then(bif(S.ir (Int.tmod (S.w ((S.w ((S.w ((S.w (a1+1))-1))*7))+3)) (a0.length:Int)) a0.length)then(bif(!((a0.length:Int)==0))then(bif(!(a2==0))then(K a0 (S.w (a1+1)) (Int.tmod (S.xr .i64 (S.w ((S.w ((S.w ((S.w ((S.w (List.getD a0 (Int.toNat (Int.tmod (S.w ((S.w (a1+1))-1)) (a0.length:Int))) 0))*131))+(S.w ((S.w (List.getD a0 (Int.toNat (Int.tmod (S.w ((S.w ((S.w ((S.w (a1+1))-1))*7))+3)) (a0.length:Int))) 0))*1117))))+(S.w ((S.w ((S.w (a1+1))-1))*29))))+(S.w ((S.w (Int.tdiv (S.w ((S.w (a1+1))-1)) (a0.length:Int)))*53)))) (S.w (Int.tdiv (S.w ((S.w ((S.w ((S.w ((S.w (List.getD a0 (Int.toNat (Int.tmod (S.w ((S.w (a1+1))-1)) (a0.length:Int))) 0))*131))+(S.w ((S.w (List.getD a0 (Int.toNat (Int.tmod (S.w ((S.w ((S.w ((S.w (a1+1))-1))*7))+3)) (a0.length:Int))) 0))*1117))))+(S.w ((S.w ((S.w (a1+1))-1))*29))))+(S.w ((S.w (Int.tdiv (S.w ((S.w (a1+1))-1)) (a0.length:Int)))*53)))) 64))) a2))else(none))else(none))else(none))else(none))else(none))else(none))))
noncomputable def o:Orac:=⟨115,sin,sout,fun s K=>G sl0 s.1.1.1 s.1.1.2.1 s.2.1 (fun x0 x1 x2=>K (((x0,(x1,())),()),(x2,())))⟩
noncomputable def C:Ctx:=⟨tyT,[],[],99,1⟩
theorem ctx:CtxOk Tryz.prog C:=⟨tyOk,all0⟩
theorem eG (β:Type)(s:sin.den)(K:sout.den→Option β):evalFn C Tryz.f115 sin sout s K=o.F s K:=by kernel_rfl
theorem ok:OracOk Tryz.prog o:=fn_ok mixed Tryz.func115 (by kernel_rfl) ctx (c:=bodyC Tryz.f115) (by kernel_rfl) (all0) (by kernel_rfl) (by kernel_rfl) (by kernel_rfl) (Nat.le_of_ble_eq_true (by kernel_rfl)) eG (by kernel_rfl) (Nat.le_of_ble_eq_true (by kernel_rfl))
end spec_l6Rd_pick
namespace spec_l21Of
def sin:Sig:=⟨[],[.agg [.val I false,.val (.sl I) false,.val (.sl I) false,.val (.sl .bool) false],.one (.val I false)]⟩
def sout:Sig:=⟨[.buf .bool false],[.one (.ref (.own 0))]⟩
def h3:SS:=⟨[1,2,5,6],⟨[.box [.val I false,.val (.sl I) false,.val (.sl I) false,.val (.sl .bool) false],.buf .bool false],[.one (.val I false),.one (.ref (.ptr 0)),.one (.ref (.own 1)),.one (.val I false)]⟩⟩
def x3:SS:=⟨[5],⟨[.buf .bool false],[.one (.ref (.own 0))]⟩⟩
def y3:SS:=⟨[],⟨[],[]⟩⟩
noncomputable def b3 {β:Type}(S:Sl)(L:Int→(List Int)→(List Int)→(List Bool)→(List Bool)→Int→Int→Option β)(kx:(List Bool)→Option β)(kr:Option β)(s0:Int)(s1:(List Int))(s2:(List Int))(s3:(List Bool))(s4:(List Bool))(s5:Int)(s6:Int):Option β:=bif(S.lt s6 (s3.length:Int))then(bif(S.ir s6 s3.length)then(bif(List.getD s3 (Int.toNat s6) false)then(bif(S.ir s6 s2.length)then(bif(S.fw (s4 ++ [(S.eq (List.getD s2 (Int.toNat s6) 0) s5)]).length)then(L s0 s1 s2 s3 (s4 ++ [(S.eq (List.getD s2 (Int.toNat s6) 0) s5)]) s5 (S.w (s6+1)))else(none))else(none))else(bif(S.fw (s4 ++ [false]).length)then(L s0 s1 s2 s3 (s4 ++ [false]) s5 (S.w (s6+1)))else(none)))else(none))else(kx s4)
noncomputable def r3 {β:Type}(S:Sl)(n:Nat)(kx:x3.sig.den→Option β)(kr:y3.sig.den→Option β)(s:h3.sig.den):Option β:=rounds (fun L kx kr s=>b3 S (fun x0 x1 x2 x3 x4 x5 x6=>L (((x0,(x1,(x2,(x3,())))),(x4,())),(x5,(x6,())))) (fun x0=>kx ((x0,()),())) (kr ((),())) s.1.1.1 s.1.1.2.1 s.1.1.2.2.1 s.1.1.2.2.2.1 s.1.2.1 s.2.1 s.2.2.1) kx kr n s
noncomputable def l3 {β:Type}(S:Sl)(n:Nat)(kx:(List Bool)→Option β)(kr:Option β)(s0:Int)(s1:(List Int))(s2:(List Int))(s3:(List Bool))(s4:(List Bool))(s5:Int)(s6:Int):Option β:=r3 S n (fun s=>kx s.1.1) (fun s=>kr) (((s0,(s1,(s2,(s3,())))),(s4,())),(s5,(s6,())))
theorem t3 {β:Type}(S:Sl)(n:Nat)(kx:(List Bool)→Option β)(kr:Option β)(s0:Int)(s1:(List Int))(s2:(List Int))(s3:(List Bool))(s4:(List Bool))(s5:Int)(s6:Int):l3 S (n+1) kx kr s0 s1 s2 s3 s4 s5 s6=b3 S (l3 S n kx kr) kx kr s0 s1 s2 s3 s4 s5 s6:=by kernel_rfl
noncomputable def G {β:Type}(S:Sl)(a0:Int)(a1:(List Int))(a2:(List Int))(a3:(List Bool))(a4:Int)(K:(List Bool)→Option β):Option β:=l3 S S.n (fun y1=>K y1) none a0 a1 a2 a3 [] a4 0
noncomputable def o:Orac:=⟨148,sin,sout,fun s K=>G sl0 s.2.1.1 s.2.1.2.1 s.2.1.2.2.1 s.2.1.2.2.2.1 s.2.2.1 (fun x0=>K ((x0,()),()))⟩
noncomputable def C:Ctx:=⟨tyT,[],[⟨3,0,h3,x3,y3,fun s kx kr=>r3 sl0 sl0.n kx kr s⟩],33,0⟩
theorem ctx:CtxOk Tryz.prog C:=⟨tyOk,all0⟩
theorem e3 (β:Type)(L:h3.sig.den→Option β)(kx:x3.sig.den→Option β)(kr:y3.sig.den→Option β)(s:h3.sig.den):evalBody C (nthC (loopsOf (bodyC Tryz.f148)) 0) 0 h3 x3 y3 L kx kr s=b3 sl0 (fun x0 x1 x2 x3 x4 x5 x6=>L (((x0,(x1,(x2,(x3,())))),(x4,())),(x5,(x6,())))) (fun x0=>kx ((x0,()),())) (kr ((),())) s.1.1.1 s.1.1.2.1 s.1.1.2.2.1 s.1.1.2.2.2.1 s.1.2.1 s.2.1 s.2.2.1:=by kernel_rfl
theorem g3:LS Tryz.prog C ⟨3,0,h3,x3,y3,fun s kx kr=>r3 sl0 sl0.n kx kr s⟩ (loopsOf (bodyC Tryz.f148)):=LS.at (i:=0) (by kernel_rfl) (loop_good mixed ctx (ctx_nat ctx) (N:=sl0.n) (fun _ _ _ _=>rfl) e3 (all1 (LS.none (by kernel_rfl)) (all0)))
theorem eG (β:Type)(s:sin.den)(K:sout.den→Option β):evalFn C Tryz.f148 sin sout s K=o.F s K:=by kernel_rfl
theorem ok:OracOk Tryz.prog o:=fn_ok mixed Tryz.func148 (by kernel_rfl) ctx (c:=bodyC Tryz.f148) (by kernel_rfl) (all1 g3 (all0)) (by kernel_rfl) (by kernel_rfl) (by kernel_rfl) (Nat.le_of_ble_eq_true (by kernel_rfl)) eG (by kernel_rfl) (Nat.le_of_ble_eq_true (by kernel_rfl))
end spec_l21Of
namespace spec_l2Lead
def sin:Sig:=⟨[],[.one (.val (.sl I) false)]⟩
def sout:Sig:=⟨[],[.one (.val I false)]⟩
def h2:SS:=⟨[0,3],⟨[],[.one (.val (.sl I) false),.one (.val I false)]⟩⟩
def x2:SS:=⟨[],⟨[],[]⟩⟩
def y2:SS:=⟨[2],⟨[],[.one (.val I false)]⟩⟩
noncomputable def b2 {β:Type}(S:Sl)(L:(List Int)→Int→Option β)(kx:Option β)(kr:Int→Option β)(s0:(List Int))(s1:Int):Option β:=bif(S.lt s1 (s0.length:Int))then(bif(S.ir s1 s0.length)then(bif(!S.eq (List.getD s0 (Int.toNat s1) 0) 0)then(kr s1)else(L s0 (S.w (s1+1))))else(none))else(kx)
noncomputable def r2 {β:Type}(S:Sl)(n:Nat)(kx:x2.sig.den→Option β)(kr:y2.sig.den→Option β)(s:h2.sig.den):Option β:=rounds (fun L kx kr s=>b2 S (fun x0 x1=>L ((),(x0,(x1,())))) (kx ((),())) (fun x0=>kr ((),(x0,()))) s.2.1 s.2.2.1) kx kr n s
noncomputable def l2 {β:Type}(S:Sl)(n:Nat)(kx:Option β)(kr:Int→Option β)(s0:(List Int))(s1:Int):Option β:=r2 S n (fun s=>kx) (fun s=>kr s.2.1) ((),(s0,(s1,())))
theorem t2 {β:Type}(S:Sl)(n:Nat)(kx:Option β)(kr:Int→Option β)(s0:(List Int))(s1:Int):l2 S (n+1) kx kr s0 s1=b2 S (l2 S n kx kr) kx kr s0 s1:=by kernel_rfl
noncomputable def G {β:Type}(S:Sl)(a0:(List Int))(K:Int→Option β):Option β:=l2 S S.n (K (-1)) (fun y1=>K y1) a0 0
noncomputable def o:Orac:=⟨230,sin,sout,fun s K=>G sl0 s.2.1 (fun x0=>K ((),(x0,())))⟩
noncomputable def C:Ctx:=⟨tyT,[],[⟨2,0,h2,x2,y2,fun s kx kr=>r2 sl0 sl0.n kx kr s⟩],16,0⟩
theorem ctx:CtxOk Tryz.prog C:=⟨tyOk,all0⟩
theorem e2 (β:Type)(L:h2.sig.den→Option β)(kx:x2.sig.den→Option β)(kr:y2.sig.den→Option β)(s:h2.sig.den):evalBody C (nthC (loopsOf (bodyC Tryz.f230)) 0) 0 h2 x2 y2 L kx kr s=b2 sl0 (fun x0 x1=>L ((),(x0,(x1,())))) (kx ((),())) (fun x0=>kr ((),(x0,()))) s.2.1 s.2.2.1:=by kernel_rfl
theorem g2:LS Tryz.prog C ⟨2,0,h2,x2,y2,fun s kx kr=>r2 sl0 sl0.n kx kr s⟩ (loopsOf (bodyC Tryz.f230)):=LS.at (i:=0) (by kernel_rfl) (loop_good mixed ctx (ctx_nat ctx) (N:=sl0.n) (fun _ _ _ _=>rfl) e2 (all1 (LS.none (by kernel_rfl)) (all0)))
theorem eG (β:Type)(s:sin.den)(K:sout.den→Option β):evalFn C Tryz.f230 sin sout s K=o.F s K:=by kernel_rfl
theorem ok:OracOk Tryz.prog o:=fn_ok mixed Tryz.func230 (by kernel_rfl) ctx (c:=bodyC Tryz.f230) (by kernel_rfl) (all1 g2 (all0)) (by kernel_rfl) (by kernel_rfl) (by kernel_rfl) (Nat.le_of_ble_eq_true (by kernel_rfl)) eG (by kernel_rfl) (Nat.le_of_ble_eq_true (by kernel_rfl))
end spec_l2Lead
namespace spec_l2Scale
def sin:Sig:=⟨[],[.one (.val (.sl I) false),.one (.val I false)]⟩
def sout:Sig:=⟨[],[.one (.val (.sl I) true)]⟩
def h3:SS:=⟨[0,1,5,6],⟨[.buf I true],[.one (.val (.sl I) false),.one (.val I false),.one (.ref (.own 0)),.one (.val I false)]⟩⟩
def x3:SS:=⟨[5],⟨[.buf I true],[.one (.ref (.own 0))]⟩⟩
def y3:SS:=⟨[],⟨[],[]⟩⟩
noncomputable def b3 {β:Type}(S:Sl)(L:(List Int)→(List Int)→Int→Int→Option β)(kx:(List Int)→Option β)(kr:Option β)(s0:(List Int))(s1:(List Int))(s2:Int)(s3:Int):Option β:=bif(S.lt s3 (s1.length:Int))then(bif(S.ir s3 s1.length)then(bif(S.fw (s0 ++ [(Int.tmod (S.w ((List.getD s1 (Int.toNat s3) 0)*s2)) 31)]).length)then(L (s0 ++ [(Int.tmod (S.w ((List.getD s1 (Int.toNat s3) 0)*s2)) 31)]) s1 s2 (S.w (s3+1)))else(none))else(none))else(kx s0)
noncomputable def r3 {β:Type}(S:Sl)(n:Nat)(kx:x3.sig.den→Option β)(kr:y3.sig.den→Option β)(s:h3.sig.den):Option β:=rounds (fun L kx kr s=>b3 S (fun x0 x1 x2 x3=>L ((x0,()),(x1,(x2,(x3,()))))) (fun x0=>kx ((x0,()),())) (kr ((),())) s.1.1 s.2.1 s.2.2.1 s.2.2.2.1) kx kr n s
noncomputable def l3 {β:Type}(S:Sl)(n:Nat)(kx:(List Int)→Option β)(kr:Option β)(s0:(List Int))(s1:(List Int))(s2:Int)(s3:Int):Option β:=r3 S n (fun s=>kx s.1.1) (fun s=>kr) ((s0,()),(s1,(s2,(s3,()))))
theorem t3 {β:Type}(S:Sl)(n:Nat)(kx:(List Int)→Option β)(kr:Option β)(s0:(List Int))(s1:(List Int))(s2:Int)(s3:Int):l3 S (n+1) kx kr s0 s1 s2 s3=b3 S (l3 S n kx kr) kx kr s0 s1 s2 s3:=by kernel_rfl
noncomputable def G {β:Type}(S:Sl)(a0:(List Int))(a1:Int)(K:(List Int)→Option β):Option β:=l3 S S.n (fun y1=>K y1) none [] a0 a1 0
noncomputable def o:Orac:=⟨232,sin,sout,fun s K=>G sl0 s.2.1 s.2.2.1 (fun x0=>K ((),(x0,())))⟩
noncomputable def C:Ctx:=⟨tyT,[],[⟨3,0,h3,x3,y3,fun s kx kr=>r3 sl0 sl0.n kx kr s⟩],25,0⟩
theorem ctx:CtxOk Tryz.prog C:=⟨tyOk,all0⟩
theorem e3 (β:Type)(L:h3.sig.den→Option β)(kx:x3.sig.den→Option β)(kr:y3.sig.den→Option β)(s:h3.sig.den):evalBody C (nthC (loopsOf (bodyC Tryz.f232)) 0) 0 h3 x3 y3 L kx kr s=b3 sl0 (fun x0 x1 x2 x3=>L ((x0,()),(x1,(x2,(x3,()))))) (fun x0=>kx ((x0,()),())) (kr ((),())) s.1.1 s.2.1 s.2.2.1 s.2.2.2.1:=by kernel_rfl
theorem g3:LS Tryz.prog C ⟨3,0,h3,x3,y3,fun s kx kr=>r3 sl0 sl0.n kx kr s⟩ (loopsOf (bodyC Tryz.f232)):=LS.at (i:=0) (by kernel_rfl) (loop_good mixed ctx (ctx_nat ctx) (N:=sl0.n) (fun _ _ _ _=>rfl) e3 (all1 (LS.none (by kernel_rfl)) (all0)))
theorem eG (β:Type)(s:sin.den)(K:sout.den→Option β):evalFn C Tryz.f232 sin sout s K=o.F s K:=by kernel_rfl
theorem ok:OracOk Tryz.prog o:=fn_ok mixed Tryz.func232 (by kernel_rfl) ctx (c:=bodyC Tryz.f232) (by kernel_rfl) (all1 g3 (all0)) (by kernel_rfl) (by kernel_rfl) (by kernel_rfl) (Nat.le_of_ble_eq_true (by kernel_rfl)) eG (by kernel_rfl) (Nat.le_of_ble_eq_true (by kernel_rfl))
end spec_l2Scale
namespace spec_l1Inv
def sin:Sig:=⟨[],[.one (.val I false)]⟩
def sout:Sig:=⟨[],[.one (.val I false)]⟩
def h2:SS:=⟨[0,3],⟨[],[.one (.val I false),.one (.val I false)]⟩⟩
def x2:SS:=⟨[],⟨[],[]⟩⟩
def y2:SS:=⟨[2],⟨[],[.one (.val I false)]⟩⟩
noncomputable def b2 {β:Type}(S:Sl)(L:Int→Int→Option β)(kx:Option β)(kr:Int→Option β)(s0:Int)(s1:Int):Option β:=bif(S.lt s1 31)then(bif(S.eq (Int.tmod (S.w (s0*s1)) 31) 1)then(kr s1)else(L s0 (S.w (s1+1))))else(kx)
noncomputable def r2 {β:Type}(S:Sl)(n:Nat)(kx:x2.sig.den→Option β)(kr:y2.sig.den→Option β)(s:h2.sig.den):Option β:=rounds (fun L kx kr s=>b2 S (fun x0 x1=>L ((),(x0,(x1,())))) (kx ((),())) (fun x0=>kr ((),(x0,()))) s.2.1 s.2.2.1) kx kr n s
noncomputable def l2 {β:Type}(S:Sl)(n:Nat)(kx:Option β)(kr:Int→Option β)(s0:Int)(s1:Int):Option β:=r2 S n (fun s=>kx) (fun s=>kr s.2.1) ((),(s0,(s1,())))
theorem t2 {β:Type}(S:Sl)(n:Nat)(kx:Option β)(kr:Int→Option β)(s0:Int)(s1:Int):l2 S (n+1) kx kr s0 s1=b2 S (l2 S n kx kr) kx kr s0 s1:=by kernel_rfl
noncomputable def G {β:Type}(S:Sl)(a0:Int)(K:Int→Option β):Option β:=l2 S S.n (K 0) (fun y1=>K y1) a0 1
noncomputable def o:Orac:=⟨254,sin,sout,fun s K=>G sl0 s.2.1 (fun x0=>K ((),(x0,())))⟩
noncomputable def C:Ctx:=⟨tyT,[],[⟨2,0,h2,x2,y2,fun s kx kr=>r2 sl0 sl0.n kx kr s⟩],14,0⟩
theorem ctx:CtxOk Tryz.prog C:=⟨tyOk,all0⟩
theorem e2 (β:Type)(L:h2.sig.den→Option β)(kx:x2.sig.den→Option β)(kr:y2.sig.den→Option β)(s:h2.sig.den):evalBody C (nthC (loopsOf (bodyC Tryz.f254)) 0) 0 h2 x2 y2 L kx kr s=b2 sl0 (fun x0 x1=>L ((),(x0,(x1,())))) (kx ((),())) (fun x0=>kr ((),(x0,()))) s.2.1 s.2.2.1:=by kernel_rfl
theorem g2:LS Tryz.prog C ⟨2,0,h2,x2,y2,fun s kx kr=>r2 sl0 sl0.n kx kr s⟩ (loopsOf (bodyC Tryz.f254)):=LS.at (i:=0) (by kernel_rfl) (loop_good mixed ctx (ctx_nat ctx) (N:=sl0.n) (fun _ _ _ _=>rfl) e2 (all1 (LS.none (by kernel_rfl)) (all0)))
theorem eG (β:Type)(s:sin.den)(K:sout.den→Option β):evalFn C Tryz.f254 sin sout s K=o.F s K:=by kernel_rfl
theorem ok:OracOk Tryz.prog o:=fn_ok mixed Tryz.func254 (by kernel_rfl) ctx (c:=bodyC Tryz.f254) (by kernel_rfl) (all1 g2 (all0)) (by kernel_rfl) (by kernel_rfl) (by kernel_rfl) (Nat.le_of_ble_eq_true (by kernel_rfl)) eG (by kernel_rfl) (Nat.le_of_ble_eq_true (by kernel_rfl))
end spec_l1Inv
namespace spec_l2Sum
def sin:Sig:=⟨[],[.one (.val (.sl I) false),.one (.val (.sl I) false)]⟩
def sout:Sig:=⟨[],[.one (.val (.sl I) true)]⟩
def h3:SS:=⟨[0,1,5,6],⟨[.buf I true],[.one (.val (.sl I) false),.one (.val (.sl I) false),.one (.ref (.own 0)),.one (.val I false)]⟩⟩
def x3:SS:=⟨[5],⟨[.buf I true],[.one (.ref (.own 0))]⟩⟩
def y3:SS:=⟨[],⟨[],[]⟩⟩
noncomputable def b3 {β:Type}(S:Sl)(L:(List Int)→(List Int)→(List Int)→Int→Option β)(kx:(List Int)→Option β)(kr:Option β)(s0:(List Int))(s1:(List Int))(s2:(List Int))(s3:Int):Option β:=bif(S.lt s3 (s1.length:Int))then(bif(S.ir s3 s1.length)then(bif(S.ir s3 s2.length)then(bif(S.fw (s0 ++ [(Int.tmod (S.w ((List.getD s1 (Int.toNat s3) 0)+(List.getD s2 (Int.toNat s3) 0))) 31)]).length)then(L (s0 ++ [(Int.tmod (S.w ((List.getD s1 (Int.toNat s3) 0)+(List.getD s2 (Int.toNat s3) 0))) 31)]) s1 s2 (S.w (s3+1)))else(none))else(none))else(none))else(kx s0)
noncomputable def r3 {β:Type}(S:Sl)(n:Nat)(kx:x3.sig.den→Option β)(kr:y3.sig.den→Option β)(s:h3.sig.den):Option β:=rounds (fun L kx kr s=>b3 S (fun x0 x1 x2 x3=>L ((x0,()),(x1,(x2,(x3,()))))) (fun x0=>kx ((x0,()),())) (kr ((),())) s.1.1 s.2.1 s.2.2.1 s.2.2.2.1) kx kr n s
noncomputable def l3 {β:Type}(S:Sl)(n:Nat)(kx:(List Int)→Option β)(kr:Option β)(s0:(List Int))(s1:(List Int))(s2:(List Int))(s3:Int):Option β:=r3 S n (fun s=>kx s.1.1) (fun s=>kr) ((s0,()),(s1,(s2,(s3,()))))
theorem t3 {β:Type}(S:Sl)(n:Nat)(kx:(List Int)→Option β)(kr:Option β)(s0:(List Int))(s1:(List Int))(s2:(List Int))(s3:Int):l3 S (n+1) kx kr s0 s1 s2 s3=b3 S (l3 S n kx kr) kx kr s0 s1 s2 s3:=by kernel_rfl
noncomputable def G {β:Type}(S:Sl)(a0:(List Int))(a1:(List Int))(K:(List Int)→Option β):Option β:=l3 S S.n (fun y1=>K y1) none [] a0 a1 0
noncomputable def o:Orac:=⟨255,sin,sout,fun s K=>G sl0 s.2.1 s.2.2.1 (fun x0=>K ((),(x0,())))⟩
noncomputable def C:Ctx:=⟨tyT,[],[⟨3,0,h3,x3,y3,fun s kx kr=>r3 sl0 sl0.n kx kr s⟩],28,0⟩
theorem ctx:CtxOk Tryz.prog C:=⟨tyOk,all0⟩
theorem e3 (β:Type)(L:h3.sig.den→Option β)(kx:x3.sig.den→Option β)(kr:y3.sig.den→Option β)(s:h3.sig.den):evalBody C (nthC (loopsOf (bodyC Tryz.f255)) 0) 0 h3 x3 y3 L kx kr s=b3 sl0 (fun x0 x1 x2 x3=>L ((x0,()),(x1,(x2,(x3,()))))) (fun x0=>kx ((x0,()),())) (kr ((),())) s.1.1 s.2.1 s.2.2.1 s.2.2.2.1:=by kernel_rfl
theorem g3:LS Tryz.prog C ⟨3,0,h3,x3,y3,fun s kx kr=>r3 sl0 sl0.n kx kr s⟩ (loopsOf (bodyC Tryz.f255)):=LS.at (i:=0) (by kernel_rfl) (loop_good mixed ctx (ctx_nat ctx) (N:=sl0.n) (fun _ _ _ _=>rfl) e3 (all1 (LS.none (by kernel_rfl)) (all0)))
theorem eG (β:Type)(s:sin.den)(K:sout.den→Option β):evalFn C Tryz.f255 sin sout s K=o.F s K:=by kernel_rfl
theorem ok:OracOk Tryz.prog o:=fn_ok mixed Tryz.func255 (by kernel_rfl) ctx (c:=bodyC Tryz.f255) (by kernel_rfl) (all1 g3 (all0)) (by kernel_rfl) (by kernel_rfl) (by kernel_rfl) (Nat.le_of_ble_eq_true (by kernel_rfl)) eG (by kernel_rfl) (Nat.le_of_ble_eq_true (by kernel_rfl))
end spec_l2Sum
namespace spec_l3Less
def sin:Sig:=⟨[],[.one (.val (.sl I) false),.one (.val (.sl I) false)]⟩
def sout:Sig:=⟨[],[.one (.val (.sl I) true)]⟩
noncomputable def G {β:Type}(S:Sl)(a0:(List Int))(a1:(List Int))(K:(List Int)→Option β):Option β:=spec_l2Lead.G S a1 (fun y1=>bif(S.ir y1 a0.length)then(bif(S.ir y1 a1.length)then(spec_l1Inv.G S (List.getD a1 (Int.toNat y1) 0) (fun y2=>spec_l2Scale.G S a1 (Int.tmod (S.w ((31:Int)-(Int.tmod (S.w ((List.getD a0 (Int.toNat y1) 0)*y2)) 31))) 31) (fun y3=>spec_l2Sum.G S a0 y3 (fun y4=>K y4))))else(none))else(none))
noncomputable def o:Orac:=⟨231,sin,sout,fun s K=>G sl0 s.2.1 s.2.2.1 (fun x0=>K ((),(x0,())))⟩
noncomputable def C:Ctx:=⟨tyT,[spec_l1Inv.o,spec_l2Lead.o,spec_l2Scale.o,spec_l2Sum.o],[],25,0⟩
theorem ctx:CtxOk Tryz.prog C:=⟨tyOk,all1 spec_l1Inv.ok (all1 spec_l2Lead.ok (all1 spec_l2Scale.ok (all1 spec_l2Sum.ok (all0))))⟩
theorem eG (β:Type)(s:sin.den)(K:sout.den→Option β):evalFn C Tryz.f231 sin sout s K=o.F s K:=by kernel_rfl
theorem ok:OracOk Tryz.prog o:=fn_ok mixed Tryz.func231 (by kernel_rfl) ctx (c:=bodyC Tryz.f231) (by kernel_rfl) (all0) (by kernel_rfl) (by kernel_rfl) (by kernel_rfl) (Nat.le_of_ble_eq_true (by kernel_rfl)) eG (by kernel_rfl) (Nat.le_of_ble_eq_true (by kernel_rfl))
end spec_l3Less
namespace spec_l6In
def sin:Sig:=⟨[],[.one (.val I false),.one (.val I false),.one (.val I false)]⟩
def sout:Sig:=⟨[],[.one (.val .bool false)]⟩
noncomputable def G {β:Type}(S:Sl)(a0:Int)(a1:Int)(a2:Int)(K:Bool→Option β):Option β:=bif(S.le a1 a0)then(K (S.le a0 a2))else(K false)
noncomputable def o:Orac:=⟨119,sin,sout,fun s K=>G sl0 s.2.1 s.2.2.1 s.2.2.2.1 (fun x0=>K ((),(x0,())))⟩
noncomputable def C:Ctx:=⟨tyT,[],[],15,0⟩
theorem ctx:CtxOk Tryz.prog C:=⟨tyOk,all0⟩
theorem eG (β:Type)(s:sin.den)(K:sout.den→Option β):evalFn C Tryz.f119 sin sout s K=o.F s K:=by kernel_rfl
theorem ok:OracOk Tryz.prog o:=fn_ok mixed Tryz.func119 (by kernel_rfl) ctx (c:=bodyC Tryz.f119) (by kernel_rfl) (all0) (by kernel_rfl) (by kernel_rfl) (by kernel_rfl) (Nat.le_of_ble_eq_true (by kernel_rfl)) eG (by kernel_rfl) (Nat.le_of_ble_eq_true (by kernel_rfl))
end spec_l6In
namespace spec_l3By
def sin:Sig:=⟨[],[.one (.val (.sl (.sl I)) false),.one (.val (.sl I) false)]⟩
def sout:Sig:=⟨[],[.one (.val (.sl I) true),.one (.val .bool false)]⟩
def h17:SS:=⟨[6,9,10,11,12],⟨[.buf (.sl I) false],[.one (.ref (.own 0)),.one (.val (.sl I) false),.one (.val I false),.one (.val I false),.one (.val I false)]⟩⟩
def x17:SS:=⟨[6,9,10,11],⟨[.buf (.sl I) false],[.one (.ref (.own 0)),.one (.val (.sl I) false),.one (.val I false),.one (.val I false)]⟩⟩
def y17:SS:=⟨[],⟨[],[]⟩⟩
noncomputable def b17 {β:Type}(S:Sl)(L:(List (List Int))→(List Int)→Int→Int→Int→Option β)(kx:(List (List Int))→(List Int)→Int→Int→Option β)(kr:Option β)(s0:(List (List Int)))(s1:(List Int))(s2:Int)(s3:Int)(s4:Int):Option β:=bif(S.lt s4 (s0.length:Int))then(bif(!S.eq s4 s3)then(bif(S.ir s4 s0.length)then(bif(S.ir s2 (List.getD s0 (Int.toNat s4) []).length)then(bif(!S.eq (List.getD (List.getD s0 (Int.toNat s4) []) (Int.toNat s2) 0) 0)then(bif(S.ir s4 s0.length)then(bif(S.ir s3 s0.length)then(spec_l3Less.G S (List.getD s0 (Int.toNat s4) []) (List.getD s0 (Int.toNat s3) []) (fun y1=>bif(S.ir s4 s0.length)then(L (List.set s0 (Int.toNat s4) y1) s1 s2 s3 (S.w (s4+1)))else(none)))else(none))else(none))else(L s0 s1 s2 s3 (S.w (s4+1))))else(none))else(none))else(L s0 s1 s2 s3 (S.w (s4+1))))else(kx s0 s1 s2 s3)
noncomputable def r17 {β:Type}(S:Sl)(n:Nat)(kx:x17.sig.den→Option β)(kr:y17.sig.den→Option β)(s:h17.sig.den):Option β:=rounds (fun L kx kr s=>b17 S (fun x0 x1 x2 x3 x4=>L ((x0,()),(x1,(x2,(x3,(x4,())))))) (fun x0 x1 x2 x3=>kx ((x0,()),(x1,(x2,(x3,()))))) (kr ((),())) s.1.1 s.2.1 s.2.2.1 s.2.2.2.1 s.2.2.2.2.1) kx kr n s
noncomputable def l17 {β:Type}(S:Sl)(n:Nat)(kx:(List (List Int))→(List Int)→Int→Int→Option β)(kr:Option β)(s0:(List (List Int)))(s1:(List Int))(s2:Int)(s3:Int)(s4:Int):Option β:=r17 S n (fun s=>kx s.1.1 s.2.1 s.2.2.1 s.2.2.2.1) (fun s=>kr) ((s0,()),(s1,(s2,(s3,(s4,())))))
theorem t17 {β:Type}(S:Sl)(n:Nat)(kx:(List (List Int))→(List Int)→Int→Int→Option β)(kr:Option β)(s0:(List (List Int)))(s1:(List Int))(s2:Int)(s3:Int)(s4:Int):l17 S (n+1) kx kr s0 s1 s2 s3 s4=b17 S (l17 S n kx kr) kx kr s0 s1 s2 s3 s4:=by kernel_rfl
def h13:SS:=⟨[6,9,10,11],⟨[.buf (.sl I) false],[.one (.ref (.own 0)),.one (.val (.sl I) false),.one (.val I false),.one (.val I false)]⟩⟩
def x13:SS:=⟨[6,9,10],⟨[.buf (.sl I) false],[.one (.ref (.own 0)),.one (.val (.sl I) false),.one (.val I false)]⟩⟩
def y13:SS:=⟨[],⟨[],[]⟩⟩
noncomputable def b13 {β:Type}(S:Sl)(L:(List (List Int))→(List Int)→Int→Int→Option β)(kx:(List (List Int))→(List Int)→Int→Option β)(kr:Option β)(s0:(List (List Int)))(s1:(List Int))(s2:Int)(s3:Int):Option β:=bif(S.lt s3 (s0.length:Int))then(bif(S.ir s3 s0.length)then(spec_l2Lead.G S (List.getD s0 (Int.toNat s3) []) (fun y1=>bif(S.eq y1 s2)then(l17 S S.n (fun y2 y3 y4 y5=>bif(S.ir y5 y2.length)then(spec_l3Less.G S y3 (List.getD y2 (Int.toNat y5) []) (fun y6=>kx y2 y6 y4))else(none)) none s0 s1 s2 s3 0)else(L s0 s1 s2 (S.w (s3+1)))))else(none))else(kx s0 s1 s2)
noncomputable def r13 {β:Type}(S:Sl)(n:Nat)(kx:x13.sig.den→Option β)(kr:y13.sig.den→Option β)(s:h13.sig.den):Option β:=rounds (fun L kx kr s=>b13 S (fun x0 x1 x2 x3=>L ((x0,()),(x1,(x2,(x3,()))))) (fun x0 x1 x2=>kx ((x0,()),(x1,(x2,())))) (kr ((),())) s.1.1 s.2.1 s.2.2.1 s.2.2.2.1) kx kr n s
noncomputable def l13 {β:Type}(S:Sl)(n:Nat)(kx:(List (List Int))→(List Int)→Int→Option β)(kr:Option β)(s0:(List (List Int)))(s1:(List Int))(s2:Int)(s3:Int):Option β:=r13 S n (fun s=>kx s.1.1 s.2.1 s.2.2.1) (fun s=>kr) ((s0,()),(s1,(s2,(s3,()))))
theorem t13 {β:Type}(S:Sl)(n:Nat)(kx:(List (List Int))→(List Int)→Int→Option β)(kr:Option β)(s0:(List (List Int)))(s1:(List Int))(s2:Int)(s3:Int):l13 S (n+1) kx kr s0 s1 s2 s3=b13 S (l13 S n kx kr) kx kr s0 s1 s2 s3:=by kernel_rfl
def h10:SS:=⟨[6,9,10],⟨[.buf (.sl I) false],[.one (.ref (.own 0)),.one (.val (.sl I) false),.one (.val I false)]⟩⟩
def x10:SS:=⟨[9],⟨[],[.one (.val (.sl I) false)]⟩⟩
def y10:SS:=⟨[],⟨[],[]⟩⟩
noncomputable def b10 {β:Type}(S:Sl)(L:(List (List Int))→(List Int)→Int→Option β)(kx:(List Int)→Option β)(kr:Option β)(s0:(List (List Int)))(s1:(List Int))(s2:Int):Option β:=bif(S.lt s2 4)then(l13 S S.n (fun y1 y2 y3=>L y1 y2 (S.w (y3+1))) none s0 s1 s2 0)else(kx s1)
noncomputable def r10 {β:Type}(S:Sl)(n:Nat)(kx:x10.sig.den→Option β)(kr:y10.sig.den→Option β)(s:h10.sig.den):Option β:=rounds (fun L kx kr s=>b10 S (fun x0 x1 x2=>L ((x0,()),(x1,(x2,())))) (fun x0=>kx ((),(x0,()))) (kr ((),())) s.1.1 s.2.1 s.2.2.1) kx kr n s
noncomputable def l10 {β:Type}(S:Sl)(n:Nat)(kx:(List Int)→Option β)(kr:Option β)(s0:(List (List Int)))(s1:(List Int))(s2:Int):Option β:=r10 S n (fun s=>kx s.2.1) (fun s=>kr) ((s0,()),(s1,(s2,())))
theorem t10 {β:Type}(S:Sl)(n:Nat)(kx:(List Int)→Option β)(kr:Option β)(s0:(List (List Int)))(s1:(List Int))(s2:Int):l10 S (n+1) kx kr s0 s1 s2=b10 S (l10 S n kx kr) kx kr s0 s1 s2:=by kernel_rfl
def h3:SS:=⟨[0,1,6,7],⟨[.buf (.sl I) false],[.one (.val (.sl (.sl I)) false),.one (.val (.sl I) false),.one (.ref (.own 0)),.one (.val I false)]⟩⟩
def x3:SS:=⟨[0,1,6],⟨[.buf (.sl I) false],[.one (.val (.sl (.sl I)) false),.one (.val (.sl I) false),.one (.ref (.own 0))]⟩⟩
def y3:SS:=⟨[],⟨[],[]⟩⟩
noncomputable def b3 {β:Type}(S:Sl)(L:(List (List Int))→(List (List Int))→(List Int)→Int→Option β)(kx:(List (List Int))→(List (List Int))→(List Int)→Option β)(kr:Option β)(s0:(List (List Int)))(s1:(List (List Int)))(s2:(List Int))(s3:Int):Option β:=bif(S.lt s3 (s1.length:Int))then(bif((S.le 0 (s1.length:Int))&&(S.le (s1.length:Int) (s1.length:Int))&&S.fw (Int.toNat (s1.length:Int)))then(bif(S.ir s3 (List.replicate (Int.toNat (s1.length:Int)) (0:Int)).length)then(bif(S.ir s3 s1.length)then(bif(S.fw ([]++(List.getD s1 (Int.toNat s3) [])).length)then(bif(S.fw (([]++(List.getD s1 (Int.toNat s3) []))++(List.set (List.replicate (Int.toNat (s1.length:Int)) (0:Int)) (Int.toNat s3) 1)).length)then(bif(S.fw (s0 ++ [(([]++(List.getD s1 (Int.toNat s3) []))++(List.set (List.replicate (Int.toNat (s1.length:Int)) (0:Int)) (Int.toNat s3) 1))]).length)then(L (s0 ++ [(([]++(List.getD s1 (Int.toNat s3) []))++(List.set (List.replicate (Int.toNat (s1.length:Int)) (0:Int)) (Int.toNat s3) 1))]) s1 s2 (S.w (s3+1)))else(none))else(none))else(none))else(none))else(none))else(none))else(kx s0 s1 s2)
noncomputable def r3 {β:Type}(S:Sl)(n:Nat)(kx:x3.sig.den→Option β)(kr:y3.sig.den→Option β)(s:h3.sig.den):Option β:=rounds (fun L kx kr s=>b3 S (fun x0 x1 x2 x3=>L ((x0,()),(x1,(x2,(x3,()))))) (fun x0 x1 x2=>kx ((x0,()),(x1,(x2,())))) (kr ((),())) s.1.1 s.2.1 s.2.2.1 s.2.2.2.1) kx kr n s
noncomputable def l3 {β:Type}(S:Sl)(n:Nat)(kx:(List (List Int))→(List (List Int))→(List Int)→Option β)(kr:Option β)(s0:(List (List Int)))(s1:(List (List Int)))(s2:(List Int))(s3:Int):Option β:=r3 S n (fun s=>kx s.1.1 s.2.1 s.2.2.1) (fun s=>kr) ((s0,()),(s1,(s2,(s3,()))))
theorem t3 {β:Type}(S:Sl)(n:Nat)(kx:(List (List Int))→(List (List Int))→(List Int)→Option β)(kr:Option β)(s0:(List (List Int)))(s1:(List (List Int)))(s2:(List Int))(s3:Int):l3 S (n+1) kx kr s0 s1 s2 s3=b3 S (l3 S n kx kr) kx kr s0 s1 s2 s3:=by kernel_rfl
noncomputable def G {β:Type}(S:Sl)(a0:(List (List Int)))(a1:(List Int))(K:(List Int)→Bool→Option β):Option β:=l3 S S.n (fun y1 y2 y3=>bif(S.fw ([]++y3).length)then(bif((S.le 0 (y2.length:Int))&&S.fw (([]++y3)++(List.replicate (Int.toNat (y2.length:Int)) (0:Int))).length)then(l10 S S.n (fun y4=>spec_l2Lead.G S y4 (fun y5=>spec_l6In.G S y5 0 3 (fun y6=>bif y6 then(K [] false)else(bif((S.le 0 4)&&(S.le 4 (y4.length:Int))&&(S.le (y4.length:Int) (y4.length:Int))&&(S.le (y4.length:Int) (y4.length:Int)))then(spec_l2Scale.G S (cutL y4 (Int.toNat 4) (Int.toNat (y4.length:Int))) 30 (fun y7=>K y7 true))else(none))))) none y1 (([]++y3)++(List.replicate (Int.toNat (y2.length:Int)) (0:Int))) 0)else(none))else(none)) none [] a0 a1 0
noncomputable def o:Orac:=⟨204,sin,sout,fun s K=>G sl0 s.2.1 s.2.2.1 (fun x0 x1=>K ((),(x0,(x1,()))))⟩
noncomputable def C:Ctx:=⟨tyT,[spec_l2Lead.o,spec_l2Scale.o,spec_l3Less.o,spec_l6In.o],[⟨3,0,h3,x3,y3,fun s kx kr=>r3 sl0 sl0.n kx kr s⟩,⟨10,2,h10,x10,y10,fun s kx kr=>r10 sl0 sl0.n kx kr s⟩,⟨13,4,h13,x13,y13,fun s kx kr=>r13 sl0 sl0.n kx kr s⟩,⟨17,6,h17,x17,y17,fun s kx kr=>r17 sl0 sl0.n kx kr s⟩],104,0⟩
theorem ctx:CtxOk Tryz.prog C:=⟨tyOk,all1 spec_l2Lead.ok (all1 spec_l2Scale.ok (all1 spec_l3Less.ok (all1 spec_l6In.ok (all0))))⟩
theorem e17 (β:Type)(L:h17.sig.den→Option β)(kx:x17.sig.den→Option β)(kr:y17.sig.den→Option β)(s:h17.sig.den):evalBody C (nthC (loopsOf (bodyC Tryz.f204)) 3) 6 h17 x17 y17 L kx kr s=b17 sl0 (fun x0 x1 x2 x3 x4=>L ((x0,()),(x1,(x2,(x3,(x4,())))))) (fun x0 x1 x2 x3=>kx ((x0,()),(x1,(x2,(x3,()))))) (kr ((),())) s.1.1 s.2.1 s.2.2.1 s.2.2.2.1 s.2.2.2.2.1:=by kernel_rfl
theorem g17:LS Tryz.prog C ⟨17,6,h17,x17,y17,fun s kx kr=>r17 sl0 sl0.n kx kr s⟩ (loopsOf (bodyC Tryz.f204)):=LS.at (i:=3) (by kernel_rfl) (loop_good mixed ctx (ctx_nat ctx) (N:=sl0.n) (fun _ _ _ _=>rfl) e17 (all1 (LS.none (by kernel_rfl)) (all1 (LS.none (by kernel_rfl)) (all1 (LS.none (by kernel_rfl)) (all1 (LS.none (by kernel_rfl)) (all0))))))
theorem e13 (β:Type)(L:h13.sig.den→Option β)(kx:x13.sig.den→Option β)(kr:y13.sig.den→Option β)(s:h13.sig.den):evalBody C (nthC (loopsOf (bodyC Tryz.f204)) 2) 4 h13 x13 y13 L kx kr s=b13 sl0 (fun x0 x1 x2 x3=>L ((x0,()),(x1,(x2,(x3,()))))) (fun x0 x1 x2=>kx ((x0,()),(x1,(x2,())))) (kr ((),())) s.1.1 s.2.1 s.2.2.1 s.2.2.2.1:=by kernel_rfl
theorem g13:LS Tryz.prog C ⟨13,4,h13,x13,y13,fun s kx kr=>r13 sl0 sl0.n kx kr s⟩ (loopsOf (bodyC Tryz.f204)):=LS.at (i:=2) (by kernel_rfl) (loop_good mixed ctx (ctx_nat ctx) (N:=sl0.n) (fun _ _ _ _=>rfl) e13 (all1 (LS.none (by kernel_rfl)) (all1 (LS.none (by kernel_rfl)) (all1 (LS.none (by kernel_rfl)) (all1 ((g17).sub (nthC_mem (by kernel_rfl))) (all0))))))
theorem e10 (β:Type)(L:h10.sig.den→Option β)(kx:x10.sig.den→Option β)(kr:y10.sig.den→Option β)(s:h10.sig.den):evalBody C (nthC (loopsOf (bodyC Tryz.f204)) 1) 2 h10 x10 y10 L kx kr s=b10 sl0 (fun x0 x1 x2=>L ((x0,()),(x1,(x2,())))) (fun x0=>kx ((),(x0,()))) (kr ((),())) s.1.1 s.2.1 s.2.2.1:=by kernel_rfl
theorem g10:LS Tryz.prog C ⟨10,2,h10,x10,y10,fun s kx kr=>r10 sl0 sl0.n kx kr s⟩ (loopsOf (bodyC Tryz.f204)):=LS.at (i:=1) (by kernel_rfl) (loop_good mixed ctx (ctx_nat ctx) (N:=sl0.n) (fun _ _ _ _=>rfl) e10 (all1 (LS.none (by kernel_rfl)) (all1 (LS.none (by kernel_rfl)) (all1 ((g13).sub (nthC_mem (by kernel_rfl))) (all1 ((g17).sub (nthC_mem (by kernel_rfl))) (all0))))))
theorem e3 (β:Type)(L:h3.sig.den→Option β)(kx:x3.sig.den→Option β)(kr:y3.sig.den→Option β)(s:h3.sig.den):evalBody C (nthC (loopsOf (bodyC Tryz.f204)) 0) 0 h3 x3 y3 L kx kr s=b3 sl0 (fun x0 x1 x2 x3=>L ((x0,()),(x1,(x2,(x3,()))))) (fun x0 x1 x2=>kx ((x0,()),(x1,(x2,())))) (kr ((),())) s.1.1 s.2.1 s.2.2.1 s.2.2.2.1:=by kernel_rfl
theorem g3:LS Tryz.prog C ⟨3,0,h3,x3,y3,fun s kx kr=>r3 sl0 sl0.n kx kr s⟩ (loopsOf (bodyC Tryz.f204)):=LS.at (i:=0) (by kernel_rfl) (loop_good mixed ctx (ctx_nat ctx) (N:=sl0.n) (fun _ _ _ _=>rfl) e3 (all1 (LS.none (by kernel_rfl)) (all1 (LS.none (by kernel_rfl)) (all1 (LS.none (by kernel_rfl)) (all1 (LS.none (by kernel_rfl)) (all0))))))
theorem eG (β:Type)(s:sin.den)(K:sout.den→Option β):evalFn C Tryz.f204 sin sout s K=o.F s K:=by kernel_rfl
theorem ok:OracOk Tryz.prog o:=fn_ok mixed Tryz.func204 (by kernel_rfl) ctx (c:=bodyC Tryz.f204) (by kernel_rfl) (all1 g3 (all1 g10 (all1 g13 (all1 g17 (all0))))) (by kernel_rfl) (by kernel_rfl) (by kernel_rfl) (Nat.le_of_ble_eq_true (by kernel_rfl)) eG (by kernel_rfl) (Nat.le_of_ble_eq_true (by kernel_rfl))
end spec_l3By
namespace spec_l3Add
def sin:Sig:=⟨[],[.one (.val (.sl (.sl I)) false),.one (.val (.sl I) false)]⟩
def sout:Sig:=⟨[],[.one (.val (.sl (.sl I)) false)]⟩
def h12:SS:=⟨[0,1,6,7,8,9],⟨[.buf (.sl I) true],[.one (.val (.sl (.sl I)) false),.one (.val (.sl I) true),.one (.val I false),.one (.ref (.own 0)),.one (.val .bool false),.one (.val I false)]⟩⟩
def x12:SS:=⟨[1,7,8],⟨[.buf (.sl I) true],[.one (.val (.sl I) true),.one (.ref (.own 0)),.one (.val .bool false)]⟩⟩
def y12:SS:=⟨[],⟨[],[]⟩⟩
noncomputable def b12 {β:Type}(S:Sl)(L:(List (List Int))→(List (List Int))→(List Int)→Int→Bool→Int→Option β)(kx:(List (List Int))→(List Int)→Bool→Option β)(kr:Option β)(s0:(List (List Int)))(s1:(List (List Int)))(s2:(List Int))(s3:Int)(s4:Bool)(s5:Int):Option β:=bif(S.lt s5 (s1.length:Int))then(bif(!s4)then(bif(S.ir s5 s1.length)then(spec_l2Lead.G S (List.getD s1 (Int.toNat s5) []) (fun y1=>bif(S.lt s3 y1)then(bif(S.fw (s0 ++ [s2]).length)then(bif(S.ir s5 s1.length)then(spec_l3Less.G S (List.getD s1 (Int.toNat s5) []) s2 (fun y2=>bif(S.fw ((s0 ++ [s2]) ++ [y2]).length)then(L ((s0 ++ [s2]) ++ [y2]) s1 s2 s3 true (S.w (s5+1)))else(none)))else(none))else(none))else(bif(S.ir s5 s1.length)then(spec_l3Less.G S (List.getD s1 (Int.toNat s5) []) s2 (fun y3=>bif(S.fw (s0 ++ [y3]).length)then(L (s0 ++ [y3]) s1 s2 s3 s4 (S.w (s5+1)))else(none)))else(none))))else(none))else(bif(S.ir s5 s1.length)then(spec_l3Less.G S (List.getD s1 (Int.toNat s5) []) s2 (fun y4=>bif(S.fw (s0 ++ [y4]).length)then(L (s0 ++ [y4]) s1 s2 s3 s4 (S.w (s5+1)))else(none)))else(none)))else(kx s0 s2 s4)
noncomputable def r12 {β:Type}(S:Sl)(n:Nat)(kx:x12.sig.den→Option β)(kr:y12.sig.den→Option β)(s:h12.sig.den):Option β:=rounds (fun L kx kr s=>b12 S (fun x0 x1 x2 x3 x4 x5=>L ((x0,()),(x1,(x2,(x3,(x4,(x5,()))))))) (fun x0 x1 x2=>kx ((x0,()),(x1,(x2,())))) (kr ((),())) s.1.1 s.2.1 s.2.2.1 s.2.2.2.1 s.2.2.2.2.1 s.2.2.2.2.2.1) kx kr n s
noncomputable def l12 {β:Type}(S:Sl)(n:Nat)(kx:(List (List Int))→(List Int)→Bool→Option β)(kr:Option β)(s0:(List (List Int)))(s1:(List (List Int)))(s2:(List Int))(s3:Int)(s4:Bool)(s5:Int):Option β:=r12 S n (fun s=>kx s.1.1 s.2.1 s.2.2.1) (fun s=>kr) ((s0,()),(s1,(s2,(s3,(s4,(s5,()))))))
theorem t12 {β:Type}(S:Sl)(n:Nat)(kx:(List (List Int))→(List Int)→Bool→Option β)(kr:Option β)(s0:(List (List Int)))(s1:(List (List Int)))(s2:(List Int))(s3:Int)(s4:Bool)(s5:Int):l12 S (n+1) kx kr s0 s1 s2 s3 s4 s5=b12 S (l12 S n kx kr) kx kr s0 s1 s2 s3 s4 s5:=by kernel_rfl
def h2:SS:=⟨[0,1,5],⟨[],[.one (.val (.sl (.sl I)) false),.one (.val (.sl I) false),.one (.val I false)]⟩⟩
def x2:SS:=⟨[0,1],⟨[],[.one (.val (.sl (.sl I)) false),.one (.val (.sl I) false)]⟩⟩
def y2:SS:=⟨[],⟨[],[]⟩⟩
noncomputable def b2 {β:Type}(S:Sl)(L:(List (List Int))→(List Int)→Int→Option β)(kx:(List (List Int))→(List Int)→Option β)(kr:Option β)(s0:(List (List Int)))(s1:(List Int))(s2:Int):Option β:=bif(S.lt s2 (s0.length:Int))then(bif(S.ir s2 s0.length)then(spec_l3Less.G S s1 (List.getD s0 (Int.toNat s2) []) (fun y1=>L s0 y1 (S.w (s2+1))))else(none))else(kx s0 s1)
noncomputable def r2 {β:Type}(S:Sl)(n:Nat)(kx:x2.sig.den→Option β)(kr:y2.sig.den→Option β)(s:h2.sig.den):Option β:=rounds (fun L kx kr s=>b2 S (fun x0 x1 x2=>L ((),(x0,(x1,(x2,()))))) (fun x0 x1=>kx ((),(x0,(x1,())))) (kr ((),())) s.2.1 s.2.2.1 s.2.2.2.1) kx kr n s
noncomputable def l2 {β:Type}(S:Sl)(n:Nat)(kx:(List (List Int))→(List Int)→Option β)(kr:Option β)(s0:(List (List Int)))(s1:(List Int))(s2:Int):Option β:=r2 S n (fun s=>kx s.2.1 s.2.2.1) (fun s=>kr) ((),(s0,(s1,(s2,()))))
theorem t2 {β:Type}(S:Sl)(n:Nat)(kx:(List (List Int))→(List Int)→Option β)(kr:Option β)(s0:(List (List Int)))(s1:(List Int))(s2:Int):l2 S (n+1) kx kr s0 s1 s2=b2 S (l2 S n kx kr) kx kr s0 s1 s2:=by kernel_rfl
noncomputable def G {β:Type}(S:Sl)(a0:(List (List Int)))(a1:(List Int))(K:(List (List Int))→Option β):Option β:=l2 S S.n (fun y1 y2=>spec_l2Lead.G S y2 (fun y3=>bif(S.lt y3 0)then(K y1)else(bif(S.ir y3 y2.length)then(spec_l1Inv.G S (List.getD y2 (Int.toNat y3) 0) (fun y4=>spec_l2Scale.G S y2 y4 (fun y5=>l12 S S.n (fun y6 y7 y8=>bif(!y8)then(bif(S.fw (y6 ++ [y7]).length)then(K (y6 ++ [y7]))else(none))else(K y6)) none [] y1 y5 y3 false 0)))else(none)))) none a0 a1 0
noncomputable def o:Orac:=⟨229,sin,sout,fun s K=>G sl0 s.2.1 s.2.2.1 (fun x0=>K ((),(x0,())))⟩
noncomputable def C:Ctx:=⟨tyT,[spec_l1Inv.o,spec_l2Lead.o,spec_l2Scale.o,spec_l3Less.o],[⟨2,0,h2,x2,y2,fun s kx kr=>r2 sl0 sl0.n kx kr s⟩,⟨12,2,h12,x12,y12,fun s kx kr=>r12 sl0 sl0.n kx kr s⟩],72,0⟩
theorem ctx:CtxOk Tryz.prog C:=⟨tyOk,all1 spec_l1Inv.ok (all1 spec_l2Lead.ok (all1 spec_l2Scale.ok (all1 spec_l3Less.ok (all0))))⟩
theorem e12 (β:Type)(L:h12.sig.den→Option β)(kx:x12.sig.den→Option β)(kr:y12.sig.den→Option β)(s:h12.sig.den):evalBody C (nthC (loopsOf (bodyC Tryz.f229)) 1) 2 h12 x12 y12 L kx kr s=b12 sl0 (fun x0 x1 x2 x3 x4 x5=>L ((x0,()),(x1,(x2,(x3,(x4,(x5,()))))))) (fun x0 x1 x2=>kx ((x0,()),(x1,(x2,())))) (kr ((),())) s.1.1 s.2.1 s.2.2.1 s.2.2.2.1 s.2.2.2.2.1 s.2.2.2.2.2.1:=by kernel_rfl
theorem g12:LS Tryz.prog C ⟨12,2,h12,x12,y12,fun s kx kr=>r12 sl0 sl0.n kx kr s⟩ (loopsOf (bodyC Tryz.f229)):=LS.at (i:=1) (by kernel_rfl) (loop_good mixed ctx (ctx_nat ctx) (N:=sl0.n) (fun _ _ _ _=>rfl) e12 (all1 (LS.none (by kernel_rfl)) (all1 (LS.none (by kernel_rfl)) (all0))))
theorem e2 (β:Type)(L:h2.sig.den→Option β)(kx:x2.sig.den→Option β)(kr:y2.sig.den→Option β)(s:h2.sig.den):evalBody C (nthC (loopsOf (bodyC Tryz.f229)) 0) 0 h2 x2 y2 L kx kr s=b2 sl0 (fun x0 x1 x2=>L ((),(x0,(x1,(x2,()))))) (fun x0 x1=>kx ((),(x0,(x1,())))) (kr ((),())) s.2.1 s.2.2.1 s.2.2.2.1:=by kernel_rfl
theorem g2:LS Tryz.prog C ⟨2,0,h2,x2,y2,fun s kx kr=>r2 sl0 sl0.n kx kr s⟩ (loopsOf (bodyC Tryz.f229)):=LS.at (i:=0) (by kernel_rfl) (loop_good mixed ctx (ctx_nat ctx) (N:=sl0.n) (fun _ _ _ _=>rfl) e2 (all1 (LS.none (by kernel_rfl)) (all1 (LS.none (by kernel_rfl)) (all0))))
theorem eG (β:Type)(s:sin.den)(K:sout.den→Option β):evalFn C Tryz.f229 sin sout s K=o.F s K:=by kernel_rfl
theorem ok:OracOk Tryz.prog o:=fn_ok mixed Tryz.func229 (by kernel_rfl) ctx (c:=bodyC Tryz.f229) (by kernel_rfl) (all1 g2 (all1 g12 (all0))) (by kernel_rfl) (by kernel_rfl) (by kernel_rfl) (Nat.le_of_ble_eq_true (by kernel_rfl)) eG (by kernel_rfl) (Nat.le_of_ble_eq_true (by kernel_rfl))
end spec_l3Add
namespace spec_l3Tidy
def sin:Sig:=⟨[],[.one (.val (.sl (.sl I)) false)]⟩
def sout:Sig:=⟨[],[.one (.val (.sl (.sl I)) false)]⟩
def h3:SS:=⟨[0,3,4],⟨[],[.one (.val (.sl (.sl I)) false),.one (.val (.sl (.sl I)) false),.one (.val I false)]⟩⟩
def x3:SS:=⟨[3],⟨[],[.one (.val (.sl (.sl I)) false)]⟩⟩
def y3:SS:=⟨[],⟨[],[]⟩⟩
noncomputable def b3 {β:Type}(S:Sl)(L:(List (List Int))→(List (List Int))→Int→Option β)(kx:(List (List Int))→Option β)(kr:Option β)(s0:(List (List Int)))(s1:(List (List Int)))(s2:Int):Option β:=bif(S.lt s2 (s0.length:Int))then(bif(S.ir s2 s0.length)then(spec_l3Add.G S s1 (List.getD s0 (Int.toNat s2) []) (fun y1=>L s0 y1 (S.w (s2+1))))else(none))else(kx s1)
noncomputable def r3 {β:Type}(S:Sl)(n:Nat)(kx:x3.sig.den→Option β)(kr:y3.sig.den→Option β)(s:h3.sig.den):Option β:=rounds (fun L kx kr s=>b3 S (fun x0 x1 x2=>L ((),(x0,(x1,(x2,()))))) (fun x0=>kx ((),(x0,()))) (kr ((),())) s.2.1 s.2.2.1 s.2.2.2.1) kx kr n s
noncomputable def l3 {β:Type}(S:Sl)(n:Nat)(kx:(List (List Int))→Option β)(kr:Option β)(s0:(List (List Int)))(s1:(List (List Int)))(s2:Int):Option β:=r3 S n (fun s=>kx s.2.1) (fun s=>kr) ((),(s0,(s1,(s2,()))))
theorem t3 {β:Type}(S:Sl)(n:Nat)(kx:(List (List Int))→Option β)(kr:Option β)(s0:(List (List Int)))(s1:(List (List Int)))(s2:Int):l3 S (n+1) kx kr s0 s1 s2=b3 S (l3 S n kx kr) kx kr s0 s1 s2:=by kernel_rfl
noncomputable def G {β:Type}(S:Sl)(a0:(List (List Int)))(K:(List (List Int))→Option β):Option β:=l3 S S.n (fun y1=>K y1) none a0 [] 0
noncomputable def o:Orac:=⟨214,sin,sout,fun s K=>G sl0 s.2.1 (fun x0=>K ((),(x0,())))⟩
noncomputable def C:Ctx:=⟨tyT,[spec_l3Add.o],[⟨3,0,h3,x3,y3,fun s kx kr=>r3 sl0 sl0.n kx kr s⟩],19,0⟩
theorem ctx:CtxOk Tryz.prog C:=⟨tyOk,all1 spec_l3Add.ok (all0)⟩
theorem e3 (β:Type)(L:h3.sig.den→Option β)(kx:x3.sig.den→Option β)(kr:y3.sig.den→Option β)(s:h3.sig.den):evalBody C (nthC (loopsOf (bodyC Tryz.f214)) 0) 0 h3 x3 y3 L kx kr s=b3 sl0 (fun x0 x1 x2=>L ((),(x0,(x1,(x2,()))))) (fun x0=>kx ((),(x0,()))) (kr ((),())) s.2.1 s.2.2.1 s.2.2.2.1:=by kernel_rfl
theorem g3:LS Tryz.prog C ⟨3,0,h3,x3,y3,fun s kx kr=>r3 sl0 sl0.n kx kr s⟩ (loopsOf (bodyC Tryz.f214)):=LS.at (i:=0) (by kernel_rfl) (loop_good mixed ctx (ctx_nat ctx) (N:=sl0.n) (fun _ _ _ _=>rfl) e3 (all1 (LS.none (by kernel_rfl)) (all0)))
theorem eG (β:Type)(s:sin.den)(K:sout.den→Option β):evalFn C Tryz.f214 sin sout s K=o.F s K:=by kernel_rfl
theorem ok:OracOk Tryz.prog o:=fn_ok mixed Tryz.func214 (by kernel_rfl) ctx (c:=bodyC Tryz.f214) (by kernel_rfl) (all1 g3 (all0)) (by kernel_rfl) (by kernel_rfl) (by kernel_rfl) (Nat.le_of_ble_eq_true (by kernel_rfl)) eG (by kernel_rfl) (Nat.le_of_ble_eq_true (by kernel_rfl))
end spec_l3Tidy
namespace spec_l3Has
def sin:Sig:=⟨[],[.one (.val (.sl (.sl I)) false),.one (.val (.sl I) false)]⟩
def sout:Sig:=⟨[],[.one (.val .bool false)]⟩
noncomputable def G {β:Type}(S:Sl)(a0:(List (List Int)))(a1:(List Int))(K:Bool→Option β):Option β:=spec_l3Tidy.G S a0 (fun y1=>spec_l3Add.G S y1 a1 (fun y2=>K (S.eq (y2.length:Int) (y1.length:Int))))
noncomputable def o:Orac:=⟨203,sin,sout,fun s K=>G sl0 s.2.1 s.2.2.1 (fun x0=>K ((),(x0,())))⟩
noncomputable def C:Ctx:=⟨tyT,[spec_l3Add.o,spec_l3Tidy.o],[],15,0⟩
theorem ctx:CtxOk Tryz.prog C:=⟨tyOk,all1 spec_l3Add.ok (all1 spec_l3Tidy.ok (all0))⟩
theorem eG (β:Type)(s:sin.den)(K:sout.den→Option β):evalFn C Tryz.f203 sin sout s K=o.F s K:=by kernel_rfl
theorem ok:OracOk Tryz.prog o:=fn_ok mixed Tryz.func203 (by kernel_rfl) ctx (c:=bodyC Tryz.f203) (by kernel_rfl) (all0) (by kernel_rfl) (by kernel_rfl) (by kernel_rfl) (Nat.le_of_ble_eq_true (by kernel_rfl)) eG (by kernel_rfl) (Nat.le_of_ble_eq_true (by kernel_rfl))
end spec_l3Has
namespace spec_l4Row
def sin:Sig:=⟨[],[.one (.val I false),.one (.val I false)]⟩
def sout:Sig:=⟨[],[.one (.val (.sl I) false)]⟩
noncomputable def G {β:Type}(S:Sl)(a0:Int)(a1:Int)(K:(List Int)→Option β):Option β:=bif(S.eq a0 1)then(bif(S.ir a1 [[1,0,0,0],[0,1,0,0],[0,0,1,0],[0,0,0,1],[1,1,0,0],[0,0,1,1],[1,2,4,8],[1,3,9,27]].length)then(K (List.getD [[1,0,0,0],[0,1,0,0],[0,0,1,0],[0,0,0,1],[1,1,0,0],[0,0,1,1],[1,2,4,8],[1,3,9,27]] (Int.toNat a1) []))else(none))else(K [1,(S.w (a1+1)),(Int.tmod (S.w ((S.w (a1+1))*(S.w (a1+1)))) 31),(Int.tmod (S.w ((S.w ((S.w (a1+1))*(S.w (a1+1))))*(S.w (a1+1)))) 31)])
noncomputable def o:Orac:=⟨190,sin,sout,fun s K=>G sl0 s.2.1 s.2.2.1 (fun x0=>K ((),(x0,())))⟩
noncomputable def C:Ctx:=⟨tyT,[],[],34,0⟩
theorem ctx:CtxOk Tryz.prog C:=⟨tyOk,all0⟩
theorem eG (β:Type)(s:sin.den)(K:sout.den→Option β):evalFn C Tryz.f190 sin sout s K=o.F s K:=by kernel_rfl
theorem ok:OracOk Tryz.prog o:=fn_ok mixed Tryz.func190 (by kernel_rfl) ctx (c:=bodyC Tryz.f190) (by kernel_rfl) (all0) (by kernel_rfl) (by kernel_rfl) (by kernel_rfl) (Nat.le_of_ble_eq_true (by kernel_rfl)) eG (by kernel_rfl) (Nat.le_of_ble_eq_true (by kernel_rfl))
end spec_l4Row
namespace spec_l4Fits
def sin:Sig:=⟨[],[.one (.val I false),.one (.val (.sl I) false),.one (.val (.sl .bool) false)]⟩
def sout:Sig:=⟨[],[.one (.val .bool false)]⟩
def h12:SS:=⟨[0,1,2,7,8,9,11,13,14],⟨[.buf (.sl I) false,.buf I false],[.one (.val I false),.one (.val (.sl I) false),.one (.val (.sl .bool) false),.one (.ref (.own 0)),.one (.ref (.own 1)),.one (.val I false),.one (.val (.sl I) true),.one (.val I false),.one (.val I false)]⟩⟩
def x12:SS:=⟨[0,1,2,7,8,9,13],⟨[.buf (.sl I) false,.buf I false],[.one (.val I false),.one (.val (.sl I) false),.one (.val (.sl .bool) false),.one (.ref (.own 0)),.one (.ref (.own 1)),.one (.val I false),.one (.val I false)]⟩⟩
def y12:SS:=⟨[],⟨[],[]⟩⟩
noncomputable def b12 {β:Type}(S:Sl)(L:(List (List Int))→(List Int)→Int→(List Int)→(List Bool)→Int→(List Int)→Int→Int→Option β)(kx:(List (List Int))→(List Int)→Int→(List Int)→(List Bool)→Int→Int→Option β)(kr:Option β)(s0:(List (List Int)))(s1:(List Int))(s2:Int)(s3:(List Int))(s4:(List Bool))(s5:Int)(s6:(List Int))(s7:Int)(s8:Int):Option β:=bif(S.lt s8 (s6.length:Int))then(bif(S.ir s8 s6.length)then(bif(S.ir s8 s1.length)then(L s0 s1 s2 s3 s4 s5 s6 (Int.tmod (S.w (s7+(S.w ((List.getD s6 (Int.toNat s8) 0)*(List.getD s1 (Int.toNat s8) 0))))) 31) (S.w (s8+1)))else(none))else(none))else(kx s0 s1 s2 s3 s4 s5 s7)
noncomputable def r12 {β:Type}(S:Sl)(n:Nat)(kx:x12.sig.den→Option β)(kr:y12.sig.den→Option β)(s:h12.sig.den):Option β:=rounds (fun L kx kr s=>b12 S (fun x0 x1 x2 x3 x4 x5 x6 x7 x8=>L ((x0,(x1,())),(x2,(x3,(x4,(x5,(x6,(x7,(x8,()))))))))) (fun x0 x1 x2 x3 x4 x5 x6=>kx ((x0,(x1,())),(x2,(x3,(x4,(x5,(x6,()))))))) (kr ((),())) s.1.1 s.1.2.1 s.2.1 s.2.2.1 s.2.2.2.1 s.2.2.2.2.1 s.2.2.2.2.2.1 s.2.2.2.2.2.2.1 s.2.2.2.2.2.2.2.1) kx kr n s
noncomputable def l12 {β:Type}(S:Sl)(n:Nat)(kx:(List (List Int))→(List Int)→Int→(List Int)→(List Bool)→Int→Int→Option β)(kr:Option β)(s0:(List (List Int)))(s1:(List Int))(s2:Int)(s3:(List Int))(s4:(List Bool))(s5:Int)(s6:(List Int))(s7:Int)(s8:Int):Option β:=r12 S n (fun s=>kx s.1.1 s.1.2.1 s.2.1 s.2.2.1 s.2.2.2.1 s.2.2.2.2.1 s.2.2.2.2.2.1) (fun s=>kr) ((s0,(s1,())),(s2,(s3,(s4,(s5,(s6,(s7,(s8,()))))))))
theorem t12 {β:Type}(S:Sl)(n:Nat)(kx:(List (List Int))→(List Int)→Int→(List Int)→(List Bool)→Int→Int→Option β)(kr:Option β)(s0:(List (List Int)))(s1:(List Int))(s2:Int)(s3:(List Int))(s4:(List Bool))(s5:Int)(s6:(List Int))(s7:Int)(s8:Int):l12 S (n+1) kx kr s0 s1 s2 s3 s4 s5 s6 s7 s8=b12 S (l12 S n kx kr) kx kr s0 s1 s2 s3 s4 s5 s6 s7 s8:=by kernel_rfl
def h4:SS:=⟨[0,1,2,7,8,9],⟨[.buf (.sl I) false,.buf I false],[.one (.val I false),.one (.val (.sl I) false),.one (.val (.sl .bool) false),.one (.ref (.own 0)),.one (.ref (.own 1)),.one (.val I false)]⟩⟩
def x4:SS:=⟨[],⟨[],[]⟩⟩
def y4:SS:=⟨[6],⟨[],[.one (.val .bool false)]⟩⟩
noncomputable def b4 {β:Type}(S:Sl)(L:(List (List Int))→(List Int)→Int→(List Int)→(List Bool)→Int→Option β)(kx:Option β)(kr:Bool→Option β)(s0:(List (List Int)))(s1:(List Int))(s2:Int)(s3:(List Int))(s4:(List Bool))(s5:Int):Option β:=bif(S.lt s5 8)then(bif(S.ir s5 s4.length)then(bif(!(List.getD s4 (Int.toNat s5) false))then(L s0 s1 s2 s3 s4 (S.w (s5+1)))else(spec_l4Row.G S s2 s5 (fun y1=>spec_l3Has.G S s0 y1 (fun y2=>bif y2 then(spec_l3By.G S s0 y1 (fun y3 y4=>l12 S S.n (fun y5 y6 y7 y8 y9 y10 y11=>bif(S.ir y10 y8.length)then(bif(!S.eq y11 (List.getD y8 (Int.toNat y10) 0))then(kr false)else(L y5 y6 y7 y8 y9 (S.w (y10+1))))else(none)) none s0 s1 s2 s3 s4 s5 y3 0 0))else(bif(S.fw (s0 ++ [y1]).length)then(bif(S.ir s5 s3.length)then(bif(S.fw (s1 ++ [(List.getD s3 (Int.toNat s5) 0)]).length)then(L (s0 ++ [y1]) (s1 ++ [(List.getD s3 (Int.toNat s5) 0)]) s2 s3 s4 (S.w (s5+1)))else(none))else(none))else(none))))))else(none))else(kx)
noncomputable def r4 {β:Type}(S:Sl)(n:Nat)(kx:x4.sig.den→Option β)(kr:y4.sig.den→Option β)(s:h4.sig.den):Option β:=rounds (fun L kx kr s=>b4 S (fun x0 x1 x2 x3 x4 x5=>L ((x0,(x1,())),(x2,(x3,(x4,(x5,())))))) (kx ((),())) (fun x0=>kr ((),(x0,()))) s.1.1 s.1.2.1 s.2.1 s.2.2.1 s.2.2.2.1 s.2.2.2.2.1) kx kr n s
noncomputable def l4 {β:Type}(S:Sl)(n:Nat)(kx:Option β)(kr:Bool→Option β)(s0:(List (List Int)))(s1:(List Int))(s2:Int)(s3:(List Int))(s4:(List Bool))(s5:Int):Option β:=r4 S n (fun s=>kx) (fun s=>kr s.2.1) ((s0,(s1,())),(s2,(s3,(s4,(s5,())))))
theorem t4 {β:Type}(S:Sl)(n:Nat)(kx:Option β)(kr:Bool→Option β)(s0:(List (List Int)))(s1:(List Int))(s2:Int)(s3:(List Int))(s4:(List Bool))(s5:Int):l4 S (n+1) kx kr s0 s1 s2 s3 s4 s5=b4 S (l4 S n kx kr) kx kr s0 s1 s2 s3 s4 s5:=by kernel_rfl
noncomputable def G {β:Type}(S:Sl)(a0:Int)(a1:(List Int))(a2:(List Bool))(K:Bool→Option β):Option β:=l4 S S.n (K true) (fun y1=>K y1) [] [] a0 a1 a2 0
noncomputable def o:Orac:=⟨147,sin,sout,fun s K=>G sl0 s.2.1 s.2.2.1 s.2.2.2.1 (fun x0=>K ((),(x0,())))⟩
noncomputable def C:Ctx:=⟨tyT,[spec_l3By.o,spec_l3Has.o,spec_l4Row.o],[⟨4,0,h4,x4,y4,fun s kx kr=>r4 sl0 sl0.n kx kr s⟩,⟨12,2,h12,x12,y12,fun s kx kr=>r12 sl0 sl0.n kx kr s⟩],73,0⟩
theorem ctx:CtxOk Tryz.prog C:=⟨tyOk,all1 spec_l3By.ok (all1 spec_l3Has.ok (all1 spec_l4Row.ok (all0)))⟩
theorem e12 (β:Type)(L:h12.sig.den→Option β)(kx:x12.sig.den→Option β)(kr:y12.sig.den→Option β)(s:h12.sig.den):evalBody C (nthC (loopsOf (bodyC Tryz.f147)) 1) 2 h12 x12 y12 L kx kr s=b12 sl0 (fun x0 x1 x2 x3 x4 x5 x6 x7 x8=>L ((x0,(x1,())),(x2,(x3,(x4,(x5,(x6,(x7,(x8,()))))))))) (fun x0 x1 x2 x3 x4 x5 x6=>kx ((x0,(x1,())),(x2,(x3,(x4,(x5,(x6,()))))))) (kr ((),())) s.1.1 s.1.2.1 s.2.1 s.2.2.1 s.2.2.2.1 s.2.2.2.2.1 s.2.2.2.2.2.1 s.2.2.2.2.2.2.1 s.2.2.2.2.2.2.2.1:=by kernel_rfl
theorem g12:LS Tryz.prog C ⟨12,2,h12,x12,y12,fun s kx kr=>r12 sl0 sl0.n kx kr s⟩ (loopsOf (bodyC Tryz.f147)):=LS.at (i:=1) (by kernel_rfl) (loop_good mixed ctx (ctx_nat ctx) (N:=sl0.n) (fun _ _ _ _=>rfl) e12 (all1 (LS.none (by kernel_rfl)) (all1 (LS.none (by kernel_rfl)) (all0))))
theorem e4 (β:Type)(L:h4.sig.den→Option β)(kx:x4.sig.den→Option β)(kr:y4.sig.den→Option β)(s:h4.sig.den):evalBody C (nthC (loopsOf (bodyC Tryz.f147)) 0) 0 h4 x4 y4 L kx kr s=b4 sl0 (fun x0 x1 x2 x3 x4 x5=>L ((x0,(x1,())),(x2,(x3,(x4,(x5,())))))) (kx ((),())) (fun x0=>kr ((),(x0,()))) s.1.1 s.1.2.1 s.2.1 s.2.2.1 s.2.2.2.1 s.2.2.2.2.1:=by kernel_rfl
theorem g4:LS Tryz.prog C ⟨4,0,h4,x4,y4,fun s kx kr=>r4 sl0 sl0.n kx kr s⟩ (loopsOf (bodyC Tryz.f147)):=LS.at (i:=0) (by kernel_rfl) (loop_good mixed ctx (ctx_nat ctx) (N:=sl0.n) (fun _ _ _ _=>rfl) e4 (all1 (LS.none (by kernel_rfl)) (all1 ((g12).sub (nthC_mem (by kernel_rfl))) (all0))))
theorem eG (β:Type)(s:sin.den)(K:sout.den→Option β):evalFn C Tryz.f147 sin sout s K=o.F s K:=by kernel_rfl
theorem ok:OracOk Tryz.prog o:=fn_ok mixed Tryz.func147 (by kernel_rfl) ctx (c:=bodyC Tryz.f147) (by kernel_rfl) (all1 g4 (all1 g12 (all0))) (by kernel_rfl) (by kernel_rfl) (by kernel_rfl) (Nat.le_of_ble_eq_true (by kernel_rfl)) eG (by kernel_rfl) (Nat.le_of_ble_eq_true (by kernel_rfl))
end spec_l4Fits
namespace spec_l4Kind
def sin:Sig:=⟨[],[.one (.val I false)]⟩
def sout:Sig:=⟨[],[.one (.val .bool false)]⟩
noncomputable def G {β:Type}(S:Sl)(a0:Int)(K:Bool→Option β):Option β:=spec_l6In.G S a0 1 2 (fun y1=>K y1)
noncomputable def o:Orac:=⟨122,sin,sout,fun s K=>G sl0 s.2.1 (fun x0=>K ((),(x0,())))⟩
noncomputable def C:Ctx:=⟨tyT,[spec_l6In.o],[],5,0⟩
theorem ctx:CtxOk Tryz.prog C:=⟨tyOk,all1 spec_l6In.ok (all0)⟩
theorem eG (β:Type)(s:sin.den)(K:sout.den→Option β):evalFn C Tryz.f122 sin sout s K=o.F s K:=by kernel_rfl
theorem ok:OracOk Tryz.prog o:=fn_ok mixed Tryz.func122 (by kernel_rfl) ctx (c:=bodyC Tryz.f122) (by kernel_rfl) (all0) (by kernel_rfl) (by kernel_rfl) (by kernel_rfl) (Nat.le_of_ble_eq_true (by kernel_rfl)) eG (by kernel_rfl) (Nat.le_of_ble_eq_true (by kernel_rfl))
end spec_l4Kind
namespace spec_FieldOk
def sin:Sig:=⟨[],[.one (.val I false)]⟩
def sout:Sig:=⟨[],[.one (.val .bool false)]⟩
noncomputable def G {β:Type}(S:Sl)(a0:Int)(K:Bool→Option β):Option β:=spec_l6In.G S a0 0 30 (fun y1=>K y1)
noncomputable def o:Orac:=⟨170,sin,sout,fun s K=>G sl0 s.2.1 (fun x0=>K ((),(x0,())))⟩
noncomputable def C:Ctx:=⟨tyT,[spec_l6In.o],[],5,0⟩
theorem ctx:CtxOk Tryz.prog C:=⟨tyOk,all1 spec_l6In.ok (all0)⟩
theorem eG (β:Type)(s:sin.den)(K:sout.den→Option β):evalFn C Tryz.f170 sin sout s K=o.F s K:=by kernel_rfl
theorem ok:OracOk Tryz.prog o:=fn_ok mixed Tryz.func170 (by kernel_rfl) ctx (c:=bodyC Tryz.f170) (by kernel_rfl) (all0) (by kernel_rfl) (by kernel_rfl) (by kernel_rfl) (Nat.le_of_ble_eq_true (by kernel_rfl)) eG (by kernel_rfl) (Nat.le_of_ble_eq_true (by kernel_rfl))
end spec_FieldOk
namespace spec_l4Vals
def sin:Sig:=⟨[],[.one (.val (.sl I) false),.one (.val (.sl .bool) false)]⟩
def sout:Sig:=⟨[],[.one (.val .bool false)]⟩
def h2:SS:=⟨[0,1,5],⟨[],[.one (.val (.sl I) false),.one (.val (.sl .bool) false),.one (.val I false)]⟩⟩
def x2:SS:=⟨[0,1],⟨[],[.one (.val (.sl I) false),.one (.val (.sl .bool) false)]⟩⟩
def y2:SS:=⟨[4],⟨[],[.one (.val .bool false)]⟩⟩
noncomputable def b2 {β:Type}(S:Sl)(L:(List Int)→(List Bool)→Int→Option β)(kx:(List Int)→(List Bool)→Option β)(kr:Bool→Option β)(s0:(List Int))(s1:(List Bool))(s2:Int):Option β:=bif(S.lt s2 (s0.length:Int))then(bif(S.ir s2 s0.length)then(spec_FieldOk.G S (List.getD s0 (Int.toNat s2) 0) (fun y1=>bif(!y1)then(kr false)else(L s0 s1 (S.w (s2+1)))))else(none))else(kx s0 s1)
noncomputable def r2 {β:Type}(S:Sl)(n:Nat)(kx:x2.sig.den→Option β)(kr:y2.sig.den→Option β)(s:h2.sig.den):Option β:=rounds (fun L kx kr s=>b2 S (fun x0 x1 x2=>L ((),(x0,(x1,(x2,()))))) (fun x0 x1=>kx ((),(x0,(x1,())))) (fun x0=>kr ((),(x0,()))) s.2.1 s.2.2.1 s.2.2.2.1) kx kr n s
noncomputable def l2 {β:Type}(S:Sl)(n:Nat)(kx:(List Int)→(List Bool)→Option β)(kr:Bool→Option β)(s0:(List Int))(s1:(List Bool))(s2:Int):Option β:=r2 S n (fun s=>kx s.2.1 s.2.2.1) (fun s=>kr s.2.1) ((),(s0,(s1,(s2,()))))
theorem t2 {β:Type}(S:Sl)(n:Nat)(kx:(List Int)→(List Bool)→Option β)(kr:Bool→Option β)(s0:(List Int))(s1:(List Bool))(s2:Int):l2 S (n+1) kx kr s0 s1 s2=b2 S (l2 S n kx kr) kx kr s0 s1 s2:=by kernel_rfl
noncomputable def G {β:Type}(S:Sl)(a0:(List Int))(a1:(List Bool))(K:Bool→Option β):Option β:=l2 S S.n (fun y1 y2=>bif(S.eq (y1.length:Int) 8)then(K (S.eq (y2.length:Int) 8))else(K false)) (fun y3=>K y3) a0 a1 0
noncomputable def o:Orac:=⟨123,sin,sout,fun s K=>G sl0 s.2.1 s.2.2.1 (fun x0=>K ((),(x0,())))⟩
noncomputable def C:Ctx:=⟨tyT,[spec_FieldOk.o],[⟨2,0,h2,x2,y2,fun s kx kr=>r2 sl0 sl0.n kx kr s⟩],26,0⟩
theorem ctx:CtxOk Tryz.prog C:=⟨tyOk,all1 spec_FieldOk.ok (all0)⟩
theorem e2 (β:Type)(L:h2.sig.den→Option β)(kx:x2.sig.den→Option β)(kr:y2.sig.den→Option β)(s:h2.sig.den):evalBody C (nthC (loopsOf (bodyC Tryz.f123)) 0) 0 h2 x2 y2 L kx kr s=b2 sl0 (fun x0 x1 x2=>L ((),(x0,(x1,(x2,()))))) (fun x0 x1=>kx ((),(x0,(x1,())))) (fun x0=>kr ((),(x0,()))) s.2.1 s.2.2.1 s.2.2.2.1:=by kernel_rfl
theorem g2:LS Tryz.prog C ⟨2,0,h2,x2,y2,fun s kx kr=>r2 sl0 sl0.n kx kr s⟩ (loopsOf (bodyC Tryz.f123)):=LS.at (i:=0) (by kernel_rfl) (loop_good mixed ctx (ctx_nat ctx) (N:=sl0.n) (fun _ _ _ _=>rfl) e2 (all1 (LS.none (by kernel_rfl)) (all0)))
theorem eG (β:Type)(s:sin.den)(K:sout.den→Option β):evalFn C Tryz.f123 sin sout s K=o.F s K:=by kernel_rfl
theorem ok:OracOk Tryz.prog o:=fn_ok mixed Tryz.func123 (by kernel_rfl) ctx (c:=bodyC Tryz.f123) (by kernel_rfl) (all1 g2 (all0)) (by kernel_rfl) (by kernel_rfl) (by kernel_rfl) (Nat.le_of_ble_eq_true (by kernel_rfl)) eG (by kernel_rfl) (Nat.le_of_ble_eq_true (by kernel_rfl))
end spec_l4Vals
namespace spec_StripeOk
def sin:Sig:=⟨[],[.agg [.val I false,.val (.sl I) false,.val (.sl I) false,.val (.sl .bool) false]]⟩
def sout:Sig:=⟨[],[.one (.val .bool false)]⟩
def h4:SS:=⟨[1,3],⟨[.box [.val I false,.val (.sl I) false,.val (.sl I) false,.val (.sl .bool) false]],[.one (.ref (.ptr 0)),.one (.val I false)]⟩⟩
def x4:SS:=⟨[],⟨[],[]⟩⟩
def y4:SS:=⟨[2],⟨[],[.one (.val .bool false)]⟩⟩
noncomputable def b4 {β:Type}(S:Sl)(L:Int→(List Int)→(List Int)→(List Bool)→Int→Option β)(kx:Option β)(kr:Bool→Option β)(s0:Int)(s1:(List Int))(s2:(List Int))(s3:(List Bool))(s4:Int):Option β:=bif(S.lt s4 8)then(bif(S.ir s4 s3.length)then(bif(!(List.getD s3 (Int.toNat s4) false))then(bif(S.ir s4 s1.length)then(bif(!S.eq (List.getD s1 (Int.toNat s4) 0) 0)then(kr false)else(bif(S.ir s4 s2.length)then(bif(!S.eq (List.getD s2 (Int.toNat s4) 0) 0)then(kr false)else(bif(S.ir s4 s3.length)then(bif(List.getD s3 (Int.toNat s4) false)then(bif(S.ir s4 s2.length)then(spec_l6In.G S (List.getD s2 (Int.toNat s4) 0) 1 99 (fun y1=>bif(!y1)then(kr false)else(bif(S.ir s4 s2.length)then(spec_l21Of.G S s0 s1 s2 s3 (List.getD s2 (Int.toNat s4) 0) (fun y2=>spec_l4Fits.G S s0 s1 y2 (fun y3=>bif(!y3)then(kr false)else(L s0 s1 s2 s3 (S.w (s4+1))))))else(none))))else(none))else(L s0 s1 s2 s3 (S.w (s4+1))))else(none)))else(none)))else(none))else(bif(S.ir s4 s3.length)then(bif(List.getD s3 (Int.toNat s4) false)then(bif(S.ir s4 s2.length)then(spec_l6In.G S (List.getD s2 (Int.toNat s4) 0) 1 99 (fun y4=>bif(!y4)then(kr false)else(bif(S.ir s4 s2.length)then(spec_l21Of.G S s0 s1 s2 s3 (List.getD s2 (Int.toNat s4) 0) (fun y5=>spec_l4Fits.G S s0 s1 y5 (fun y6=>bif(!y6)then(kr false)else(L s0 s1 s2 s3 (S.w (s4+1))))))else(none))))else(none))else(L s0 s1 s2 s3 (S.w (s4+1))))else(none)))else(none))else(kx)
noncomputable def r4 {β:Type}(S:Sl)(n:Nat)(kx:x4.sig.den→Option β)(kr:y4.sig.den→Option β)(s:h4.sig.den):Option β:=rounds (fun L kx kr s=>b4 S (fun x0 x1 x2 x3 x4=>L (((x0,(x1,(x2,(x3,())))),()),(x4,()))) (kx ((),())) (fun x0=>kr ((),(x0,()))) s.1.1.1 s.1.1.2.1 s.1.1.2.2.1 s.1.1.2.2.2.1 s.2.1) kx kr n s
noncomputable def l4 {β:Type}(S:Sl)(n:Nat)(kx:Option β)(kr:Bool→Option β)(s0:Int)(s1:(List Int))(s2:(List Int))(s3:(List Bool))(s4:Int):Option β:=r4 S n (fun s=>kx) (fun s=>kr s.2.1) (((s0,(s1,(s2,(s3,())))),()),(s4,()))
theorem t4 {β:Type}(S:Sl)(n:Nat)(kx:Option β)(kr:Bool→Option β)(s0:Int)(s1:(List Int))(s2:(List Int))(s3:(List Bool))(s4:Int):l4 S (n+1) kx kr s0 s1 s2 s3 s4=b4 S (l4 S n kx kr) kx kr s0 s1 s2 s3 s4:=by kernel_rfl
noncomputable def G {β:Type}(S:Sl)(a0:Int)(a1:(List Int))(a2:(List Int))(a3:(List Bool))(K:Bool→Option β):Option β:=spec_l4Kind.G S a0 (fun y1=>bif(!y1)then(K false)else(spec_l4Vals.G S a1 a3 (fun y2=>bif(!y2)then(K false)else(bif(!S.eq (a2.length:Int) 8)then(K false)else(l4 S S.n (K true) (fun y3=>K y3) a0 a1 a2 a3 0)))))
noncomputable def o:Orac:=⟨63,sin,sout,fun s K=>G sl0 s.2.1.1 s.2.1.2.1 s.2.1.2.2.1 s.2.1.2.2.2.1 (fun x0=>K ((),(x0,())))⟩
noncomputable def C:Ctx:=⟨tyT,[spec_l21Of.o,spec_l4Fits.o,spec_l4Kind.o,spec_l4Vals.o,spec_l6In.o],[⟨4,0,h4,x4,y4,fun s kx kr=>r4 sl0 sl0.n kx kr s⟩],79,0⟩
theorem ctx:CtxOk Tryz.prog C:=⟨tyOk,all1 spec_l21Of.ok (all1 spec_l4Fits.ok (all1 spec_l4Kind.ok (all1 spec_l4Vals.ok (all1 spec_l6In.ok (all0)))))⟩
theorem e4 (β:Type)(L:h4.sig.den→Option β)(kx:x4.sig.den→Option β)(kr:y4.sig.den→Option β)(s:h4.sig.den):evalBody C (nthC (loopsOf (bodyC Tryz.f63)) 0) 0 h4 x4 y4 L kx kr s=b4 sl0 (fun x0 x1 x2 x3 x4=>L (((x0,(x1,(x2,(x3,())))),()),(x4,()))) (kx ((),())) (fun x0=>kr ((),(x0,()))) s.1.1.1 s.1.1.2.1 s.1.1.2.2.1 s.1.1.2.2.2.1 s.2.1:=by kernel_rfl
theorem g4:LS Tryz.prog C ⟨4,0,h4,x4,y4,fun s kx kr=>r4 sl0 sl0.n kx kr s⟩ (loopsOf (bodyC Tryz.f63)):=LS.at (i:=0) (by kernel_rfl) (loop_good mixed ctx (ctx_nat ctx) (N:=sl0.n) (fun _ _ _ _=>rfl) e4 (all1 (LS.none (by kernel_rfl)) (all0)))
theorem eG (β:Type)(s:sin.den)(K:sout.den→Option β):evalFn C Tryz.f63 sin sout s K=o.F s K:=by kernel_rfl
theorem ok:OracOk Tryz.prog o:=fn_ok mixed Tryz.func63 (by kernel_rfl) ctx (c:=bodyC Tryz.f63) (by kernel_rfl) (all1 g4 (all0)) (by kernel_rfl) (by kernel_rfl) (by kernel_rfl) (Nat.le_of_ble_eq_true (by kernel_rfl)) eG (by kernel_rfl) (Nat.le_of_ble_eq_true (by kernel_rfl))
end spec_StripeOk
namespace spec_VecOk
def sin:Sig:=⟨[],[.one (.val (.sl I) false)]⟩
def sout:Sig:=⟨[],[.one (.val .bool false)]⟩
def h2:SS:=⟨[0,3],⟨[],[.one (.val (.sl I) false),.one (.val I false)]⟩⟩
def x2:SS:=⟨[0],⟨[],[.one (.val (.sl I) false)]⟩⟩
def y2:SS:=⟨[2],⟨[],[.one (.val .bool false)]⟩⟩
noncomputable def b2 {β:Type}(S:Sl)(L:(List Int)→Int→Option β)(kx:(List Int)→Option β)(kr:Bool→Option β)(s0:(List Int))(s1:Int):Option β:=bif(S.lt s1 (s0.length:Int))then(bif(S.ir s1 s0.length)then(spec_FieldOk.G S (List.getD s0 (Int.toNat s1) 0) (fun y1=>bif(!y1)then(kr false)else(L s0 (S.w (s1+1)))))else(none))else(kx s0)
noncomputable def r2 {β:Type}(S:Sl)(n:Nat)(kx:x2.sig.den→Option β)(kr:y2.sig.den→Option β)(s:h2.sig.den):Option β:=rounds (fun L kx kr s=>b2 S (fun x0 x1=>L ((),(x0,(x1,())))) (fun x0=>kx ((),(x0,()))) (fun x0=>kr ((),(x0,()))) s.2.1 s.2.2.1) kx kr n s
noncomputable def l2 {β:Type}(S:Sl)(n:Nat)(kx:(List Int)→Option β)(kr:Bool→Option β)(s0:(List Int))(s1:Int):Option β:=r2 S n (fun s=>kx s.2.1) (fun s=>kr s.2.1) ((),(s0,(s1,())))
theorem t2 {β:Type}(S:Sl)(n:Nat)(kx:(List Int)→Option β)(kr:Bool→Option β)(s0:(List Int))(s1:Int):l2 S (n+1) kx kr s0 s1=b2 S (l2 S n kx kr) kx kr s0 s1:=by kernel_rfl
noncomputable def G {β:Type}(S:Sl)(a0:(List Int))(K:Bool→Option β):Option β:=l2 S S.n (fun y1=>K (S.eq (y1.length:Int) 4)) (fun y2=>K y2) a0 0
noncomputable def o:Orac:=⟨85,sin,sout,fun s K=>G sl0 s.2.1 (fun x0=>K ((),(x0,())))⟩
noncomputable def C:Ctx:=⟨tyT,[spec_FieldOk.o],[⟨2,0,h2,x2,y2,fun s kx kr=>r2 sl0 sl0.n kx kr s⟩],19,0⟩
theorem ctx:CtxOk Tryz.prog C:=⟨tyOk,all1 spec_FieldOk.ok (all0)⟩
theorem e2 (β:Type)(L:h2.sig.den→Option β)(kx:x2.sig.den→Option β)(kr:y2.sig.den→Option β)(s:h2.sig.den):evalBody C (nthC (loopsOf (bodyC Tryz.f85)) 0) 0 h2 x2 y2 L kx kr s=b2 sl0 (fun x0 x1=>L ((),(x0,(x1,())))) (fun x0=>kx ((),(x0,()))) (fun x0=>kr ((),(x0,()))) s.2.1 s.2.2.1:=by kernel_rfl
theorem g2:LS Tryz.prog C ⟨2,0,h2,x2,y2,fun s kx kr=>r2 sl0 sl0.n kx kr s⟩ (loopsOf (bodyC Tryz.f85)):=LS.at (i:=0) (by kernel_rfl) (loop_good mixed ctx (ctx_nat ctx) (N:=sl0.n) (fun _ _ _ _=>rfl) e2 (all1 (LS.none (by kernel_rfl)) (all0)))
theorem eG (β:Type)(s:sin.den)(K:sout.den→Option β):evalFn C Tryz.f85 sin sout s K=o.F s K:=by kernel_rfl
theorem ok:OracOk Tryz.prog o:=fn_ok mixed Tryz.func85 (by kernel_rfl) ctx (c:=bodyC Tryz.f85) (by kernel_rfl) (all1 g2 (all0)) (by kernel_rfl) (by kernel_rfl) (by kernel_rfl) (Nat.le_of_ble_eq_true (by kernel_rfl)) eG (by kernel_rfl) (Nat.le_of_ble_eq_true (by kernel_rfl))
end spec_VecOk
namespace spec_l21Copy
def sin:Sig:=⟨[],[.agg [.val I false,.val (.sl I) false,.val (.sl I) false,.val (.sl .bool) false]]⟩
def sout:Sig:=⟨[.buf I false,.buf I false,.buf .bool false],[.agg [.val I false,.ref (.own 0),.ref (.own 1),.ref (.own 2)]]⟩
noncomputable def G {β:Type}(S:Sl)(a0:Int)(a1:(List Int))(a2:(List Int))(a3:(List Bool))(K:(List Int)→(List Int)→(List Bool)→Int→Option β):Option β:=bif(S.fw ([]++a1).length)then(bif(S.fw ([]++a2).length)then(bif(S.fw ([]++a3).length)then(K ([]++a1) ([]++a2) ([]++a3) a0)else(none))else(none))else(none)
noncomputable def o:Orac:=⟨86,sin,sout,fun s K=>G sl0 s.2.1.1 s.2.1.2.1 s.2.1.2.2.1 s.2.1.2.2.2.1 (fun x0 x1 x2 x3=>K ((x0,(x1,(x2,()))),((x3,()),())))⟩
noncomputable def C:Ctx:=⟨tyT,[],[],18,0⟩
theorem ctx:CtxOk Tryz.prog C:=⟨tyOk,all0⟩
theorem eG (β:Type)(s:sin.den)(K:sout.den→Option β):evalFn C Tryz.f86 sin sout s K=o.F s K:=by kernel_rfl
theorem ok:OracOk Tryz.prog o:=fn_ok mixed Tryz.func86 (by kernel_rfl) ctx (c:=bodyC Tryz.f86) (by kernel_rfl) (all0) (by kernel_rfl) (by kernel_rfl) (by kernel_rfl) (Nat.le_of_ble_eq_true (by kernel_rfl)) eG (by kernel_rfl) (Nat.le_of_ble_eq_true (by kernel_rfl))
end spec_l21Copy
namespace spec_l2Dot
def sin:Sig:=⟨[],[.one (.val (.sl I) false),.one (.val (.sl I) false)]⟩
def sout:Sig:=⟨[],[.one (.val I false)]⟩
def h3:SS:=⟨[0,1,5,6],⟨[],[.one (.val (.sl I) false),.one (.val (.sl I) false),.one (.val I false),.one (.val I false)]⟩⟩
def x3:SS:=⟨[5],⟨[],[.one (.val I false)]⟩⟩
def y3:SS:=⟨[],⟨[],[]⟩⟩
noncomputable def b3 {β:Type}(S:Sl)(L:(List Int)→(List Int)→Int→Int→Option β)(kx:Int→Option β)(kr:Option β)(s0:(List Int))(s1:(List Int))(s2:Int)(s3:Int):Option β:=bif(S.lt s3 (s0.length:Int))then(bif(S.ir s3 s0.length)then(bif(S.ir s3 s1.length)then(L s0 s1 (Int.tmod (S.w (s2+(S.w ((List.getD s0 (Int.toNat s3) 0)*(List.getD s1 (Int.toNat s3) 0))))) 31) (S.w (s3+1)))else(none))else(none))else(kx s2)
noncomputable def r3 {β:Type}(S:Sl)(n:Nat)(kx:x3.sig.den→Option β)(kr:y3.sig.den→Option β)(s:h3.sig.den):Option β:=rounds (fun L kx kr s=>b3 S (fun x0 x1 x2 x3=>L ((),(x0,(x1,(x2,(x3,())))))) (fun x0=>kx ((),(x0,()))) (kr ((),())) s.2.1 s.2.2.1 s.2.2.2.1 s.2.2.2.2.1) kx kr n s
noncomputable def l3 {β:Type}(S:Sl)(n:Nat)(kx:Int→Option β)(kr:Option β)(s0:(List Int))(s1:(List Int))(s2:Int)(s3:Int):Option β:=r3 S n (fun s=>kx s.2.1) (fun s=>kr) ((),(s0,(s1,(s2,(s3,())))))
theorem t3 {β:Type}(S:Sl)(n:Nat)(kx:Int→Option β)(kr:Option β)(s0:(List Int))(s1:(List Int))(s2:Int)(s3:Int):l3 S (n+1) kx kr s0 s1 s2 s3=b3 S (l3 S n kx kr) kx kr s0 s1 s2 s3:=by kernel_rfl
noncomputable def G {β:Type}(S:Sl)(a0:(List Int))(a1:(List Int))(K:Int→Option β):Option β:=l3 S S.n (fun y1=>K y1) none a0 a1 0 0
noncomputable def o:Orac:=⟨189,sin,sout,fun s K=>G sl0 s.2.1 s.2.2.1 (fun x0=>K ((),(x0,())))⟩
noncomputable def C:Ctx:=⟨tyT,[],[⟨3,0,h3,x3,y3,fun s kx kr=>r3 sl0 sl0.n kx kr s⟩],26,0⟩
theorem ctx:CtxOk Tryz.prog C:=⟨tyOk,all0⟩
theorem e3 (β:Type)(L:h3.sig.den→Option β)(kx:x3.sig.den→Option β)(kr:y3.sig.den→Option β)(s:h3.sig.den):evalBody C (nthC (loopsOf (bodyC Tryz.f189)) 0) 0 h3 x3 y3 L kx kr s=b3 sl0 (fun x0 x1 x2 x3=>L ((),(x0,(x1,(x2,(x3,())))))) (fun x0=>kx ((),(x0,()))) (kr ((),())) s.2.1 s.2.2.1 s.2.2.2.1 s.2.2.2.2.1:=by kernel_rfl
theorem g3:LS Tryz.prog C ⟨3,0,h3,x3,y3,fun s kx kr=>r3 sl0 sl0.n kx kr s⟩ (loopsOf (bodyC Tryz.f189)):=LS.at (i:=0) (by kernel_rfl) (loop_good mixed ctx (ctx_nat ctx) (N:=sl0.n) (fun _ _ _ _=>rfl) e3 (all1 (LS.none (by kernel_rfl)) (all0)))
theorem eG (β:Type)(s:sin.den)(K:sout.den→Option β):evalFn C Tryz.f189 sin sout s K=o.F s K:=by kernel_rfl
theorem ok:OracOk Tryz.prog o:=fn_ok mixed Tryz.func189 (by kernel_rfl) ctx (c:=bodyC Tryz.f189) (by kernel_rfl) (all1 g3 (all0)) (by kernel_rfl) (by kernel_rfl) (by kernel_rfl) (Nat.le_of_ble_eq_true (by kernel_rfl)) eG (by kernel_rfl) (Nat.le_of_ble_eq_true (by kernel_rfl))
end spec_l2Dot
namespace spec_l4All
def sin:Sig:=⟨[],[.one (.val I false),.one (.val (.sl I) false)]⟩
def sout:Sig:=⟨[.buf I false],[.one (.ref (.own 0))]⟩
def h3:SS:=⟨[0,1,5,6],⟨[.buf I false],[.one (.val I false),.one (.val (.sl I) false),.one (.ref (.own 0)),.one (.val I false)]⟩⟩
def x3:SS:=⟨[5],⟨[.buf I false],[.one (.ref (.own 0))]⟩⟩
def y3:SS:=⟨[],⟨[],[]⟩⟩
noncomputable def b3 {β:Type}(S:Sl)(L:(List Int)→Int→(List Int)→Int→Option β)(kx:(List Int)→Option β)(kr:Option β)(s0:(List Int))(s1:Int)(s2:(List Int))(s3:Int):Option β:=bif(S.lt s3 8)then(spec_l4Row.G S s1 s3 (fun y1=>spec_l2Dot.G S y1 s2 (fun y2=>bif(S.fw (s0 ++ [y2]).length)then(L (s0 ++ [y2]) s1 s2 (S.w (s3+1)))else(none))))else(kx s0)
noncomputable def r3 {β:Type}(S:Sl)(n:Nat)(kx:x3.sig.den→Option β)(kr:y3.sig.den→Option β)(s:h3.sig.den):Option β:=rounds (fun L kx kr s=>b3 S (fun x0 x1 x2 x3=>L ((x0,()),(x1,(x2,(x3,()))))) (fun x0=>kx ((x0,()),())) (kr ((),())) s.1.1 s.2.1 s.2.2.1 s.2.2.2.1) kx kr n s
noncomputable def l3 {β:Type}(S:Sl)(n:Nat)(kx:(List Int)→Option β)(kr:Option β)(s0:(List Int))(s1:Int)(s2:(List Int))(s3:Int):Option β:=r3 S n (fun s=>kx s.1.1) (fun s=>kr) ((s0,()),(s1,(s2,(s3,()))))
theorem t3 {β:Type}(S:Sl)(n:Nat)(kx:(List Int)→Option β)(kr:Option β)(s0:(List Int))(s1:Int)(s2:(List Int))(s3:Int):l3 S (n+1) kx kr s0 s1 s2 s3=b3 S (l3 S n kx kr) kx kr s0 s1 s2 s3:=by kernel_rfl
noncomputable def G {β:Type}(S:Sl)(a0:Int)(a1:(List Int))(K:(List Int)→Option β):Option β:=l3 S S.n (fun y1=>K y1) none [] a0 a1 0
noncomputable def o:Orac:=⟨125,sin,sout,fun s K=>G sl0 s.2.1 s.2.2.1 (fun x0=>K ((x0,()),()))⟩
noncomputable def C:Ctx:=⟨tyT,[spec_l2Dot.o,spec_l4Row.o],[⟨3,0,h3,x3,y3,fun s kx kr=>r3 sl0 sl0.n kx kr s⟩],21,0⟩
theorem ctx:CtxOk Tryz.prog C:=⟨tyOk,all1 spec_l2Dot.ok (all1 spec_l4Row.ok (all0))⟩
theorem e3 (β:Type)(L:h3.sig.den→Option β)(kx:x3.sig.den→Option β)(kr:y3.sig.den→Option β)(s:h3.sig.den):evalBody C (nthC (loopsOf (bodyC Tryz.f125)) 0) 0 h3 x3 y3 L kx kr s=b3 sl0 (fun x0 x1 x2 x3=>L ((x0,()),(x1,(x2,(x3,()))))) (fun x0=>kx ((x0,()),())) (kr ((),())) s.1.1 s.2.1 s.2.2.1 s.2.2.2.1:=by kernel_rfl
theorem g3:LS Tryz.prog C ⟨3,0,h3,x3,y3,fun s kx kr=>r3 sl0 sl0.n kx kr s⟩ (loopsOf (bodyC Tryz.f125)):=LS.at (i:=0) (by kernel_rfl) (loop_good mixed ctx (ctx_nat ctx) (N:=sl0.n) (fun _ _ _ _=>rfl) e3 (all1 (LS.none (by kernel_rfl)) (all0)))
theorem eG (β:Type)(s:sin.den)(K:sout.den→Option β):evalFn C Tryz.f125 sin sout s K=o.F s K:=by kernel_rfl
theorem ok:OracOk Tryz.prog o:=fn_ok mixed Tryz.func125 (by kernel_rfl) ctx (c:=bodyC Tryz.f125) (by kernel_rfl) (all1 g3 (all0)) (by kernel_rfl) (by kernel_rfl) (by kernel_rfl) (Nat.le_of_ble_eq_true (by kernel_rfl)) eG (by kernel_rfl) (Nat.le_of_ble_eq_true (by kernel_rfl))
end spec_l4All
namespace spec_l21Put
def sin:Sig:=⟨[],[.agg [.val I false,.val (.sl I) false,.val (.sl I) false,.val (.sl .bool) false],.one (.val (.sl I) false),.one (.val I false),.one (.val I false)]⟩
def sout:Sig:=⟨[.buf I false,.buf I false,.buf .bool false],[.agg [.val I false,.ref (.own 0),.ref (.own 1),.ref (.own 2)]]⟩
noncomputable def G {β:Type}(S:Sl)(a0:Int)(a1:(List Int))(a2:(List Int))(a3:(List Bool))(a4:(List Int))(a5:Int)(a6:Int)(K:(List Int)→(List Int)→(List Bool)→Int→Option β):Option β:=spec_l21Copy.G S a0 a1 a2 a3 (fun y1 y2 y3 y4=>spec_l4All.G S a0 a4 (fun y5=>bif(S.ir a5 y5.length)then(bif(S.ir a5 y1.length)then(bif(S.ir a5 y2.length)then(bif(S.ir a5 y3.length)then(K (List.set y1 (Int.toNat a5) (List.getD y5 (Int.toNat a5) 0)) (List.set y2 (Int.toNat a5) a6) (List.set y3 (Int.toNat a5) true) y4)else(none))else(none))else(none))else(none)))
noncomputable def o:Orac:=⟨88,sin,sout,fun s K=>G sl0 s.2.1.1 s.2.1.2.1 s.2.1.2.2.1 s.2.1.2.2.2.1 s.2.2.1 s.2.2.2.1 s.2.2.2.2.1 (fun x0 x1 x2 x3=>K ((x0,(x1,(x2,()))),((x3,()),())))⟩
noncomputable def C:Ctx:=⟨tyT,[spec_l21Copy.o,spec_l4All.o],[],33,0⟩
theorem ctx:CtxOk Tryz.prog C:=⟨tyOk,all1 spec_l21Copy.ok (all1 spec_l4All.ok (all0))⟩
theorem eG (β:Type)(s:sin.den)(K:sout.den→Option β):evalFn C Tryz.f88 sin sout s K=o.F s K:=by kernel_rfl
theorem ok:OracOk Tryz.prog o:=fn_ok mixed Tryz.func88 (by kernel_rfl) ctx (c:=bodyC Tryz.f88) (by kernel_rfl) (all0) (by kernel_rfl) (by kernel_rfl) (by kernel_rfl) (Nat.le_of_ble_eq_true (by kernel_rfl)) eG (by kernel_rfl) (Nat.le_of_ble_eq_true (by kernel_rfl))
end spec_l21Put
namespace spec_l21Top
def sin:Sig:=⟨[],[.agg [.val I false,.val (.sl I) false,.val (.sl I) false,.val (.sl .bool) false]]⟩
def sout:Sig:=⟨[],[.one (.val I false)]⟩
def h3:SS:=⟨[1,3,4],⟨[.box [.val I false,.val (.sl I) false,.val (.sl I) false,.val (.sl .bool) false]],[.one (.ref (.ptr 0)),.one (.val I false),.one (.val I false)]⟩⟩
def x3:SS:=⟨[3],⟨[],[.one (.val I false)]⟩⟩
def y3:SS:=⟨[],⟨[],[]⟩⟩
noncomputable def b3 {β:Type}(S:Sl)(L:Int→(List Int)→(List Int)→(List Bool)→Int→Int→Option β)(kx:Int→Option β)(kr:Option β)(s0:Int)(s1:(List Int))(s2:(List Int))(s3:(List Bool))(s4:Int)(s5:Int):Option β:=bif(S.lt s5 (s2.length:Int))then(bif(S.ir s5 s2.length)then(L s0 s1 s2 s3 (S.mx s4 (List.getD s2 (Int.toNat s5) 0)) (S.w (s5+1)))else(none))else(kx s4)
noncomputable def r3 {β:Type}(S:Sl)(n:Nat)(kx:x3.sig.den→Option β)(kr:y3.sig.den→Option β)(s:h3.sig.den):Option β:=rounds (fun L kx kr s=>b3 S (fun x0 x1 x2 x3 x4 x5=>L (((x0,(x1,(x2,(x3,())))),()),(x4,(x5,())))) (fun x0=>kx ((),(x0,()))) (kr ((),())) s.1.1.1 s.1.1.2.1 s.1.1.2.2.1 s.1.1.2.2.2.1 s.2.1 s.2.2.1) kx kr n s
noncomputable def l3 {β:Type}(S:Sl)(n:Nat)(kx:Int→Option β)(kr:Option β)(s0:Int)(s1:(List Int))(s2:(List Int))(s3:(List Bool))(s4:Int)(s5:Int):Option β:=r3 S n (fun s=>kx s.2.1) (fun s=>kr) (((s0,(s1,(s2,(s3,())))),()),(s4,(s5,())))
theorem t3 {β:Type}(S:Sl)(n:Nat)(kx:Int→Option β)(kr:Option β)(s0:Int)(s1:(List Int))(s2:(List Int))(s3:(List Bool))(s4:Int)(s5:Int):l3 S (n+1) kx kr s0 s1 s2 s3 s4 s5=b3 S (l3 S n kx kr) kx kr s0 s1 s2 s3 s4 s5:=by kernel_rfl
noncomputable def G {β:Type}(S:Sl)(a0:Int)(a1:(List Int))(a2:(List Int))(a3:(List Bool))(K:Int→Option β):Option β:=l3 S S.n (fun y1=>K y1) none a0 a1 a2 a3 0 0
noncomputable def o:Orac:=⟨87,sin,sout,fun s K=>G sl0 s.2.1.1 s.2.1.2.1 s.2.1.2.2.1 s.2.1.2.2.2.1 (fun x0=>K ((),(x0,())))⟩
noncomputable def C:Ctx:=⟨tyT,[],[⟨3,0,h3,x3,y3,fun s kx kr=>r3 sl0 sl0.n kx kr s⟩],20,0⟩
theorem ctx:CtxOk Tryz.prog C:=⟨tyOk,all0⟩
theorem e3 (β:Type)(L:h3.sig.den→Option β)(kx:x3.sig.den→Option β)(kr:y3.sig.den→Option β)(s:h3.sig.den):evalBody C (nthC (loopsOf (bodyC Tryz.f87)) 0) 0 h3 x3 y3 L kx kr s=b3 sl0 (fun x0 x1 x2 x3 x4 x5=>L (((x0,(x1,(x2,(x3,())))),()),(x4,(x5,())))) (fun x0=>kx ((),(x0,()))) (kr ((),())) s.1.1.1 s.1.1.2.1 s.1.1.2.2.1 s.1.1.2.2.2.1 s.2.1 s.2.2.1:=by kernel_rfl
theorem g3:LS Tryz.prog C ⟨3,0,h3,x3,y3,fun s kx kr=>r3 sl0 sl0.n kx kr s⟩ (loopsOf (bodyC Tryz.f87)):=LS.at (i:=0) (by kernel_rfl) (loop_good mixed ctx (ctx_nat ctx) (N:=sl0.n) (fun _ _ _ _=>rfl) e3 (all1 (LS.none (by kernel_rfl)) (all0)))
theorem eG (β:Type)(s:sin.den)(K:sout.den→Option β):evalFn C Tryz.f87 sin sout s K=o.F s K:=by kernel_rfl
theorem ok:OracOk Tryz.prog o:=fn_ok mixed Tryz.func87 (by kernel_rfl) ctx (c:=bodyC Tryz.f87) (by kernel_rfl) (all1 g3 (all0)) (by kernel_rfl) (by kernel_rfl) (by kernel_rfl) (Nat.le_of_ble_eq_true (by kernel_rfl)) eG (by kernel_rfl) (Nat.le_of_ble_eq_true (by kernel_rfl))
end spec_l21Top
namespace spec_StripeWrite
def sin:Sig:=⟨[],[.agg [.val I false,.val (.sl I) false,.val (.sl I) false,.val (.sl .bool) false],.one (.val (.sl I) false),.one (.val (.sl .bool) false)]⟩
def sout:Sig:=⟨[.buf I false,.buf I false,.buf .bool false],[.agg [.val I false,.ref (.own 0),.ref (.own 1),.ref (.own 2)],.one (.val .bool false)]⟩
def h7:SS:=⟨[1,2,3,6,8,9],⟨[.box [.val I false,.val (.sl I) false,.val (.sl I) false,.val (.sl .bool) false],.box [.val I false,.ref .e0,.ref .e0,.ref .e0],.box [.val I false,.ref (.own 3),.ref (.own 4),.ref (.own 5)],.buf I false,.buf I false,.buf .bool false],[.one (.val (.sl I) false),.one (.val (.sl .bool) false),.one (.ref (.ptr 0)),.one (.ref (.ptr 1)),.one (.ref (.ptr 2)),.one (.val I false)]⟩⟩
def x7:SS:=⟨[6,8],⟨[.box [.val I false,.ref .e0,.ref .e0,.ref .e0],.box [.val I false,.ref (.own 2),.ref (.own 3),.ref (.own 4)],.buf I false,.buf I false,.buf .bool false],[.one (.ref (.ptr 0)),.one (.ref (.ptr 1))]⟩⟩
def y7:SS:=⟨[],⟨[],[]⟩⟩
noncomputable def b7 {β:Type}(S:Sl)(L:Int→(List Int)→(List Int)→(List Bool)→Int→Int→(List Int)→(List Int)→(List Bool)→(List Int)→(List Bool)→Int→Option β)(kx:Int→Int→(List Int)→(List Int)→(List Bool)→Option β)(kr:Option β)(s0:Int)(s1:(List Int))(s2:(List Int))(s3:(List Bool))(s4:Int)(s5:Int)(s6:(List Int))(s7:(List Int))(s8:(List Bool))(s9:(List Int))(s10:(List Bool))(s11:Int):Option β:=bif(S.lt s11 8)then(bif(S.ir s11 s10.length)then(bif(List.getD s10 (Int.toNat s11) false)then(spec_l21Top.G S s0 s1 s2 s3 (fun y1=>spec_l21Put.G S s5 s6 s7 s8 s9 s11 (S.w (y1+1)) (fun y2 y3 y4 y5=>L s0 s1 s2 s3 s4 y5 y2 y3 y4 s9 s10 (S.w (s11+1)))))else(L s0 s1 s2 s3 s4 s5 s6 s7 s8 s9 s10 (S.w (s11+1))))else(none))else(kx s4 s5 s6 s7 s8)
noncomputable def r7 {β:Type}(S:Sl)(n:Nat)(kx:x7.sig.den→Option β)(kr:y7.sig.den→Option β)(s:h7.sig.den):Option β:=rounds (fun L kx kr s=>b7 S (fun x0 x1 x2 x3 x4 x5 x6 x7 x8 x9 x10 x11=>L (((x0,(x1,(x2,(x3,())))),((x4,()),((x5,()),(x6,(x7,(x8,())))))),(x9,(x10,(x11,()))))) (fun x0 x1 x2 x3 x4=>kx (((x0,()),((x1,()),(x2,(x3,(x4,()))))),())) (kr ((),())) s.1.1.1 s.1.1.2.1 s.1.1.2.2.1 s.1.1.2.2.2.1 s.1.2.1.1 s.1.2.2.1.1 s.1.2.2.2.1 s.1.2.2.2.2.1 s.1.2.2.2.2.2.1 s.2.1 s.2.2.1 s.2.2.2.1) kx kr n s
noncomputable def l7 {β:Type}(S:Sl)(n:Nat)(kx:Int→Int→(List Int)→(List Int)→(List Bool)→Option β)(kr:Option β)(s0:Int)(s1:(List Int))(s2:(List Int))(s3:(List Bool))(s4:Int)(s5:Int)(s6:(List Int))(s7:(List Int))(s8:(List Bool))(s9:(List Int))(s10:(List Bool))(s11:Int):Option β:=r7 S n (fun s=>kx s.1.1.1 s.1.2.1.1 s.1.2.2.1 s.1.2.2.2.1 s.1.2.2.2.2.1) (fun s=>kr) (((s0,(s1,(s2,(s3,())))),((s4,()),((s5,()),(s6,(s7,(s8,())))))),(s9,(s10,(s11,()))))
theorem t7 {β:Type}(S:Sl)(n:Nat)(kx:Int→Int→(List Int)→(List Int)→(List Bool)→Option β)(kr:Option β)(s0:Int)(s1:(List Int))(s2:(List Int))(s3:(List Bool))(s4:Int)(s5:Int)(s6:(List Int))(s7:(List Int))(s8:(List Bool))(s9:(List Int))(s10:(List Bool))(s11:Int):l7 S (n+1) kx kr s0 s1 s2 s3 s4 s5 s6 s7 s8 s9 s10 s11=b7 S (l7 S n kx kr) kx kr s0 s1 s2 s3 s4 s5 s6 s7 s8 s9 s10 s11:=by kernel_rfl
noncomputable def G {β:Type}(S:Sl)(a0:Int)(a1:(List Int))(a2:(List Int))(a3:(List Bool))(a4:(List Int))(a5:(List Bool))(K:(List Int)→(List Int)→(List Bool)→Int→Bool→Option β):Option β:=spec_StripeOk.G S a0 a1 a2 a3 (fun y1=>bif(!y1)then(K [] [] [] 0 false)else(spec_VecOk.G S a4 (fun y2=>bif(!y2)then(K [] [] [] 0 false)else(bif(!S.eq (a5.length:Int) 8)then(K [] [] [] 0 false)else(spec_l21Copy.G S a0 a1 a2 a3 (fun y3 y4 y5 y6=>spec_l21Top.G S a0 a1 a2 a3 (fun y7=>bif(S.le 99 y7)then(K y3 y4 y5 y6 false)else(l7 S S.n (fun y8 y9 y10 y11 y12=>K y10 y11 y12 y9 true) none a0 a1 a2 a3 0 y6 y3 y4 y5 a4 a5 0))))))))
noncomputable def o:Orac:=⟨21,sin,sout,fun s K=>G sl0 s.2.1.1 s.2.1.2.1 s.2.1.2.2.1 s.2.1.2.2.2.1 s.2.2.1 s.2.2.2.1 (fun x0 x1 x2 x3 x4=>K ((x0,(x1,(x2,()))),((x3,()),(x4,()))))⟩
noncomputable def C:Ctx:=⟨tyT,[spec_StripeOk.o,spec_VecOk.o,spec_l21Copy.o,spec_l21Put.o,spec_l21Top.o],[⟨7,0,h7,x7,y7,fun s kx kr=>r7 sl0 sl0.n kx kr s⟩],46,0⟩
theorem ctx:CtxOk Tryz.prog C:=⟨tyOk,all1 spec_StripeOk.ok (all1 spec_VecOk.ok (all1 spec_l21Copy.ok (all1 spec_l21Put.ok (all1 spec_l21Top.ok (all0)))))⟩
theorem e7 (β:Type)(L:h7.sig.den→Option β)(kx:x7.sig.den→Option β)(kr:y7.sig.den→Option β)(s:h7.sig.den):evalBody C (nthC (loopsOf (bodyC Tryz.f21)) 0) 0 h7 x7 y7 L kx kr s=b7 sl0 (fun x0 x1 x2 x3 x4 x5 x6 x7 x8 x9 x10 x11=>L (((x0,(x1,(x2,(x3,())))),((x4,()),((x5,()),(x6,(x7,(x8,())))))),(x9,(x10,(x11,()))))) (fun x0 x1 x2 x3 x4=>kx (((x0,()),((x1,()),(x2,(x3,(x4,()))))),())) (kr ((),())) s.1.1.1 s.1.1.2.1 s.1.1.2.2.1 s.1.1.2.2.2.1 s.1.2.1.1 s.1.2.2.1.1 s.1.2.2.2.1 s.1.2.2.2.2.1 s.1.2.2.2.2.2.1 s.2.1 s.2.2.1 s.2.2.2.1:=by kernel_rfl
theorem g7:LS Tryz.prog C ⟨7,0,h7,x7,y7,fun s kx kr=>r7 sl0 sl0.n kx kr s⟩ (loopsOf (bodyC Tryz.f21)):=LS.at (i:=0) (by kernel_rfl) (loop_good mixed ctx (ctx_nat ctx) (N:=sl0.n) (fun _ _ _ _=>rfl) e7 (all1 (LS.none (by kernel_rfl)) (all0)))
theorem eG (β:Type)(s:sin.den)(K:sout.den→Option β):evalFn C Tryz.f21 sin sout s K=o.F s K:=by kernel_rfl
theorem ok:OracOk Tryz.prog o:=fn_ok mixed Tryz.func21 (by kernel_rfl) ctx (c:=bodyC Tryz.f21) (by kernel_rfl) (all1 g7 (all0)) (by kernel_rfl) (by kernel_rfl) (by kernel_rfl) (Nat.le_of_ble_eq_true (by kernel_rfl)) eG (by kernel_rfl) (Nat.le_of_ble_eq_true (by kernel_rfl))
end spec_StripeWrite
namespace spec_l21Lose
def sin:Sig:=⟨[],[.agg [.val I false,.val (.sl I) false,.val (.sl I) false,.val (.sl .bool) false],.one (.val I false)]⟩
def sout:Sig:=⟨[.buf I false,.buf I false,.buf .bool false],[.agg [.val I false,.ref (.own 0),.ref (.own 1),.ref (.own 2)]]⟩
noncomputable def G {β:Type}(S:Sl)(a0:Int)(a1:(List Int))(a2:(List Int))(a3:(List Bool))(a4:Int)(K:(List Int)→(List Int)→(List Bool)→Int→Option β):Option β:=spec_l21Copy.G S a0 a1 a2 a3 (fun y1 y2 y3 y4=>bif(S.ir a4 y1.length)then(bif(S.ir a4 y2.length)then(bif(S.ir a4 y3.length)then(K (List.set y1 (Int.toNat a4) 0) (List.set y2 (Int.toNat a4) 0) (List.set y3 (Int.toNat a4) false) y4)else(none))else(none))else(none))
noncomputable def o:Orac:=⟨121,sin,sout,fun s K=>G sl0 s.2.1.1 s.2.1.2.1 s.2.1.2.2.1 s.2.1.2.2.2.1 s.2.2.1 (fun x0 x1 x2 x3=>K ((x0,(x1,(x2,()))),((x3,()),())))⟩
noncomputable def C:Ctx:=⟨tyT,[spec_l21Copy.o],[],21,0⟩
theorem ctx:CtxOk Tryz.prog C:=⟨tyOk,all1 spec_l21Copy.ok (all0)⟩
theorem eG (β:Type)(s:sin.den)(K:sout.den→Option β):evalFn C Tryz.f121 sin sout s K=o.F s K:=by kernel_rfl
theorem ok:OracOk Tryz.prog o:=fn_ok mixed Tryz.func121 (by kernel_rfl) ctx (c:=bodyC Tryz.f121) (by kernel_rfl) (all0) (by kernel_rfl) (by kernel_rfl) (by kernel_rfl) (Nat.le_of_ble_eq_true (by kernel_rfl)) eG (by kernel_rfl) (Nat.le_of_ble_eq_true (by kernel_rfl))
end spec_l21Lose
namespace spec_l4Set
def sin:Sig:=⟨[],[.one (.val I false)]⟩
def sout:Sig:=⟨[.buf .bool false],[.one (.ref (.own 0))]⟩
def h3:SS:=⟨[0,3,4],⟨[.buf .bool false],[.one (.val I false),.one (.ref (.own 0)),.one (.val I false)]⟩⟩
def x3:SS:=⟨[3],⟨[.buf .bool false],[.one (.ref (.own 0))]⟩⟩
def y3:SS:=⟨[],⟨[],[]⟩⟩
noncomputable def b3 {β:Type}(S:Sl)(L:(List Bool)→Int→Int→Option β)(kx:(List Bool)→Option β)(kr:Option β)(s0:(List Bool))(s1:Int)(s2:Int):Option β:=bif(S.lt s2 (s0.length:Int))then(bif(S.ir s2 s0.length)then(L (List.set s0 (Int.toNat s2) (S.eq (Int.tmod s1 2) 1)) (S.w (Int.tdiv s1 2)) (S.w (s2+1)))else(none))else(kx s0)
noncomputable def r3 {β:Type}(S:Sl)(n:Nat)(kx:x3.sig.den→Option β)(kr:y3.sig.den→Option β)(s:h3.sig.den):Option β:=rounds (fun L kx kr s=>b3 S (fun x0 x1 x2=>L ((x0,()),(x1,(x2,())))) (fun x0=>kx ((x0,()),())) (kr ((),())) s.1.1 s.2.1 s.2.2.1) kx kr n s
noncomputable def l3 {β:Type}(S:Sl)(n:Nat)(kx:(List Bool)→Option β)(kr:Option β)(s0:(List Bool))(s1:Int)(s2:Int):Option β:=r3 S n (fun s=>kx s.1.1) (fun s=>kr) ((s0,()),(s1,(s2,())))
theorem t3 {β:Type}(S:Sl)(n:Nat)(kx:(List Bool)→Option β)(kr:Option β)(s0:(List Bool))(s1:Int)(s2:Int):l3 S (n+1) kx kr s0 s1 s2=b3 S (l3 S n kx kr) kx kr s0 s1 s2:=by kernel_rfl
noncomputable def G {β:Type}(S:Sl)(a0:Int)(K:(List Bool)→Option β):Option β:=bif((S.le 0 8)&&(S.le 8 8)&&S.fw (Int.toNat 8))then(l3 S S.n (fun y1=>K y1) none (List.replicate (Int.toNat 8) false) a0 0)else(none)
noncomputable def o:Orac:=⟨169,sin,sout,fun s K=>G sl0 s.2.1 (fun x0=>K ((x0,()),()))⟩
noncomputable def C:Ctx:=⟨tyT,[],[⟨3,0,h3,x3,y3,fun s kx kr=>r3 sl0 sl0.n kx kr s⟩],21,0⟩
theorem ctx:CtxOk Tryz.prog C:=⟨tyOk,all0⟩
theorem e3 (β:Type)(L:h3.sig.den→Option β)(kx:x3.sig.den→Option β)(kr:y3.sig.den→Option β)(s:h3.sig.den):evalBody C (nthC (loopsOf (bodyC Tryz.f169)) 0) 0 h3 x3 y3 L kx kr s=b3 sl0 (fun x0 x1 x2=>L ((x0,()),(x1,(x2,())))) (fun x0=>kx ((x0,()),())) (kr ((),())) s.1.1 s.2.1 s.2.2.1:=by kernel_rfl
theorem g3:LS Tryz.prog C ⟨3,0,h3,x3,y3,fun s kx kr=>r3 sl0 sl0.n kx kr s⟩ (loopsOf (bodyC Tryz.f169)):=LS.at (i:=0) (by kernel_rfl) (loop_good mixed ctx (ctx_nat ctx) (N:=sl0.n) (fun _ _ _ _=>rfl) e3 (all1 (LS.none (by kernel_rfl)) (all0)))
theorem eG (β:Type)(s:sin.den)(K:sout.den→Option β):evalFn C Tryz.f169 sin sout s K=o.F s K:=by kernel_rfl
theorem ok:OracOk Tryz.prog o:=fn_ok mixed Tryz.func169 (by kernel_rfl) ctx (c:=bodyC Tryz.f169) (by kernel_rfl) (all1 g3 (all0)) (by kernel_rfl) (by kernel_rfl) (by kernel_rfl) (Nat.le_of_ble_eq_true (by kernel_rfl)) eG (by kernel_rfl) (Nat.le_of_ble_eq_true (by kernel_rfl))
end spec_l4Set
namespace spec_l21New
def sin:Sig:=⟨[],[.one (.val I false),.one (.val (.sl I) false),.one (.val I false)]⟩
def sout:Sig:=⟨[.buf I false,.buf I false,.buf .bool false],[.agg [.val I false,.ref (.own 0),.ref (.own 1),.ref (.own 2)]]⟩
def h3:SS:=⟨[2,6,7,8],⟨[.box [.val I false,.ref .e0,.ref .e0,.ref .e0],.box [.val I false,.ref (.own 2),.ref (.own 3),.ref (.own 4)],.buf I false,.buf I false,.buf .bool false],[.one (.val I false),.one (.ref (.ptr 0)),.one (.ref (.ptr 1)),.one (.val I false)]⟩⟩
def x3:SS:=⟨[6,7],⟨[.box [.val I false,.ref .e0,.ref .e0,.ref .e0],.box [.val I false,.ref (.own 2),.ref (.own 3),.ref (.own 4)],.buf I false,.buf I false,.buf .bool false],[.one (.ref (.ptr 0)),.one (.ref (.ptr 1))]⟩⟩
def y3:SS:=⟨[],⟨[],[]⟩⟩
noncomputable def b3 {β:Type}(S:Sl)(L:Int→Int→(List Int)→(List Int)→(List Bool)→Int→Int→Option β)(kx:Int→Int→(List Int)→(List Int)→(List Bool)→Option β)(kr:Option β)(s0:Int)(s1:Int)(s2:(List Int))(s3:(List Int))(s4:(List Bool))(s5:Int)(s6:Int):Option β:=bif(S.lt s6 8)then(bif(S.fw (s3 ++ [s5]).length)then(L s0 s1 s2 (s3 ++ [s5]) s4 s5 (S.w (s6+1)))else(none))else(kx s0 s1 s2 s3 s4)
noncomputable def r3 {β:Type}(S:Sl)(n:Nat)(kx:x3.sig.den→Option β)(kr:y3.sig.den→Option β)(s:h3.sig.den):Option β:=rounds (fun L kx kr s=>b3 S (fun x0 x1 x2 x3 x4 x5 x6=>L (((x0,()),((x1,()),(x2,(x3,(x4,()))))),(x5,(x6,())))) (fun x0 x1 x2 x3 x4=>kx (((x0,()),((x1,()),(x2,(x3,(x4,()))))),())) (kr ((),())) s.1.1.1 s.1.2.1.1 s.1.2.2.1 s.1.2.2.2.1 s.1.2.2.2.2.1 s.2.1 s.2.2.1) kx kr n s
noncomputable def l3 {β:Type}(S:Sl)(n:Nat)(kx:Int→Int→(List Int)→(List Int)→(List Bool)→Option β)(kr:Option β)(s0:Int)(s1:Int)(s2:(List Int))(s3:(List Int))(s4:(List Bool))(s5:Int)(s6:Int):Option β:=r3 S n (fun s=>kx s.1.1.1 s.1.2.1.1 s.1.2.2.1 s.1.2.2.2.1 s.1.2.2.2.2.1) (fun s=>kr) (((s0,()),((s1,()),(s2,(s3,(s4,()))))),(s5,(s6,())))
theorem t3 {β:Type}(S:Sl)(n:Nat)(kx:Int→Int→(List Int)→(List Int)→(List Bool)→Option β)(kr:Option β)(s0:Int)(s1:Int)(s2:(List Int))(s3:(List Int))(s4:(List Bool))(s5:Int)(s6:Int):l3 S (n+1) kx kr s0 s1 s2 s3 s4 s5 s6=b3 S (l3 S n kx kr) kx kr s0 s1 s2 s3 s4 s5 s6:=by kernel_rfl
noncomputable def G {β:Type}(S:Sl)(a0:Int)(a1:(List Int))(a2:Int)(K:(List Int)→(List Int)→(List Bool)→Int→Option β):Option β:=spec_l4All.G S a0 a1 (fun y1=>spec_l4Set.G S 255 (fun y2=>l3 S S.n (fun y3 y4 y5 y6 y7=>K y5 y6 y7 y4) none 0 a0 y1 [] y2 a2 0))
noncomputable def o:Orac:=⟨137,sin,sout,fun s K=>G sl0 s.2.1 s.2.2.1 s.2.2.2.1 (fun x0 x1 x2 x3=>K ((x0,(x1,(x2,()))),((x3,()),())))⟩
noncomputable def C:Ctx:=⟨tyT,[spec_l4All.o,spec_l4Set.o],[⟨3,0,h3,x3,y3,fun s kx kr=>r3 sl0 sl0.n kx kr s⟩],26,0⟩
theorem ctx:CtxOk Tryz.prog C:=⟨tyOk,all1 spec_l4All.ok (all1 spec_l4Set.ok (all0))⟩
theorem e3 (β:Type)(L:h3.sig.den→Option β)(kx:x3.sig.den→Option β)(kr:y3.sig.den→Option β)(s:h3.sig.den):evalBody C (nthC (loopsOf (bodyC Tryz.f137)) 0) 0 h3 x3 y3 L kx kr s=b3 sl0 (fun x0 x1 x2 x3 x4 x5 x6=>L (((x0,()),((x1,()),(x2,(x3,(x4,()))))),(x5,(x6,())))) (fun x0 x1 x2 x3 x4=>kx (((x0,()),((x1,()),(x2,(x3,(x4,()))))),())) (kr ((),())) s.1.1.1 s.1.2.1.1 s.1.2.2.1 s.1.2.2.2.1 s.1.2.2.2.2.1 s.2.1 s.2.2.1:=by kernel_rfl
theorem g3:LS Tryz.prog C ⟨3,0,h3,x3,y3,fun s kx kr=>r3 sl0 sl0.n kx kr s⟩ (loopsOf (bodyC Tryz.f137)):=LS.at (i:=0) (by kernel_rfl) (loop_good mixed ctx (ctx_nat ctx) (N:=sl0.n) (fun _ _ _ _=>rfl) e3 (all1 (LS.none (by kernel_rfl)) (all0)))
theorem eG (β:Type)(s:sin.den)(K:sout.den→Option β):evalFn C Tryz.f137 sin sout s K=o.F s K:=by kernel_rfl
theorem ok:OracOk Tryz.prog o:=fn_ok mixed Tryz.func137 (by kernel_rfl) ctx (c:=bodyC Tryz.f137) (by kernel_rfl) (all1 g3 (all0)) (by kernel_rfl) (by kernel_rfl) (by kernel_rfl) (Nat.le_of_ble_eq_true (by kernel_rfl)) eG (by kernel_rfl) (Nat.le_of_ble_eq_true (by kernel_rfl))
end spec_l21New
namespace spec_l91Kind
def sin:Sig:=⟨[.box [.val (.sl (.int .u8)) false,.val I false]],[.one (.ref (.ptr 0))]⟩
def sout:Sig:=⟨[.box [.val (.sl (.int .u8)) false,.val I false]],[.one (.val I false)]⟩
noncomputable def G {β:Type}(S:Sl)(a0:(List Int))(a1:Int)(K:(List Int)→Int→Int→Option β):Option β:=spec_l6Rd_pick.G S a0 a1 40 (fun y1 y2 y3=>bif(S.eq y3 0)then(spec_l6Rd_pick.G S y1 y2 2 (fun y4 y5 y6=>bif(S.ir y6 [0,3].length)then(K y4 y5 (List.getD [0,3] (Int.toNat y6) 0))else(none)))else(spec_l6Rd_pick.G S y1 y2 2 (fun y7 y8 y9=>K y7 y8 (S.w ((1:Int)+y9)))))
noncomputable def o:Orac:=⟨133,sin,sout,fun s K=>G sl0 s.1.1.1 s.1.1.2.1 (fun x0 x1 x2=>K (((x0,(x1,())),()),(x2,())))⟩
noncomputable def C:Ctx:=⟨tyT,[spec_l6Rd_pick.o],[],14,1⟩
theorem ctx:CtxOk Tryz.prog C:=⟨tyOk,all1 spec_l6Rd_pick.ok (all0)⟩
theorem eG (β:Type)(s:sin.den)(K:sout.den→Option β):evalFn C Tryz.f133 sin sout s K=o.F s K:=by kernel_rfl
theorem ok:OracOk Tryz.prog o:=fn_ok mixed Tryz.func133 (by kernel_rfl) ctx (c:=bodyC Tryz.f133) (by kernel_rfl) (all0) (by kernel_rfl) (by kernel_rfl) (by kernel_rfl) (Nat.le_of_ble_eq_true (by kernel_rfl)) eG (by kernel_rfl) (Nat.le_of_ble_eq_true (by kernel_rfl))
end spec_l91Kind
namespace spec_l91Num
def sin:Sig:=⟨[.box [.val (.sl (.int .u8)) false,.val I false]],[.one (.ref (.ptr 0))]⟩
def sout:Sig:=⟨[.box [.val (.sl (.int .u8)) false,.val I false]],[.one (.val I false)]⟩
noncomputable def G {β:Type}(S:Sl)(a0:(List Int))(a1:Int)(K:(List Int)→Int→Int→Option β):Option β:=spec_l6Rd_pick.G S a0 a1 10 (fun y1 y2 y3=>bif(S.eq y3 0)then(K y1 y2 0)else(bif(S.eq y3 1)then(spec_l6Rd_pick.G S y1 y2 2 (fun y4 y5 y6=>bif(S.ir y6 [1,30].length)then(K y4 y5 (List.getD [1,30] (Int.toNat y6) 0))else(none)))else(bif(S.eq y3 2)then(spec_l6Rd_pick.G S y1 y2 5 (fun y7 y8 y9=>bif(S.eq y9 0)then(spec_l6Rd_pick.G S y7 y8 2 (fun y10 y11 y12=>bif(S.ir y12 [(-1),31].length)then(K y10 y11 (List.getD [(-1),31] (Int.toNat y12) 0))else(none)))else(spec_l6Rd_pick.G S y7 y8 31 (fun y13 y14 y15=>K y13 y14 y15))))else(spec_l6Rd_pick.G S y1 y2 31 (fun y16 y17 y18=>K y16 y17 y18)))))
noncomputable def o:Orac:=⟨168,sin,sout,fun s K=>G sl0 s.1.1.1 s.1.1.2.1 (fun x0 x1 x2=>K (((x0,(x1,())),()),(x2,())))⟩
noncomputable def C:Ctx:=⟨tyT,[spec_l6Rd_pick.o],[],26,1⟩
theorem ctx:CtxOk Tryz.prog C:=⟨tyOk,all1 spec_l6Rd_pick.ok (all0)⟩
theorem eG (β:Type)(s:sin.den)(K:sout.den→Option β):evalFn C Tryz.f168 sin sout s K=o.F s K:=by kernel_rfl
theorem ok:OracOk Tryz.prog o:=fn_ok mixed Tryz.func168 (by kernel_rfl) ctx (c:=bodyC Tryz.f168) (by kernel_rfl) (all0) (by kernel_rfl) (by kernel_rfl) (by kernel_rfl) (Nat.le_of_ble_eq_true (by kernel_rfl)) eG (by kernel_rfl) (Nat.le_of_ble_eq_true (by kernel_rfl))
end spec_l91Num
namespace spec_l92Data
def sin:Sig:=⟨[.box [.val (.sl (.int .u8)) false,.val I false]],[.one (.ref (.ptr 0))]⟩
def sout:Sig:=⟨[.box [.val (.sl (.int .u8)) false,.val I false],.buf I false],[.one (.ref (.own 1))]⟩
noncomputable def G {β:Type}(S:Sl)(a0:(List Int))(a1:Int)(K:(List Int)→Int→(List Int)→Option β):Option β:=spec_l6Rd_pick.G S a0 a1 31 (fun y1 y2 y3=>spec_l6Rd_pick.G S y1 y2 4 (fun y4 y5 y6=>spec_l6Rd_pick.G S y4 y5 31 (fun y7 y8 y9=>spec_l6Rd_pick.G S y7 y8 27 (fun y10 y11 y12=>K y10 y11 [y3,y6,y9,y12]))))
noncomputable def o:Orac:=⟨167,sin,sout,fun s K=>G sl0 s.1.1.1 s.1.1.2.1 (fun x0 x1 x2=>K (((x0,(x1,())),(x2,())),()))⟩
noncomputable def C:Ctx:=⟨tyT,[spec_l6Rd_pick.o],[],12,1⟩
theorem ctx:CtxOk Tryz.prog C:=⟨tyOk,all1 spec_l6Rd_pick.ok (all0)⟩
theorem eG (β:Type)(s:sin.den)(K:sout.den→Option β):evalFn C Tryz.f167 sin sout s K=o.F s K:=by kernel_rfl
theorem ok:OracOk Tryz.prog o:=fn_ok mixed Tryz.func167 (by kernel_rfl) ctx (c:=bodyC Tryz.f167) (by kernel_rfl) (all0) (by kernel_rfl) (by kernel_rfl) (by kernel_rfl) (Nat.le_of_ble_eq_true (by kernel_rfl)) eG (by kernel_rfl) (Nat.le_of_ble_eq_true (by kernel_rfl))
end spec_l92Data
namespace spec_l92Which
def sin:Sig:=⟨[.box [.val (.sl (.int .u8)) false,.val I false]],[.one (.ref (.ptr 0))]⟩
def sout:Sig:=⟨[.box [.val (.sl (.int .u8)) false,.val I false],.buf .bool false],[.one (.ref (.own 1))]⟩
noncomputable def G {β:Type}(S:Sl)(a0:(List Int))(a1:Int)(K:(List Int)→Int→(List Bool)→Option β):Option β:=spec_l6Rd_pick.G S a0 a1 3 (fun y1 y2 y3=>bif(S.eq y3 0)then(spec_l4Set.G S 255 (fun y4=>K y1 y2 y4))else(spec_l6Rd_pick.G S y1 y2 256 (fun y5 y6 y7=>spec_l4Set.G S y7 (fun y8=>K y5 y6 y8))))
noncomputable def o:Orac:=⟨84,sin,sout,fun s K=>G sl0 s.1.1.1 s.1.1.2.1 (fun x0 x1 x2=>K (((x0,(x1,())),(x2,())),()))⟩
noncomputable def C:Ctx:=⟨tyT,[spec_l4Set.o,spec_l6Rd_pick.o],[],10,1⟩
theorem ctx:CtxOk Tryz.prog C:=⟨tyOk,all1 spec_l4Set.ok (all1 spec_l6Rd_pick.ok (all0))⟩
theorem eG (β:Type)(s:sin.den)(K:sout.den→Option β):evalFn C Tryz.f84 sin sout s K=o.F s K:=by kernel_rfl
theorem ok:OracOk Tryz.prog o:=fn_ok mixed Tryz.func84 (by kernel_rfl) ctx (c:=bodyC Tryz.f84) (by kernel_rfl) (all0) (by kernel_rfl) (by kernel_rfl) (by kernel_rfl) (Nat.le_of_ble_eq_true (by kernel_rfl)) eG (by kernel_rfl) (Nat.le_of_ble_eq_true (by kernel_rfl))
end spec_l92Which
namespace spec_l92Stripe
def sin:Sig:=⟨[.box [.val (.sl (.int .u8)) false,.val I false]],[.one (.ref (.ptr 0))]⟩
def sout:Sig:=⟨[.box [.val (.sl (.int .u8)) false,.val I false],.buf I false,.buf I false,.buf .bool false],[.agg [.val I false,.ref (.own 1),.ref (.own 2),.ref (.own 3)]]⟩
def h23:SS:=⟨[2,3,7],⟨[.box [.val (.sl (.int .u8)) false,.val I false],.box [.val I false,.ref .e0,.ref .e0,.ref .e0],.box [.val I false,.ref (.own 3),.ref (.own 4),.ref (.own 5)],.buf I false,.buf I false,.buf .bool false],[.one (.ref (.ptr 1)),.one (.ref (.ptr 2)),.one (.val I false)]⟩⟩
def x23:SS:=⟨[2,3],⟨[.box [.val (.sl (.int .u8)) false,.val I false],.box [.val I false,.ref .e0,.ref .e0,.ref .e0],.box [.val I false,.ref (.own 3),.ref (.own 4),.ref (.own 5)],.buf I false,.buf I false,.buf .bool false],[.one (.ref (.ptr 1)),.one (.ref (.ptr 2))]⟩⟩
def y23:SS:=⟨[],⟨[],[]⟩⟩
noncomputable def b23 {β:Type}(S:Sl)(L:(List Int)→Int→Int→Int→(List Int)→(List Int)→(List Bool)→Int→Option β)(kx:(List Int)→Int→Int→Int→(List Int)→(List Int)→(List Bool)→Option β)(kr:Option β)(s0:(List Int))(s1:Int)(s2:Int)(s3:Int)(s4:(List Int))(s5:(List Int))(s6:(List Bool))(s7:Int):Option β:=bif(S.lt s7 (s5.length:Int))then(bif(S.ir s7 s6.length)then(bif(List.getD s6 (Int.toNat s7) false)then(bif(S.ir s7 s5.length)then(spec_l21Top.G S s3 s4 s5 s6 (fun y1=>bif(S.ir s7 s5.length)then(L s0 s1 s2 s3 s4 (List.set s5 (Int.toNat s7) (S.w ((S.w ((List.getD s5 (Int.toNat s7) 0)+99))-y1))) s6 (S.w (s7+1)))else(none)))else(none))else(L s0 s1 s2 s3 s4 s5 s6 (S.w (s7+1))))else(none))else(kx s0 s1 s2 s3 s4 s5 s6)
noncomputable def r23 {β:Type}(S:Sl)(n:Nat)(kx:x23.sig.den→Option β)(kr:y23.sig.den→Option β)(s:h23.sig.den):Option β:=rounds (fun L kx kr s=>b23 S (fun x0 x1 x2 x3 x4 x5 x6 x7=>L (((x0,(x1,())),((x2,()),((x3,()),(x4,(x5,(x6,())))))),(x7,()))) (fun x0 x1 x2 x3 x4 x5 x6=>kx (((x0,(x1,())),((x2,()),((x3,()),(x4,(x5,(x6,())))))),())) (kr ((),())) s.1.1.1 s.1.1.2.1 s.1.2.1.1 s.1.2.2.1.1 s.1.2.2.2.1 s.1.2.2.2.2.1 s.1.2.2.2.2.2.1 s.2.1) kx kr n s
noncomputable def l23 {β:Type}(S:Sl)(n:Nat)(kx:(List Int)→Int→Int→Int→(List Int)→(List Int)→(List Bool)→Option β)(kr:Option β)(s0:(List Int))(s1:Int)(s2:Int)(s3:Int)(s4:(List Int))(s5:(List Int))(s6:(List Bool))(s7:Int):Option β:=r23 S n (fun s=>kx s.1.1.1 s.1.1.2.1 s.1.2.1.1 s.1.2.2.1.1 s.1.2.2.2.1 s.1.2.2.2.2.1 s.1.2.2.2.2.2.1) (fun s=>kr) (((s0,(s1,())),((s2,()),((s3,()),(s4,(s5,(s6,())))))),(s7,()))
theorem t23 {β:Type}(S:Sl)(n:Nat)(kx:(List Int)→Int→Int→Int→(List Int)→(List Int)→(List Bool)→Option β)(kr:Option β)(s0:(List Int))(s1:Int)(s2:Int)(s3:Int)(s4:(List Int))(s5:(List Int))(s6:(List Bool))(s7:Int):l23 S (n+1) kx kr s0 s1 s2 s3 s4 s5 s6 s7=b23 S (l23 S n kx kr) kx kr s0 s1 s2 s3 s4 s5 s6 s7:=by kernel_rfl
def h3:SS:=⟨[0,2,3,4],⟨[.box [.val (.sl (.int .u8)) false,.val I false],.box [.val I false,.ref .e0,.ref .e0,.ref .e0],.box [.val I false,.ref (.own 3),.ref (.own 4),.ref (.own 5)],.buf I false,.buf I false,.buf .bool false],[.one (.ref (.ptr 0)),.one (.ref (.ptr 1)),.one (.ref (.ptr 2)),.one (.val I false)]⟩⟩
def x3:SS:=⟨[0,2,3],⟨[.box [.val (.sl (.int .u8)) false,.val I false],.box [.val I false,.ref .e0,.ref .e0,.ref .e0],.box [.val I false,.ref (.own 3),.ref (.own 4),.ref (.own 5)],.buf I false,.buf I false,.buf .bool false],[.one (.ref (.ptr 0)),.one (.ref (.ptr 1)),.one (.ref (.ptr 2))]⟩⟩
def y3:SS:=⟨[],⟨[],[]⟩⟩
noncomputable def b3 {β:Type}(S:Sl)(L:(List Int)→Int→Int→Int→(List Int)→(List Int)→(List Bool)→Int→Option β)(kx:(List Int)→Int→Int→Int→(List Int)→(List Int)→(List Bool)→Option β)(kr:Option β)(s0:(List Int))(s1:Int)(s2:Int)(s3:Int)(s4:(List Int))(s5:(List Int))(s6:(List Bool))(s7:Int):Option β:=bif(S.lt 0 s7)then(spec_l6Rd_pick.G S s0 s1 3 (fun y1 y2 y3=>bif(S.eq y3 0)then(spec_l92Data.G S y1 y2 (fun y4 y5 y6=>spec_l92Which.G S y4 y5 (fun y7 y8 y9=>spec_StripeWrite.G S s3 s4 s5 s6 y6 y9 (fun y10 y11 y12 y13 y14=>bif y14 then(L y7 y8 s2 y13 y10 y11 y12 (S.w (s7-1)))else(L y7 y8 s2 s3 s4 s5 s6 (S.w (s7-1)))))))else(spec_l6Rd_pick.G S y1 y2 8 (fun y15 y16 y17=>spec_l21Lose.G S s3 s4 s5 s6 y17 (fun y18 y19 y20 y21=>L y15 y16 s2 y21 y18 y19 y20 (S.w (s7-1)))))))else(kx s0 s1 s2 s3 s4 s5 s6)
noncomputable def r3 {β:Type}(S:Sl)(n:Nat)(kx:x3.sig.den→Option β)(kr:y3.sig.den→Option β)(s:h3.sig.den):Option β:=rounds (fun L kx kr s=>b3 S (fun x0 x1 x2 x3 x4 x5 x6 x7=>L (((x0,(x1,())),((x2,()),((x3,()),(x4,(x5,(x6,())))))),(x7,()))) (fun x0 x1 x2 x3 x4 x5 x6=>kx (((x0,(x1,())),((x2,()),((x3,()),(x4,(x5,(x6,())))))),())) (kr ((),())) s.1.1.1 s.1.1.2.1 s.1.2.1.1 s.1.2.2.1.1 s.1.2.2.2.1 s.1.2.2.2.2.1 s.1.2.2.2.2.2.1 s.2.1) kx kr n s
noncomputable def l3 {β:Type}(S:Sl)(n:Nat)(kx:(List Int)→Int→Int→Int→(List Int)→(List Int)→(List Bool)→Option β)(kr:Option β)(s0:(List Int))(s1:Int)(s2:Int)(s3:Int)(s4:(List Int))(s5:(List Int))(s6:(List Bool))(s7:Int):Option β:=r3 S n (fun s=>kx s.1.1.1 s.1.1.2.1 s.1.2.1.1 s.1.2.2.1.1 s.1.2.2.2.1 s.1.2.2.2.2.1 s.1.2.2.2.2.2.1) (fun s=>kr) (((s0,(s1,())),((s2,()),((s3,()),(s4,(s5,(s6,())))))),(s7,()))
theorem t3 {β:Type}(S:Sl)(n:Nat)(kx:(List Int)→Int→Int→Int→(List Int)→(List Int)→(List Bool)→Option β)(kr:Option β)(s0:(List Int))(s1:Int)(s2:Int)(s3:Int)(s4:(List Int))(s5:(List Int))(s6:(List Bool))(s7:Int):l3 S (n+1) kx kr s0 s1 s2 s3 s4 s5 s6 s7=b3 S (l3 S n kx kr) kx kr s0 s1 s2 s3 s4 s5 s6 s7:=by kernel_rfl
noncomputable def G {β:Type}(S:Sl)(a0:(List Int))(a1:Int)(K:(List Int)→Int→(List Int)→(List Int)→(List Bool)→Int→Option β):Option β:=spec_l6Rd_pick.G S a0 a1 2 (fun y1 y2 y3=>spec_l92Data.G S y1 y2 (fun y4 y5 y6=>spec_l6Rd_pick.G S y4 y5 3 (fun y7 y8 y9=>spec_l21New.G S (S.w ((1:Int)+y3)) y6 (S.w ((1:Int)+y9)) (fun y10 y11 y12 y13=>spec_l6Rd_pick.G S y7 y8 4 (fun y14 y15 y16=>l3 S S.n (fun y17 y18 y19 y20 y21 y22 y23=>spec_l6Rd_pick.G S y17 y18 30 (fun y24 y25 y26=>bif(S.eq y26 0)then(spec_l6Rd_pick.G S y24 y25 8 (fun y27 y28 y29=>spec_l91Num.G S y27 y28 (fun y30 y31 y32=>bif(S.ir y29 y21.length)then(K y30 y31 (List.set y21 (Int.toNat y29) y32) y22 y23 y20)else(none))))else(bif(S.eq y26 1)then(spec_l6Rd_pick.G S y24 y25 8 (fun y33 y34 y35=>spec_l6Rd_pick.G S y33 y34 5 (fun y36 y37 y38=>bif(S.ir y35 y22.length)then(K y36 y37 y21 (List.set y22 (Int.toNat y35) y38) y23 y20)else(none))))else(bif(S.eq y26 2)then(spec_l6Rd_pick.G S y24 y25 8 (fun y39 y40 y41=>bif(S.ir y41 y23.length)then(K y39 y40 y21 y22 (List.set y23 (Int.toNat y41) false) y20)else(none)))else(bif(S.eq y26 3)then(spec_l91Kind.G S y24 y25 (fun y42 y43 y44=>K y42 y43 y21 y22 y23 y44))else(bif(S.eq y26 4)then(spec_StripeOk.G S y20 y21 y22 y23 (fun y45=>bif y45 then(l23 S S.n (fun y46 y47 y48 y49 y50 y51 y52=>K y46 y47 y50 y51 y52 y49) none y24 y25 y19 y20 y21 y22 y23 0)else(K y24 y25 y21 y22 y23 y20)))else(K y24 y25 y21 y22 y23 y20))))))) none y14 y15 0 y13 y10 y11 y12 y16)))))
noncomputable def o:Orac:=⟨82,sin,sout,fun s K=>G sl0 s.1.1.1 s.1.1.2.1 (fun x0 x1 x2 x3 x4 x5=>K (((x0,(x1,())),(x2,(x3,(x4,())))),((x5,()),())))⟩
noncomputable def C:Ctx:=⟨tyT,[spec_StripeOk.o,spec_StripeWrite.o,spec_l21Lose.o,spec_l21New.o,spec_l21Top.o,spec_l6Rd_pick.o,spec_l91Kind.o,spec_l91Num.o,spec_l92Data.o,spec_l92Which.o],[⟨3,0,h3,x3,y3,fun s kx kr=>r3 sl0 sl0.n kx kr s⟩,⟨23,4,h23,x23,y23,fun s kx kr=>r23 sl0 sl0.n kx kr s⟩],104,1⟩
theorem ctx:CtxOk Tryz.prog C:=⟨tyOk,all1 spec_StripeOk.ok (all1 spec_StripeWrite.ok (all1 spec_l21Lose.ok (all1 spec_l21New.ok (all1 spec_l21Top.ok (all1 spec_l6Rd_pick.ok (all1 spec_l91Kind.ok (all1 spec_l91Num.ok (all1 spec_l92Data.ok (all1 spec_l92Which.ok (all0))))))))))⟩
theorem e23 (β:Type)(L:h23.sig.den→Option β)(kx:x23.sig.den→Option β)(kr:y23.sig.den→Option β)(s:h23.sig.den):evalBody C (nthC (loopsOf (bodyC Tryz.f82)) 1) 4 h23 x23 y23 L kx kr s=b23 sl0 (fun x0 x1 x2 x3 x4 x5 x6 x7=>L (((x0,(x1,())),((x2,()),((x3,()),(x4,(x5,(x6,())))))),(x7,()))) (fun x0 x1 x2 x3 x4 x5 x6=>kx (((x0,(x1,())),((x2,()),((x3,()),(x4,(x5,(x6,())))))),())) (kr ((),())) s.1.1.1 s.1.1.2.1 s.1.2.1.1 s.1.2.2.1.1 s.1.2.2.2.1 s.1.2.2.2.2.1 s.1.2.2.2.2.2.1 s.2.1:=by kernel_rfl
theorem g23:LS Tryz.prog C ⟨23,4,h23,x23,y23,fun s kx kr=>r23 sl0 sl0.n kx kr s⟩ (loopsOf (bodyC Tryz.f82)):=LS.at (i:=1) (by kernel_rfl) (loop_good mixed ctx (ctx_nat ctx) (N:=sl0.n) (fun _ _ _ _=>rfl) e23 (all1 (LS.none (by kernel_rfl)) (all1 (LS.none (by kernel_rfl)) (all0))))
theorem e3 (β:Type)(L:h3.sig.den→Option β)(kx:x3.sig.den→Option β)(kr:y3.sig.den→Option β)(s:h3.sig.den):evalBody C (nthC (loopsOf (bodyC Tryz.f82)) 0) 0 h3 x3 y3 L kx kr s=b3 sl0 (fun x0 x1 x2 x3 x4 x5 x6 x7=>L (((x0,(x1,())),((x2,()),((x3,()),(x4,(x5,(x6,())))))),(x7,()))) (fun x0 x1 x2 x3 x4 x5 x6=>kx (((x0,(x1,())),((x2,()),((x3,()),(x4,(x5,(x6,())))))),())) (kr ((),())) s.1.1.1 s.1.1.2.1 s.1.2.1.1 s.1.2.2.1.1 s.1.2.2.2.1 s.1.2.2.2.2.1 s.1.2.2.2.2.2.1 s.2.1:=by kernel_rfl
theorem g3:LS Tryz.prog C ⟨3,0,h3,x3,y3,fun s kx kr=>r3 sl0 sl0.n kx kr s⟩ (loopsOf (bodyC Tryz.f82)):=LS.at (i:=0) (by kernel_rfl) (loop_good mixed ctx (ctx_nat ctx) (N:=sl0.n) (fun _ _ _ _=>rfl) e3 (all1 (LS.none (by kernel_rfl)) (all1 (LS.none (by kernel_rfl)) (all0))))
theorem eG (β:Type)(s:sin.den)(K:sout.den→Option β):evalFn C Tryz.f82 sin sout s K=o.F s K:=by kernel_rfl
theorem ok:OracOk Tryz.prog o:=fn_ok mixed Tryz.func82 (by kernel_rfl) ctx (c:=bodyC Tryz.f82) (by kernel_rfl) (all1 g3 (all1 g23 (all0))) (by kernel_rfl) (by kernel_rfl) (by kernel_rfl) (Nat.le_of_ble_eq_true (by kernel_rfl)) eG (by kernel_rfl) (Nat.le_of_ble_eq_true (by kernel_rfl))
end spec_l92Stripe
namespace spec_DrawStripeMend
def sin:Sig:=⟨[],[.one (.val (.sl (.int .u8)) false)]⟩
def sout:Sig:=⟨[.buf I false,.buf I false,.buf .bool false],[.agg [.val I false,.ref (.own 0),.ref (.own 1),.ref (.own 2)],.one (.val I false)]⟩
noncomputable def G {β:Type}(S:Sl)(a0:(List Int))(K:(List Int)→(List Int)→(List Bool)→Int→Int→Option β):Option β:=spec_l6Open.G S a0 (fun y1 y2=>spec_l92Stripe.G S y1 y2 (fun y3 y4 y5 y6 y7 y8=>spec_l6Rd_pick.G S y3 y4 8 (fun y9 y10 y11=>spec_l6Rd_pick.G S y9 y10 24 (fun y12 y13 y14=>K y5 y6 y7 y8 (S.w (y11+(S.w ((S.w (Int.tdiv y14 23))*8))))))))
noncomputable def o:Orac:=⟨59,sin,sout,fun s K=>G sl0 s.2.1 (fun x0 x1 x2 x3 x4=>K ((x0,(x1,(x2,()))),((x3,()),(x4,()))))⟩
noncomputable def C:Ctx:=⟨tyT,[spec_l6Open.o,spec_l6Rd_pick.o,spec_l92Stripe.o],[],16,0⟩
theorem ctx:CtxOk Tryz.prog C:=⟨tyOk,all1 spec_l6Open.ok (all1 spec_l6Rd_pick.ok (all1 spec_l92Stripe.ok (all0)))⟩
theorem eG (β:Type)(s:sin.den)(K:sout.den→Option β):evalFn C Tryz.f59 sin sout s K=o.F s K:=by kernel_rfl
theorem ok:OracOk Tryz.prog o:=fn_ok mixed Tryz.func59 (by kernel_rfl) ctx (c:=bodyC Tryz.f59) (by kernel_rfl) (all0) (by kernel_rfl) (by kernel_rfl) (by kernel_rfl) (Nat.le_of_ble_eq_true (by kernel_rfl)) eG (by kernel_rfl) (Nat.le_of_ble_eq_true (by kernel_rfl))
end spec_DrawStripeMend
namespace spec_l11Do
def sin:Sig:=⟨[],[.agg [.val I false,.val (.sl I) false,.val (.sl I) false],.one (.val (.sl I) false)]⟩
def sout:Sig:=⟨[],[.one (.val I false)]⟩
def h3:SS:=⟨[1,2,5,6],⟨[.box [.val I false,.val (.sl I) false,.val (.sl I) false]],[.one (.val (.sl I) false),.one (.ref (.ptr 0)),.one (.val I false),.one (.val I false)]⟩⟩
def x3:SS:=⟨[5],⟨[],[.one (.val I false)]⟩⟩
def y3:SS:=⟨[],⟨[],[]⟩⟩
noncomputable def b3 {β:Type}(S:Sl)(L:Int→(List Int)→(List Int)→(List Int)→Int→Int→Option β)(kx:Int→Option β)(kr:Option β)(s0:Int)(s1:(List Int))(s2:(List Int))(s3:(List Int))(s4:Int)(s5:Int):Option β:=bif(S.lt s5 (s1.length:Int))then(bif(S.ir s5 s2.length)then(bif(S.ir s5 s1.length)then(bif(S.ir (List.getD s1 (Int.toNat s5) 0) s3.length)then(L s0 s1 s2 s3 (Int.tmod (S.w (s4+(S.w ((List.getD s2 (Int.toNat s5) 0)*(List.getD s3 (Int.toNat (List.getD s1 (Int.toNat s5) 0)) 0))))) 31) (S.w (s5+1)))else(none))else(none))else(none))else(kx s4)
noncomputable def r3 {β:Type}(S:Sl)(n:Nat)(kx:x3.sig.den→Option β)(kr:y3.sig.den→Option β)(s:h3.sig.den):Option β:=rounds (fun L kx kr s=>b3 S (fun x0 x1 x2 x3 x4 x5=>L (((x0,(x1,(x2,()))),()),(x3,(x4,(x5,()))))) (fun x0=>kx ((),(x0,()))) (kr ((),())) s.1.1.1 s.1.1.2.1 s.1.1.2.2.1 s.2.1 s.2.2.1 s.2.2.2.1) kx kr n s
noncomputable def l3 {β:Type}(S:Sl)(n:Nat)(kx:Int→Option β)(kr:Option β)(s0:Int)(s1:(List Int))(s2:(List Int))(s3:(List Int))(s4:Int)(s5:Int):Option β:=r3 S n (fun s=>kx s.2.1) (fun s=>kr) (((s0,(s1,(s2,()))),()),(s3,(s4,(s5,()))))
theorem t3 {β:Type}(S:Sl)(n:Nat)(kx:Int→Option β)(kr:Option β)(s0:Int)(s1:(List Int))(s2:(List Int))(s3:(List Int))(s4:Int)(s5:Int):l3 S (n+1) kx kr s0 s1 s2 s3 s4 s5=b3 S (l3 S n kx kr) kx kr s0 s1 s2 s3 s4 s5:=by kernel_rfl
noncomputable def G {β:Type}(S:Sl)(a0:Int)(a1:(List Int))(a2:(List Int))(a3:(List Int))(K:Int→Option β):Option β:=l3 S S.n (fun y1=>K y1) none a0 a1 a2 a3 0 0
noncomputable def o:Orac:=⟨198,sin,sout,fun s K=>G sl0 s.2.1.1 s.2.1.2.1 s.2.1.2.2.1 s.2.2.1 (fun x0=>K ((),(x0,())))⟩
noncomputable def C:Ctx:=⟨tyT,[],[⟨3,0,h3,x3,y3,fun s kx kr=>r3 sl0 sl0.n kx kr s⟩],32,0⟩
theorem ctx:CtxOk Tryz.prog C:=⟨tyOk,all0⟩
theorem e3 (β:Type)(L:h3.sig.den→Option β)(kx:x3.sig.den→Option β)(kr:y3.sig.den→Option β)(s:h3.sig.den):evalBody C (nthC (loopsOf (bodyC Tryz.f198)) 0) 0 h3 x3 y3 L kx kr s=b3 sl0 (fun x0 x1 x2 x3 x4 x5=>L (((x0,(x1,(x2,()))),()),(x3,(x4,(x5,()))))) (fun x0=>kx ((),(x0,()))) (kr ((),())) s.1.1.1 s.1.1.2.1 s.1.1.2.2.1 s.2.1 s.2.2.1 s.2.2.2.1:=by kernel_rfl
theorem g3:LS Tryz.prog C ⟨3,0,h3,x3,y3,fun s kx kr=>r3 sl0 sl0.n kx kr s⟩ (loopsOf (bodyC Tryz.f198)):=LS.at (i:=0) (by kernel_rfl) (loop_good mixed ctx (ctx_nat ctx) (N:=sl0.n) (fun _ _ _ _=>rfl) e3 (all1 (LS.none (by kernel_rfl)) (all0)))
theorem eG (β:Type)(s:sin.den)(K:sout.den→Option β):evalFn C Tryz.f198 sin sout s K=o.F s K:=by kernel_rfl
theorem ok:OracOk Tryz.prog o:=fn_ok mixed Tryz.func198 (by kernel_rfl) ctx (c:=bodyC Tryz.f198) (by kernel_rfl) (all1 g3 (all0)) (by kernel_rfl) (by kernel_rfl) (by kernel_rfl) (Nat.le_of_ble_eq_true (by kernel_rfl)) eG (by kernel_rfl) (Nat.le_of_ble_eq_true (by kernel_rfl))
end spec_l11Do
end Go.Proofs.YtnbighmbgmjbkaaGreat.E
end
