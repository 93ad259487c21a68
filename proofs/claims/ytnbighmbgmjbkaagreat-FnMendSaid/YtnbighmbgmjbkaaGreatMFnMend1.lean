/- Part 1 of the proof of the statement FnMend; the last part states it. No condition. -/
import Derived.Test.YtnbighmbgmjbkaaGreatRows
import Derived.WalkKit
import Derived.ProofKit
import Derived.OpenShut
import Derived.ShutString
import Derived.ChangeOld
import Derived.Below
import Derived.SizedLaws
import Derived.Test.YtnbighmbgmjbkaaGreatMGM2
import Derived.Test.YtnbighmbgmjbkaaGreatMGM3
import Derived.Test.YtnbighmbgmjbkaaGreatMGM4
import Derived.Test.YtnbighmbgmjbkaaGreatMGM23
import Derived.Test.YtnbighmbgmjbkaaGreatMGM34
set_option linter.unusedVariables false
set_option linter.unusedSimpArgs false
section
namespace Go.Proofs.YtnbighmbgmjbkaaGreat.E
open Go Go.RowKit
set_option maxRecDepth 100000
namespace impl_CodeAll
def sin:Sig:=⟨[],[.one (.val I false),.one (.val (.sl I) false)]⟩
def sout:Sig:=⟨[.buf I false],[.one (.ref (.own 0))]⟩
noncomputable def G {β:Type}(S:Sl)(a0:Int)(a1:(List Int))(K:(List Int)→Option β):Option β:=impl_vectorOf.G S a1 (fun y1 y2=>bif(!y2)then(K [])else(impl_kindOk.G S a0 (fun y3=>bif(!y3)then(K [])else(impl_encode.G S a0 y1 (fun y4=>K y4)))))
noncomputable def o:Orac:=⟨42,sin,sout,fun s K=>G sl0 s.2.1 s.2.2.1 (fun x0=>K ((x0,()),()))⟩
noncomputable def C:Ctx:=⟨tyT,[impl_encode.o,impl_kindOk.o,impl_vectorOf.o],[],22,0⟩
theorem ctx:CtxOk Tryz.prog C:=⟨tyOk,all1 impl_encode.ok (all1 impl_kindOk.ok (all1 impl_vectorOf.ok (all0)))⟩
theorem eG (β:Type)(s:sin.den)(K:sout.den→Option β):evalFn C Tryz.f42 sin sout s K=o.F s K:=by kernel_rfl
theorem ok:OracOk Tryz.prog o:=fn_ok mixed Tryz.func42 (by kernel_rfl) ctx (c:=bodyC Tryz.f42) (by kernel_rfl) (all0) (by kernel_rfl) (by kernel_rfl) (by kernel_rfl) (Nat.le_of_ble_eq_true (by kernel_rfl)) eG (by kernel_rfl) (Nat.le_of_ble_eq_true (by kernel_rfl))
end impl_CodeAll
namespace laws_FnMend
def sin:Sig:=⟨[],[.one (.val (.sl (.int .u8)) false)]⟩
def sout:Sig:=⟨[],[.one (.val .bool false)]⟩
def h11:SS:=⟨[3,4,7,9,10,12,13,14,15],⟨[.box [.val I false,.ref (.own 4),.ref (.own 5),.ref (.own 6)],.box [.val I false,.ref (.own 7),.ref (.own 8),.ref (.own 9)],.buf I false,.buf I false,.buf I false,.buf I false,.buf .bool false,.buf I false,.buf I false,.buf .bool false],[.one (.ref (.ptr 0)),.one (.val I false),.one (.ref (.ptr 1)),.one (.ref (.own 2)),.one (.val I false),.one (.ref (.own 3)),.one (.val I false),.one (.val .bool false),.one (.val I false)]⟩⟩
def x11:SS:=⟨[3,4,7,9,10,12,13,14],⟨[.box [.val I false,.ref (.own 4),.ref (.own 5),.ref (.own 6)],.box [.val I false,.ref (.own 7),.ref (.own 8),.ref (.own 9)],.buf I false,.buf I false,.buf I false,.buf I false,.buf .bool false,.buf I false,.buf I false,.buf .bool false],[.one (.ref (.ptr 0)),.one (.val I false),.one (.ref (.ptr 1)),.one (.ref (.own 2)),.one (.val I false),.one (.ref (.own 3)),.one (.val I false),.one (.val .bool false)]⟩⟩
def y11:SS:=⟨[2],⟨[],[.one (.val .bool false)]⟩⟩
noncomputable def b11 {β:Type}(S:Sl)(L:Int→Int→(List Int)→(List Int)→(List Int)→(List Int)→(List Bool)→(List Int)→(List Int)→(List Bool)→Int→Int→Int→Bool→Int→Option β)(kx:Int→Int→(List Int)→(List Int)→(List Int)→(List Int)→(List Bool)→(List Int)→(List Int)→(List Bool)→Int→Int→Int→Bool→Option β)(kr:Bool→Option β)(s0:Int)(s1:Int)(s2:(List Int))(s3:(List Int))(s4:(List Int))(s5:(List Int))(s6:(List Bool))(s7:(List Int))(s8:(List Int))(s9:(List Bool))(s10:Int)(s11:Int)(s12:Int)(s13:Bool)(s14:Int):Option β:=bif(S.lt s14 8)then(bif(!S.eq s14 s10)then(bif(S.ir s14 s7.length)then(bif(S.ir s14 s4.length)then(bif(!S.eq (List.getD s7 (Int.toNat s14) 0) (List.getD s4 (Int.toNat s14) 0))then(kr false)else(bif(S.ir s14 s8.length)then(bif(S.ir s14 s5.length)then(bif(!S.eq (List.getD s8 (Int.toNat s14) 0) (List.getD s5 (Int.toNat s14) 0))then(kr false)else(bif(S.ir s14 s9.length)then(bif(S.ir s14 s6.length)then(bif((List.getD s9 (Int.toNat s14) false) != (List.getD s6 (Int.toNat s14) false))then(kr false)else(L s0 s1 s2 s3 s4 s5 s6 s7 s8 s9 s10 s11 s12 s13 (S.w (s14+1))))else(none))else(none)))else(none))else(none)))else(none))else(none))else(L s0 s1 s2 s3 s4 s5 s6 s7 s8 s9 s10 s11 s12 s13 (S.w (s14+1))))else(kx s0 s1 s2 s3 s4 s5 s6 s7 s8 s9 s10 s11 s12 s13)
noncomputable def r11 {β:Type}(S:Sl)(n:Nat)(kx:x11.sig.den→Option β)(kr:y11.sig.den→Option β)(s:h11.sig.den):Option β:=rounds (fun L kx kr s=>b11 S (fun x0 x1 x2 x3 x4 x5 x6 x7 x8 x9 x10 x11 x12 x13 x14=>L (((x0,()),((x1,()),(x2,(x3,(x4,(x5,(x6,(x7,(x8,(x9,())))))))))),(x10,(x11,(x12,(x13,(x14,()))))))) (fun x0 x1 x2 x3 x4 x5 x6 x7 x8 x9 x10 x11 x12 x13=>kx (((x0,()),((x1,()),(x2,(x3,(x4,(x5,(x6,(x7,(x8,(x9,())))))))))),(x10,(x11,(x12,(x13,())))))) (fun x0=>kr ((),(x0,()))) s.1.1.1 s.1.2.1.1 s.1.2.2.1 s.1.2.2.2.1 s.1.2.2.2.2.1 s.1.2.2.2.2.2.1 s.1.2.2.2.2.2.2.1 s.1.2.2.2.2.2.2.2.1 s.1.2.2.2.2.2.2.2.2.1 s.1.2.2.2.2.2.2.2.2.2.1 s.2.1 s.2.2.1 s.2.2.2.1 s.2.2.2.2.1 s.2.2.2.2.2.1) kx kr n s
noncomputable def l11 {β:Type}(S:Sl)(n:Nat)(kx:Int→Int→(List Int)→(List Int)→(List Int)→(List Int)→(List Bool)→(List Int)→(List Int)→(List Bool)→Int→Int→Int→Bool→Option β)(kr:Bool→Option β)(s0:Int)(s1:Int)(s2:(List Int))(s3:(List Int))(s4:(List Int))(s5:(List Int))(s6:(List Bool))(s7:(List Int))(s8:(List Int))(s9:(List Bool))(s10:Int)(s11:Int)(s12:Int)(s13:Bool)(s14:Int):Option β:=r11 S n (fun s=>kx s.1.1.1 s.1.2.1.1 s.1.2.2.1 s.1.2.2.2.1 s.1.2.2.2.2.1 s.1.2.2.2.2.2.1 s.1.2.2.2.2.2.2.1 s.1.2.2.2.2.2.2.2.1 s.1.2.2.2.2.2.2.2.2.1 s.1.2.2.2.2.2.2.2.2.2.1 s.2.1 s.2.2.1 s.2.2.2.1 s.2.2.2.2.1) (fun s=>kr s.2.1) (((s0,()),((s1,()),(s2,(s3,(s4,(s5,(s6,(s7,(s8,(s9,())))))))))),(s10,(s11,(s12,(s13,(s14,()))))))
theorem t11 {β:Type}(S:Sl)(n:Nat)(kx:Int→Int→(List Int)→(List Int)→(List Int)→(List Int)→(List Bool)→(List Int)→(List Int)→(List Bool)→Int→Int→Int→Bool→Option β)(kr:Bool→Option β)(s0:Int)(s1:Int)(s2:(List Int))(s3:(List Int))(s4:(List Int))(s5:(List Int))(s6:(List Bool))(s7:(List Int))(s8:(List Int))(s9:(List Bool))(s10:Int)(s11:Int)(s12:Int)(s13:Bool)(s14:Int):l11 S (n+1) kx kr s0 s1 s2 s3 s4 s5 s6 s7 s8 s9 s10 s11 s12 s13 s14=b11 S (l11 S n kx kr) kx kr s0 s1 s2 s3 s4 s5 s6 s7 s8 s9 s10 s11 s12 s13 s14:=by kernel_rfl
noncomputable def G {β:Type}(S:Sl)(a0:(List Int))(K:Bool→Option β):Option β:=bif(S.lt 1048576 (a0.length:Int))then(K true)else(spec_DrawStripeMend.G S a0 (fun y1 y2 y3 y4 y5=>spec_StripeMend.G S y4 y1 y2 y3 y5 (fun y6 y7 y8 y9 y10=>impl_StripeMend.G S y4 y1 y2 y3 y5 (fun y11 y12 y13 y14 y15=>bif(y15 != y10)then(bif(y15==y10)then(laws_lkStripe.G S y14 y11 y12 y13 y9 y6 y7 y8 (fun y16=>K y16))else(K false))else(laws_lkStripe.G S y14 y11 y12 y13 y9 y6 y7 y8 (fun y17=>bif(!y17)then(bif(y15==y10)then(laws_lkStripe.G S y14 y11 y12 y13 y9 y6 y7 y8 (fun y18=>K y18))else(K false))else(bif(!y15)then(bif(y15==y10)then(laws_lkStripe.G S y14 y11 y12 y13 y9 y6 y7 y8 (fun y19=>K y19))else(K false))else(impl_StripeRead.G S y4 y1 y2 y3 (fun y20 y21 y22=>impl_StripeRead.G S y14 y11 y12 y13 (fun y23 y24 y25=>l11 S S.n (fun y26 y27 y28 y29 y30 y31 y32 y33 y34 y35 y36 y37 y38 y39=>bif(S.ir y36 y35.length)then(bif(List.getD y35 (Int.toNat y36) false)then(bif(S.ir y36 y34.length)then(bif(S.eq (List.getD y34 (Int.toNat y36) 0) y37)then(bif(S.ir y36 y33.length)then(impl_CodeAll.G S y26 y28 (fun y40=>bif(S.ir y36 y40.length)then(bif(S.eq (List.getD y33 (Int.toNat y36) 0) (List.getD y40 (Int.toNat y36) 0))then(bif y39 then(bif(S.eq y38 y37)then(laws_lkInts.G S y29 y28 (fun y41=>bif y41 then(impl_StripeOk.G S y27 y33 y34 y35 (fun y42=>K y42))else(K false)))else(K false))else(K false))else(K false))else(none)))else(none))else(K false))else(none))else(K false))else(none)) (fun y43=>K y43) y4 y14 y20 y23 y1 y2 y3 y11 y12 y13 y5 y21 y24 y25 0))))))))))
noncomputable def o:Orac:=⟨13,sin,sout,fun s K=>G sl0 s.2.1 (fun x0=>K ((),(x0,())))⟩
noncomputable def C:Ctx:=⟨tyT,[impl_CodeAll.o,impl_StripeMend.o,impl_StripeOk.o,impl_StripeRead.o,laws_lkInts.o,laws_lkStripe.o,spec_DrawStripeMend.o,spec_StripeMend.o],[⟨11,0,h11,x11,y11,fun s kx kr=>r11 sl0 sl0.n kx kr s⟩],161,0⟩
theorem ctx:CtxOk Tryz.prog C:=⟨tyOk,all1 impl_CodeAll.ok (all1 impl_StripeMend.ok (all1 impl_StripeOk.ok (all1 impl_StripeRead.ok (all1 laws_lkInts.ok (all1 laws_lkStripe.ok (all1 spec_DrawStripeMend.ok (all1 spec_StripeMend.ok (all0))))))))⟩
theorem e11 (β:Type)(L:h11.sig.den→Option β)(kx:x11.sig.den→Option β)(kr:y11.sig.den→Option β)(s:h11.sig.den):evalBody C (nthC (loopsOf (bodyC Tryz.f13)) 0) 0 h11 x11 y11 L kx kr s=b11 sl0 (fun x0 x1 x2 x3 x4 x5 x6 x7 x8 x9 x10 x11 x12 x13 x14=>L (((x0,()),((x1,()),(x2,(x3,(x4,(x5,(x6,(x7,(x8,(x9,())))))))))),(x10,(x11,(x12,(x13,(x14,()))))))) (fun x0 x1 x2 x3 x4 x5 x6 x7 x8 x9 x10 x11 x12 x13=>kx (((x0,()),((x1,()),(x2,(x3,(x4,(x5,(x6,(x7,(x8,(x9,())))))))))),(x10,(x11,(x12,(x13,())))))) (fun x0=>kr ((),(x0,()))) s.1.1.1 s.1.2.1.1 s.1.2.2.1 s.1.2.2.2.1 s.1.2.2.2.2.1 s.1.2.2.2.2.2.1 s.1.2.2.2.2.2.2.1 s.1.2.2.2.2.2.2.2.1 s.1.2.2.2.2.2.2.2.2.1 s.1.2.2.2.2.2.2.2.2.2.1 s.2.1 s.2.2.1 s.2.2.2.1 s.2.2.2.2.1 s.2.2.2.2.2.1:=by kernel_rfl
theorem g11:LS Tryz.prog C ⟨11,0,h11,x11,y11,fun s kx kr=>r11 sl0 sl0.n kx kr s⟩ (loopsOf (bodyC Tryz.f13)):=LS.at (i:=0) (by kernel_rfl) (loop_good mixed ctx (ctx_nat ctx) (N:=sl0.n) (fun _ _ _ _=>rfl) e11 (all1 (LS.none (by kernel_rfl)) (all0)))
noncomputable def Cg (g0:{β:Type}→(Int)→((List Int))→((List Int)→Option β)→Option β)(g1:{β:Type}→(Int)→((List Int))→((List Int))→((List Bool))→(Int)→((List Int)→(List Int)→(List Bool)→Int→Bool→Option β)→Option β)(g2:{β:Type}→(Int)→((List Int))→((List Int))→((List Bool))→(Bool→Option β)→Option β)(g3:{β:Type}→(Int)→((List Int))→((List Int))→((List Bool))→((List Int)→Int→Bool→Option β)→Option β)(g4:{β:Type}→((List Int))→((List Int))→(Bool→Option β)→Option β)(g5:{β:Type}→(Int)→((List Int))→((List Int))→((List Bool))→(Int)→((List Int))→((List Int))→((List Bool))→(Bool→Option β)→Option β)(g6:{β:Type}→((List Int))→((List Int)→(List Int)→(List Bool)→Int→Int→Option β)→Option β)(g7:{β:Type}→(Int)→((List Int))→((List Int))→((List Bool))→(Int)→((List Int)→(List Int)→(List Bool)→Int→Bool→Option β)→Option β):Ctx:=⟨tyT,[⟨42,impl_CodeAll.sin,impl_CodeAll.sout,fun s K=>g0 s.2.1 s.2.2.1 (fun x0=>K ((x0,()),()))⟩,⟨61,impl_StripeMend.sin,impl_StripeMend.sout,fun s K=>g1 s.2.1.1 s.2.1.2.1 s.2.1.2.2.1 s.2.1.2.2.2.1 s.2.2.1 (fun x0 x1 x2 x3 x4=>K ((x0,(x1,(x2,()))),((x3,()),(x4,()))))⟩,⟨62,impl_StripeOk.sin,impl_StripeOk.sout,fun s K=>g2 s.2.1.1 s.2.1.2.1 s.2.1.2.2.1 s.2.1.2.2.2.1 (fun x0=>K ((),(x0,())))⟩,⟨24,impl_StripeRead.sin,impl_StripeRead.sout,fun s K=>g3 s.2.1.1 s.2.1.2.1 s.2.1.2.2.1 s.2.1.2.2.2.1 (fun x0 x1 x2=>K ((x0,()),(x1,(x2,()))))⟩,⟨26,laws_lkInts.sin,laws_lkInts.sout,fun s K=>g4 s.2.1 s.2.2.1 (fun x0=>K ((),(x0,())))⟩,⟨23,laws_lkStripe.sin,laws_lkStripe.sout,fun s K=>g5 s.2.1.1 s.2.1.2.1 s.2.1.2.2.1 s.2.1.2.2.2.1 s.2.2.1.1 s.2.2.1.2.1 s.2.2.1.2.2.1 s.2.2.1.2.2.2.1 (fun x0=>K ((),(x0,())))⟩,⟨59,spec_DrawStripeMend.sin,spec_DrawStripeMend.sout,fun s K=>g6 s.2.1 (fun x0 x1 x2 x3 x4=>K ((x0,(x1,(x2,()))),((x3,()),(x4,()))))⟩,⟨60,spec_StripeMend.sin,spec_StripeMend.sout,fun s K=>g7 s.2.1.1 s.2.1.2.1 s.2.1.2.2.1 s.2.1.2.2.2.1 s.2.2.1 (fun x0 x1 x2 x3 x4=>K ((x0,(x1,(x2,()))),((x3,()),(x4,()))))⟩],[⟨11,0,h11,x11,y11,fun s kx kr=>r11 sl0 sl0.n kx kr s⟩],161,0⟩
noncomputable def bc {α:Type}(b:Bool) (x y:α):α:=Bool.rec (motive:=fun _=>α) y x b
noncomputable def Gg (g0:{β:Type}→(Int)→((List Int))→((List Int)→Option β)→Option β)(g1:{β:Type}→(Int)→((List Int))→((List Int))→((List Bool))→(Int)→((List Int)→(List Int)→(List Bool)→Int→Bool→Option β)→Option β)(g2:{β:Type}→(Int)→((List Int))→((List Int))→((List Bool))→(Bool→Option β)→Option β)(g3:{β:Type}→(Int)→((List Int))→((List Int))→((List Bool))→((List Int)→Int→Bool→Option β)→Option β)(g4:{β:Type}→((List Int))→((List Int))→(Bool→Option β)→Option β)(g5:{β:Type}→(Int)→((List Int))→((List Int))→((List Bool))→(Int)→((List Int))→((List Int))→((List Bool))→(Bool→Option β)→Option β)(g6:{β:Type}→((List Int))→((List Int)→(List Int)→(List Bool)→Int→Int→Option β)→Option β)(g7:{β:Type}→(Int)→((List Int))→((List Int))→((List Bool))→(Int)→((List Int)→(List Int)→(List Bool)→Int→Bool→Option β)→Option β) {β:Type}(S:Sl)(a0:(List Int))(K:Bool→Option β):Option β:=bc ((S.lt 1048576 (a0.length:Int))) (K true) (g6 a0 (fun y1 y2 y3 y4 y5=>g7 y4 y1 y2 y3 y5 (fun y6 y7 y8 y9 y10=>g1 y4 y1 y2 y3 y5 (fun y11 y12 y13 y14 y15=>bc ((y15 != y10)) (bc ((y15==y10)) (g5 y14 y11 y12 y13 y9 y6 y7 y8 (fun y16=>K y16)) (K false)) (g5 y14 y11 y12 y13 y9 y6 y7 y8 (fun y17=>bc ((!y17)) (bc ((y15==y10)) (g5 y14 y11 y12 y13 y9 y6 y7 y8 (fun y18=>K y18)) (K false)) (bc ((!y15)) (bc ((y15==y10)) (g5 y14 y11 y12 y13 y9 y6 y7 y8 (fun y19=>K y19)) (K false)) (g3 y4 y1 y2 y3 (fun y20 y21 y22=>g3 y14 y11 y12 y13 (fun y23 y24 y25=>l11 S S.n (fun y26 y27 y28 y29 y30 y31 y32 y33 y34 y35 y36 y37 y38 y39=>bc ((S.ir y36 y35.length)) (bc ((List.getD y35 (Int.toNat y36) false)) (bc ((S.ir y36 y34.length)) (bc ((S.eq (List.getD y34 (Int.toNat y36) 0) y37)) (bc ((S.ir y36 y33.length)) (g0 y26 y28 (fun y40=>bc ((S.ir y36 y40.length)) (bc ((S.eq (List.getD y33 (Int.toNat y36) 0) (List.getD y40 (Int.toNat y36) 0))) (bc (y39) (bc ((S.eq y38 y37)) (g4 y29 y28 (fun y41=>bc (y41) (g2 y27 y33 y34 y35 (fun y42=>K y42)) (K false))) (K false)) (K false)) (K false)) (none))) (none)) (K false)) (none)) (K false)) (none)) (fun y43=>K y43) y4 y14 y20 y23 y1 y2 y3 y11 y12 y13 y5 y21 y24 y25 0))))))))))
theorem eGg (g0:{β:Type}→(Int)→((List Int))→((List Int)→Option β)→Option β)(g1:{β:Type}→(Int)→((List Int))→((List Int))→((List Bool))→(Int)→((List Int)→(List Int)→(List Bool)→Int→Bool→Option β)→Option β)(g2:{β:Type}→(Int)→((List Int))→((List Int))→((List Bool))→(Bool→Option β)→Option β)(g3:{β:Type}→(Int)→((List Int))→((List Int))→((List Bool))→((List Int)→Int→Bool→Option β)→Option β)(g4:{β:Type}→((List Int))→((List Int))→(Bool→Option β)→Option β)(g5:{β:Type}→(Int)→((List Int))→((List Int))→((List Bool))→(Int)→((List Int))→((List Int))→((List Bool))→(Bool→Option β)→Option β)(g6:{β:Type}→((List Int))→((List Int)→(List Int)→(List Bool)→Int→Int→Option β)→Option β)(g7:{β:Type}→(Int)→((List Int))→((List Int))→((List Bool))→(Int)→((List Int)→(List Int)→(List Bool)→Int→Bool→Option β)→Option β) (β:Type)(s:sin.den)(K:sout.den→Option β):evalFn (Cg g0 g1 g2 g3 g4 g5 g6 g7) Tryz.f13 sin sout s K=Gg g0 g1 g2 g3 g4 g5 g6 g7 sl0 s.2.1 (fun x0=>K ((),(x0,()))):=by kernel_rfl
theorem eG (β:Type)(s:sin.den)(K:sout.den→Option β):evalFn C Tryz.f13 sin sout s K=o.F s K:=by
 have h:=eGg (impl_CodeAll.G sl0) (impl_StripeMend.G sl0) (impl_StripeOk.G sl0) (impl_StripeRead.G sl0) (laws_lkInts.G sl0) (laws_lkStripe.G sl0) (spec_DrawStripeMend.G sl0) (spec_StripeMend.G sl0) β s K
 have hc:Cg (impl_CodeAll.G sl0) (impl_StripeMend.G sl0) (impl_StripeOk.G sl0) (impl_StripeRead.G sl0) (laws_lkInts.G sl0) (laws_lkStripe.G sl0) (spec_DrawStripeMend.G sl0) (spec_StripeMend.G sl0)=C:=by kernel_rfl
 rw [hc] at h
 exact h.trans (by kernel_rfl)
theorem ok:OracOk Tryz.prog o:=fn_ok mixed Tryz.func13 (by kernel_rfl) ctx (c:=bodyC Tryz.f13) (by kernel_rfl) (all1 g11 (all0)) (by kernel_rfl) (by kernel_rfl) (by kernel_rfl) (Nat.le_of_ble_eq_true (by kernel_rfl)) eG (by kernel_rfl) (Nat.le_of_ble_eq_true (by kernel_rfl))
end laws_FnMend
theorem codeAll_G {β:Type} {kind:Int} (hk:kind=1∨kind=2) {data:List Int} (hd:vecV data=true) (K:List Int→Option β):impl_CodeAll.G sl1 kind data K=K (allV kind data):=by
 unfold impl_CodeAll.G
 refine(vector_G data (by have:=(vecV_iff.1 hd).2; omega) _).trans ?_
 rw [hd]
 refine cF rfl ((impl_in kind 1 2 _).trans ?_)
 rw [inV_iff.2 (show 1≤kind∧kind≤2 by omega)]
 exact cF rfl (encode_G hk (vec_V4 hd) _)
end Go.Proofs.YtnbighmbgmjbkaaGreat.E
end
section
namespace Go.Proofs.YtnbighmbgmjbkaaGreat.E
open Go Go.RowKit
set_option maxRecDepth 100000
theorem mend_l {β:Type} (k0 k1:Int) (s2 s3:List Int) {vals vers:List Int} {there:List Bool} (h1:vals.length=8) (h2:vers.length=8) (h3:there.length=8) {at_:Nat} (y v:Int) (z:Bool) (x1 x2:Int) (kx:Int→Int→List Int→List Int→List Int→List Int→List Bool→List Int→List Int→List Bool→Int→Int→Int→Bool→Option β) (kr:Bool→Option β) (d:Nat):∀ (i n:Nat),i+d=8→d<n→
  laws_FnMend.l11 sl1 n kx kr k0 k1 s2 s3 vals vers there (vals.set at_ y) (vers.set at_ v) (there.set at_ true) (at_:Int) x1 x2 z (i:Int)=kx k0 k1 s2 s3 vals vers there (vals.set at_ y) (vers.set at_ v) (there.set at_ true) (at_:Int) x1 x2 z:=by
 induction d with
 | zero =>
  intro i n hi hn
  obtain⟨n,rfl⟩:∃ m,n=m+1:=⟨n-1,by omega⟩
  rw [laws_FnMend.t11]; exact cF (ltF (by omega)) rfl
 | succ d ih =>
  intro i n hi hn
  obtain⟨n,rfl⟩:∃ m,n=m+1:=⟨n-1,by omega⟩
  have next:=ih (i+1) n (by omega) (by omega)
  rw [laws_FnMend.t11]
  unfold laws_FnMend.b11
  rw [w_succ (by omega)]
  refine cT (ltT (by omega)) ?_
  by_cases c:i=at_
  ·exact cF (neF (by omega)) next
  ·have e : ∀ {α : Type} (l : List α) (x dd : α), l.length = 8 → List.getD (l.set at_ x) (Int.toNat (i : Int)) dd = List.getD l (Int.toNat (i : Int)) dd := fun l x dd hl => by
    rw [Int.toNat_natCast,List.getD_eq_getElem?_getD,List.getElem?_set_ne (fun h=>c h.symm),List.getD_eq_getElem?_getD]
   rw [e vals y 0 h1,e vers v 0 h2,e there true false h3]
   exact cT (neT (by omega)) (cT (irT (by omega) (by rw [List.length_set]; omega)) (cT (irT (by omega) (by omega)) (cF (neF rfl) (cT (irT (by omega) (by rw [List.length_set]; omega)) (cT (irT (by omega) (by omega)) (cF (neF rfl) (cT (irT (by omega) (by rw [List.length_set]; omega)) (cT (irT (by omega) (by omega)) (cF (bne_self_eq_false _) next)))))))))
end Go.Proofs.YtnbighmbgmjbkaaGreat.E
namespace Go.Proofs.YtnbighmbgmjbkaaGreat.Pure.FnMend
open Go Go.Proofs.YtnbighmbgmjbkaaGreat.E
theorem pure {β:Type} (l:List Int) (hl:∀ x∈l,0≤x∧x≤255) (K:Bool→Option β):laws_FnMend.G sl1 l K=K true:=by
 obtain⟨kind,vals,vers,there,at_,hs,a0,hd⟩:=drawMend hl
 have l1:=hs.l1
 have l2:=hs.l2
 have l3:=hs.l3
 unfold laws_FnMend.G
 by_cases h:1048576<(l.length:Int)
 ·exact cT (ltT h) rfl
 obtain⟨es,ei⟩:=mend_G (kind:=kind) (vers:=vers) (there:=there) (show vals.length≤1000000000 by omega) at_
 obtain⟨m1,m2,m3⟩:=mendV_len (kind:=kind) (at_:=at_) (Nat.le_of_eq l1) (Nat.le_of_eq l2) (Nat.le_of_eq l3)
 have same:=fun {γ:Type} (K:Bool→Option γ)=>lkStripe_same (β:=γ) (mendV kind vals vers there at_).2.1 (Nat.le_trans m1 (by omega)) (Nat.le_trans m2 (by omega)) (Nat.le_trans m3 (by omega)) K
 refine cF (ltF (by omega)) ((hd _ _).trans ((es _ _).trans ((ei _ _).trans (cF (bne_self_eq_false _) ((same _).trans (cF rfl ?_))))))
 cases ok:(mendV kind vals vers there at_).2.2
 ·exact cT rfl (cT rfl (same _))
 obtain⟨i,v,rfl,hi,cs,hr,e⟩:=mendV_ok ok
 obtain⟨hk,hf,h1,h2,h3,_⟩:=stripe_iff.1 cs
 have hT:=toldD_told cs hr
 obtain⟨o1,o2,o3⟩:=mended_ok cs hi hr hT
 obtain⟨d,hd1,er⟩:=stripeRead_E cs
 obtain rfl:d=toldD kind vals vers there:=tells_uniq hk hd1 (by unfold Tells; rw [hr]; exact hT)
 obtain⟨d2,hd2,er2⟩:=stripeRead_E o1
 obtain rfl:d2=toldD kind vals vers there:=tells_uniq hk hd2 (by unfold Tells; rw [o2]; exact o3)
 rw [hr] at er
 rw [o2] at er2
 have hl4:=hT.1.len
 have hal:=allV_len kind (toldD kind vals vers there)
 rw [e]
 refine cF rfl ((er _ _).trans ((er2 _ _).trans ?_))
 refine(mend_l kind kind _ _ l1 l2 l3 _ v true _ _ _ _ 8 0 sl1.n (by omega) (by rw [rounds_n]; omega)).trans ?_
 have g:∀ {α:Type} (l:List α) (x dd:α),l.length=8→List.getD (l.set i x) (Int.toNat (i:Int)) dd=x:=fun l x dd hl=>by
  rw [Int.toNat_natCast,getD_set _ _ _ _ _ (by omega),if_pos rfl]
 rw [g vals _ 0 l1,g vers v 0 l2,g there true false l3]
 refine cT (irT (by omega) (by rw [List.length_set]; omega)) (cT rfl (cT (irT (by omega) (by rw [List.length_set]; omega)) (cT (eqT rfl) (cT (irT (by omega) (by rw [List.length_set]; omega)) ((codeAll_G hk (V4_vec hT.1) _).trans ?_)))))
 rw [Int.toNat_natCast,allV_at hk hT.1 hi]
 refine cT (irT (by omega) (by omega)) (cT (eqT rfl) (cT rfl (cT (eqT rfl) ((lkInts_same _ (by omega) _).trans (cT rfl ((stripeI_G _ _ _ _ _).trans ?_))))))
 rw [o1]
end Go.Proofs.YtnbighmbgmjbkaaGreat.Pure.FnMend
end
section
namespace Go.Proofs.YtnbighmbgmjbkaaGreat.fnMend
open Go.ChangeShapes Go.WideShapes Go.ChangeAt Go.RowKit
open Go.ChangeMaps (open_string shut_string)
theorem own:ownKnob Tryz.prog.godebug=none:=by kernel_rfl
theorem laidOut:laidOutB Tryz.prog=true:=by kernel_rfl
set_option maxRecDepth 100000 in
theorem lifted (os:Os) (started:os.Started) (H:Type) (enc:TypeId×Value→H):
  ReturnsInHanded {} Tryz.checked os 13 .any (Rows.fnMendSpec.pre6 enc Tryz.prog Tryz.f13 Rows.fnMendRow.domain false) (Rows.fnMendSpec.post enc Tryz.prog Tryz.f13 false true false false):=by
 refine returnsInHanded_of_change_sized (C:=Tryz.checked) own started (by kernel_rfl) Tryz.func13
  (ChangeSpec.witness6 (enc:=enc) (C:=Tryz.checked) false ⟨#[],#[.slice none 0 0],[]⟩ 8 (by kernel_rfl) (by kernel_rfl) (by kernel_rfl) (by kernel_rfl)) ?_
 intro W base args ds gs before hval0 hW hcnd hsz0 _
 have hval:∀ (j:Nat) t v,Tryz.f13.params[j]? = some t→args[j]? = some v→Value.okWide Tryz.prog W .any base t v:=hval0
 have hW':=hW
 obtain⟨p,q,hA0,hV,rfl,hfz,hnd⟩:=hW
 have hA:DataW.TrodAll enc Tryz.prog W 0 (fun _=>true) true Tryz.f13.params.toList args.toList ds p:=hA0
 rw [Tryz.params13] at hA hval
 obtain⟨v0,vs0,d0,ds0,p0,q0,hargs,rfl,rfl,h0,r0⟩:=trodAll_cons hA
 obtain⟨rfl,rfl,rfl⟩:=trodAll_nil r0
 obtain rfl:args = #[v0]:=by cases args; simp_all
 obtain⟨rfl,rfl⟩:=trodVars_none hV
 obtain⟨a0,len0,cap0,rfl⟩:=okWide_slice Tryz.underlying22 (hval 0 22 v0 rfl rfl)
 have k0:=h0
 have lt0:∀ x∈p0,x.block<W.heap.size:=by obtain⟨m,hm⟩:=k0; exact DataW.trod_lt m _ _ _ hm
 obtain⟨z0,w0,b0⟩:∃ zs,E.IsRowK .u8 W a0 len0 cap0 zs∧(∀ x∈zs,(Lit.int .u8 x).wf=true):=by
  obtain⟨fuel,hf⟩:=h0
  rcases open_ints Tryz.underlying22 Tryz.underlying5 (by kernel_rfl) hf with ⟨hcs,_⟩ | ⟨x,l,c,zs,hcs,_,hl,hm,hz,_,hcell,hwz⟩
  ·simp [Value.cells] at hcs
   obtain⟨rfl,rfl,rfl⟩:=hcs
   exact⟨[],.inl ⟨rfl,rfl,rfl,rfl⟩,by simp⟩
  ·simp [Value.cells] at hcs
   obtain⟨rfl,rfl,rfl⟩:=hcs
   exact⟨zs,.inr ⟨_,rfl,hl,by simpa using hz,hcell⟩,hwz⟩
 clear hA0 hval0 hsz0
 have hp:=Pure.FnMend.pure (z0.take len0) (fun x hx=>E.byte_wf (b0 x (List.mem_of_mem_take hx))) (fun b=>some ((),(b,())))
 rw [←E.sl_eq] at hp
 refine(E.law_bytes E.laws_FnMend.ok w0 hp).mono fun e W' ⟨he,bel⟩=>?_
 subst he
 exact⟨_,rfl,_,_,_,[],_,[],hW',trodAll_mk1 (shut_bool Tryz.underlying4 _),(trodAll_cons_mk (Below.trod laidOut (by kernel_rfl) (of_decide_eq_true (by kernel_rfl)) k0 bel lt0) trodAll_mk0),rfl,bel.frame _,fun h=>by cases h⟩
theorem closed:joinedFacts Tryz.prog 13 Tryz.f13 Rows.fnMendSpec Rows.fnMendRow=true:=by
 unfold joinedFacts
 rw [Head.make,Head.final,Head.enter]
 kernel_rfl
theorem over:Rows.fnMendRow.holds Tryz.pinned (OpenSpec.ofChange Rows.fnMendSpec):=
 OpenClaim.holds_of_wide 13 Tryz.f13 rfl rfl rfl rfl rfl rfl rfl ⟨rfl,rfl,rfl,rfl,rfl⟩ rfl rfl rfl rfl rfl (by kernel_rfl) Tryz.func13 closed
  (of_decide_eq_true (by kernel_rfl)) (by unfold Func.isWrapper; first | (rw [if_pos (by decide +kernel)]; kernel_rfl) | (rw [if_neg (by decide +kernel)]; exact⟨rfl,rfl⟩))
  (fun os started H enc _=>lifted os started H enc)
theorem proved:Rows.FnMendSaid:=over
#print axioms proved
end Go.Proofs.YtnbighmbgmjbkaaGreat.fnMend
end
