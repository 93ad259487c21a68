/- What the functions of several statements compute, step by step. No condition. -/
import Derived.Test.YtnbighmbgmjbkaaGreatRows
import Derived.WalkKit
import Derived.JoinedOf
import Derived.Shelf.Bits.Mul64
import Derived.Deep.Slices
import Derived.OpenShut
import Derived.WideShapes
import Derived.Test.YtnbighmbgmjbkaaGreatMGM2
import Derived.Test.YtnbighmbgmjbkaaGreatMGM3
set_option linter.unusedVariables false
set_option linter.unusedSimpArgs false
section
namespace Go.Proofs.YtnbighmbgmjbkaaGreat.E
open Go Go.RowKit
set_option maxRecDepth 100000
namespace spec_l3First
def sin:Sig:=⟨[],[.one (.val (.sl (.sl I)) false)]⟩
def sout:Sig:=⟨[.buf I false],[.one (.ref (.own 0))]⟩
def h3:SS:=⟨[0,3,4],⟨[.buf I false],[.one (.val (.sl (.sl I)) false),.one (.ref (.own 0)),.one (.val I false)]⟩⟩
def x3:SS:=⟨[3],⟨[.buf I false],[.one (.ref (.own 0))]⟩⟩
def y3:SS:=⟨[],⟨[],[]⟩⟩
noncomputable def b3 {β:Type}(S:Sl)(L:(List Int)→(List (List Int))→Int→Option β)(kx:(List Int)→Option β)(kr:Option β)(s0:(List Int))(s1:(List (List Int)))(s2:Int):Option β:=bif(S.lt s2 (s1.length:Int))then(bif((S.le 0 0)&&(S.le 0 s2)&&(S.le s2 (s1.length:Int))&&(S.le (s1.length:Int) (s1.length:Int)))then(bif(S.ir s2 s1.length)then(spec_l3Has.G S (cutL s1 (Int.toNat 0) (Int.toNat s2)) (List.getD s1 (Int.toNat s2) []) (fun y1=>bif(!y1)then(bif(S.fw (s0 ++ [s2]).length)then(L (s0 ++ [s2]) s1 (S.w (s2+1)))else(none))else(L s0 s1 (S.w (s2+1)))))else(none))else(none))else(kx s0)
noncomputable def r3 {β:Type}(S:Sl)(n:Nat)(kx:x3.sig.den→Option β)(kr:y3.sig.den→Option β)(s:h3.sig.den):Option β:=rounds (fun L kx kr s=>b3 S (fun x0 x1 x2=>L ((x0,()),(x1,(x2,())))) (fun x0=>kx ((x0,()),())) (kr ((),())) s.1.1 s.2.1 s.2.2.1) kx kr n s
noncomputable def l3 {β:Type}(S:Sl)(n:Nat)(kx:(List Int)→Option β)(kr:Option β)(s0:(List Int))(s1:(List (List Int)))(s2:Int):Option β:=r3 S n (fun s=>kx s.1.1) (fun s=>kr) ((s0,()),(s1,(s2,())))
theorem t3 {β:Type}(S:Sl)(n:Nat)(kx:(List Int)→Option β)(kr:Option β)(s0:(List Int))(s1:(List (List Int)))(s2:Int):l3 S (n+1) kx kr s0 s1 s2=b3 S (l3 S n kx kr) kx kr s0 s1 s2:=by kernel_rfl
noncomputable def G {β:Type}(S:Sl)(a0:(List (List Int)))(K:(List Int)→Option β):Option β:=l3 S S.n (fun y1=>K y1) none [] a0 0
noncomputable def o:Orac:=⟨237,sin,sout,fun s K=>G sl0 s.2.1 (fun x0=>K ((x0,()),()))⟩
noncomputable def C:Ctx:=⟨tyT,[spec_l3Has.o],[⟨3,0,h3,x3,y3,fun s kx kr=>r3 sl0 sl0.n kx kr s⟩],26,0⟩
theorem ctx:CtxOk Tryz.prog C:=⟨tyOk,all1 spec_l3Has.ok (all0)⟩
theorem e3 (β:Type)(L:h3.sig.den→Option β)(kx:x3.sig.den→Option β)(kr:y3.sig.den→Option β)(s:h3.sig.den):evalBody C (nthC (loopsOf (bodyC Tryz.f237)) 0) 0 h3 x3 y3 L kx kr s=b3 sl0 (fun x0 x1 x2=>L ((x0,()),(x1,(x2,())))) (fun x0=>kx ((x0,()),())) (kr ((),())) s.1.1 s.2.1 s.2.2.1:=by kernel_rfl
theorem g3:LS Tryz.prog C ⟨3,0,h3,x3,y3,fun s kx kr=>r3 sl0 sl0.n kx kr s⟩ (loopsOf (bodyC Tryz.f237)):=LS.at (i:=0) (by kernel_rfl) (loop_good mixed ctx (ctx_nat ctx) (N:=sl0.n) (fun _ _ _ _=>rfl) e3 (all1 (LS.none (by kernel_rfl)) (all0)))
theorem eG (β:Type)(s:sin.den)(K:sout.den→Option β):evalFn C Tryz.f237 sin sout s K=o.F s K:=by kernel_rfl
theorem ok:OracOk Tryz.prog o:=fn_ok mixed Tryz.func237 (by kernel_rfl) ctx (c:=bodyC Tryz.f237) (by kernel_rfl) (all1 g3 (all0)) (by kernel_rfl) (by kernel_rfl) (by kernel_rfl) (Nat.le_of_ble_eq_true (by kernel_rfl)) eG (by kernel_rfl) (Nat.le_of_ble_eq_true (by kernel_rfl))
end spec_l3First
namespace spec_l11Plan
def sin:Sig:=⟨[],[.one (.val I false),.one (.val I false),.one (.val (.sl I) false)]⟩
def sout:Sig:=⟨[.buf I false],[.agg [.val I false,.ref (.own 0),.val (.sl I) true],.one (.val .bool false)]⟩
def h3:SS:=⟨[0,1,2,6,8,9],⟨[.box [.val I false,.ref .e0,.ref .e0],.buf (.sl I) false],[.one (.val I false),.one (.val I false),.one (.val (.sl I) false),.one (.ref (.ptr 0)),.one (.ref (.own 1)),.one (.val I false)]⟩⟩
def x3:SS:=⟨[0,1,2,6,8],⟨[.box [.val I false,.ref .e0,.ref .e0],.buf (.sl I) false],[.one (.val I false),.one (.val I false),.one (.val (.sl I) false),.one (.ref (.ptr 0)),.one (.ref (.own 1))]⟩⟩
def y3:SS:=⟨[],⟨[],[]⟩⟩
noncomputable def b3 {β:Type}(S:Sl)(L:Int→(List (List Int))→Int→Int→(List Int)→Int→Option β)(kx:Int→(List (List Int))→Int→Int→(List Int)→Option β)(kr:Option β)(s0:Int)(s1:(List (List Int)))(s2:Int)(s3:Int)(s4:(List Int))(s5:Int):Option β:=bif(S.lt s5 (s4.length:Int))then(bif(S.ir s5 s4.length)then(spec_l4Row.G S s2 (List.getD s4 (Int.toNat s5) 0) (fun y1=>bif(S.fw (s1 ++ [y1]).length)then(L s0 (s1 ++ [y1]) s2 s3 s4 (S.w (s5+1)))else(none)))else(none))else(kx s0 s1 s2 s3 s4)
noncomputable def r3 {β:Type}(S:Sl)(n:Nat)(kx:x3.sig.den→Option β)(kr:y3.sig.den→Option β)(s:h3.sig.den):Option β:=rounds (fun L kx kr s=>b3 S (fun x0 x1 x2 x3 x4 x5=>L (((x0,()),(x1,())),(x2,(x3,(x4,(x5,())))))) (fun x0 x1 x2 x3 x4=>kx (((x0,()),(x1,())),(x2,(x3,(x4,()))))) (kr ((),())) s.1.1.1 s.1.2.1 s.2.1 s.2.2.1 s.2.2.2.1 s.2.2.2.2.1) kx kr n s
noncomputable def l3 {β:Type}(S:Sl)(n:Nat)(kx:Int→(List (List Int))→Int→Int→(List Int)→Option β)(kr:Option β)(s0:Int)(s1:(List (List Int)))(s2:Int)(s3:Int)(s4:(List Int))(s5:Int):Option β:=r3 S n (fun s=>kx s.1.1.1 s.1.2.1 s.2.1 s.2.2.1 s.2.2.2.1) (fun s=>kr) (((s0,()),(s1,())),(s2,(s3,(s4,(s5,())))))
theorem t3 {β:Type}(S:Sl)(n:Nat)(kx:Int→(List (List Int))→Int→Int→(List Int)→Option β)(kr:Option β)(s0:Int)(s1:(List (List Int)))(s2:Int)(s3:Int)(s4:(List Int))(s5:Int):l3 S (n+1) kx kr s0 s1 s2 s3 s4 s5=b3 S (l3 S n kx kr) kx kr s0 s1 s2 s3 s4 s5:=by kernel_rfl
noncomputable def G {β:Type}(S:Sl)(a0:Int)(a1:Int)(a2:(List Int))(K:(List Int)→Int→(List Int)→Bool→Option β):Option β:=l3 S S.n (fun y1 y2 y3 y4 y5=>spec_l3First.G S y2 (fun y6=>bif(S.lt (y6.length:Int) (y2.length:Int))then(K [] 0 [] false)else(spec_l4Row.G S y3 y4 (fun y7=>spec_l3By.G S y2 y7 (fun y8 y9=>bif(!y9)then(K [] 0 [] false)else(bif(S.fw ([]++y5).length)then(K ([]++y5) y4 y8 true)else(none))))))) none 0 [] a0 a1 a2 0
noncomputable def o:Orac:=⟨249,sin,sout,fun s K=>G sl0 s.2.1 s.2.2.1 s.2.2.2.1 (fun x0 x1 x2 x3=>K ((x0,()),((x1,(x2,())),(x3,()))))⟩
noncomputable def C:Ctx:=⟨tyT,[spec_l3By.o,spec_l3First.o,spec_l4Row.o],[⟨3,0,h3,x3,y3,fun s kx kr=>r3 sl0 sl0.n kx kr s⟩],52,0⟩
theorem ctx:CtxOk Tryz.prog C:=⟨tyOk,all1 spec_l3By.ok (all1 spec_l3First.ok (all1 spec_l4Row.ok (all0)))⟩
theorem e3 (β:Type)(L:h3.sig.den→Option β)(kx:x3.sig.den→Option β)(kr:y3.sig.den→Option β)(s:h3.sig.den):evalBody C (nthC (loopsOf (bodyC Tryz.f249)) 0) 0 h3 x3 y3 L kx kr s=b3 sl0 (fun x0 x1 x2 x3 x4 x5=>L (((x0,()),(x1,())),(x2,(x3,(x4,(x5,())))))) (fun x0 x1 x2 x3 x4=>kx (((x0,()),(x1,())),(x2,(x3,(x4,()))))) (kr ((),())) s.1.1.1 s.1.2.1 s.2.1 s.2.2.1 s.2.2.2.1 s.2.2.2.2.1:=by kernel_rfl
theorem g3:LS Tryz.prog C ⟨3,0,h3,x3,y3,fun s kx kr=>r3 sl0 sl0.n kx kr s⟩ (loopsOf (bodyC Tryz.f249)):=LS.at (i:=0) (by kernel_rfl) (loop_good mixed ctx (ctx_nat ctx) (N:=sl0.n) (fun _ _ _ _=>rfl) e3 (all1 (LS.none (by kernel_rfl)) (all0)))
theorem eG (β:Type)(s:sin.den)(K:sout.den→Option β):evalFn C Tryz.f249 sin sout s K=o.F s K:=by kernel_rfl
theorem ok:OracOk Tryz.prog o:=fn_ok mixed Tryz.func249 (by kernel_rfl) ctx (c:=bodyC Tryz.f249) (by kernel_rfl) (all1 g3 (all0)) (by kernel_rfl) (by kernel_rfl) (by kernel_rfl) (Nat.le_of_ble_eq_true (by kernel_rfl)) eG (by kernel_rfl) (Nat.le_of_ble_eq_true (by kernel_rfl))
end spec_l11Plan
namespace spec_l11Search
def sin:Sig:=⟨[.buf I false],[.one (.val I false),.one (.val I false),.one (.val (.sl .bool) false),.one (.ref (.own 0)),.one (.val I false),.one (.val I false)]⟩
def sout:Sig:=⟨[.buf I false,.buf I false],[.agg [.val I false,.ref (.own 1),.val (.sl I) true],.one (.val .bool false)]⟩
def h4:SS:=⟨[0,1,2,3,5,12,14],⟨[.buf I false,.box [.val I false,.ref .e0,.ref .e0]],[.one (.val I false),.one (.val I false),.one (.val (.sl .bool) false),.one (.ref (.own 0)),.one (.val I false),.one (.ref (.ptr 1)),.one (.val I false)]⟩⟩
def x4:SS:=⟨[12],⟨[.buf I false,.box [.val I false,.ref .e0,.ref .e0]],[.one (.ref (.ptr 1))]⟩⟩
def y4:SS:=⟨[12,13],⟨[.buf I false,.box [.val I false,.ref (.own 2),.val (.sl I) true],.buf I false],[.one (.ref (.ptr 1)),.one (.val .bool false)]⟩⟩
noncomputable def b4 {β:Type}(S:Sl)(R:(List Int)→Int→Int→(List Bool)→Int→Int→((List Int)→(List Int)→Int→(List Int)→Bool→Option β)→Option β)(L:(List Int)→Int→Int→Int→(List Bool)→Int→Int→Option β)(kx:(List Int)→Int→Option β)(kr:(List Int)→Int→(List Int)→(List Int)→Bool→Option β)(s0:(List Int))(s1:Int)(s2:Int)(s3:Int)(s4:(List Bool))(s5:Int)(s6:Int):Option β:=bif(S.lt s6 8)then(bif(S.ir s6 s4.length)then(bif(!(List.getD s4 (Int.toNat s6) false))then(L s0 s1 s2 s3 s4 s5 (S.w (s6+1)))else(bif(S.eq s6 s3)then(L s0 s1 s2 s3 s4 s5 (S.w (s6+1)))else(bif(S.fw ([]++s0).length)then(bif(S.fw (([]++s0) ++ [s6]).length)then(R (([]++s0) ++ [s6]) s2 s3 s4 (S.w (s6+1)) (S.w (s5-1)) (fun y1 y2 y3 y4 y5=>bif y5 then(kr s0 y3 y4 y2 true)else(L s0 s1 s2 s3 s4 s5 (S.w (s6+1)))))else(none))else(none))))else(none))else(kx s0 s1)
noncomputable def r4 {β:Type}(S:Sl)(R:(List Int)→Int→Int→(List Bool)→Int→Int→((List Int)→(List Int)→Int→(List Int)→Bool→Option β)→Option β)(n:Nat)(kx:x4.sig.den→Option β)(kr:y4.sig.den→Option β)(s:h4.sig.den):Option β:=rounds (fun L kx kr s=>b4 S R (fun x0 x1 x2 x3 x4 x5 x6=>L ((x0,((x1,()),())),(x2,(x3,(x4,(x5,(x6,()))))))) (fun x0 x1=>kx ((x0,((x1,()),())),())) (fun x0 x1 x2 x3 x4=>kr ((x0,((x1,(x2,())),(x3,()))),(x4,()))) s.1.1 s.1.2.1.1 s.2.1 s.2.2.1 s.2.2.2.1 s.2.2.2.2.1 s.2.2.2.2.2.1) kx kr n s
noncomputable def l4 {β:Type}(S:Sl)(R:(List Int)→Int→Int→(List Bool)→Int→Int→((List Int)→(List Int)→Int→(List Int)→Bool→Option β)→Option β)(n:Nat)(kx:(List Int)→Int→Option β)(kr:(List Int)→Int→(List Int)→(List Int)→Bool→Option β)(s0:(List Int))(s1:Int)(s2:Int)(s3:Int)(s4:(List Bool))(s5:Int)(s6:Int):Option β:=r4 S R n (fun s=>kx s.1.1 s.1.2.1.1) (fun s=>kr s.1.1 s.1.2.1.1 s.1.2.1.2.1 s.1.2.2.1 s.2.1) ((s0,((s1,()),())),(s2,(s3,(s4,(s5,(s6,()))))))
theorem t4 {β:Type}(S:Sl)(R:(List Int)→Int→Int→(List Bool)→Int→Int→((List Int)→(List Int)→Int→(List Int)→Bool→Option β)→Option β)(n:Nat)(kx:(List Int)→Int→Option β)(kr:(List Int)→Int→(List Int)→(List Int)→Bool→Option β)(s0:(List Int))(s1:Int)(s2:Int)(s3:Int)(s4:(List Bool))(s5:Int)(s6:Int):l4 S R (n+1) kx kr s0 s1 s2 s3 s4 s5 s6=b4 S R (l4 S R n kx kr) kx kr s0 s1 s2 s3 s4 s5 s6:=by kernel_rfl
noncomputable def B {β:Type}(S:Sl)(R:(List Int)→Int→Int→(List Bool)→Int→Int→((List Int)→(List Int)→Int→(List Int)→Bool→Option β)→Option β)(a0:(List Int))(a1:Int)(a2:Int)(a3:(List Bool))(a4:Int)(a5:Int)(K:(List Int)→(List Int)→Int→(List Int)→Bool→Option β):Option β:=bif(S.eq a5 0)then(spec_l11Plan.G S a1 a2 a0 (fun y1 y2 y3 y4=>K a0 y1 y2 y3 y4))else(l4 S R S.n (fun y5 y6=>K y5 [] 0 [] false) (fun y7 y8 y9 y10 y11=>K y7 y10 y8 y9 y11) a0 0 a1 a2 a3 a5 a4)
noncomputable def Gn {β:Type}(S:Sl)(n:Nat):(List Int)→Int→Int→(List Bool)→Int→Int→((List Int)→(List Int)→Int→(List Int)→Bool→Option β)→Option β:=Nat.rec (motive:=fun _=>(List Int)→Int→Int→(List Bool)→Int→Int→((List Int)→(List Int)→Int→(List Int)→Bool→Option β)→Option β) (fun _ _ _ _ _ _ _=>none) (fun _ R=>B S R) n
noncomputable def G {β:Type}(S:Sl)(a0:(List Int))(a1:Int)(a2:Int)(a3:(List Bool))(a4:Int)(a5:Int)(K:(List Int)→(List Int)→Int→(List Int)→Bool→Option β):Option β:=Gn S S.n a0 a1 a2 a3 a4 a5 K
theorem tG {β:Type}(S:Sl)(n:Nat)(a0:(List Int))(a1:Int)(a2:Int)(a3:(List Bool))(a4:Int)(a5:Int)(K:(List Int)→(List Int)→Int→(List Int)→Bool→Option β):Gn S (n+1) a0 a1 a2 a3 a4 a5 K=B S (Gn S n) a0 a1 a2 a3 a4 a5 K:=by kernel_rfl
noncomputable def o:Orac:=⟨222,sin,sout,fun s K=>G sl0 s.1.1 s.2.1 s.2.2.1 s.2.2.2.1 s.2.2.2.2.1 s.2.2.2.2.2.1 (fun x0 x1 x2 x3 x4=>K ((x0,(x1,())),((x2,(x3,())),(x4,()))))⟩
noncomputable def oN (n:Nat):Orac:=⟨222,sin,sout,fun s K=>Gn sl0 n s.1.1 s.2.1 s.2.2.1 s.2.2.2.1 s.2.2.2.2.1 s.2.2.2.2.2.1 (fun x0 x1 x2 x3 x4=>K ((x0,(x1,())),((x2,(x3,())),(x4,()))))⟩
noncomputable def C (n:Nat):Ctx:=⟨tyT,[oN n,spec_l11Plan.o],[⟨4,0,h4,x4,y4,fun s kx kr=>r4 sl0 (Gn sl0 n) sl0.n kx kr s⟩],60,1⟩
theorem ctx (n:Nat)(hn:OracOk Tryz.prog (oN n)):CtxOk Tryz.prog (C n):=⟨tyOk,all1 hn (all1 spec_l11Plan.ok (all0))⟩
theorem e4 (n:Nat) (β:Type)(L:h4.sig.den→Option β)(kx:x4.sig.den→Option β)(kr:y4.sig.den→Option β)(s:h4.sig.den):evalBody (C n) (nthC (loopsOf (bodyC Tryz.f222)) 0) 0 h4 x4 y4 L kx kr s=b4 sl0 (Gn sl0 n) (fun x0 x1 x2 x3 x4 x5 x6=>L ((x0,((x1,()),())),(x2,(x3,(x4,(x5,(x6,()))))))) (fun x0 x1=>kx ((x0,((x1,()),())),())) (fun x0 x1 x2 x3 x4=>kr ((x0,((x1,(x2,())),(x3,()))),(x4,()))) s.1.1 s.1.2.1.1 s.2.1 s.2.2.1 s.2.2.2.1 s.2.2.2.2.1 s.2.2.2.2.2.1:=by kernel_rfl
theorem g4 (n:Nat)(hn:OracOk Tryz.prog (oN n)):LS Tryz.prog (C n) ⟨4,0,h4,x4,y4,fun s kx kr=>r4 sl0 (Gn sl0 n) sl0.n kx kr s⟩ (loopsOf (bodyC Tryz.f222)):=LS.at (i:=0) (by kernel_rfl) (loop_good mixed (ctx n hn) (ctx_nat (ctx n hn)) (N:=sl0.n) (fun _ _ _ _=>rfl) (e4 n) (all1 (LS.none (by kernel_rfl)) (all0)))
theorem eG (n:Nat) (β:Type)(s:sin.den)(K:sout.den→Option β):evalFn (C n) Tryz.f222 sin sout s K=(oN (n+1)).F s K:=by kernel_rfl
theorem ok0:OracOk Tryz.prog (oN 0):=none_ok (o:=oN 0) Tryz.func222 (by kernel_rfl) (by kernel_rfl) (by kernel_rfl) (Nat.le_of_ble_eq_true (by kernel_rfl)) (fun _ _ _=>by kernel_rfl)
theorem ok1 (n:Nat)(hn:OracOk Tryz.prog (oN n)):OracOk Tryz.prog (oN (n+1)):=fn_ok mixed Tryz.func222 (by kernel_rfl) (ctx n hn) (c:=bodyC Tryz.f222) (by kernel_rfl) (all1 (g4 n hn) (all0)) (by kernel_rfl) (by kernel_rfl) (by kernel_rfl) (Nat.le_of_ble_eq_true (by kernel_rfl)) (eG n) (by kernel_rfl) (Nat.le_of_ble_eq_true (by kernel_rfl))
theorem okN (n:Nat):OracOk Tryz.prog (oN n):=Nat.rec ok0 (fun n hn=>ok1 n hn) n
theorem ok:OracOk Tryz.prog o:=okN sl0.n
end spec_l11Search
namespace spec_l11Of
def sin:Sig:=⟨[],[.one (.val I false),.one (.val I false),.one (.val (.sl .bool) false)]⟩
def sout:Sig:=⟨[.buf I false],[.agg [.val I false,.ref (.own 0),.val (.sl I) true],.one (.val .bool false)]⟩
def h2:SS:=⟨[0,1,2,6,8],⟨[.box [.val I false,.ref .e0,.ref .e0]],[.one (.val I false),.one (.val I false),.one (.val (.sl .bool) false),.one (.ref (.ptr 0)),.one (.val I false)]⟩⟩
def x2:SS:=⟨[6],⟨[.box [.val I false,.ref .e0,.ref .e0]],[.one (.ref (.ptr 0))]⟩⟩
def y2:SS:=⟨[6,7],⟨[.box [.val I false,.ref (.own 1),.val (.sl I) true],.buf I false],[.one (.ref (.ptr 0)),.one (.val .bool false)]⟩⟩
noncomputable def b2 {β:Type}(S:Sl)(L:Int→Int→Int→(List Bool)→Int→Option β)(kx:Int→Option β)(kr:Int→(List Int)→(List Int)→Bool→Option β)(s0:Int)(s1:Int)(s2:Int)(s3:(List Bool))(s4:Int):Option β:=bif(S.le s4 4)then(spec_l11Search.G S [] s1 s2 s3 0 s4 (fun y1 y2 y3 y4 y5=>bif y5 then(kr y3 y4 y2 true)else(L s0 s1 s2 s3 (S.w (s4+1)))))else(kx s0)
noncomputable def r2 {β:Type}(S:Sl)(n:Nat)(kx:x2.sig.den→Option β)(kr:y2.sig.den→Option β)(s:h2.sig.den):Option β:=rounds (fun L kx kr s=>b2 S (fun x0 x1 x2 x3 x4=>L (((x0,()),()),(x1,(x2,(x3,(x4,())))))) (fun x0=>kx (((x0,()),()),())) (fun x0 x1 x2 x3=>kr (((x0,(x1,())),(x2,())),(x3,()))) s.1.1.1 s.2.1 s.2.2.1 s.2.2.2.1 s.2.2.2.2.1) kx kr n s
noncomputable def l2 {β:Type}(S:Sl)(n:Nat)(kx:Int→Option β)(kr:Int→(List Int)→(List Int)→Bool→Option β)(s0:Int)(s1:Int)(s2:Int)(s3:(List Bool))(s4:Int):Option β:=r2 S n (fun s=>kx s.1.1.1) (fun s=>kr s.1.1.1 s.1.1.2.1 s.1.2.1 s.2.1) (((s0,()),()),(s1,(s2,(s3,(s4,())))))
theorem t2 {β:Type}(S:Sl)(n:Nat)(kx:Int→Option β)(kr:Int→(List Int)→(List Int)→Bool→Option β)(s0:Int)(s1:Int)(s2:Int)(s3:(List Bool))(s4:Int):l2 S (n+1) kx kr s0 s1 s2 s3 s4=b2 S (l2 S n kx kr) kx kr s0 s1 s2 s3 s4:=by kernel_rfl
noncomputable def G {β:Type}(S:Sl)(a0:Int)(a1:Int)(a2:(List Bool))(K:(List Int)→Int→(List Int)→Bool→Option β):Option β:=l2 S S.n (fun y1=>K [] 0 [] false) (fun y2 y3 y4 y5=>K y4 y2 y3 y5) 0 a0 a1 a2 1
noncomputable def o:Orac:=⟨197,sin,sout,fun s K=>G sl0 s.2.1 s.2.2.1 s.2.2.2.1 (fun x0 x1 x2 x3=>K ((x0,()),((x1,(x2,())),(x3,()))))⟩
noncomputable def C:Ctx:=⟨tyT,[spec_l11Search.o],[⟨2,0,h2,x2,y2,fun s kx kr=>r2 sl0 sl0.n kx kr s⟩],27,0⟩
theorem ctx:CtxOk Tryz.prog C:=⟨tyOk,all1 spec_l11Search.ok (all0)⟩
theorem e2 (β:Type)(L:h2.sig.den→Option β)(kx:x2.sig.den→Option β)(kr:y2.sig.den→Option β)(s:h2.sig.den):evalBody C (nthC (loopsOf (bodyC Tryz.f197)) 0) 0 h2 x2 y2 L kx kr s=b2 sl0 (fun x0 x1 x2 x3 x4=>L (((x0,()),()),(x1,(x2,(x3,(x4,())))))) (fun x0=>kx (((x0,()),()),())) (fun x0 x1 x2 x3=>kr (((x0,(x1,())),(x2,())),(x3,()))) s.1.1.1 s.2.1 s.2.2.1 s.2.2.2.1 s.2.2.2.2.1:=by kernel_rfl
theorem g2:LS Tryz.prog C ⟨2,0,h2,x2,y2,fun s kx kr=>r2 sl0 sl0.n kx kr s⟩ (loopsOf (bodyC Tryz.f197)):=LS.at (i:=0) (by kernel_rfl) (loop_good mixed ctx (ctx_nat ctx) (N:=sl0.n) (fun _ _ _ _=>rfl) e2 (all1 (LS.none (by kernel_rfl)) (all0)))
theorem eG (β:Type)(s:sin.den)(K:sout.den→Option β):evalFn C Tryz.f197 sin sout s K=o.F s K:=by kernel_rfl
theorem ok:OracOk Tryz.prog o:=fn_ok mixed Tryz.func197 (by kernel_rfl) ctx (c:=bodyC Tryz.f197) (by kernel_rfl) (all1 g2 (all0)) (by kernel_rfl) (by kernel_rfl) (by kernel_rfl) (Nat.le_of_ble_eq_true (by kernel_rfl)) eG (by kernel_rfl) (Nat.le_of_ble_eq_true (by kernel_rfl))
end spec_l11Of
namespace spec_l3Tidy_
def sin:Sig:=⟨[.buf (.sl I) false],[.one (.ref (.own 0))]⟩
def sout:Sig:=⟨[.buf (.sl I) false],[.one (.val (.sl (.sl I)) false)]⟩
def h3:SS:=⟨[0,3,4],⟨[.buf (.sl I) false],[.one (.ref (.own 0)),.one (.val (.sl (.sl I)) false),.one (.val I false)]⟩⟩
def x3:SS:=⟨[3],⟨[.buf (.sl I) false],[.one (.val (.sl (.sl I)) false)]⟩⟩
def y3:SS:=⟨[],⟨[],[]⟩⟩
noncomputable def b3 {β:Type}(S:Sl)(L:(List (List Int))→(List (List Int))→Int→Option β)(kx:(List (List Int))→(List (List Int))→Option β)(kr:Option β)(s0:(List (List Int)))(s1:(List (List Int)))(s2:Int):Option β:=bif(S.lt s2 (s0.length:Int))then(bif(S.ir s2 s0.length)then(spec_l3Add.G S s1 (List.getD s0 (Int.toNat s2) []) (fun y1=>L s0 y1 (S.w (s2+1))))else(none))else(kx s0 s1)
noncomputable def r3 {β:Type}(S:Sl)(n:Nat)(kx:x3.sig.den→Option β)(kr:y3.sig.den→Option β)(s:h3.sig.den):Option β:=rounds (fun L kx kr s=>b3 S (fun x0 x1 x2=>L ((x0,()),(x1,(x2,())))) (fun x0 x1=>kx ((x0,()),(x1,()))) (kr ((),())) s.1.1 s.2.1 s.2.2.1) kx kr n s
noncomputable def l3 {β:Type}(S:Sl)(n:Nat)(kx:(List (List Int))→(List (List Int))→Option β)(kr:Option β)(s0:(List (List Int)))(s1:(List (List Int)))(s2:Int):Option β:=r3 S n (fun s=>kx s.1.1 s.2.1) (fun s=>kr) ((s0,()),(s1,(s2,())))
theorem t3 {β:Type}(S:Sl)(n:Nat)(kx:(List (List Int))→(List (List Int))→Option β)(kr:Option β)(s0:(List (List Int)))(s1:(List (List Int)))(s2:Int):l3 S (n+1) kx kr s0 s1 s2=b3 S (l3 S n kx kr) kx kr s0 s1 s2:=by kernel_rfl
noncomputable def G {β:Type}(S:Sl)(a0:(List (List Int)))(K:(List (List Int))→(List (List Int))→Option β):Option β:=l3 S S.n (fun y1 y2=>K y1 y2) none a0 [] 0
noncomputable def o:Orac:=⟨214,sin,sout,fun s K=>G sl0 s.1.1 (fun x0 x1=>K ((x0,()),(x1,())))⟩
noncomputable def C:Ctx:=⟨tyT,[spec_l3Add.o],[⟨3,0,h3,x3,y3,fun s kx kr=>r3 sl0 sl0.n kx kr s⟩],19,1⟩
theorem ctx:CtxOk Tryz.prog C:=⟨tyOk,all1 spec_l3Add.ok (all0)⟩
theorem e3 (β:Type)(L:h3.sig.den→Option β)(kx:x3.sig.den→Option β)(kr:y3.sig.den→Option β)(s:h3.sig.den):evalBody C (nthC (loopsOf (bodyC Tryz.f214)) 0) 0 h3 x3 y3 L kx kr s=b3 sl0 (fun x0 x1 x2=>L ((x0,()),(x1,(x2,())))) (fun x0 x1=>kx ((x0,()),(x1,()))) (kr ((),())) s.1.1 s.2.1 s.2.2.1:=by kernel_rfl
theorem g3:LS Tryz.prog C ⟨3,0,h3,x3,y3,fun s kx kr=>r3 sl0 sl0.n kx kr s⟩ (loopsOf (bodyC Tryz.f214)):=LS.at (i:=0) (by kernel_rfl) (loop_good mixed ctx (ctx_nat ctx) (N:=sl0.n) (fun _ _ _ _=>rfl) e3 (all1 (LS.none (by kernel_rfl)) (all0)))
theorem eG (β:Type)(s:sin.den)(K:sout.den→Option β):evalFn C Tryz.f214 sin sout s K=o.F s K:=by kernel_rfl
theorem ok:OracOk Tryz.prog o:=fn_ok mixed Tryz.func214 (by kernel_rfl) ctx (c:=bodyC Tryz.f214) (by kernel_rfl) (all1 g3 (all0)) (by kernel_rfl) (by kernel_rfl) (by kernel_rfl) (Nat.le_of_ble_eq_true (by kernel_rfl)) eG (by kernel_rfl) (Nat.le_of_ble_eq_true (by kernel_rfl))
end spec_l3Tidy_
namespace spec_l4Rows
def sin:Sig:=⟨[],[.one (.val I false),.one (.val (.sl .bool) false)]⟩
def sout:Sig:=⟨[.buf (.sl I) false],[.one (.ref (.own 0))]⟩
def h3:SS:=⟨[0,1,5,6],⟨[.buf (.sl I) false],[.one (.val I false),.one (.val (.sl .bool) false),.one (.ref (.own 0)),.one (.val I false)]⟩⟩
def x3:SS:=⟨[5],⟨[.buf (.sl I) false],[.one (.ref (.own 0))]⟩⟩
def y3:SS:=⟨[],⟨[],[]⟩⟩
noncomputable def b3 {β:Type}(S:Sl)(L:(List (List Int))→Int→(List Bool)→Int→Option β)(kx:(List (List Int))→Option β)(kr:Option β)(s0:(List (List Int)))(s1:Int)(s2:(List Bool))(s3:Int):Option β:=bif(S.lt s3 8)then(bif(S.ir s3 s2.length)then(bif(List.getD s2 (Int.toNat s3) false)then(spec_l4Row.G S s1 s3 (fun y1=>bif(S.fw (s0 ++ [y1]).length)then(L (s0 ++ [y1]) s1 s2 (S.w (s3+1)))else(none)))else(L s0 s1 s2 (S.w (s3+1))))else(none))else(kx s0)
noncomputable def r3 {β:Type}(S:Sl)(n:Nat)(kx:x3.sig.den→Option β)(kr:y3.sig.den→Option β)(s:h3.sig.den):Option β:=rounds (fun L kx kr s=>b3 S (fun x0 x1 x2 x3=>L ((x0,()),(x1,(x2,(x3,()))))) (fun x0=>kx ((x0,()),())) (kr ((),())) s.1.1 s.2.1 s.2.2.1 s.2.2.2.1) kx kr n s
noncomputable def l3 {β:Type}(S:Sl)(n:Nat)(kx:(List (List Int))→Option β)(kr:Option β)(s0:(List (List Int)))(s1:Int)(s2:(List Bool))(s3:Int):Option β:=r3 S n (fun s=>kx s.1.1) (fun s=>kr) ((s0,()),(s1,(s2,(s3,()))))
theorem t3 {β:Type}(S:Sl)(n:Nat)(kx:(List (List Int))→Option β)(kr:Option β)(s0:(List (List Int)))(s1:Int)(s2:(List Bool))(s3:Int):l3 S (n+1) kx kr s0 s1 s2 s3=b3 S (l3 S n kx kr) kx kr s0 s1 s2 s3:=by kernel_rfl
noncomputable def G {β:Type}(S:Sl)(a0:Int)(a1:(List Bool))(K:(List (List Int))→Option β):Option β:=l3 S S.n (fun y1=>K y1) none [] a0 a1 0
noncomputable def o:Orac:=⟨215,sin,sout,fun s K=>G sl0 s.2.1 s.2.2.1 (fun x0=>K ((x0,()),()))⟩
noncomputable def C:Ctx:=⟨tyT,[spec_l4Row.o],[⟨3,0,h3,x3,y3,fun s kx kr=>r3 sl0 sl0.n kx kr s⟩],23,0⟩
theorem ctx:CtxOk Tryz.prog C:=⟨tyOk,all1 spec_l4Row.ok (all0)⟩
theorem e3 (β:Type)(L:h3.sig.den→Option β)(kx:x3.sig.den→Option β)(kr:y3.sig.den→Option β)(s:h3.sig.den):evalBody C (nthC (loopsOf (bodyC Tryz.f215)) 0) 0 h3 x3 y3 L kx kr s=b3 sl0 (fun x0 x1 x2 x3=>L ((x0,()),(x1,(x2,(x3,()))))) (fun x0=>kx ((x0,()),())) (kr ((),())) s.1.1 s.2.1 s.2.2.1 s.2.2.2.1:=by kernel_rfl
theorem g3:LS Tryz.prog C ⟨3,0,h3,x3,y3,fun s kx kr=>r3 sl0 sl0.n kx kr s⟩ (loopsOf (bodyC Tryz.f215)):=LS.at (i:=0) (by kernel_rfl) (loop_good mixed ctx (ctx_nat ctx) (N:=sl0.n) (fun _ _ _ _=>rfl) e3 (all1 (LS.none (by kernel_rfl)) (all0)))
theorem eG (β:Type)(s:sin.den)(K:sout.den→Option β):evalFn C Tryz.f215 sin sout s K=o.F s K:=by kernel_rfl
theorem ok:OracOk Tryz.prog o:=fn_ok mixed Tryz.func215 (by kernel_rfl) ctx (c:=bodyC Tryz.f215) (by kernel_rfl) (all1 g3 (all0)) (by kernel_rfl) (by kernel_rfl) (by kernel_rfl) (Nat.le_of_ble_eq_true (by kernel_rfl)) eG (by kernel_rfl) (Nat.le_of_ble_eq_true (by kernel_rfl))
end spec_l4Rows
namespace spec_CodeBears
def sin:Sig:=⟨[],[.one (.val I false),.one (.val (.sl .bool) false)]⟩
def sout:Sig:=⟨[],[.one (.val .bool false)]⟩
noncomputable def G {β:Type}(S:Sl)(a0:Int)(a1:(List Bool))(K:Bool→Option β):Option β:=spec_l4Kind.G S a0 (fun y1=>bif y1 then(bif(S.eq (a1.length:Int) 8)then(spec_l4Rows.G S a0 a1 (fun y2=>spec_l3Tidy_.G S y2 (fun y3 y4=>K (S.eq (y4.length:Int) 4))))else(K false))else(K false))
noncomputable def o:Orac:=⟨180,sin,sout,fun s K=>G sl0 s.2.1 s.2.2.1 (fun x0=>K ((),(x0,())))⟩
noncomputable def C:Ctx:=⟨tyT,[spec_l3Tidy_.o,spec_l4Kind.o,spec_l4Rows.o],[],20,0⟩
theorem ctx:CtxOk Tryz.prog C:=⟨tyOk,all1 spec_l3Tidy_.ok (all1 spec_l4Kind.ok (all1 spec_l4Rows.ok (all0)))⟩
theorem eG (β:Type)(s:sin.den)(K:sout.den→Option β):evalFn C Tryz.f180 sin sout s K=o.F s K:=by kernel_rfl
theorem ok:OracOk Tryz.prog o:=fn_ok mixed Tryz.func180 (by kernel_rfl) ctx (c:=bodyC Tryz.f180) (by kernel_rfl) (all0) (by kernel_rfl) (by kernel_rfl) (by kernel_rfl) (Nat.le_of_ble_eq_true (by kernel_rfl)) eG (by kernel_rfl) (Nat.le_of_ble_eq_true (by kernel_rfl))
end spec_CodeBears
namespace spec_VecUnit
def sin:Sig:=⟨[],[.one (.val I false)]⟩
def sout:Sig:=⟨[.buf I false],[.one (.ref (.own 0)),.one (.val .bool false)]⟩
noncomputable def G {β:Type}(S:Sl)(a0:Int)(K:(List Int)→Bool→Option β):Option β:=spec_l6In.G S a0 0 3 (fun y1=>bif(!y1)then(K [] false)else(bif((S.le 0 4)&&(S.le 4 4)&&S.fw (Int.toNat 4))then(bif(S.ir a0 (List.replicate (Int.toNat 4) (0:Int)).length)then(K (List.set (List.replicate (Int.toNat 4) (0:Int)) (Int.toNat a0) 1) true)else(none))else(none)))
noncomputable def o:Orac:=⟨236,sin,sout,fun s K=>G sl0 s.2.1 (fun x0 x1=>K ((x0,()),(x1,())))⟩
noncomputable def C:Ctx:=⟨tyT,[spec_l6In.o],[],14,0⟩
theorem ctx:CtxOk Tryz.prog C:=⟨tyOk,all1 spec_l6In.ok (all0)⟩
theorem eG (β:Type)(s:sin.den)(K:sout.den→Option β):evalFn C Tryz.f236 sin sout s K=o.F s K:=by kernel_rfl
theorem ok:OracOk Tryz.prog o:=fn_ok mixed Tryz.func236 (by kernel_rfl) ctx (c:=bodyC Tryz.f236) (by kernel_rfl) (all0) (by kernel_rfl) (by kernel_rfl) (by kernel_rfl) (Nat.le_of_ble_eq_true (by kernel_rfl)) eG (by kernel_rfl) (Nat.le_of_ble_eq_true (by kernel_rfl))
end spec_VecUnit
namespace spec_l13Data
def sin:Sig:=⟨[],[.one (.val I false),.one (.val (.sl I) false),.one (.val (.sl I) false)]⟩
def sout:Sig:=⟨[.buf I false],[.one (.ref (.own 0))]⟩
def h14:SS:=⟨[1,2,7,9,10,13,15,16],⟨[.buf (.sl I) false,.buf I false],[.one (.val (.sl I) false),.one (.val (.sl I) false),.one (.ref (.own 0)),.one (.ref (.own 1)),.one (.val I false),.one (.val (.sl I) true),.one (.val I false),.one (.val I false)]⟩⟩
def x14:SS:=⟨[1,2,7,9,10,15],⟨[.buf (.sl I) false,.buf I false],[.one (.val (.sl I) false),.one (.val (.sl I) false),.one (.ref (.own 0)),.one (.ref (.own 1)),.one (.val I false),.one (.val I false)]⟩⟩
def y14:SS:=⟨[],⟨[],[]⟩⟩
noncomputable def b14 {β:Type}(S:Sl)(L:(List (List Int))→(List Int)→(List Int)→(List Int)→Int→(List Int)→Int→Int→Option β)(kx:(List (List Int))→(List Int)→(List Int)→(List Int)→Int→Int→Option β)(kr:Option β)(s0:(List (List Int)))(s1:(List Int))(s2:(List Int))(s3:(List Int))(s4:Int)(s5:(List Int))(s6:Int)(s7:Int):Option β:=bif(S.lt s7 (s3.length:Int))then(bif(S.ir s7 s5.length)then(bif(S.ir s7 s3.length)then(bif(S.ir (List.getD s3 (Int.toNat s7) 0) s2.length)then(L s0 s1 s2 s3 s4 s5 (Int.tmod (S.w (s6+(S.w ((List.getD s5 (Int.toNat s7) 0)*(List.getD s2 (Int.toNat (List.getD s3 (Int.toNat s7) 0)) 0))))) 31) (S.w (s7+1)))else(none))else(none))else(none))else(kx s0 s1 s2 s3 s4 s6)
noncomputable def r14 {β:Type}(S:Sl)(n:Nat)(kx:x14.sig.den→Option β)(kr:y14.sig.den→Option β)(s:h14.sig.den):Option β:=rounds (fun L kx kr s=>b14 S (fun x0 x1 x2 x3 x4 x5 x6 x7=>L ((x0,(x1,())),(x2,(x3,(x4,(x5,(x6,(x7,())))))))) (fun x0 x1 x2 x3 x4 x5=>kx ((x0,(x1,())),(x2,(x3,(x4,(x5,())))))) (kr ((),())) s.1.1 s.1.2.1 s.2.1 s.2.2.1 s.2.2.2.1 s.2.2.2.2.1 s.2.2.2.2.2.1 s.2.2.2.2.2.2.1) kx kr n s
noncomputable def l14 {β:Type}(S:Sl)(n:Nat)(kx:(List (List Int))→(List Int)→(List Int)→(List Int)→Int→Int→Option β)(kr:Option β)(s0:(List (List Int)))(s1:(List Int))(s2:(List Int))(s3:(List Int))(s4:Int)(s5:(List Int))(s6:Int)(s7:Int):Option β:=r14 S n (fun s=>kx s.1.1 s.1.2.1 s.2.1 s.2.2.1 s.2.2.2.1 s.2.2.2.2.1) (fun s=>kr) ((s0,(s1,())),(s2,(s3,(s4,(s5,(s6,(s7,())))))))
theorem t14 {β:Type}(S:Sl)(n:Nat)(kx:(List (List Int))→(List Int)→(List Int)→(List Int)→Int→Int→Option β)(kr:Option β)(s0:(List (List Int)))(s1:(List Int))(s2:(List Int))(s3:(List Int))(s4:Int)(s5:(List Int))(s6:Int)(s7:Int):l14 S (n+1) kx kr s0 s1 s2 s3 s4 s5 s6 s7=b14 S (l14 S n kx kr) kx kr s0 s1 s2 s3 s4 s5 s6 s7:=by kernel_rfl
def h8:SS:=⟨[1,2,7,9,10],⟨[.buf (.sl I) false,.buf I false],[.one (.val (.sl I) false),.one (.val (.sl I) false),.one (.ref (.own 0)),.one (.ref (.own 1)),.one (.val I false)]⟩⟩
def x8:SS:=⟨[9],⟨[.buf I false],[.one (.ref (.own 0))]⟩⟩
def y8:SS:=⟨[],⟨[],[]⟩⟩
noncomputable def b8 {β:Type}(S:Sl)(L:(List (List Int))→(List Int)→(List Int)→(List Int)→Int→Option β)(kx:(List Int)→Option β)(kr:Option β)(s0:(List (List Int)))(s1:(List Int))(s2:(List Int))(s3:(List Int))(s4:Int):Option β:=bif(S.lt s4 4)then(spec_VecUnit.G S s4 (fun y1 y2=>spec_l3By.G S s0 y1 (fun y3 y4=>l14 S S.n (fun y5 y6 y7 y8 y9 y10=>bif(S.fw (y6 ++ [y10]).length)then(L y5 (y6 ++ [y10]) y7 y8 (S.w (y9+1)))else(none)) none s0 s1 s2 s3 s4 y3 0 0)))else(kx s1)
noncomputable def r8 {β:Type}(S:Sl)(n:Nat)(kx:x8.sig.den→Option β)(kr:y8.sig.den→Option β)(s:h8.sig.den):Option β:=rounds (fun L kx kr s=>b8 S (fun x0 x1 x2 x3 x4=>L ((x0,(x1,())),(x2,(x3,(x4,()))))) (fun x0=>kx ((x0,()),())) (kr ((),())) s.1.1 s.1.2.1 s.2.1 s.2.2.1 s.2.2.2.1) kx kr n s
noncomputable def l8 {β:Type}(S:Sl)(n:Nat)(kx:(List Int)→Option β)(kr:Option β)(s0:(List (List Int)))(s1:(List Int))(s2:(List Int))(s3:(List Int))(s4:Int):Option β:=r8 S n (fun s=>kx s.1.1) (fun s=>kr) ((s0,(s1,())),(s2,(s3,(s4,()))))
theorem t8 {β:Type}(S:Sl)(n:Nat)(kx:(List Int)→Option β)(kr:Option β)(s0:(List (List Int)))(s1:(List Int))(s2:(List Int))(s3:(List Int))(s4:Int):l8 S (n+1) kx kr s0 s1 s2 s3 s4=b8 S (l8 S n kx kr) kx kr s0 s1 s2 s3 s4:=by kernel_rfl
def h3:SS:=⟨[0,1,2,7,8],⟨[.buf (.sl I) false],[.one (.val I false),.one (.val (.sl I) false),.one (.val (.sl I) false),.one (.ref (.own 0)),.one (.val I false)]⟩⟩
def x3:SS:=⟨[1,2,7],⟨[.buf (.sl I) false],[.one (.val (.sl I) false),.one (.val (.sl I) false),.one (.ref (.own 0))]⟩⟩
def y3:SS:=⟨[],⟨[],[]⟩⟩
noncomputable def b3 {β:Type}(S:Sl)(L:(List (List Int))→Int→(List Int)→(List Int)→Int→Option β)(kx:(List (List Int))→(List Int)→(List Int)→Option β)(kr:Option β)(s0:(List (List Int)))(s1:Int)(s2:(List Int))(s3:(List Int))(s4:Int):Option β:=bif(S.lt s4 (s3.length:Int))then(bif(S.ir s4 s3.length)then(spec_l4Row.G S s1 (List.getD s3 (Int.toNat s4) 0) (fun y1=>bif(S.fw (s0 ++ [y1]).length)then(L (s0 ++ [y1]) s1 s2 s3 (S.w (s4+1)))else(none)))else(none))else(kx s0 s2 s3)
noncomputable def r3 {β:Type}(S:Sl)(n:Nat)(kx:x3.sig.den→Option β)(kr:y3.sig.den→Option β)(s:h3.sig.den):Option β:=rounds (fun L kx kr s=>b3 S (fun x0 x1 x2 x3 x4=>L ((x0,()),(x1,(x2,(x3,(x4,())))))) (fun x0 x1 x2=>kx ((x0,()),(x1,(x2,())))) (kr ((),())) s.1.1 s.2.1 s.2.2.1 s.2.2.2.1 s.2.2.2.2.1) kx kr n s
noncomputable def l3 {β:Type}(S:Sl)(n:Nat)(kx:(List (List Int))→(List Int)→(List Int)→Option β)(kr:Option β)(s0:(List (List Int)))(s1:Int)(s2:(List Int))(s3:(List Int))(s4:Int):Option β:=r3 S n (fun s=>kx s.1.1 s.2.1 s.2.2.1) (fun s=>kr) ((s0,()),(s1,(s2,(s3,(s4,())))))
theorem t3 {β:Type}(S:Sl)(n:Nat)(kx:(List (List Int))→(List Int)→(List Int)→Option β)(kr:Option β)(s0:(List (List Int)))(s1:Int)(s2:(List Int))(s3:(List Int))(s4:Int):l3 S (n+1) kx kr s0 s1 s2 s3 s4=b3 S (l3 S n kx kr) kx kr s0 s1 s2 s3 s4:=by kernel_rfl
noncomputable def G {β:Type}(S:Sl)(a0:Int)(a1:(List Int))(a2:(List Int))(K:(List Int)→Option β):Option β:=l3 S S.n (fun y1 y2 y3=>l8 S S.n (fun y4=>K y4) none y1 [] y2 y3 0) none [] a0 a1 a2 0
noncomputable def o:Orac:=⟨216,sin,sout,fun s K=>G sl0 s.2.1 s.2.2.1 s.2.2.2.1 (fun x0=>K ((x0,()),()))⟩
noncomputable def C:Ctx:=⟨tyT,[spec_VecUnit.o,spec_l3By.o,spec_l4Row.o],[⟨3,0,h3,x3,y3,fun s kx kr=>r3 sl0 sl0.n kx kr s⟩,⟨8,2,h8,x8,y8,fun s kx kr=>r8 sl0 sl0.n kx kr s⟩,⟨14,4,h14,x14,y14,fun s kx kr=>r14 sl0 sl0.n kx kr s⟩],75,0⟩
theorem ctx:CtxOk Tryz.prog C:=⟨tyOk,all1 spec_VecUnit.ok (all1 spec_l3By.ok (all1 spec_l4Row.ok (all0)))⟩
theorem e14 (β:Type)(L:h14.sig.den→Option β)(kx:x14.sig.den→Option β)(kr:y14.sig.den→Option β)(s:h14.sig.den):evalBody C (nthC (loopsOf (bodyC Tryz.f216)) 2) 4 h14 x14 y14 L kx kr s=b14 sl0 (fun x0 x1 x2 x3 x4 x5 x6 x7=>L ((x0,(x1,())),(x2,(x3,(x4,(x5,(x6,(x7,())))))))) (fun x0 x1 x2 x3 x4 x5=>kx ((x0,(x1,())),(x2,(x3,(x4,(x5,())))))) (kr ((),())) s.1.1 s.1.2.1 s.2.1 s.2.2.1 s.2.2.2.1 s.2.2.2.2.1 s.2.2.2.2.2.1 s.2.2.2.2.2.2.1:=by kernel_rfl
theorem g14:LS Tryz.prog C ⟨14,4,h14,x14,y14,fun s kx kr=>r14 sl0 sl0.n kx kr s⟩ (loopsOf (bodyC Tryz.f216)):=LS.at (i:=2) (by kernel_rfl) (loop_good mixed ctx (ctx_nat ctx) (N:=sl0.n) (fun _ _ _ _=>rfl) e14 (all1 (LS.none (by kernel_rfl)) (all1 (LS.none (by kernel_rfl)) (all1 (LS.none (by kernel_rfl)) (all0)))))
theorem e8 (β:Type)(L:h8.sig.den→Option β)(kx:x8.sig.den→Option β)(kr:y8.sig.den→Option β)(s:h8.sig.den):evalBody C (nthC (loopsOf (bodyC Tryz.f216)) 1) 2 h8 x8 y8 L kx kr s=b8 sl0 (fun x0 x1 x2 x3 x4=>L ((x0,(x1,())),(x2,(x3,(x4,()))))) (fun x0=>kx ((x0,()),())) (kr ((),())) s.1.1 s.1.2.1 s.2.1 s.2.2.1 s.2.2.2.1:=by kernel_rfl
theorem g8:LS Tryz.prog C ⟨8,2,h8,x8,y8,fun s kx kr=>r8 sl0 sl0.n kx kr s⟩ (loopsOf (bodyC Tryz.f216)):=LS.at (i:=1) (by kernel_rfl) (loop_good mixed ctx (ctx_nat ctx) (N:=sl0.n) (fun _ _ _ _=>rfl) e8 (all1 (LS.none (by kernel_rfl)) (all1 (LS.none (by kernel_rfl)) (all1 ((g14).sub (nthC_mem (by kernel_rfl))) (all0)))))
theorem e3 (β:Type)(L:h3.sig.den→Option β)(kx:x3.sig.den→Option β)(kr:y3.sig.den→Option β)(s:h3.sig.den):evalBody C (nthC (loopsOf (bodyC Tryz.f216)) 0) 0 h3 x3 y3 L kx kr s=b3 sl0 (fun x0 x1 x2 x3 x4=>L ((x0,()),(x1,(x2,(x3,(x4,())))))) (fun x0 x1 x2=>kx ((x0,()),(x1,(x2,())))) (kr ((),())) s.1.1 s.2.1 s.2.2.1 s.2.2.2.1 s.2.2.2.2.1:=by kernel_rfl
theorem g3:LS Tryz.prog C ⟨3,0,h3,x3,y3,fun s kx kr=>r3 sl0 sl0.n kx kr s⟩ (loopsOf (bodyC Tryz.f216)):=LS.at (i:=0) (by kernel_rfl) (loop_good mixed ctx (ctx_nat ctx) (N:=sl0.n) (fun _ _ _ _=>rfl) e3 (all1 (LS.none (by kernel_rfl)) (all1 (LS.none (by kernel_rfl)) (all1 (LS.none (by kernel_rfl)) (all0)))))
theorem eG (β:Type)(s:sin.den)(K:sout.den→Option β):evalFn C Tryz.f216 sin sout s K=o.F s K:=by kernel_rfl
theorem ok:OracOk Tryz.prog o:=fn_ok mixed Tryz.func216 (by kernel_rfl) ctx (c:=bodyC Tryz.f216) (by kernel_rfl) (all1 g3 (all1 g8 (all1 g14 (all0)))) (by kernel_rfl) (by kernel_rfl) (by kernel_rfl) (Nat.le_of_ble_eq_true (by kernel_rfl)) eG (by kernel_rfl) (Nat.le_of_ble_eq_true (by kernel_rfl))
end spec_l13Data
namespace spec_l13From
def sin:Sig:=⟨[],[.one (.val I false),.one (.val (.sl .bool) false)]⟩
def sout:Sig:=⟨[.buf I false],[.one (.ref (.own 0))]⟩
def h10:SS:=⟨[5,7,8,9],⟨[.buf I false,.buf I false,.buf I false],[.one (.ref (.own 0)),.one (.ref (.own 1)),.one (.ref (.own 2)),.one (.val I false)]⟩⟩
def x10:SS:=⟨[8],⟨[.buf I false],[.one (.ref (.own 0))]⟩⟩
def y10:SS:=⟨[],⟨[],[]⟩⟩
noncomputable def b10 {β:Type}(S:Sl)(L:(List Int)→(List Int)→(List Int)→Int→Option β)(kx:(List Int)→Option β)(kr:Option β)(s0:(List Int))(s1:(List Int))(s2:(List Int))(s3:Int):Option β:=bif(S.lt s3 (s1.length:Int))then(bif(S.ir s3 s1.length)then(bif(S.ir (List.getD s1 (Int.toNat s3) 0) s0.length)then(bif(S.fw (s2 ++ [(List.getD s0 (Int.toNat (List.getD s1 (Int.toNat s3) 0)) 0)]).length)then(L s0 s1 (s2 ++ [(List.getD s0 (Int.toNat (List.getD s1 (Int.toNat s3) 0)) 0)]) (S.w (s3+1)))else(none))else(none))else(none))else(kx s2)
noncomputable def r10 {β:Type}(S:Sl)(n:Nat)(kx:x10.sig.den→Option β)(kr:y10.sig.den→Option β)(s:h10.sig.den):Option β:=rounds (fun L kx kr s=>b10 S (fun x0 x1 x2 x3=>L ((x0,(x1,(x2,()))),(x3,()))) (fun x0=>kx ((x0,()),())) (kr ((),())) s.1.1 s.1.2.1 s.1.2.2.1 s.2.1) kx kr n s
noncomputable def l10 {β:Type}(S:Sl)(n:Nat)(kx:(List Int)→Option β)(kr:Option β)(s0:(List Int))(s1:(List Int))(s2:(List Int))(s3:Int):Option β:=r10 S n (fun s=>kx s.1.1) (fun s=>kr) ((s0,(s1,(s2,()))),(s3,()))
theorem t10 {β:Type}(S:Sl)(n:Nat)(kx:(List Int)→Option β)(kr:Option β)(s0:(List Int))(s1:(List Int))(s2:(List Int))(s3:Int):l10 S (n+1) kx kr s0 s1 s2 s3=b10 S (l10 S n kx kr) kx kr s0 s1 s2 s3:=by kernel_rfl
def h3:SS:=⟨[0,1,5,6],⟨[.buf I false],[.one (.val I false),.one (.val (.sl .bool) false),.one (.ref (.own 0)),.one (.val I false)]⟩⟩
def x3:SS:=⟨[0,1,5],⟨[.buf I false],[.one (.val I false),.one (.val (.sl .bool) false),.one (.ref (.own 0))]⟩⟩
def y3:SS:=⟨[],⟨[],[]⟩⟩
noncomputable def b3 {β:Type}(S:Sl)(L:(List Int)→Int→(List Bool)→Int→Option β)(kx:(List Int)→Int→(List Bool)→Option β)(kr:Option β)(s0:(List Int))(s1:Int)(s2:(List Bool))(s3:Int):Option β:=bif(S.lt s3 8)then(bif(S.ir s3 s2.length)then(bif(List.getD s2 (Int.toNat s3) false)then(bif(S.fw (s0 ++ [s3]).length)then(L (s0 ++ [s3]) s1 s2 (S.w (s3+1)))else(none))else(L s0 s1 s2 (S.w (s3+1))))else(none))else(kx s0 s1 s2)
noncomputable def r3 {β:Type}(S:Sl)(n:Nat)(kx:x3.sig.den→Option β)(kr:y3.sig.den→Option β)(s:h3.sig.den):Option β:=rounds (fun L kx kr s=>b3 S (fun x0 x1 x2 x3=>L ((x0,()),(x1,(x2,(x3,()))))) (fun x0 x1 x2=>kx ((x0,()),(x1,(x2,())))) (kr ((),())) s.1.1 s.2.1 s.2.2.1 s.2.2.2.1) kx kr n s
noncomputable def l3 {β:Type}(S:Sl)(n:Nat)(kx:(List Int)→Int→(List Bool)→Option β)(kr:Option β)(s0:(List Int))(s1:Int)(s2:(List Bool))(s3:Int):Option β:=r3 S n (fun s=>kx s.1.1 s.2.1 s.2.2.1) (fun s=>kr) ((s0,()),(s1,(s2,(s3,()))))
theorem t3 {β:Type}(S:Sl)(n:Nat)(kx:(List Int)→Int→(List Bool)→Option β)(kr:Option β)(s0:(List Int))(s1:Int)(s2:(List Bool))(s3:Int):l3 S (n+1) kx kr s0 s1 s2 s3=b3 S (l3 S n kx kr) kx kr s0 s1 s2 s3:=by kernel_rfl
noncomputable def G {β:Type}(S:Sl)(a0:Int)(a1:(List Bool))(K:(List Int)→Option β):Option β:=l3 S S.n (fun y1 y2 y3=>spec_l4Rows.G S y2 y3 (fun y4=>spec_l3First.G S y4 (fun y5=>l10 S S.n (fun y6=>K y6) none y1 y5 [] 0))) none [] a0 a1 0
noncomputable def o:Orac:=⟨217,sin,sout,fun s K=>G sl0 s.2.1 s.2.2.1 (fun x0=>K ((x0,()),()))⟩
noncomputable def C:Ctx:=⟨tyT,[spec_l3First.o,spec_l4Rows.o],[⟨3,0,h3,x3,y3,fun s kx kr=>r3 sl0 sl0.n kx kr s⟩,⟨10,2,h10,x10,y10,fun s kx kr=>r10 sl0 sl0.n kx kr s⟩],45,0⟩
theorem ctx:CtxOk Tryz.prog C:=⟨tyOk,all1 spec_l3First.ok (all1 spec_l4Rows.ok (all0))⟩
theorem e10 (β:Type)(L:h10.sig.den→Option β)(kx:x10.sig.den→Option β)(kr:y10.sig.den→Option β)(s:h10.sig.den):evalBody C (nthC (loopsOf (bodyC Tryz.f217)) 1) 2 h10 x10 y10 L kx kr s=b10 sl0 (fun x0 x1 x2 x3=>L ((x0,(x1,(x2,()))),(x3,()))) (fun x0=>kx ((x0,()),())) (kr ((),())) s.1.1 s.1.2.1 s.1.2.2.1 s.2.1:=by kernel_rfl
theorem g10:LS Tryz.prog C ⟨10,2,h10,x10,y10,fun s kx kr=>r10 sl0 sl0.n kx kr s⟩ (loopsOf (bodyC Tryz.f217)):=LS.at (i:=1) (by kernel_rfl) (loop_good mixed ctx (ctx_nat ctx) (N:=sl0.n) (fun _ _ _ _=>rfl) e10 (all1 (LS.none (by kernel_rfl)) (all1 (LS.none (by kernel_rfl)) (all0))))
theorem e3 (β:Type)(L:h3.sig.den→Option β)(kx:x3.sig.den→Option β)(kr:y3.sig.den→Option β)(s:h3.sig.den):evalBody C (nthC (loopsOf (bodyC Tryz.f217)) 0) 0 h3 x3 y3 L kx kr s=b3 sl0 (fun x0 x1 x2 x3=>L ((x0,()),(x1,(x2,(x3,()))))) (fun x0 x1 x2=>kx ((x0,()),(x1,(x2,())))) (kr ((),())) s.1.1 s.2.1 s.2.2.1 s.2.2.2.1:=by kernel_rfl
theorem g3:LS Tryz.prog C ⟨3,0,h3,x3,y3,fun s kx kr=>r3 sl0 sl0.n kx kr s⟩ (loopsOf (bodyC Tryz.f217)):=LS.at (i:=0) (by kernel_rfl) (loop_good mixed ctx (ctx_nat ctx) (N:=sl0.n) (fun _ _ _ _=>rfl) e3 (all1 (LS.none (by kernel_rfl)) (all1 (LS.none (by kernel_rfl)) (all0))))
theorem eG (β:Type)(s:sin.den)(K:sout.den→Option β):evalFn C Tryz.f217 sin sout s K=o.F s K:=by kernel_rfl
theorem ok:OracOk Tryz.prog o:=fn_ok mixed Tryz.func217 (by kernel_rfl) ctx (c:=bodyC Tryz.f217) (by kernel_rfl) (all1 g3 (all1 g10 (all0))) (by kernel_rfl) (by kernel_rfl) (by kernel_rfl) (Nat.le_of_ble_eq_true (by kernel_rfl)) eG (by kernel_rfl) (Nat.le_of_ble_eq_true (by kernel_rfl))
end spec_l13From
namespace spec_l13Read
def sin:Sig:=⟨[],[.one (.val I false),.one (.val (.sl I) false),.one (.val (.sl .bool) false)]⟩
def sout:Sig:=⟨[.buf I false],[.one (.ref (.own 0)),.one (.val .bool false)]⟩
noncomputable def G {β:Type}(S:Sl)(a0:Int)(a1:(List Int))(a2:(List Bool))(K:(List Int)→Bool→Option β):Option β:=spec_CodeBears.G S a0 a2 (fun y1=>bif(!y1)then(K [] false)else(spec_l4Fits.G S a0 a1 a2 (fun y2=>bif(!y2)then(K [] false)else(spec_l13From.G S a0 a2 (fun y3=>spec_l13Data.G S a0 a1 y3 (fun y4=>K y4 true))))))
noncomputable def o:Orac:=⟨181,sin,sout,fun s K=>G sl0 s.2.1 s.2.2.1 s.2.2.2.1 (fun x0 x1=>K ((x0,()),(x1,())))⟩
noncomputable def C:Ctx:=⟨tyT,[spec_CodeBears.o,spec_l13Data.o,spec_l13From.o,spec_l4Fits.o],[],26,0⟩
theorem ctx:CtxOk Tryz.prog C:=⟨tyOk,all1 spec_CodeBears.ok (all1 spec_l13Data.ok (all1 spec_l13From.ok (all1 spec_l4Fits.ok (all0))))⟩
theorem eG (β:Type)(s:sin.den)(K:sout.den→Option β):evalFn C Tryz.f181 sin sout s K=o.F s K:=by kernel_rfl
theorem ok:OracOk Tryz.prog o:=fn_ok mixed Tryz.func181 (by kernel_rfl) ctx (c:=bodyC Tryz.f181) (by kernel_rfl) (all0) (by kernel_rfl) (by kernel_rfl) (by kernel_rfl) (Nat.le_of_ble_eq_true (by kernel_rfl)) eG (by kernel_rfl) (Nat.le_of_ble_eq_true (by kernel_rfl))
end spec_l13Read
namespace spec_l21Read
def sin:Sig:=⟨[],[.agg [.val I false,.val (.sl I) false,.val (.sl I) false,.val (.sl .bool) false]]⟩
def sout:Sig:=⟨[.buf I false],[.one (.ref (.own 0)),.one (.val I false),.one (.val .bool false)]⟩
def h2:SS:=⟨[1,5],⟨[.box [.val I false,.val (.sl I) false,.val (.sl I) false,.val (.sl .bool) false]],[.one (.ref (.ptr 0)),.one (.val I false)]⟩⟩
def x2:SS:=⟨[],⟨[],[]⟩⟩
def y2:SS:=⟨[2,3,4],⟨[.buf I false],[.one (.ref (.own 0)),.one (.val I false),.one (.val .bool false)]⟩⟩
noncomputable def b2 {β:Type}(S:Sl)(L:Int→(List Int)→(List Int)→(List Bool)→Int→Option β)(kx:Option β)(kr:(List Int)→Int→Bool→Option β)(s0:Int)(s1:(List Int))(s2:(List Int))(s3:(List Bool))(s4:Int):Option β:=bif(S.lt 0 s4)then(spec_l21Of.G S s0 s1 s2 s3 s4 (fun y1=>spec_CodeBears.G S s0 y1 (fun y2=>bif y2 then(spec_l21Of.G S s0 s1 s2 s3 s4 (fun y3=>spec_l13Read.G S s0 s1 y3 (fun y4 y5=>kr y4 s4 y5)))else(L s0 s1 s2 s3 (S.w (s4-1))))))else(kx)
noncomputable def r2 {β:Type}(S:Sl)(n:Nat)(kx:x2.sig.den→Option β)(kr:y2.sig.den→Option β)(s:h2.sig.den):Option β:=rounds (fun L kx kr s=>b2 S (fun x0 x1 x2 x3 x4=>L (((x0,(x1,(x2,(x3,())))),()),(x4,()))) (kx ((),())) (fun x0 x1 x2=>kr ((x0,()),(x1,(x2,())))) s.1.1.1 s.1.1.2.1 s.1.1.2.2.1 s.1.1.2.2.2.1 s.2.1) kx kr n s
noncomputable def l2 {β:Type}(S:Sl)(n:Nat)(kx:Option β)(kr:(List Int)→Int→Bool→Option β)(s0:Int)(s1:(List Int))(s2:(List Int))(s3:(List Bool))(s4:Int):Option β:=r2 S n (fun s=>kx) (fun s=>kr s.1.1 s.2.1 s.2.2.1) (((s0,(s1,(s2,(s3,())))),()),(s4,()))
theorem t2 {β:Type}(S:Sl)(n:Nat)(kx:Option β)(kr:(List Int)→Int→Bool→Option β)(s0:Int)(s1:(List Int))(s2:(List Int))(s3:(List Bool))(s4:Int):l2 S (n+1) kx kr s0 s1 s2 s3 s4=b2 S (l2 S n kx kr) kx kr s0 s1 s2 s3 s4:=by kernel_rfl
noncomputable def G {β:Type}(S:Sl)(a0:Int)(a1:(List Int))(a2:(List Int))(a3:(List Bool))(K:(List Int)→Int→Bool→Option β):Option β:=spec_l21Top.G S a0 a1 a2 a3 (fun y1=>l2 S S.n (K [] 0 false) (fun y2 y3 y4=>K y2 y3 y4) a0 a1 a2 a3 y1)
noncomputable def o:Orac:=⟨101,sin,sout,fun s K=>G sl0 s.2.1.1 s.2.1.2.1 s.2.1.2.2.1 s.2.1.2.2.2.1 (fun x0 x1 x2=>K ((x0,()),(x1,(x2,()))))⟩
noncomputable def C:Ctx:=⟨tyT,[spec_CodeBears.o,spec_l13Read.o,spec_l21Of.o,spec_l21Top.o],[⟨2,0,h2,x2,y2,fun s kx kr=>r2 sl0 sl0.n kx kr s⟩],35,0⟩
theorem ctx:CtxOk Tryz.prog C:=⟨tyOk,all1 spec_CodeBears.ok (all1 spec_l13Read.ok (all1 spec_l21Of.ok (all1 spec_l21Top.ok (all0))))⟩
theorem e2 (β:Type)(L:h2.sig.den→Option β)(kx:x2.sig.den→Option β)(kr:y2.sig.den→Option β)(s:h2.sig.den):evalBody C (nthC (loopsOf (bodyC Tryz.f101)) 0) 0 h2 x2 y2 L kx kr s=b2 sl0 (fun x0 x1 x2 x3 x4=>L (((x0,(x1,(x2,(x3,())))),()),(x4,()))) (kx ((),())) (fun x0 x1 x2=>kr ((x0,()),(x1,(x2,())))) s.1.1.1 s.1.1.2.1 s.1.1.2.2.1 s.1.1.2.2.2.1 s.2.1:=by kernel_rfl
theorem g2:LS Tryz.prog C ⟨2,0,h2,x2,y2,fun s kx kr=>r2 sl0 sl0.n kx kr s⟩ (loopsOf (bodyC Tryz.f101)):=LS.at (i:=0) (by kernel_rfl) (loop_good mixed ctx (ctx_nat ctx) (N:=sl0.n) (fun _ _ _ _=>rfl) e2 (all1 (LS.none (by kernel_rfl)) (all0)))
theorem eG (β:Type)(s:sin.den)(K:sout.den→Option β):evalFn C Tryz.f101 sin sout s K=o.F s K:=by kernel_rfl
theorem ok:OracOk Tryz.prog o:=fn_ok mixed Tryz.func101 (by kernel_rfl) ctx (c:=bodyC Tryz.f101) (by kernel_rfl) (all1 g2 (all0)) (by kernel_rfl) (by kernel_rfl) (by kernel_rfl) (Nat.le_of_ble_eq_true (by kernel_rfl)) eG (by kernel_rfl) (Nat.le_of_ble_eq_true (by kernel_rfl))
end spec_l21Read
namespace spec_l21Mend
def sin:Sig:=⟨[],[.agg [.val I false,.val (.sl I) false,.val (.sl I) false,.val (.sl .bool) false],.one (.val I false)]⟩
def sout:Sig:=⟨[.buf I false,.buf I false,.buf .bool false],[.agg [.val I false,.ref (.own 0),.ref (.own 1),.ref (.own 2)],.one (.val .bool false)]⟩
noncomputable def G {β:Type}(S:Sl)(a0:Int)(a1:(List Int))(a2:(List Int))(a3:(List Bool))(a4:Int)(K:(List Int)→(List Int)→(List Bool)→Int→Bool→Option β):Option β:=spec_l21Copy.G S a0 a1 a2 a3 (fun y1 y2 y3 y4=>spec_l21Read.G S a0 a1 a2 a3 (fun y5 y6 y7=>bif(!y7)then(K y1 y2 y3 y4 false)else(spec_l21Of.G S a0 a1 a2 a3 y6 (fun y8=>spec_l11Of.G S a0 a4 y8 (fun y9 y10 y11 y12=>bif(!y12)then(K y1 y2 y3 y4 false)else(spec_l11Do.G S y10 y9 y11 a1 (fun y13=>bif(S.ir a4 y1.length)then(bif(S.ir a4 y2.length)then(bif(S.ir a4 y3.length)then(K (List.set y1 (Int.toNat a4) y13) (List.set y2 (Int.toNat a4) y6) (List.set y3 (Int.toNat a4) true) y4 true)else(none))else(none))else(none))))))))
noncomputable def o:Orac:=⟨141,sin,sout,fun s K=>G sl0 s.2.1.1 s.2.1.2.1 s.2.1.2.2.1 s.2.1.2.2.2.1 s.2.2.1 (fun x0 x1 x2 x3 x4=>K ((x0,(x1,(x2,()))),((x3,()),(x4,()))))⟩
noncomputable def C:Ctx:=⟨tyT,[spec_l11Do.o,spec_l11Of.o,spec_l21Copy.o,spec_l21Of.o,spec_l21Read.o],[],54,0⟩
theorem ctx:CtxOk Tryz.prog C:=⟨tyOk,all1 spec_l11Do.ok (all1 spec_l11Of.ok (all1 spec_l21Copy.ok (all1 spec_l21Of.ok (all1 spec_l21Read.ok (all0)))))⟩
theorem eG (β:Type)(s:sin.den)(K:sout.den→Option β):evalFn C Tryz.f141 sin sout s K=o.F s K:=by kernel_rfl
theorem ok:OracOk Tryz.prog o:=fn_ok mixed Tryz.func141 (by kernel_rfl) ctx (c:=bodyC Tryz.f141) (by kernel_rfl) (all0) (by kernel_rfl) (by kernel_rfl) (by kernel_rfl) (Nat.le_of_ble_eq_true (by kernel_rfl)) eG (by kernel_rfl) (Nat.le_of_ble_eq_true (by kernel_rfl))
end spec_l21Mend
namespace spec_StripeMend
def sin:Sig:=⟨[],[.agg [.val I false,.val (.sl I) false,.val (.sl I) false,.val (.sl .bool) false],.one (.val I false)]⟩
def sout:Sig:=⟨[.buf I false,.buf I false,.buf .bool false],[.agg [.val I false,.ref (.own 0),.ref (.own 1),.ref (.own 2)],.one (.val .bool false)]⟩
noncomputable def G {β:Type}(S:Sl)(a0:Int)(a1:(List Int))(a2:(List Int))(a3:(List Bool))(a4:Int)(K:(List Int)→(List Int)→(List Bool)→Int→Bool→Option β):Option β:=spec_StripeOk.G S a0 a1 a2 a3 (fun y1=>bif(!y1)then(K [] [] [] 0 false)else(spec_l6In.G S a4 0 7 (fun y2=>bif(!y2)then(K [] [] [] 0 false)else(spec_l21Mend.G S a0 a1 a2 a3 a4 (fun y3 y4 y5 y6 y7=>K y3 y4 y5 y6 y7)))))
noncomputable def o:Orac:=⟨60,sin,sout,fun s K=>G sl0 s.2.1.1 s.2.1.2.1 s.2.1.2.2.1 s.2.1.2.2.2.1 s.2.2.1 (fun x0 x1 x2 x3 x4=>K ((x0,(x1,(x2,()))),((x3,()),(x4,()))))⟩
noncomputable def C:Ctx:=⟨tyT,[spec_StripeOk.o,spec_l21Mend.o,spec_l6In.o],[],20,0⟩
theorem ctx:CtxOk Tryz.prog C:=⟨tyOk,all1 spec_StripeOk.ok (all1 spec_l21Mend.ok (all1 spec_l6In.ok (all0)))⟩
theorem eG (β:Type)(s:sin.den)(K:sout.den→Option β):evalFn C Tryz.f60 sin sout s K=o.F s K:=by kernel_rfl
theorem ok:OracOk Tryz.prog o:=fn_ok mixed Tryz.func60 (by kernel_rfl) ctx (c:=bodyC Tryz.f60) (by kernel_rfl) (all0) (by kernel_rfl) (by kernel_rfl) (by kernel_rfl) (Nat.le_of_ble_eq_true (by kernel_rfl)) eG (by kernel_rfl) (Nat.le_of_ble_eq_true (by kernel_rfl))
end spec_StripeMend
end Go.Proofs.YtnbighmbgmjbkaaGreat.E
end
section
namespace Go.Proofs.YtnbighmbgmjbkaaGreat.E
open Go Go.RowKit
section
variable {β:Type}
theorem cT {c:Bool} {x y r:Option β} (h:c=true) (k:x=r):(bif c then x else y)=r:=by rw [h]; exact k
theorem cF {c:Bool} {x y r:Option β} (h:c=false) (k:y=r):(bif c then x else y)=r:=by rw [h]; exact k
theorem ltT {a b:Int} (h:a<b):sl1.lt a b=true:=decide_eq_true h
theorem ltF {a b:Int} (h:b≤a):sl1.lt a b=false:=decide_eq_false (by omega)
theorem leT {a b:Int} (h:a≤b):sl1.le a b=true:=decide_eq_true h
theorem leF {a b:Int} (h:b<a):sl1.le a b=false:=decide_eq_false (by omega)
theorem eqT {a b:Int} (h:a=b):sl1.eq a b=true:=by subst h; exact beq_self_eq_true a
theorem eqF {a b:Int} (h:a≠b):sl1.eq a b=false:=beq_eq_false_iff_ne.2 h
theorem neT {a b:Int} (h:a≠b):(!sl1.eq a b)=true:=by rw [eqF h]; rfl
theorem neF {a b:Int} (h:a=b):(!sl1.eq a b)=false:=by rw [eqT h]; rfl
theorem irT {i:Int} {n:Nat} (h0:0≤i) (h1:i<(n:Int)):sl1.ir i n=true:=by
 show(decide (0≤i)&&decide (i<(n:Int)))=true
 rw [decide_eq_true h0,decide_eq_true h1]; rfl
theorem fwT {n:Nat} (h:n<1073741824):sl1.fw n=true:=Nat.ble_eq_true_of_le h
theorem andT {a b:Bool} (h:a=true) (k:b=true):(a&&b)=true:=by rw [h,k]; rfl
theorem wE {a:Int} (h0:-9223372036854775808≤a) (h1:a≤9223372036854775807):sl1.w a=a:=by
 show IntKind.i64.wrap a=a
 rw [IntKind.wrap_i64]; omega
theorem w_succ {i:Nat} (h:i≤9000000000):sl1.w ((i:Int)+1)=((i+1:Nat):Int):=by rw [wE (by omega) (by omega)]; omega
theorem eq_def (a b:Int):sl1.eq a b=(a==b):=rfl
theorem le_def (a b:Int):sl1.le a b=decide (a≤b):=rfl
theorem getN {α:Type} {d:α} (l:List α) (i:Nat) (h:i<l.length):List.getD l (Int.toNat (i:Int)) d=l[i]:=by
 rw [Int.toNat_natCast,List.getD_eq_getElem?_getD,List.getElem?_eq_getElem h]; rfl
theorem rounds_n:sl1.n=4294967296:=rfl
def inV (a b c:Int):Bool:=decide (b≤a)&&decide (a≤c)
theorem inV_iff {a b c:Int}:inV a b c=true↔b≤a∧a≤c:=by simp [inV]
theorem spec_in (a b c:Int) (K:Bool→Option β):spec_l6In.G sl1 a b c K=K (inV a b c):=by
 by_cases h:b≤a
 ·exact cT (leT h) (by simp [inV,h,le_def])
 ·exact cF (leF (by omega)) (by simp [inV,h])
theorem impl_in (a b c:Int) (K:Bool→Option β):impl_within.G sl1 a b c K=K (inV a b c):=spec_in a b c K
theorem spec_field (a:Int) (K:Bool→Option β):spec_FieldOk.G sl1 a K=K (inV a 0 30):=spec_in a 0 30 K
theorem impl_field (a:Int) (K:Bool→Option β):impl_FieldOk.G sl1 a K=K (inV a 0 30):=spec_in a 0 30 K
theorem spec_kind (a:Int) (K:Bool→Option β):spec_l4Kind.G sl1 a K=K (inV a 1 2):=spec_in a 1 2 K
def fldL (l:List Int):Bool:=l.all fun x=>inV x 0 30
theorem fldL_cons (a:Int) (l:List Int):fldL (a::l)=(inV a 0 30&&fldL l):=rfl
theorem vecOk_l (l:List Int) (hl:l.length≤1000000000) (kx:List Int→Option β) (kr:Bool→Option β) (d:Nat):∀ (i n:Nat),i+d=l.length→d<n→spec_VecOk.l2 sl1 n kx kr l (i:Int)=if fldL (l.drop i)=true then kx l else kr false:=by
 induction d with
 | zero =>
  intro i n hi hn
  obtain⟨n,rfl⟩:∃ m,n=m+1:=⟨n-1,by omega⟩
  rw [spec_VecOk.t2,List.drop_of_length_le (by omega)]
  exact cF (ltF (by omega)) rfl
 | succ d ih =>
  intro i n hi hn
  obtain⟨n,rfl⟩:∃ m,n=m+1:=⟨n-1,by omega⟩
  have h1:i<l.length:=by omega
  rw [spec_VecOk.t2]
  unfold spec_VecOk.b2
  refine cT (ltT (by omega)) (cT (irT (by omega) (by omega)) ((spec_field _ _).trans ?_))
  rw [getN l i h1,List.drop_eq_getElem_cons h1,w_succ (by omega)]
  have ih:=ih (i+1) n (by omega) (by omega)
  rw [fldL_cons]
  cases hc:inV l[i] 0 30
  ·rfl
  ·rw [Bool.true_and]; exact ih
def vecV (l:List Int):Bool:=fldL l&&decide (l.length=4)
theorem eqLen (n m:Nat):sl1.eq (n:Int) (m:Int)=decide (n=m):=by
 by_cases h:n=m
 ·rw [eqT (by omega),decide_eq_true h]
 ·rw [eqF (by omega),decide_eq_false h]
theorem vecOk_G (l:List Int) (hl:l.length≤1000000000) (K:Bool→Option β):spec_VecOk.G sl1 l K=K (vecV l):=by
 refine(vecOk_l l hl (fun y1=>K (sl1.eq (y1.length:Int) 4)) (fun y2=>K y2) l.length 0 sl1.n (by omega) (by rw [rounds_n]; omega)).trans ?_
 rw [List.drop_zero,show sl1.eq (l.length:Int) 4=decide (l.length=4) from eqLen _ 4]
 unfold vecV
 cases fldL l <;> rfl
theorem vals_l (l:List Int) (th:List Bool) (hl:l.length≤1000000000) (kx:List Int→List Bool→Option β) (kr:Bool→Option β) (d:Nat):∀ (i n:Nat),i+d=l.length→d<n→spec_l4Vals.l2 sl1 n kx kr l th (i:Int)=if fldL (l.drop i)=true then kx l th else kr false:=by
 induction d with
 | zero =>
  intro i n hi hn
  obtain⟨n,rfl⟩:∃ m,n=m+1:=⟨n-1,by omega⟩
  rw [spec_l4Vals.t2,List.drop_of_length_le (by omega)]
  exact cF (ltF (by omega)) rfl
 | succ d ih =>
  intro i n hi hn
  obtain⟨n,rfl⟩:∃ m,n=m+1:=⟨n-1,by omega⟩
  have h1:i<l.length:=by omega
  rw [spec_l4Vals.t2]
  unfold spec_l4Vals.b2
  refine cT (ltT (by omega)) (cT (irT (by omega) (by omega)) ((spec_field _ _).trans ?_))
  rw [getN l i h1,List.drop_eq_getElem_cons h1,w_succ (by omega)]
  have ih:=ih (i+1) n (by omega) (by omega)
  rw [fldL_cons]
  cases hc:inV l[i] 0 30
  ·rfl
  ·rw [Bool.true_and]; exact ih
def valsV (l:List Int) (th:List Bool):Bool:=fldL l&&(decide (l.length=8)&&decide (th.length=8))
theorem vals_G (l:List Int) (th:List Bool) (hl:l.length≤1000000000) (K:Bool→Option β):spec_l4Vals.G sl1 l th K=K (valsV l th):=by
 refine(vals_l l th hl (fun y1 y2=>bif(sl1.eq (y1.length:Int) 8)then(K (sl1.eq (y2.length:Int) 8))else(K false)) (fun y3=>K y3) l.length 0 sl1.n (by omega) (by rw [rounds_n]; omega)).trans ?_
 rw [List.drop_zero]
 rw [show sl1.eq (l.length:Int) 8=decide (l.length=8) from eqLen _ 8,show sl1.eq (th.length:Int) 8=decide (th.length=8) from eqLen _ 8]
 unfold valsV
 cases fldL l <;> cases decide (l.length=8) <;> rfl
theorem tmod_in {a n:Int} (h:0≤a) (hn:0<n):0≤Int.tmod a n∧Int.tmod a n<n:=by
 rw [Int.tmod_eq_emod_of_nonneg h]
 exact⟨Int.emod_nonneg _ (by omega),Int.emod_lt_of_pos _ hn⟩
theorem byteAt {b:List Int} (hb:∀ x∈b,0≤x∧x≤255) {i:Int} (h0:0≤i) (h1:i<(b.length:Int)):0≤List.getD b (Int.toNat i) 0∧List.getD b (Int.toNat i) 0≤255:=by
 obtain⟨n,rfl⟩:=Int.eq_ofNat_of_zero_le h0
 have hn:n<b.length:=by omega
 have:=getN b n hn (d:=(0:Int))
 rw [this]
 exact hb _ (List.getElem_mem hn)
theorem xr_pos {a b:Int} (h0:0≤a) (h1:a≤4611686018427387903) (h2:0≤b) (h3:b≤4611686018427387903):0≤sl1.xr .i64 a b:=by
 show 0≤IntKind.i64.wrap _
 have e:∀ c:Int,0≤c→c≤4611686018427387903→(BitVec.ofInt IntKind.i64.bits c).toNat<2 ^ 62:=by
  intro c hc hc2
  show(BitVec.ofInt 64 c).toNat<2 ^ 62
  rw [BitVec.toNat_ofInt]
  omega
 have h:=Nat.xor_lt_two_pow (e a h0 h1) (e b h2 h3)
 have e2:((BitVec.ofInt IntKind.i64.bits a ^^^ BitVec.ofInt IntKind.i64.bits b).toNat)<2 ^ 62:=by
  rw [BitVec.toNat_xor]; exact h
 rw [IntKind.wrap_i64]
 omega
theorem pick_G {b:List Int} (hb:∀ x∈b,0≤x∧x≤255) (hl:b.length≤2000) {p n:Int} (hp:0≤p) (hp2:p≤1000000) (hn:1≤n):∃ v,0≤v∧v<n∧∀ (β:Type) (K:List Int→Int→Int→Option β),spec_l6Rd_pick.G sl1 b p n K=K b (p+1) v:=by
 have wp:sl1.w (p+1)=p+1:=wE (by omega) (by omega)
 have wq:sl1.w (p+1-1)=p:=by rw [wE (a:=p+1-1) (by omega) (by omega)]; omega
 by_cases h0:b.length=0
 ·refine ⟨0, by omega, by omega, fun β K => ?_⟩
  unfold spec_l6Rd_pick.G
  rw [wp]
  exact cF (ltF (by omega)) (cT (eqT (by omega)) rfl)
 ·have hnz : (!((b.length : Int) == 0)) = true := by rw [Bool.not_eq_true']; exact beq_eq_false_iff_ne.2 (by omega)
  have hnn:(!(n==0))=true:=by rw [Bool.not_eq_true']; exact beq_eq_false_iff_ne.2 (by omega)
  by_cases h1:p<(b.length:Int)
  ·have hbt := byteAt hb hp h1
   refine⟨Int.tmod (sl1.w (List.getD b (Int.toNat p) 0)) n,?_,?_,fun β K=>?_⟩
   ·rw [wE (by omega) (by omega)]; exact(tmod_in hbt.1 (by omega)).1
   ·rw [wE (by omega) (by omega)]; exact(tmod_in hbt.1 (by omega)).2
   ·unfold spec_l6Rd_pick.G
    rw [wp,wq]
    exact cF (ltF (by omega)) (cF (eqF (by omega)) (cT (ltT h1) (cT (irT hp h1) (cT hnn rfl))))
  ·have ha := tmod_in hp (show 0 < (b.length : Int) by omega)
   have hc:=tmod_in (a:=p*7+3) (by omega) (show 0<(b.length:Int) by omega)
   have hq:0≤Int.tdiv p (b.length:Int)∧Int.tdiv p (b.length:Int)≤p:=⟨Int.tdiv_nonneg hp (by omega),Int.tdiv_le_self _ hp⟩
   have b1:=byteAt hb ha.1 ha.2
   have b2:=byteAt hb hc.1 hc.2
   have w7:sl1.w (sl1.w (p*7)+3)=p*7+3:=by rw [wE (a:=p*7) (by omega) (by omega),wE (by omega) (by omega)]
   refine⟨Int.tmod (sl1.xr .i64 (sl1.w ((sl1.w ((sl1.w ((sl1.w ((sl1.w (List.getD b (Int.toNat (Int.tmod p (b.length:Int))) 0))*131))+(sl1.w ((sl1.w (List.getD b (Int.toNat (Int.tmod (p*7+3) (b.length:Int))) 0))*1117))))+(sl1.w (p*29))))+(sl1.w ((sl1.w (Int.tdiv p (b.length:Int)))*53)))) (sl1.w (Int.tdiv (sl1.w ((sl1.w ((sl1.w ((sl1.w ((sl1.w (List.getD b (Int.toNat (Int.tmod p (b.length:Int))) 0))*131))+(sl1.w ((sl1.w (List.getD b (Int.toNat (Int.tmod (p*7+3) (b.length:Int))) 0))*1117))))+(sl1.w (p*29))))+(sl1.w ((sl1.w (Int.tdiv p (b.length:Int)))*53)))) 64))) n,?_,?_,fun β K=>?_⟩
   ·refine (tmod_in ?_ (by omega)).1
    generalize List.getD b (Int.toNat (Int.tmod p (b.length:Int))) 0=x at b1 ⊢
    generalize List.getD b (Int.toNat (Int.tmod (p*7+3) (b.length:Int))) 0=y at b2 ⊢
    generalize Int.tdiv p (b.length:Int)=z at hq ⊢
    have e:sl1.w ((sl1.w ((sl1.w ((sl1.w ((sl1.w x)*131))+(sl1.w ((sl1.w y)*1117))))+(sl1.w (p*29))))+(sl1.w ((sl1.w z)*53)))=x*131+y*1117+p*29+z*53:=by
     rw [wE (a:=x) (by omega) (by omega),wE (a:=y) (by omega) (by omega),wE (a:=z) (by omega) (by omega),wE (a:=x*131) (by omega) (by omega),wE (a:=y*1117) (by omega) (by omega),wE (a:=p*29) (by omega) (by omega),wE (a:=z*53) (by omega) (by omega),wE (a:=x*131+y*1117) (by omega) (by omega),wE (a:=x*131+y*1117+p*29) (by omega) (by omega),wE (by omega) (by omega)]
    rw [e]
    have d1:0≤Int.tdiv (x*131+y*1117+p*29+z*53) 64:=Int.tdiv_nonneg (by omega) (by omega)
    have d2:Int.tdiv (x*131+y*1117+p*29+z*53) 64≤x*131+y*1117+p*29+z*53:=Int.tdiv_le_self _ (by omega)
    rw [wE (a:=Int.tdiv _ 64) (by omega) (by omega)]
    exact xr_pos (by omega) (by omega) d1 (by omega)
   ·refine (tmod_in ?_ (by omega)).2
    generalize List.getD b (Int.toNat (Int.tmod p (b.length:Int))) 0=x at b1 ⊢
    generalize List.getD b (Int.toNat (Int.tmod (p*7+3) (b.length:Int))) 0=y at b2 ⊢
    generalize Int.tdiv p (b.length:Int)=z at hq ⊢
    have e:sl1.w ((sl1.w ((sl1.w ((sl1.w ((sl1.w x)*131))+(sl1.w ((sl1.w y)*1117))))+(sl1.w (p*29))))+(sl1.w ((sl1.w z)*53)))=x*131+y*1117+p*29+z*53:=by
     rw [wE (a:=x) (by omega) (by omega),wE (a:=y) (by omega) (by omega),wE (a:=z) (by omega) (by omega),wE (a:=x*131) (by omega) (by omega),wE (a:=y*1117) (by omega) (by omega),wE (a:=p*29) (by omega) (by omega),wE (a:=z*53) (by omega) (by omega),wE (a:=x*131+y*1117) (by omega) (by omega),wE (a:=x*131+y*1117+p*29) (by omega) (by omega),wE (by omega) (by omega)]
    rw [e]
    have d1:0≤Int.tdiv (x*131+y*1117+p*29+z*53) 64:=Int.tdiv_nonneg (by omega) (by omega)
    have d2:Int.tdiv (x*131+y*1117+p*29+z*53) 64≤x*131+y*1117+p*29+z*53:=Int.tdiv_le_self _ (by omega)
    rw [wE (a:=Int.tdiv _ 64) (by omega) (by omega)]
    exact xr_pos (by omega) (by omega) d1 (by omega)
   ·unfold spec_l6Rd_pick.G
    rw [wp,wq,w7]
    exact cF (ltF (by omega)) (cF (eqF (by omega)) (cF (ltF (by omega)) (cT hnz (cT (irT ha.1 ha.2) (cT hnz (cT (irT hc.1 hc.2) (cT hnz (cT hnn rfl))))))))
end
end Go.Proofs.YtnbighmbgmjbkaaGreat.E
end
section
namespace Go.Proofs.YtnbighmbgmjbkaaGreat.E
open Go Go.RowKit
structure Src (b:List Int):Prop where
 byte:∀ x∈b,0≤x∧x≤255
 len:b.length≤2000
theorem pick_S {b:List Int} (hb:Src b) {p:Int} (n:Int) (hn:1≤n:=by omega) (hp:0≤p:=by omega) (hp2:p≤1000000:=by omega):∃ v,0≤v∧v<n∧∀ (β:Type) (K:List Int→Int→Int→Option β),spec_l6Rd_pick.G sl1 b p n K=K b (p+1) v:=pick_G hb.byte hb.len hp hp2 hn
theorem open_G {l:List Int} (hl:∀ x∈l,0≤x∧x≤255):∃ b,Src b∧∀ (β:Type) (K:List Int→Int→Option β),spec_l6Open.G sl1 l K=K b 0:=by
 by_cases h:2000<l.length
 ·refine ⟨l.take 2000, ⟨fun x hx => hl x (List.mem_of_mem_take hx), by rw [List.length_take]; omega⟩, fun β K => ?_⟩
  unfold spec_l6Open.G
  exact cT (ltT (by omega)) (cT (andT (andT (andT rfl rfl) (leT (by omega))) (leT (by omega))) rfl)
 ·exact⟨l,⟨hl,by omega⟩,fun β K=>cF (ltF (by omega)) rfl⟩
theorem num_G {b:List Int} (hb:Src b) {p:Int} (hp:0≤p) (hp2:p≤900000):∃ v q,p≤q∧q≤p+3∧-1≤v∧v≤31∧∀ (β:Type) (K:List Int→Int→Int→Option β),spec_l91Num.G sl1 b p K=K b q v:=by
 obtain⟨a,a0,a1,ea⟩:=pick_S hb (p:=p) 10
 obtain⟨c,c0,c1,ec⟩:=pick_S hb (p:=p+1) 2
 obtain⟨d,d0,d1,ed⟩:=pick_S hb (p:=p+1) 5
 obtain⟨e,e0,e1,ee⟩:=pick_S hb (p:=p+1+1) 2
 obtain⟨f,f0,f1,ef⟩:=pick_S hb (p:=p+1+1) 31
 obtain⟨g,g0,g1,eg⟩:=pick_S hb (p:=p+1) 31
 have two:∀ (x y i:Int),0≤i→i<2→-1≤x→x≤31→-1≤y→y≤31→-1≤List.getD [x,y] (Int.toNat i) 0∧List.getD [x,y] (Int.toNat i) 0≤31:=by
  intro x y i h0 h1 x0 x1 y0 y1
  have:i=0∨i=1:=by omega
  rcases this with rfl | rfl
  ·exact⟨x0,x1⟩
  ·exact⟨y0,y1⟩
 by_cases h0:a=0
 ·exact⟨0,p+1,by omega,by omega,by omega,by omega,fun β K=>(ea _ _).trans (cT (eqT h0) rfl)⟩
 by_cases h1:a=1
 ·obtain ⟨t0, t1⟩ := two 1 30 c c0 c1 (by omega) (by omega) (by omega) (by omega)
  exact⟨List.getD [1,30] (Int.toNat c) 0,p+1+1,by omega,by omega,t0,t1,fun β K=>(ea _ _).trans (cF (eqF h0) (cT (eqT h1) ((ec _ _).trans (cT (irT c0 c1) rfl))))⟩
 by_cases h2:a=2
 ·by_cases hd : d = 0
  ·obtain ⟨t0, t1⟩ := two (-1) 31 e e0 e1 (by omega) (by omega) (by omega) (by omega)
   exact⟨List.getD [(-1),31] (Int.toNat e) 0,p+1+1+1,by omega,by omega,t0,t1,fun β K=>(ea _ _).trans (cF (eqF h0) (cF (eqF h1) (cT (eqT h2) ((ed _ _).trans (cT (eqT hd) ((ee _ _).trans (cT (irT e0 e1) rfl)))))))⟩
  ·exact⟨f,p+1+1+1,by omega,by omega,by omega,by omega,fun β K=>(ea _ _).trans (cF (eqF h0) (cF (eqF h1) (cT (eqT h2) ((ed _ _).trans (cF (eqF hd) ((ef _ _).trans rfl))))))⟩
 ·exact⟨g,p+1+1,by omega,by omega,by omega,by omega,fun β K=>(ea _ _).trans (cF (eqF h0) (cF (eqF h1) (cF (eqF h2) ((eg _ _).trans rfl))))⟩
theorem kind_G {b:List Int} (hb:Src b) {p:Int} (hp:0≤p) (hp2:p≤900000):∃ v q,p≤q∧q≤p+3∧0≤v∧v≤3∧∀ (β:Type) (K:List Int→Int→Int→Option β),spec_l91Kind.G sl1 b p K=K b q v:=by
 obtain⟨a,a0,a1,ea⟩:=pick_S hb (p:=p) 40
 obtain⟨c,c0,c1,ec⟩:=pick_S hb (p:=p+1) 2
 by_cases h0:a=0
 ·have : (0 : Int) ≤ List.getD [0, 3] (Int.toNat c) 0 ∧ List.getD [0, 3] (Int.toNat c) 0 ≤ (3 : Int) := by
   have:c=0∨c=1:=by omega
   rcases this with rfl | rfl <;> exact⟨by decide,by decide⟩
  exact⟨List.getD [0,3] (Int.toNat c) 0,p+1+1,by omega,by omega,this.1,this.2,fun β K=>(ea _ _).trans (cT (eqT h0) ((ec _ _).trans (cT (irT c0 c1) rfl)))⟩
 ·exact⟨1+c,p+1+1,by omega,by omega,by omega,by omega,fun β K=>(ea _ _).trans (cF (eqF h0) ((ec _ _).trans (by rw [wE (by omega) (by omega)])))⟩
theorem data_G {b:List Int} (hb:Src b) {p:Int} (hp:0≤p) (hp2:p≤900000):∃ d,vecV d=true∧∀ (β:Type) (K:List Int→Int→List Int→Option β),spec_l92Data.G sl1 b p K=K b (p+1+1+1+1) d:=by
 obtain⟨a,a0,a1,ea⟩:=pick_S hb (p:=p) 31
 obtain⟨c,c0,c1,ec⟩:=pick_S hb (p:=p+1) 4
 obtain⟨d,d0,d1,ed⟩:=pick_S hb (p:=p+1+1) 31
 obtain⟨e,e0,e1,ee⟩:=pick_S hb (p:=p+1+1+1) 27
 refine⟨[a,c,d,e],?_,fun β K=>(ea _ _).trans ((ec _ _).trans ((ed _ _).trans (ee _ _)))⟩
 unfold vecV fldL inV
 simp
 omega
def setF:Nat→List Bool→Int→Nat→List Bool
 | 0, l, _, _ => l
 | d + 1, l, x, i => setF d (l.set i (sl1.eq (Int.tmod x 2) 1)) (Int.tdiv x 2) (i + 1)
theorem setF_len:∀ (d:Nat) (l:List Bool) (x:Int) (i:Nat),(setF d l x i).length=l.length
 | 0, _, _, _ => rfl
 | d + 1, l, x, i => by rw [setF, setF_len, List.length_set]
theorem set_l {β:Type} (kx:List Bool→Option β) (kr:Option β) (d:Nat):∀ (l:List Bool) (x:Int) (i n:Nat),i+d=l.length→l.length≤1000→d<n→0≤x→x≤1000000→spec_l4Set.l3 sl1 n kx kr l x (i:Int)=kx (setF d l x i):=by
 induction d with
 | zero =>
  intro l x i n hi hl hn h0 h1
  obtain⟨n,rfl⟩:∃ m,n=m+1:=⟨n-1,by omega⟩
  rw [spec_l4Set.t3]; exact cF (ltF (by omega)) rfl
 | succ d ih =>
  intro l x i n hi hl hn h0 h1
  obtain⟨n,rfl⟩:∃ m,n=m+1:=⟨n-1,by omega⟩
  have q0:0≤Int.tdiv x 2:=Int.tdiv_nonneg h0 (by omega)
  have q1:Int.tdiv x 2≤x:=Int.tdiv_le_self _ h0
  have e:=ih (l.set i (sl1.eq (Int.tmod x 2) 1)) (Int.tdiv x 2) (i+1) n (by rw [List.length_set]; omega) (by rw [List.length_set]; omega) (by omega) q0 (by omega)
  rw [spec_l4Set.t3]
  unfold spec_l4Set.b3
  refine cT (ltT (by omega)) (cT (irT (by omega) (by omega)) ?_)
  rw [w_succ (by omega),wE (a:=Int.tdiv x 2) (by omega) (by omega),Int.toNat_natCast]
  exact e
def setV (x:Int):List Bool:=setF 8 (List.replicate 8 false) x 0
theorem setV_len (x:Int):(setV x).length=8:=by unfold setV; rw [setF_len]; rfl
theorem set_G {x:Int} (h0:0≤x) (h1:x≤1000000) {β:Type} (K:List Bool→Option β):spec_l4Set.G sl1 x K=K (setV x):=by
 unfold spec_l4Set.G
 exact cT rfl (set_l (β:=β) K none 8 (List.replicate 8 false) x 0 sl1.n rfl (by simp) (by rw [rounds_n]; omega) h0 h1)
theorem which_G {b:List Int} (hb:Src b) {p:Int} (hp:0≤p) (hp2:p≤900000):∃ w q,p≤q∧q≤p+2∧w.length=8∧∀ (β:Type) (K:List Int→Int→List Bool→Option β),spec_l92Which.G sl1 b p K=K b q w:=by
 obtain⟨a,a0,a1,ea⟩:=pick_S hb (p:=p) 3
 obtain⟨c,c0,c1,ec⟩:=pick_S hb (p:=p+1) 256
 by_cases h0:a=0
 ·exact⟨setV 255,p+1,by omega,by omega,setV_len _,fun β K=>(ea _ _).trans (cT (eqT h0) ((set_G (by omega) (by omega) _).trans rfl))⟩
 ·exact⟨setV c,p+1+1,by omega,by omega,setV_len _,fun β K=>(ea _ _).trans (cF (eqF h0) ((ec _ _).trans ((set_G (by omega) (by omega) _).trans rfl)))⟩
theorem keq {α:Sort _} {a b:α} (h:a=b):a=b:=h
noncomputable def rowS (kind at_:Int):List Int:=(spec_l4Row.G sl1 kind at_ some).getD []
theorem row_G {β:Type} {kind:Int} (hk:kind=1∨kind=2) {n:Nat} (hn:n<8) (K:List Int→Option β):spec_l4Row.G sl1 kind (n:Int) K=K (rowS kind (n:Int)):=by
 have h8:n=0∨n=1∨n=2∨n=3∨n=4∨n=5∨n=6∨n=7:=by omega
 rcases hk with rfl | rfl <;> rcases h8 with rfl | rfl | rfl | rfl | rfl | rfl | rfl | rfl <;> refine keq ?_ <;> kernel_rfl
theorem row_vec {kind:Int} (hk:kind=1∨kind=2) {n:Nat} (hn:n<8):vecV (rowS kind (n:Int))=true:=by
 have h8:n=0∨n=1∨n=2∨n=3∨n=4∨n=5∨n=6∨n=7:=by omega
 rcases hk with rfl | rfl <;> rcases h8 with rfl | rfl | rfl | rfl | rfl | rfl | rfl | rfl <;> refine keq ?_ <;> kernel_rfl
theorem vecV_iff {l:List Int}:vecV l=true↔(∀ x∈l,0≤x∧x≤30)∧l.length=4:=by
 unfold vecV fldL
 simp [List.all_eq_true,inV_iff]
def dotV:List Int→List Int→Int→Int
 | x :: a, y :: b, n => dotV a b (Int.tmod (n + x * y) 31)
 | _, _, n => n
theorem mod31 {n x y:Int} (hn:0≤n∧n≤30) (hx:0≤x∧x≤30) (hy:0≤y∧y≤30):sl1.w (n+sl1.w (x*y))=n+x*y∧0≤Int.tmod (n+x*y) 31∧Int.tmod (n+x*y) 31≤30:=by
 have h0:0≤x*y:=Int.mul_nonneg hx.1 hy.1
 have h1:x*y≤30*30:=Int.mul_le_mul hx.2 hy.2 hy.1 (by omega)
 rw [wE (a:=x*y) (by omega) (by omega),wE (by omega) (by omega)]
 have:=tmod_in (a:=n+x*y) (n:=31) (by omega) (by omega)
 exact⟨rfl,this.1,by omega⟩
theorem dot_l {β:Type} (kx:Int→Option β) (kr:Option β) (a b:List Int) (ha:∀ x∈a,0≤x∧x≤30) (hb:∀ x∈b,0≤x∧x≤30) (hl:a.length≤b.length) (hs:a.length≤1000) (d:Nat):∀ (v:Int) (i n:Nat),i+d=a.length→d<n→0≤v∧v≤30→spec_l2Dot.l3 sl1 n kx kr a b v (i:Int)=kx (dotV (a.drop i) (b.drop i) v):=by
 induction d with
 | zero =>
  intro v i n hi hn hv
  obtain⟨n,rfl⟩:∃ m,n=m+1:=⟨n-1,by omega⟩
  rw [spec_l2Dot.t3,List.drop_of_length_le (by omega)]; exact cF (ltF (by omega)) rfl
 | succ d ih =>
  intro v i n hi hn hv
  obtain⟨n,rfl⟩:∃ m,n=m+1:=⟨n-1,by omega⟩
  have h1:i<a.length:=by omega
  have h2:i<b.length:=by omega
  have m:=mod31 hv (ha _ (List.getElem_mem h1)) (hb _ (List.getElem_mem h2))
  have e:=ih (Int.tmod (v+a[i]*b[i]) 31) (i+1) n (by omega) (by omega) m.2
  rw [spec_l2Dot.t3]
  unfold spec_l2Dot.b3
  refine cT (ltT (by omega)) (cT (irT (by omega) (by omega)) (cT (irT (by omega) (by omega)) ?_))
  rw [getN a i h1,getN b i h2,w_succ (by omega),m.1,List.drop_eq_getElem_cons h1,List.drop_eq_getElem_cons h2,dotV]
  exact e
theorem dot_G {β:Type} {a b:List Int} (ha:vecV a=true) (hb:vecV b=true) (K:Int→Option β):spec_l2Dot.G sl1 a b K=K (dotV a b 0):=by
 obtain⟨a1,a2⟩:=vecV_iff.1 ha
 obtain⟨b1,b2⟩:=vecV_iff.1 hb
 exact dot_l K none a b a1 b1 (by omega) (by omega) a.length 0 0 sl1.n (by omega) (by rw [rounds_n]; omega) (by omega)
theorem dotV_in:∀ (a b:List Int) (n:Int),(∀ x∈a,0≤x∧x≤30)→(∀ x∈b,0≤x∧x≤30)→0≤n∧n≤30→0≤dotV a b n∧dotV a b n≤30
 | [], b, n, _, _, hn => by unfold dotV; exact hn
 | x :: a, [], n, _, _, hn => by unfold dotV; exact hn
 | x :: a, y :: b, n, ha, hb, hn => by
  rw [dotV]
  exact dotV_in a b _ (fun z hz=>ha z (List.mem_cons_of_mem _ hz)) (fun z hz=>hb z (List.mem_cons_of_mem _ hz)) (mod31 hn (ha x List.mem_cons_self) (hb y List.mem_cons_self)).2
noncomputable def allV (kind:Int) (data:List Int):List Int:=(List.range 8).map fun(i:Nat)=>dotV (rowS kind (i:Int)) data 0
theorem allV_len (kind:Int) (data:List Int):(allV kind data).length=8:=by simp [allV]
theorem allV_in {kind:Int} (hk:kind=1∨kind=2) {data:List Int} (hd:vecV data=true):∀ x∈allV kind data,0≤x∧x≤30:=by
 intro x hx
 obtain⟨i,hi,rfl⟩:=List.mem_map.1 hx
 exact dotV_in _ _ _ (vecV_iff.1 (row_vec hk (List.mem_range.1 hi))).1 (vecV_iff.1 hd).1 (by omega)
theorem all_l {β:Type} {kind:Int} (hk:kind=1∨kind=2) {data:List Int} (hd:vecV data=true) (kx:List Int→Option β) (kr:Option β) (d:Nat):∀ (i n:Nat),i+d=8→d<n→spec_l4All.l3 sl1 n kx kr ((List.range i).map fun(j:Nat)=>dotV (rowS kind (j:Int)) data 0) kind data (i:Int)=kx (allV kind data):=by
 induction d with
 | zero =>
  intro i n hi hn
  obtain⟨n,rfl⟩:∃ m,n=m+1:=⟨n-1,by omega⟩
  obtain rfl:i=8:=by omega
  rw [spec_l4All.t3]; exact cF (ltF (by omega)) rfl
 | succ d ih =>
  intro i n hi hn
  obtain⟨n,rfl⟩:∃ m,n=m+1:=⟨n-1,by omega⟩
  rw [spec_l4All.t3]
  unfold spec_l4All.b3
  refine cT (ltT (by omega)) ((row_G hk (by omega) _).trans ((dot_G (row_vec hk (by omega)) hd _).trans (cT (fwT (by simp; omega)) ?_)))
  rw [w_succ (by omega)]
  have e:=ih (i+1) n (by omega) (by omega)
  rw [List.range_succ,List.map_append] at e
  exact e
theorem all_G {β:Type} {kind:Int} (hk:kind=1∨kind=2) {data:List Int} (hd:vecV data=true) (K:List Int→Option β):spec_l4All.G sl1 kind data K=K (allV kind data):=
 all_l hk hd K none 8 0 sl1.n (by omega) (by rw [rounds_n]; omega)
theorem copy_G {β:Type} {kind:Int} {vals vers:List Int} {there:List Bool} (h1:vals.length≤1000000) (h2:vers.length≤1000000) (h3:there.length≤1000000) (K:List Int→List Int→List Bool→Int→Option β):spec_l21Copy.G sl1 kind vals vers there K=K vals vers there kind:=by
 unfold spec_l21Copy.G
 simp only [List.nil_append]
 exact cT (fwT (by omega)) (cT (fwT (by omega)) (cT (fwT (by omega)) rfl))
theorem lose_G {β:Type} {kind:Int} {vals vers:List Int} {there:List Bool} (h1:vals.length=8) (h2:vers.length=8) (h3:there.length=8) {i:Nat} (hi:i<8) (K:List Int→List Int→List Bool→Int→Option β):
  spec_l21Lose.G sl1 kind vals vers there (i:Int) K=K (vals.set i 0) (vers.set i 0) (there.set i false) kind:=by
 refine(copy_G (by omega) (by omega) (by omega) _).trans ?_
 exact cT (irT (by omega) (by omega)) (cT (irT (by omega) (by omega)) (cT (irT (by omega) (by omega)) rfl))
theorem put_G {β:Type} {kind:Int} (hk:kind=1∨kind=2) {vals vers:List Int} {there:List Bool} (h1:vals.length=8) (h2:vers.length=8) (h3:there.length=8) {data:List Int} (hd:vecV data=true) {i:Nat} (hi:i<8) (v:Int) (K:List Int→List Int→List Bool→Int→Option β):
  spec_l21Put.G sl1 kind vals vers there data (i:Int) v K=K (vals.set i ((allV kind data).getD i 0)) (vers.set i v) (there.set i true) kind:=by
 refine(copy_G (by omega) (by omega) (by omega) _).trans ((all_G hk hd _).trans ?_)
 exact cT (irT (by omega) (by rw [allV_len]; omega)) (cT (irT (by omega) (by omega)) (cT (irT (by omega) (by omega)) (cT (irT (by omega) (by omega)) rfl)))
def topV (l:List Int) (n:Int):Int:=l.foldl (fun a x=>if x > a then x else a) n
theorem top_l {β:Type} (kx:Int→Option β) (kr:Option β) (kind:Int) (vals vers:List Int) (there:List Bool) (hs:vers.length≤1000) (d:Nat):∀ (v:Int) (i n:Nat),i+d=vers.length→d<n→spec_l21Top.l3 sl1 n kx kr kind vals vers there v (i:Int)=kx (topV (vers.drop i) v):=by
 induction d with
 | zero =>
  intro v i n hi hn
  obtain⟨n,rfl⟩:∃ m,n=m+1:=⟨n-1,by omega⟩
  rw [spec_l21Top.t3,List.drop_of_length_le (by omega)]; exact cF (ltF (by omega)) rfl
 | succ d ih =>
  intro v i n hi hn
  obtain⟨n,rfl⟩:∃ m,n=m+1:=⟨n-1,by omega⟩
  have h1:i<vers.length:=by omega
  have e:=ih (sl1.mx v vers[i]) (i+1) n (by omega) (by omega)
  rw [spec_l21Top.t3]
  unfold spec_l21Top.b3
  refine cT (ltT (by omega)) (cT (irT (by omega) (by omega)) ?_)
  rw [getN vers i h1,w_succ (by omega),List.drop_eq_getElem_cons h1]
  exact e
theorem top_G {β:Type} (kind:Int) (vals vers:List Int) (there:List Bool) (hs:vers.length≤1000) (K:Int→Option β):spec_l21Top.G sl1 kind vals vers there K=K (topV vers 0):=
 top_l K none kind vals vers there hs vers.length 0 0 sl1.n (by omega) (by rw [rounds_n]; omega)
theorem topV_ge:∀ (l:List Int) (n:Int),n≤topV l n∧∀ x∈l,x≤topV l n
 | [], n => ⟨Int.le_refl _, by simp⟩
 | a :: l, n => by
  have h:=topV_ge l (if a > n then a else n)
  refine⟨Int.le_trans ?_ h.1,fun x hx=>?_⟩
  ·split <;> omega
  ·rcases List.mem_cons.1 hx with rfl | hx
   ·refine Int.le_trans ?_ h.1; split <;> omega
   ·exact h.2 x hx
theorem topV_le {m:Int}:∀ (l:List Int) (n:Int),n≤m→(∀ x∈l,x≤m)→topV l n≤m
 | [], n, hn, _ => hn
 | a :: l, n, hn, hl => topV_le l _ (by have := hl a List.mem_cons_self; show (if a > n then a else n) ≤ m; split <;> omega) fun x hx => hl x (List.mem_cons_of_mem _ hx)
def ofV (vers:List Int) (there:List Bool) (v:Int):List Bool:=List.zipWith (fun t x=>t&&(x==v)) there vers
theorem ofV_len {vers:List Int} {there:List Bool} {v:Int} (h1:vers.length=8) (h2:there.length=8):(ofV vers there v).length=8:=by unfold ofV; rw [List.length_zipWith]; omega
theorem of_l {β:Type} (kx:List Bool→Option β) (kr:Option β) (kind:Int) (vals vers:List Int) (there:List Bool) (v:Int) (h:there.length≤vers.length) (hl:there.length≤1000) (d:Nat):∀ (i n:Nat) (acc:List Bool),i+d=there.length→acc.length=i→d<n→spec_l21Of.l3 sl1 n kx kr kind vals vers there acc v (i:Int)=kx (acc++List.zipWith (fun t x=>t&&(x==v)) (there.drop i) (vers.drop i)):=by
 induction d with
 | zero =>
  intro i n acc hi ha hn
  obtain⟨n,rfl⟩:∃ m,n=m+1:=⟨n-1,by omega⟩
  rw [spec_l21Of.t3,List.drop_of_length_le (by omega:there.length≤i),List.zipWith_nil_left,List.append_nil]; exact cF (ltF (by omega)) rfl
 | succ d ih =>
  intro i n acc hi ha hn
  obtain⟨n,rfl⟩:∃ m,n=m+1:=⟨n-1,by omega⟩
  have h1:i<there.length:=by omega
  have h2:i<vers.length:=by omega
  have hn:=ih (i+1) n (acc ++ [there[i]&&vers[i]==v]) (by omega) (by rw [List.length_append,List.length_singleton,ha]) (by omega)
  rw [List.append_assoc] at hn
  rw [spec_l21Of.t3]
  unfold spec_l21Of.b3
  refine cT (ltT (by omega)) (cT (irT (by omega) (by omega)) ?_)
  rw [getN there i h1,getN vers i h2,w_succ (by omega),List.drop_eq_getElem_cons h1,List.drop_eq_getElem_cons h2,List.zipWith_cons_cons]
  cases c:there[i]
  ·rw [c, Bool.false_and] at hn
   rw [Bool.false_and]
   exact cF rfl (cT (fwT (by simp; omega)) hn)
  ·rw [c, Bool.true_and] at hn
   rw [Bool.true_and]
   exact cT rfl (cT (irT (by omega) (by omega)) (cT (fwT (by simp; omega)) hn))
theorem of_G {β:Type} (kind:Int) (vals vers:List Int) (there:List Bool) (v:Int) (h:there.length≤vers.length) (hl:there.length≤1000) (K:List Bool→Option β):spec_l21Of.G sl1 kind vals vers there v K=K (ofV vers there v):=
 (of_l K none kind vals vers there v h hl there.length 0 sl1.n [] (by omega) rfl (by rw [rounds_n]; omega)).trans rfl
theorem new_l {β:Type} (kx:Int→Int→List Int→List Int→List Bool→Option β) (kr:Option β) (k0 kind:Int) (vals:List Int) (there:List Bool) (v:Int) (d:Nat):∀ (i n:Nat),i+d=8→d<n→spec_l21New.l3 sl1 n kx kr k0 kind vals (List.replicate i v) there v (i:Int)=kx k0 kind vals (List.replicate 8 v) there:=by
 induction d with
 | zero =>
  intro i n hi hn
  obtain⟨n,rfl⟩:∃ m,n=m+1:=⟨n-1,by omega⟩
  obtain rfl:i=8:=by omega
  rw [spec_l21New.t3]; exact cF (ltF (by omega)) rfl
 | succ d ih =>
  intro i n hi hn
  obtain⟨n,rfl⟩:∃ m,n=m+1:=⟨n-1,by omega⟩
  rw [spec_l21New.t3]
  unfold spec_l21New.b3
  have e:=ih (i+1) n (by omega) (by omega)
  rw [List.replicate_succ'] at e
  refine cT (ltT (by omega)) (cT (fwT (by simp; omega)) ?_)
  rw [w_succ (by omega)]
  exact e
theorem new_G {β:Type} {kind:Int} (hk:kind=1∨kind=2) {data:List Int} (hd:vecV data=true) (v:Int) (K:List Int→List Int→List Bool→Int→Option β):
  spec_l21New.G sl1 kind data v K=K (allV kind data) (List.replicate 8 v) (setV 255) kind:=by
 unfold spec_l21New.G
 refine(all_G hk hd _).trans ((set_G (by omega) (by omega) _).trans ?_)
 exact new_l _ none 0 kind _ _ v 8 0 sl1.n (by omega) (by rw [rounds_n]; omega)
end Go.Proofs.YtnbighmbgmjbkaaGreat.E
end
section
namespace Go.Proofs.YtnbighmbgmjbkaaGreat.E
open Go Go.RowKit
set_option maxRecDepth 100000
theorem has_nat {β:Type} (m:List (List Int)) (v:List Int) (K:Bool→Option β):spec_l3Has.G sl1 m v K=(spec_l3Has.G sl1 m v some).bind K:=by
 have h:∀ {γ:Type} (K:Bool→Option γ),spec_l3Has.G sl0 m v K=(spec_l3Has.G sl0 m v (fun b=>some ((),(b,())))).bind (fun y=>K y.2.1):=fun K=>spec_l3Has.ok.nat ((),(m,(v,()))) (fun y=>K y.2.1)
 rw [sl_eq] at h
 rw [h K,h some,Option.bind_assoc]; rfl
theorem by_nat {β:Type} (m:List (List Int)) (v:List Int) (K:List Int→Bool→Option β):spec_l3By.G sl1 m v K=(spec_l3By.G sl1 m v (fun a b=>some (a,b))).bind (fun r=>K r.1 r.2):=by
 have h:∀ {γ:Type} (K:List Int→Bool→Option γ),spec_l3By.G sl0 m v K=(spec_l3By.G sl0 m v (fun a b=>some ((),(a,(b,()))))).bind (fun y=>K y.2.1 y.2.2.1):=fun K=>spec_l3By.ok.nat ((),(m,(v,()))) (fun y=>K y.2.1 y.2.2.1)
 rw [sl_eq] at h
 rw [h K,h (fun a b=>some (a,b)),Option.bind_assoc]; rfl
noncomputable def mixF (kind:Int) (c:Nat):List Nat→List Int→Int
 | a :: s, b :: t => b * (rowS kind (a : Int)).getD c 0 + mixF kind c s t
 | _, _ => 0
noncomputable def rowsF (kind:Int) (I:List Nat):List (List Int):=I.map fun(a:Nat)=>rowS kind (a:Int)
noncomputable def hasF (kind:Int) (I:List Nat) (i:Nat):Option Bool:=spec_l3Has.G sl1 (rowsF kind I) (rowS kind (i:Int)) some
noncomputable def byO (kind:Int) (I:List Nat) (i:Nat):Option (List Int×Bool):=spec_l3By.G sl1 (rowsF kind I) (rowS kind (i:Int)) (fun a b=>some (a,b))
noncomputable def byF (kind:Int) (I:List Nat) (i:Nat):List Int×Bool:=(byO kind I i).getD ([],false)
noncomputable def okBy (kind:Int) (I:List Nat) (i:Nat):Option (List Int×Bool)→Bool
 | some (r, b) => b && (Nat.beq r.length I.length && (r.all (fun x => inV x 0 30) && [0, 1, 2, 3].all fun c => Int.tmod (mixF kind c I r) 31 == (rowS kind (i : Int)).getD c 0))
 | none => false
noncomputable def okAll (kind:Int):Nat→Nat→List Nat→Bool
 | 0, _, I => Nat.ble I.length 4
 | d + 1, i, I => okAll kind d (i + 1) I && match hasF kind I i with
  | some true => okBy kind I i (byO kind I i)
  | some false => Nat.ble I.length 3 && okAll kind d (i + 1) (I ++ [i])
  | none => false
theorem okAll_step {kind:Int} {d i:Nat} {J:List Nat} (h1:hasF kind J i=some false) (h2:Nat.ble J.length 3=true) (h3:okAll kind d (i+1) J=true) (h4:okAll kind d (i+1) (J ++ [i])=true):okAll kind (d+1) i J=true:=by
 unfold okAll
 rw [h1,h3,h4,h2]; rfl
end Go.Proofs.YtnbighmbgmjbkaaGreat.E
end
section
namespace Go.Proofs.YtnbighmbgmjbkaaGreat.E
open Go
def invT1:List (List Nat×List (List Int)):=[([0,1,2,3],[[1,0,0,0],[0,1,0,0],[0,0,1,0],[0,0,0,1]]),([0,1,2,5],[[1,0,0,0],[0,1,0,0],[0,0,1,0],[0,0,30,1]]),([0,1,2,6],[[1,0,0,0],[0,1,0,0],[0,0,1,0],[27,23,15,4]]),([0,1,2,7],[[1,0,0,0],[0,1,0,0],[0,0,1,0],[8,24,10,23]]),([0,1,3,5],[[1,0,0,0],[0,1,0,0],[0,0,30,1],[0,0,1,0]]),([0,1,3,6],[[1,0,0,0],[0,1,0,0],[23,15,29,8],[0,0,1,0]]),([0,1,3,7],[[1,0,0,0],[0,1,0,0],[24,10,28,7],[0,0,1,0]]),([0,1,5,6],[[1,0,0,0],[0,1,0,0],[8,16,2,23],[23,15,30,8]]),([0,1,5,7],[[1,0,0,0],[0,1,0,0],[19,26,17,12],[12,5,15,19]]),([0,1,6,7],[[1,0,0,0],[0,1,0,0],[21,25,24,17],[1,26,23,7]]),([0,2,3,4],[[1,0,0,0],[30,0,0,1],[0,1,0,0],[0,0,1,0]]),([0,2,3,6],[[1,0,0,0],[15,29,27,16],[0,1,0,0],[0,0,1,0]]),([0,2,3,7],[[1,0,0,0],[10,28,22,21],[0,1,0,0],[0,0,1,0]]),([0,2,4,5],[[1,0,0,0],[30,0,1,0],[0,1,0,0],[0,30,0,1]]),([0,2,4,6],[[1,0,0,0],[30,0,1,0],[0,1,0,0],[4,15,23,4]]),([0,2,4,7],[[1,0,0,0],[30,0,1,0],[0,1,0,0],[15,10,24,23]]),([0,2,5,6],[[1,0,0,0],[15,2,27,16],[0,1,0,0],[0,30,1,0]]),([0,2,5,7],[[1,0,0,0],[10,6,22,21],[0,1,0,0],[0,30,1,0]]),([0,2,6,7],[[1,0,0,0],[19,5,4,8],[0,1,0,0],[30,6,3,29]]),([0,3,4,5],[[1,0,0,0],[30,0,1,0],[0,30,0,1],[0,1,0,0]]),([0,3,4,6],[[1,0,0,0],[30,0,1,0],[8,29,15,8],[0,1,0,0]]),([0,3,4,7],[[1,0,0,0],[30,0,1,0],[14,28,10,7],[0,1,0,0]]),([0,3,5,6],[[1,0,0,0],[15,29,29,16],[0,30,1,0],[0,1,0,0]]),([0,3,5,7],[[1,0,0,0],[10,25,28,21],[0,30,1,0],[0,1,0,0]]),([0,3,6,7],[[1,0,0,0],[25,6,17,20],[26,26,15,21],[0,1,0,0]]),([0,4,5,6],[[1,0,0,0],[30,1,0,0],[23,16,2,23],[8,15,30,8]]),([0,4,5,7],[[1,0,0,0],[30,1,0,0],[24,26,17,12],[7,5,15,19]]),([0,4,6,7],[[1,0,0,0],[30,1,0,0],[27,25,24,17],[6,26,23,7]]),([0,5,6,7],[[1,0,0,0],[2,14,24,5],[9,9,4,18],[22,23,27,13]]),([1,2,3,4],[[30,0,0,1],[1,0,0,0],[0,1,0,0],[0,0,1,0]]),([1,2,3,6],[[29,27,23,1],[1,0,0,0],[0,1,0,0],[0,0,1,0]]),([1,2,3,7],[[28,22,4,1],[1,0,0,0],[0,1,0,0],[0,0,1,0]]),([1,2,4,5],[[30,0,1,0],[1,0,0,0],[0,1,0,0],[0,30,0,1]]),([1,2,4,6],[[30,0,1,0],[1,0,0,0],[0,1,0,0],[27,15,27,4]]),([1,2,4,7],[[30,0,1,0],[1,0,0,0],[0,1,0,0],[16,10,8,23]]),([1,2,5,6],[[29,4,23,1],[1,0,0,0],[0,1,0,0],[0,30,1,0]]),([1,2,5,7],[[28,18,4,1],[1,0,0,0],[0,1,0,0],[0,30,1,0]]),([1,2,6,7],[[18,3,21,11],[1,0,0,0],[0,1,0,0],[13,3,13,18]]),([1,3,4,5],[[30,0,1,0],[1,0,0,0],[0,30,0,1],[0,1,0,0]]),([1,3,4,6],[[30,0,1,0],[1,0,0,0],[23,29,23,8],[0,1,0,0]]),([1,3,4,7],[[30,0,1,0],[1,0,0,0],[17,28,24,7],[0,1,0,0]]),([1,3,5,6],[[29,27,27,1],[1,0,0,0],[0,30,1,0],[0,1,0,0]]),([1,3,5,7],[[28,13,22,1],[1,0,0,0],[0,30,1,0],[0,1,0,0]]),([1,3,6,7],[[5,1,8,24],[1,0,0,0],[6,21,6,25],[0,1,0,0]]),([1,4,5,6],[[30,1,0,0],[1,0,0,0],[8,8,2,23],[23,23,30,8]]),([1,4,5,7],[[30,1,0,0],[1,0,0,0],[7,19,17,12],[24,12,15,19]]),([1,4,6,7],[[30,1,0,0],[1,0,0,0],[4,21,24,17],[25,1,23,7]]),([1,5,6,7],[[16,24,19,13],[1,0,0,0],[20,8,20,11],[11,24,11,20]]),([2,3,4,6],[[4,8,2,30],[27,23,30,1],[1,0,0,0],[0,1,0,0]]),([2,3,4,7],[[20,29,17,15],[11,2,15,16],[1,0,0,0],[0,1,0,0]]),([2,3,6,7],[[6,30,3,29],[26,12,30,1],[1,0,0,0],[0,1,0,0]]),([2,4,5,6],[[27,2,8,30],[4,30,23,1],[1,0,0,0],[30,0,1,0]]),([2,4,5,7],[[22,17,29,15],[9,15,2,16],[1,0,0,0],[30,0,1,0]]),([2,4,6,7],[[23,14,6,12],[8,18,25,19],[1,0,0,0],[14,17,28,17]]),([2,5,6,7],[[7,30,3,29],[14,12,30,1],[1,0,0,0],[30,1,0,0]]),([3,4,5,6],[[4,2,4,30],[27,30,27,1],[30,0,1,0],[1,0,0,0]]),([3,4,5,7],[[9,17,20,15],[22,15,11,16],[30,0,1,0],[1,0,0,0]]),([3,4,6,7],[[26,6,22,4],[5,26,9,27],[20,1,29,1],[1,0,0,0]]),([3,5,6,7],[[24,6,3,29],[17,26,30,1],[30,1,0,0],[1,0,0,0]]),([4,5,6,7],[[21,16,23,19],[11,15,8,12],[3,29,25,3],[28,3,6,28]])]
def invT2:List (List Nat×List (List Int)):=[([0,1,2,3],[[4,25,4,30],[6,25,24,7],[17,27,19,30],[5,16,15,26]]),([0,1,2,4],[[27,26,18,23],[0,18,19,25],[9,28,2,23],[27,21,23,22]]),([0,1,2,5],[[16,11,2,3],[15,30,7,10],[29,13,17,3],[3,8,5,15]]),([0,1,2,6],[[19,2,25,17],[25,0,1,5],[1,4,9,17],[18,25,27,23]]),([0,1,2,7],[[30,27,14,23],[10,11,16,25],[12,29,29,23],[11,26,3,22]]),([0,1,3,4],[[24,7,12,20],[2,10,23,27],[19,19,22,2],[18,26,5,13]]),([0,1,3,5],[[28,28,1,6],[26,12,19,5],[7,18,24,13],[2,4,18,7]]),([0,1,3,6],[[10,22,18,13],[11,7,28,16],[30,5,4,23],[12,28,12,10]]),([0,1,3,7],[[6,18,11,28],[18,14,17,13],[11,17,25,9],[28,13,9,12]]),([0,1,4,5],[[3,13,1,15],[16,6,19,21],[27,30,24,12],[17,13,18,14]]),([0,1,4,6],[[21,8,29,5],[4,30,21,7],[29,26,3,4],[9,29,9,15]]),([0,1,4,7],[[25,15,28,26],[22,15,1,24],[26,13,27,27],[21,19,6,16]]),([0,1,5,6],[[9,1,10,12],[6,26,19,11],[16,21,16,9],[1,14,17,30]]),([0,1,5,7],[[24,29,19,22],[12,0,4,15],[4,11,15,1],[23,22,24,24]]),([0,1,6,7],[[13,25,15,10],[26,22,26,19],[10,16,20,16],[14,30,1,17]]),([0,2,3,4],[[18,26,5,14],[20,15,13,14],[16,13,3,30],[9,8,10,4]]),([0,2,3,5],[[21,27,3,12],[23,16,11,12],[18,24,12,8],[1,26,5,30]]),([0,2,3,6],[[23,12,23,5],[25,1,0,5],[9,14,15,24],[6,4,24,28]]),([0,2,3,7],[[20,3,2,7],[22,23,10,7],[7,8,1,15],[14,28,18,2]]),([0,2,4,5],[[10,13,10,30],[24,6,16,16],[5,30,9,18],[24,13,27,29]]),([0,2,4,6],[[8,23,11,21],[25,1,0,5],[10,5,22,25],[20,2,29,11]]),([0,2,4,7],[[11,29,1,22],[8,29,5,20],[18,21,16,7],[26,14,9,13]]),([0,2,5,6],[[30,6,20,7],[25,1,0,5],[23,2,9,28],[16,22,2,22]]),([0,2,5,7],[[18,17,7,21],[12,0,4,15],[6,15,19,22],[27,30,1,4]]),([0,2,6,7],[[2,11,1,18],[25,1,5,0],[29,12,16,5],[7,7,9,8]]),([0,3,4,5],[[2,26,6,29],[6,12,7,6],[8,29,26,30],[16,26,23,28]]),([0,3,4,6],[[14,3,19,27],[1,19,30,12],[14,2,17,29],[3,7,27,25]]),([0,3,4,7],[[27,7,13,16],[24,7,17,14],[5,4,14,8],[7,13,18,24]]),([0,3,5,6],[[6,8,9,9],[21,22,24,26],[15,13,26,8],[21,19,3,19]]),([0,3,5,7],[[16,29,14,4],[12,0,4,15],[17,11,27,7],[18,22,17,5]]),([0,3,6,7],[[19,26,19,30],[4,8,1,18],[25,3,30,4],[15,25,12,10]]),([0,4,5,6],[[25,18,7,13],[19,3,3,6],[11,6,15,30],[8,4,6,13]]),([0,4,5,7],[[15,27,4,17],[12,0,4,15],[7,22,20,13],[29,13,3,17]]),([0,4,6,7],[[12,8,24,19],[9,12,24,17],[23,20,27,23],[19,22,18,3]]),([0,5,6,7],[[14,13,8,28],[12,4,0,15],[28,17,18,30],[9,28,5,20]]),([1,2,3,4],[[10,11,15,27],[18,19,0,25],[2,10,5,14],[5,16,15,26]]),([1,2,3,5],[[9,15,9,30],[1,25,22,14],[21,27,26,19],[27,21,23,22]]),([1,2,3,6],[[27,17,7,12],[28,28,19,18],[20,20,2,20],[3,8,5,15]]),([1,2,3,7],[[8,12,6,6],[15,5,2,9],[9,22,21,10],[18,25,27,23]]),([1,2,4,5],[[23,21,6,13],[18,19,25,0],[27,3,7,25],[18,26,5,13]]),([1,2,4,6],[[7,30,19,7],[18,19,25,0],[1,6,1,23],[2,4,18,7]]),([1,2,4,7],[[17,23,13,10],[18,19,25,0],[25,14,30,24],[12,28,12,10]]),([1,2,5,6],[[28,24,19,23],[13,16,25,8],[7,22,1,1],[17,13,18,14]]),([1,2,5,7],[[6,6,2,18],[4,3,11,13],[2,1,7,21],[9,29,9,15]]),([1,2,6,7],[[18,13,21,11],[8,26,7,21],[13,10,27,12],[1,14,17,30]]),([1,3,4,5],[[5,16,16,26],[15,13,6,28],[20,20,4,18],[9,8,10,4]]),([1,3,4,6],[[15,9,30,9],[21,15,2,24],[15,8,28,11],[1,26,5,30]]),([1,3,4,7],[[1,21,14,27],[25,16,11,10],[22,2,5,2],[6,4,24,28]]),([1,3,5,6],[[29,24,7,3],[24,16,17,5],[26,22,21,24],[24,13,27,29]]),([1,3,5,7],[[4,25,4,30],[3,28,12,19],[12,30,28,23],[20,2,29,11]]),([1,3,6,7],[[12,16,27,8],[27,1,19,15],[6,29,3,24],[16,22,2,22]]),([1,4,5,6],[[19,17,2,25],[7,1,24,30],[22,13,19,8],[16,26,23,28]]),([1,4,5,7],[[24,10,10,19],[13,5,15,29],[5,12,29,16],[3,7,27,25]]),([1,4,6,7],[[10,11,8,3],[23,22,12,5],[14,18,17,13],[21,19,3,19]]),([1,5,6,7],[[9,17,13,24],[21,3,22,16],[18,25,28,22],[8,4,6,13]]),([2,3,4,5],[[20,17,5,21],[29,16,4,13],[18,24,22,29],[5,16,15,26]]),([2,3,4,6],[[2,27,21,13],[9,3,8,11],[2,26,19,15],[27,21,23,22]]),([2,3,4,7],[[16,1,16,30],[28,12,30,23],[11,27,18,6],[3,8,5,15]]),([2,3,5,6],[[14,10,14,25],[18,29,26,20],[4,18,23,17],[18,26,5,13]]),([2,3,5,7],[[19,13,8,23],[22,19,15,6],[26,25,9,2],[2,4,18,7]]),([2,3,6,7],[[5,17,8,2],[19,11,15,17],[18,14,9,21],[17,13,18,14]]),([2,4,5,6],[[1,15,4,12],[2,28,28,4],[24,27,5,6],[9,8,10,4]]),([2,4,5,7],[[8,7,20,28],[25,15,23,30],[12,23,13,14],[1,26,5,30]]),([2,4,6,7],[[7,17,15,24],[13,11,25,13],[16,14,2,30],[24,13,27,29]]),([2,5,6,7],[[18,3,5,6],[11,22,24,5],[5,28,12,17],[16,26,23,28]]),([3,4,5,6],[[4,9,8,11],[8,16,5,2],[3,7,8,13],[5,16,15,26]]),([3,4,5,7],[[30,29,9,26],[24,14,8,16],[14,25,12,11],[27,21,23,22]]),([3,4,6,7],[[13,4,6,9],[2,9,26,25],[12,2,8,9],[18,26,5,13]]),([3,5,6,7],[[14,6,2,10],[12,29,17,4],[28,3,6,25],[9,8,10,4]]),([4,5,6,7],[[25,15,27,27],[17,19,3,23],[19,21,25,28],[5,16,15,26]])]
def invT (kind:Int):List (List Nat×List (List Int)):=bif kind==1 then invT1 else invT2
def covL (kind:Int) (sh:List Nat):Bool:=(invT kind).any fun e=>e.1.all fun b=>sh.any (Nat.beq b)
end Go.Proofs.YtnbighmbgmjbkaaGreat.E
end
section
namespace Go.Proofs.YtnbighmbgmjbkaaGreat.E
open Go Go.RowKit
set_option maxRecDepth 100000
theorem tm31 (a:Int):Int.tmod (Int.tmod a 31+31) 31=a%31:=by
 rcases Int.le_total 0 a with h | h
 ·rw [Int.tmod_eq_emod_of_nonneg h,Int.tmod_eq_emod_of_nonneg (by omega)]; omega
 ·obtain ⟨b, rfl⟩ : ∃ b, a = -b := ⟨-a, by omega⟩
  rw [Int.neg_tmod,Int.tmod_eq_emod_of_nonneg (a:=b) (by omega),Int.tmod_eq_emod_of_nonneg (by omega)]; omega
theorem el_G {β:Type} {a:Int} (h0:-1000000≤a) (h1:a≤1000000) (K:Int→Option β):impl_elementOf.G sl1 a K=K (a%31):=by
 have h:-31<Int.tmod a 31∧Int.tmod a 31<31:=by
  have:=tm31 a
  exact⟨Int.lt_tmod_of_pos a (by omega),Int.tmod_lt_of_pos a (by omega)⟩
 show K (Int.tmod (sl1.w (Int.tmod a 31+31)) 31)=K (a%31)
 rw [wE (by omega) (by omega),tm31]
theorem plus_G {β:Type} {a b:Int} (ha:-1000≤a∧a≤1000) (hb:-1000≤b∧b≤1000) (K:Int→Option β):impl_element_plus.G sl1 a b K=K ((a+b)%31):=by
 show impl_elementOf.G sl1 (sl1.w (a+b)) _=_
 rw [wE (by omega) (by omega)]
 exact el_G (by omega) (by omega) _
theorem minus_G {β:Type} {a b:Int} (ha:-1000≤a∧a≤1000) (hb:-1000≤b∧b≤1000) (K:Int→Option β):impl_element_minus.G sl1 a b K=K ((a-b)%31):=by
 show impl_elementOf.G sl1 (sl1.w (a-b)) _=_
 rw [wE (by omega) (by omega)]
 exact el_G (by omega) (by omega) _
theorem times_G {β:Type} {a b:Int} (ha:0≤a∧a≤30) (hb:0≤b∧b≤30) (K:Int→Option β):impl_element_times.G sl1 a b K=K ((a*b)%31):=by
 have h0:0≤a*b:=Int.mul_nonneg ha.1 hb.1
 have h1:a*b≤30*30:=Int.mul_le_mul ha.2 hb.2 hb.1 (by omega)
 show impl_elementOf.G sl1 (sl1.w (a*b)) _=_
 rw [wE (by omega) (by omega)]
 exact el_G (by omega) (by omega) _
abbrev El (a:Int):Prop:=0≤a∧a≤30
theorem El.mod (a:Int):El (a%31):=by constructor <;> omega
theorem El.wide {a:Int} (h:El a):-1000≤a∧a≤1000:=by have:=h.1; have:=h.2; omega
theorem n5:sl1.n=4294967291+1+1+1+1+1:=rfl
theorem vtimes_G {β:Type} {a b c d e:Int} (ha:El a) (hb:El b) (hc:El c) (hd:El d) (he:El e) (K:List Int→Option β):
  impl_vector_times.G sl1 [a,b,c,d] e K=K [a*e%31,b*e%31,c*e%31,d*e%31]:=by
 unfold impl_vector_times.G
 rw [n5]
 rw [impl_vector_times.t2]; unfold impl_vector_times.b2
 refine cT rfl (cT rfl ((times_G (a:=a) ha he _).trans (cT rfl ?_)))
 rw [impl_vector_times.t2]; unfold impl_vector_times.b2
 refine cT rfl (cT rfl ((times_G (a:=b) hb he _).trans (cT rfl ?_)))
 rw [impl_vector_times.t2]; unfold impl_vector_times.b2
 refine cT rfl (cT rfl ((times_G (a:=c) hc he _).trans (cT rfl ?_)))
 rw [impl_vector_times.t2]; unfold impl_vector_times.b2
 refine cT rfl (cT rfl ((times_G (a:=d) hd he _).trans (cT rfl ?_)))
 rw [impl_vector_times.t2]; unfold impl_vector_times.b2
 exact cF rfl rfl
theorem vplus_G {β:Type} {a b c d a' b' c' d':Int} (ha:El a) (hb:El b) (hc:El c) (hd:El d) (ha':El a') (hb':El b') (hc':El c') (hd':El d') (K:List Int→Option β):
  impl_vector_plus.G sl1 [a,b,c,d] [a',b',c',d'] K=K [(a+a')%31,(b+b')%31,(c+c')%31,(d+d')%31]:=by
 unfold impl_vector_plus.G
 rw [n5]
 rw [impl_vector_plus.t2]; unfold impl_vector_plus.b2
 refine cT rfl (cT rfl (cT rfl ((plus_G (a:=a) (b:=a') ha.wide ha'.wide _).trans (cT rfl ?_))))
 rw [impl_vector_plus.t2]; unfold impl_vector_plus.b2
 refine cT rfl (cT rfl (cT rfl ((plus_G (a:=b) (b:=b') hb.wide hb'.wide _).trans (cT rfl ?_))))
 rw [impl_vector_plus.t2]; unfold impl_vector_plus.b2
 refine cT rfl (cT rfl (cT rfl ((plus_G (a:=c) (b:=c') hc.wide hc'.wide _).trans (cT rfl ?_))))
 rw [impl_vector_plus.t2]; unfold impl_vector_plus.b2
 refine cT rfl (cT rfl (cT rfl ((plus_G (a:=d) (b:=d') hd.wide hd'.wide _).trans (cT rfl ?_))))
 rw [impl_vector_plus.t2]; unfold impl_vector_plus.b2
 exact cF rfl rfl
theorem vminus_G {β:Type} {a b c d a' b' c' d':Int} (ha:El a) (hb:El b) (hc:El c) (hd:El d) (ha':El a') (hb':El b') (hc':El c') (hd':El d') (K:List Int→Option β):
  impl_vector_minus.G sl1 [a,b,c,d] [a',b',c',d'] K=K [(a-a')%31,(b-b')%31,(c-c')%31,(d-d')%31]:=by
 have m:∀ x y:Int,(x+y*30%31)%31=(x-y)%31:=fun x y=>by omega
 unfold impl_vector_minus.G
 refine(el_G (a:=-1) (by omega) (by omega) _).trans ((vtimes_G (e:=30) ha' hb' hc' hd' (by constructor <;> omega) _).trans ((vplus_G ha hb hc hd (El.mod _) (El.mod _) (El.mod _) (El.mod _) _).trans ?_))
 rw [m,m,m,m]
theorem vdot_G {β:Type} {a b c d a' b' c' d':Int} (ha:El a) (hb:El b) (hc:El c) (hd:El d) (ha':El a') (hb':El b') (hc':El c') (hd':El d') (K:Int→Option β):
  impl_vector_dot.G sl1 [a,b,c,d] [a',b',c',d'] K=K ((a*a'+b*b'+c*c'+d*d')%31):=by
 unfold impl_vector_dot.G
 rw [n5]
 rw [impl_vector_dot.t3]; unfold impl_vector_dot.b3
 refine cT rfl (cT rfl (cT rfl ((times_G (a:=a) (b:=a') ha ha' _).trans ((plus_G (a:=0) (by omega) (El.mod _).wide _).trans ?_))))
 rw [impl_vector_dot.t3]; unfold impl_vector_dot.b3
 refine cT rfl (cT rfl (cT rfl ((times_G (a:=b) (b:=b') hb hb' _).trans ((plus_G (El.mod _).wide (El.mod _).wide _).trans ?_))))
 rw [impl_vector_dot.t3]; unfold impl_vector_dot.b3
 refine cT rfl (cT rfl (cT rfl ((times_G (a:=c) (b:=c') hc hc' _).trans ((plus_G (El.mod _).wide (El.mod _).wide _).trans ?_))))
 rw [impl_vector_dot.t3]; unfold impl_vector_dot.b3
 refine cT rfl (cT rfl (cT rfl ((times_G (a:=d) (b:=d') hd hd' _).trans ((plus_G (El.mod _).wide (El.mod _).wide _).trans ?_))))
 rw [impl_vector_dot.t3]; unfold impl_vector_dot.b3
 refine cF rfl ?_
 refine congrArg K ?_
 generalize a*a'=p,b*b'=q,c*c'=r,d*d'=s
 omega
def V4 (u:List Int):Prop:=∃ a b c d,u = [a,b,c,d]∧El a∧El b∧El c∧El d
theorem V4.at {u:List Int} (h:V4 u) {i:Nat} (hi:i<4):El (u.getD i 0):=by
 obtain⟨a,b,c,d,rfl,ha,hb,hc,hd⟩:=h
 match i,hi with
 | 0, _ => exact ha
 | 1, _ => exact hb
 | 2, _ => exact hc
 | 3, _ => exact hd
def mulV (u:List Int) (e:Int):List Int:=u.map fun x=>x*e%31
def subV (u v:List Int):List Int:=List.zipWith (fun x y=>(x-y)%31) u v
theorem mulV4 {u:List Int} (h:V4 u) (e:Int):V4 (mulV u e):=by
 obtain⟨a,b,c,d,rfl,_⟩:=h
 exact⟨_,_,_,_,rfl,El.mod _,El.mod _,El.mod _,El.mod _⟩
theorem subV4 {u v:List Int} (h:V4 u) (k:V4 v):V4 (subV u v):=by
 obtain⟨a,b,c,d,rfl,_⟩:=h
 obtain⟨a',b',c',d',rfl,_⟩:=k
 exact⟨_,_,_,_,rfl,El.mod _,El.mod _,El.mod _,El.mod _⟩
theorem mulV_G {β:Type} {u:List Int} (h:V4 u) {e:Int} (he:El e) (K:List Int→Option β):impl_vector_times.G sl1 u e K=K (mulV u e):=by
 obtain⟨a,b,c,d,rfl,ha,hb,hc,hd⟩:=h
 exact vtimes_G ha hb hc hd he K
theorem subV_G {β:Type} {u v:List Int} (h:V4 u) (k:V4 v) (K:List Int→Option β):impl_vector_minus.G sl1 u v K=K (subV u v):=by
 obtain⟨a,b,c,d,rfl,ha,hb,hc,hd⟩:=h
 obtain⟨a',b',c',d',rfl,ha',hb',hc',hd'⟩:=k
 exact vminus_G ha hb hc hd ha' hb' hc' hd' K
abbrev Told:=List Int×(Int×Unit)
abbrev noT:Told:=((List.replicate 4 0),(0,()))
def ToldOk (r:Told):Prop:=V4 r.1∧El r.2.1
def stepT (ri rj:Told) (c:Int):Told:=(subV rj.1 (mulV ri.1 c),((rj.2.1-ri.2.1*c%31)%31,()))
theorem stepT_ok {ri rj:Told} (h:ToldOk ri) (k:ToldOk rj) (c:Int):ToldOk (stepT ri rj c):=⟨subV4 k.1 (mulV4 h.1 c),El.mod _⟩
def elimJ (i at_:Nat):Nat→Nat→List Told→List Told
 | 0, _, l => l
 | d + 1, j, l => elimJ i at_ d (j + 1) (if j = i then l else if (l.getD j noT).1.getD at_ 0 = 0 then l else l.set j (stepT (l.getD i noT) (l.getD j noT) ((l.getD j noT).1.getD at_ 0)))
theorem getD_set_self {α:Type} (l:List α) (j:Nat) (x d:α) (h:j<l.length):(l.set j x).getD j d=x:=by
 rw [List.getD_eq_getElem?_getD,List.getElem?_set_self h]; rfl
theorem getD_set_ne {α:Type} (l:List α) (j i:Nat) (x d:α) (h:j≠i):(l.set j x).getD i d=l.getD i d:=by
 rw [List.getD_eq_getElem?_getD,List.getElem?_set_ne h,←List.getD_eq_getElem?_getD]
theorem getD_ok {l:List Told} (hv:∀ r∈l,ToldOk r) {i:Nat} (hi:i<l.length):ToldOk (l.getD i noT):=by
 rw [List.getD_eq_getElem?_getD,List.getElem?_eq_getElem hi]
 exact hv _ (List.getElem_mem hi)
theorem set_ok {l:List Told} (hv:∀ r∈l,ToldOk r) {j:Nat} {x:Told} (hx:ToldOk x):∀ r∈l.set j x,ToldOk r:=fun r hr=>by
 rcases List.mem_or_eq_of_mem_set hr with h | rfl
 ·exact hv r h
 ·exact hx
theorem elimJ_ok (i at_:Nat) (d:Nat):∀ (j:Nat) (l:List Told),(∀ r∈l,ToldOk r)→i<l.length→j+d=l.length→(∀ r∈elimJ i at_ d j l,ToldOk r)∧(elimJ i at_ d j l).length=l.length:=by
 induction d with
 | zero => intro j l hv _ _; exact ⟨hv, rfl⟩
 | succ d ih =>
  intro j l hv hi hj
  rw [elimJ]
  split
  ·exact ih (j+1) l hv hi (by omega)
  ·split
   ·exact ih (j+1) l hv hi (by omega)
   ·have := ih (j + 1) (l.set j (stepT (l.getD i noT) (l.getD j noT) ((l.getD j noT).1.getD at_ 0))) (set_ok hv (stepT_ok (getD_ok hv hi) (getD_ok hv (by omega)) _)) (by simp; omega) (by simp; omega)
    simpa using this
theorem elim_l {β:Type} (kx:List Int→List Int→List Told→Int→Int→Option β) (kr:Option β) (s0 s1:List Int) (s5 s6:Int) (i at_:Nat) (hat:at_<4) (d:Nat):∀ (l:List Told) (N j n:Nat),(∀ r∈l,ToldOk r)→l.length=N→N≤8→i<N→j+d=N→d<n→
  impl_solve.l20 sl1 n kx kr s0 s1 l (i:Int) (at_:Int) s5 s6 (N:Int) (j:Int)=kx s0 s1 (elimJ i at_ d j l) s5 s6:=by
 induction d with
 | zero =>
  intro l N j n hv hN h8 hi hj hn
  obtain⟨n,rfl⟩:∃ m,n=m+1:=⟨n-1,by omega⟩
  rw [impl_solve.t20]
  exact cF (ltF (by omega)) rfl
 | succ d ih =>
  intro l N j n hv hN h8 hi hj hn
  obtain⟨n,rfl⟩:∃ m,n=m+1:=⟨n-1,by omega⟩
  rw [impl_solve.t20,elimJ]
  unfold impl_solve.b20
  refine cT (ltT (by omega)) (cT (irT (by omega) (by omega)) (cT (irT (by omega) (by omega)) ?_))
  rw [w_succ (by omega)]
  by_cases hji:j=i
  ·rw [if_pos hji]
   exact cF (neF (by omega)) (ih l N (j+1) n hv hN h8 hi (by omega) (by omega))
  ·rw [if_neg hji]
   refine cT (neT (by omega)) ?_
   have oi:=getD_ok hv (i:=i) (by omega)
   have oj:=getD_ok hv (i:=j) (by omega)
   have ec:=oj.1.at hat
   by_cases hc:(l.getD j noT).1.getD at_ 0=0
   ·rw [if_pos hc]
    exact cF (neF hc) (ih l N (j+1) n hv hN h8 hi (by omega) (by omega))
   ·rw [if_neg hc]
    have hl:j<l.length:=by omega
    have e:=ih (l.set j (stepT (l.getD i noT) (l.getD j noT) ((l.getD j noT).1.getD at_ 0))) N (j+1) n (set_ok hv (stepT_ok oi oj _)) (by simpa using hN) h8 hi (by omega) (by omega)
    refine cT (neT hc) (cT (irT (by omega) (by omega)) (cT (irT (by omega) (by omega)) ((mulV_G oi.1 ec _).trans ((subV_G oj.1 (mulV4 oi.1 _) _).trans ?_))))
    have q1:=getD_set_self l j ((subV (l.getD j noT).1 (mulV (l.getD i noT).1 ((l.getD j noT).1.getD at_ 0))),(l.getD j noT).2) noT hl
    have q2:=getD_set_ne l j i ((subV (l.getD j noT).1 (mulV (l.getD i noT).1 ((l.getD j noT).1.getD at_ 0))),(l.getD j noT).2) noT hji
    refine cT (irT (by omega) (by omega)) (cT (irT (by omega) (by simp; omega)) (cT (irT (by omega) (by simp; omega)) ?_))
    simp only [Int.toNat_natCast]
    rw [q1,q2]
    refine(times_G oi.2 ec _).trans ((minus_G oj.2.wide (El.mod _).wide _).trans (cT (irT (by omega) (by simp; omega)) ?_))
    rw [List.set_set]
    exact e
def leadN:List Int→Nat
 | [] => 0
 | x :: r => if x = 0 then leadN r + 1 else 0
theorem lead_l {β:Type} (kx:Option β) (kr:Int→Option β) (u:List Int) (hs:u.length≤1000) (d:Nat):∀ (i n:Nat),i+d=u.length→leadN (u.drop i)<d→d<n→
  slices_IndexFunc_Simpl_element_impl_element.l2 sl1 n kx kr u (u.length:Int) (i:Int)=kr ((i+leadN (u.drop i):Nat):Int):=by
 induction d with
 | zero => intro i n _ h _; omega
 | succ d ih =>
  intro i n hi h hn
  obtain⟨n,rfl⟩:∃ m,n=m+1:=⟨n-1,by omega⟩
  have h1:i<u.length:=by omega
  rw [List.drop_eq_getElem_cons h1] at h ⊢
  rw [slices_IndexFunc_Simpl_element_impl_element.t2]
  unfold slices_IndexFunc_Simpl_element_impl_element.b2
  refine cT (ltT (by omega)) (cT (irT (by omega) (by omega)) ?_)
  rw [getN u i h1,w_succ (by omega)]
  unfold impl_vector_lead_1.G
  rw [leadN] at h ⊢
  by_cases h0:u[i]=0
  ·rw [if_pos h0] at h ⊢
   refine cF (neF h0) ((ih (i+1) n (by omega) (by omega) (by omega)).trans ?_)
   rw [show i+1+leadN (u.drop (i+1))=i+(leadN (u.drop (i+1))+1) from by omega]
  ·rw [if_neg h0]
   exact cT (neT h0) rfl
theorem lead_G {β:Type} {u:List Int} (h:V4 u) (hl:leadN u<4) (K:Int→Option β):impl_vector_lead.G sl1 u K=K (leadN u:Int):=by
 have h4:u.length=4:=by obtain⟨a,b,c,d,rfl,_⟩:=h; rfl
 have e:=lead_l (K (-1)) (fun y1=>K y1) u (by omega) 4 0 sl1.n (by omega) (by simpa using hl) (by rw [rounds_n]; omega)
 rw [List.drop_zero,Nat.zero_add] at e
 exact e
def elimA (N:Nat):Nat→Nat→List Told→List Told
 | 0, _, l => l
 | d + 1, i, l => elimA N d (i + 1) (elimJ i (leadN (l.getD i noT).1) N 0 l)
def elimOk (N:Nat):Nat→Nat→List Told→Bool
 | 0, _, l => l.all fun r => Nat.blt (leadN r.1) 4
 | d + 1, i, l => Nat.blt (leadN (l.getD i noT).1) 4 && elimOk N d (i + 1) (elimJ i (leadN (l.getD i noT).1) N 0 l)
theorem elimA_l {β:Type} (kx:List Int→List Int→List Told→Option β) (kr:Option β) (s0 s1:List Int) (d:Nat):∀ (l:List Told) (N i n:Nat),(∀ r∈l,ToldOk r)→l.length=N→N≤8→i+d=N→d<n→elimOk N d i l=true→
  impl_solve.l16 sl1 n kx kr s0 s1 l (N:Int) (i:Int)=kx s0 s1 (elimA N d i l)∧(∀ r∈elimA N d i l,ToldOk r)∧(elimA N d i l).length=N∧∀ r∈elimA N d i l,leadN r.1<4:=by
 induction d with
 | zero =>
  intro l N i n hv hN h8 hi hn hok
  obtain⟨n,rfl⟩:∃ m,n=m+1:=⟨n-1,by omega⟩
  refine⟨?_,hv,hN,fun r hr=>?_⟩
  ·rw [impl_solve.t16]; exact cF (ltF (by omega)) rfl
  ·unfold elimOk at hok
   exact Nat.le_of_ble_eq_true (List.all_eq_true.1 hok r hr)
 | succ d ih =>
  intro l N i n hv hN h8 hi hn hok
  obtain⟨n,rfl⟩:∃ m,n=m+1:=⟨n-1,by omega⟩
  rw [elimOk,Bool.and_eq_true] at hok
  have hlead:leadN (l.getD i noT).1<4:=Nat.le_of_ble_eq_true hok.1
  have oi:=getD_ok hv (i:=i) (by omega)
  obtain⟨g1,g2⟩:=elimJ_ok i (leadN (l.getD i noT).1) N 0 l hv (by omega) (by omega)
  obtain⟨q1,q2,q3,q4⟩:=ih (elimJ i (leadN (l.getD i noT).1) N 0 l) N (i+1) n g1 (g2.trans hN) h8 (by omega) (by omega) hok.2
  rw [elimA]
  refine⟨?_,q2,q3,q4⟩
  rw [impl_solve.t16]
  unfold impl_solve.b16
  refine cT (ltT (by omega)) (cT (irT (by omega) (by omega)) ((lead_G oi.1 hlead _).trans ?_))
  rw [hN]
  refine(elim_l _ none s0 s1 (N:Int) (i:Int) i _ hlead N l N 0 sl1.n hv hN h8 (by omega) (by omega) (by rw [rounds_n]; omega)).trans ?_
  rw [w_succ (by omega)]
  exact q1
def outF:Nat→Nat→List Told→List Int→List Int
 | 0, _, _, o => o
 | d + 1, j, l, o => outF d (j + 1) l (o.set (leadN (l.getD j noT).1) (l.getD j noT).2.1)
theorem out_l {β:Type} (kx:List Int→List Int→Option β) (kr:Option β) (s0:List Int) (l:List Told) (hv:∀ r∈l,ToldOk r) (hl:∀ r∈l,leadN r.1<4) (h8:l.length≤8) (d:Nat):∀ (o:List Int) (j n:Nat),j+d=l.length→d<n→
  impl_solve.l29 sl1 n kx kr s0 o l (l.length:Int) (j:Int)=kx s0 (outF d j l o):=by
 induction d with
 | zero =>
  intro o j n hj hn
  obtain⟨n,rfl⟩:∃ m,n=m+1:=⟨n-1,by omega⟩
  rw [impl_solve.t29]; exact cF (ltF (by omega)) rfl
 | succ d ih =>
  intro o j n hj hn
  obtain⟨n,rfl⟩:∃ m,n=m+1:=⟨n-1,by omega⟩
  have oj:=getD_ok hv (i:=j) (by omega)
  have lj:leadN (l.getD j noT).1<4:=by
   rw [List.getD_eq_getElem?_getD,List.getElem?_eq_getElem (show j<l.length by omega)]
   exact hl _ (List.getElem_mem _)
  rw [impl_solve.t29,outF]
  unfold impl_solve.b29
  refine cT (ltT (by omega)) (cT (irT (by omega) (by omega)) ((lead_G oj.1 lj _).trans (cT (irT (by omega) (by omega)) ?_)))
  rw [w_succ (by omega)]
  exact ih _ (j+1) n (by omega) (by omega)
abbrev KeptR:=List Int×(List Int×Unit)
abbrev noK:KeptR:=((List.replicate 4 0),((List.replicate 8 0),()))
abbrev shI (sh:List Nat):List Int:=sh.map fun(a:Nat)=>(a:Int)
def sumE (by_ vals:List Int):List Nat→Nat→Int→Int
 | [], _, s => s
 | a :: r, i, s => sumE by_ vals r (i + 1) ((s + by_.getD i 0 * vals.getD a 0 % 31) % 31)
theorem sumE_in (by_ vals:List Int):∀ (sh:List Nat) (i:Nat) (s:Int),El s→El (sumE by_ vals sh i s)
 | [], i, s, h => h
 | a :: r, i, s, h => sumE_in by_ vals r (i + 1) _ (El.mod _)
def L8 (u:List Int):Prop:=u.length=8∧∀ x∈u,El x
theorem L8.at {u:List Int} (h:L8 u) {i:Nat} (hi:i<8):El (u.getD i 0):=by
 have h1:i<u.length:=by rw [h.1]; exact hi
 rw [List.getD_eq_getElem?_getD,List.getElem?_eq_getElem h1]
 exact h.2 _ (List.getElem_mem h1)
theorem sum9_l {β:Type} (kx:List Int→List Int→List Told→List Int→List Int→List KeptR→List Int→List Int→Int→Int→Int→Option β) (kr:Option β) (s0 s1:List Int) (s2:List Told) (s3:List Int) (s5:List KeptR) (s7:List Int) (s9 s10:Int)
  {by_ vals:List Int} (hb:L8 by_) (hv:L8 vals) (sh:List Nat) (hsh:∀ a∈sh,a<8) (h8:sh.length≤8) (d:Nat):∀ (i n:Nat) (s:Int),El s→i+d=sh.length→d<n→
  impl_solve.l9 sl1 n kx kr s0 s1 s2 s3 by_ s5 vals s7 s s9 s10 (shI sh) ((shI sh).length:Int) (i:Int)=kx s0 s1 s2 s3 by_ s5 vals s7 (sumE by_ vals (sh.drop i) i s) s9 s10:=by
 have hl:(shI sh).length=sh.length:=List.length_map _
 induction d with
 | zero =>
  intro i n s hs hi hn
  obtain⟨n,rfl⟩:∃ m,n=m+1:=⟨n-1,by omega⟩
  rw [impl_solve.t9,List.drop_of_length_le (by omega)]; exact cF (ltF (by omega)) rfl
 | succ d ih =>
  intro i n s hs hi hn
  obtain⟨n,rfl⟩:∃ m,n=m+1:=⟨n-1,by omega⟩
  have h1:i<sh.length:=by omega
  have hg:List.getD (shI sh) (Int.toNat (i:Int)) 0=((sh[i]:Nat):Int):=by
   rw [getN (shI sh) i (by omega),List.getElem_map]
  have ha:=hsh _ (List.getElem_mem h1)
  rw [impl_solve.t9,List.drop_eq_getElem_cons h1,sumE]
  unfold impl_solve.b9
  rw [hg,w_succ (by omega)]
  simp only [Int.toNat_natCast]
  refine cT (ltT (by omega)) (cT (irT (by omega) (by omega)) (cT (irT (by omega) (by omega)) (cT (irT (by omega) (by rw [hv.1]; omega)) ?_)))
  refine(times_G (hb.at (by omega)) (hv.at ha) _).trans ((plus_G hs.wide (El.mod _).wide _).trans ?_)
  exact ih (i+1) n _ (El.mod _) (by omega) (by omega)
def tellF (vals:List Int) (sh:List Nat) (k:KeptR):Told:=(k.1,(sumE k.2.1 vals sh 0 0,()))
theorem tell_l {β:Type} (kx:List Int→List Int→List Told→Option β) (kr:Option β) (s0 s1:List Int) {vals:List Int} (hv:L8 vals) (sh:List Nat) (hsh:∀ a∈sh,a<8) (h8:sh.length≤8) (l:List KeptR) (hl:∀ k∈l,L8 k.2.1) (hl8:l.length≤8) (d:Nat):∀ (i n:Nat),i+d=l.length→d<n→
  impl_solve.l5 sl1 n kx kr s0 s1 ((l.take i).map (tellF vals sh)) l vals (shI sh) (l.length:Int) (i:Int)=kx s0 s1 (l.map (tellF vals sh)):=by
 induction d with
 | zero =>
  intro i n hi hn
  obtain⟨n,rfl⟩:∃ m,n=m+1:=⟨n-1,by omega⟩
  rw [impl_solve.t5,List.take_of_length_le (by omega)]; exact cF (ltF (by omega)) rfl
 | succ d ih =>
  intro i n hi hn
  obtain⟨n,rfl⟩:∃ m,n=m+1:=⟨n-1,by omega⟩
  have h1:i<l.length:=by omega
  have hg:List.getD l (Int.toNat (i:Int)) noK=l[i]:=getN l i h1
  rw [impl_solve.t5]
  unfold impl_solve.b5
  refine cT (ltT (by omega)) (cT (irT (by omega) (by omega)) ?_)
  rw [hg]
  refine(sum9_l _ none s0 s1 _ _ l (shI sh) (l.length:Int) (i:Int) (hl _ (List.getElem_mem h1)) hv sh hsh h8 sh.length 0 sl1.n 0 (by constructor <;> omega) (by omega) (by rw [rounds_n]; omega)).trans ?_
  refine cT (fwT (by simp; omega)) ?_
  rw [w_succ (by omega)]
  have e:=ih (i+1) n (by omega) (by omega)
  rw [List.take_succ_eq_append_getElem h1,List.map_append] at e
  exact e
noncomputable def spanP (kind:Int) (sh:List Nat):Option (List KeptR×List Int):=impl_rowsOf.G sl1 kind (shI sh) fun m=>impl_spanOf.G sl1 m fun a b=>some (a,b)
theorem rows_nat {β:Type} (kind:Int) (sh:List Int) (K:List (List Int)→Option β):impl_rowsOf.G sl1 kind sh K=(impl_rowsOf.G sl1 kind sh some).bind K:=by
 have h:∀ {γ:Type} (K:List (List Int)→Option γ),impl_rowsOf.G sl0 kind sh K=(impl_rowsOf.G sl0 kind sh (fun a=>some ((a,()),()))).bind (fun y=>K y.1.1):=fun K=>impl_rowsOf.ok.nat ((),(kind,(sh,()))) (fun y=>K y.1.1)
 rw [sl_eq] at h
 rw [h K,h some,Option.bind_assoc]; rfl
theorem spanOf_nat {β:Type} (m:List (List Int)) (K:List KeptR→List Int→Option β):impl_spanOf.G sl1 m K=(impl_spanOf.G sl1 m (fun a b=>some (a,b))).bind (fun r=>K r.1 r.2):=by
 have h:∀ {γ:Type} (K:List KeptR→List Int→Option γ),impl_spanOf.G sl0 m K=(impl_spanOf.G sl0 m (fun a b=>some (((),(a,(b,()))),()))).bind (fun y=>K y.1.2.1 y.1.2.2.1):=fun K=>impl_spanOf.ok.nat ((),(m,())) (fun y=>K y.1.2.1 y.1.2.2.1)
 rw [sl_eq] at h
 rw [h K,h (fun a b=>some (a,b)),Option.bind_assoc]; rfl
theorem span_nat {β:Type} (kind:Int) (sh:List Nat) (K:List KeptR→List Int→Option β):impl_rowsOf.G sl1 kind (shI sh) (fun m=>impl_spanOf.G sl1 m K)=(spanP kind sh).bind (fun r=>K r.1 r.2):=by
 unfold spanP
 rw [rows_nat kind (shI sh) (fun m=>impl_spanOf.G sl1 m K),rows_nat kind (shI sh) (fun m=>impl_spanOf.G sl1 m (fun a b=>some (a,b))),Option.bind_assoc]
 congr 1
 funext m
 exact spanOf_nat m K
def solveF (l:List KeptR) (vals:List Int) (sh:List Nat):List Int:=
 outF (elimA (l.map (tellF vals sh)).length (l.map (tellF vals sh)).length 0 (l.map (tellF vals sh))).length 0 (elimA (l.map (tellF vals sh)).length (l.map (tellF vals sh)).length 0 (l.map (tellF vals sh))) (List.replicate 4 0)
theorem tell_ok {l:List KeptR} (hl:∀ k∈l,V4 k.1∧L8 k.2.1) (vals:List Int) (sh:List Nat):∀ r∈l.map (tellF vals sh),ToldOk r:=fun r hr=>by
 obtain⟨k,hk,rfl⟩:=List.mem_map.1 hr
 exact⟨(hl k hk).1,sumE_in _ _ _ _ _ (by constructor <;> omega)⟩
theorem solve_G {β:Type} {kind:Int} {vals:List Int} (hv:L8 vals) {sh:List Nat} (hsh:∀ a∈sh,a<8) (h8:sh.length≤8) {l:List KeptR} {p:List Int} (hs:spanP kind sh=some (l,p)) (hl8:l.length≤8) (hl:∀ k∈l,V4 k.1∧L8 k.2.1)
  (hok:elimOk (l.map (tellF vals sh)).length (l.map (tellF vals sh)).length 0 (l.map (tellF vals sh))=true) (K:List Int→Option β):impl_solve.G sl1 kind vals (shI sh) K=K (solveF l vals sh):=by
 have hT:(l.map (tellF vals sh)).length=l.length:=List.length_map _
 have e1:=fun(kx:List Int→List Int→List Told→Option β)=>tell_l kx none (List.replicate 4 0) (List.replicate 4 0) hv sh hsh h8 l (fun k hk=>(hl k hk).2) hl8 l.length 0 sl1.n (by omega) (by rw [rounds_n]; omega)
 simp only [List.take_zero,List.map_nil] at e1
 unfold impl_solve.G
 refine(span_nat kind sh _).trans ?_
 rw [hs]
 simp only [Option.bind_some]
 refine(e1 _).trans ?_
 obtain⟨q1,q2,q3,q4⟩:=elimA_l (fun(y7 y8:List Int) (y9:List Told)=>impl_solve.l29 sl1 sl1.n (fun y10 y11=>K y11) none y7 y8 y9 (y9.length:Int) 0) none (List.replicate 4 0) (List.replicate 4 0) (l.map (tellF vals sh)).length (l.map (tellF vals sh)) (l.map (tellF vals sh)).length 0 sl1.n (tell_ok hl vals sh) rfl (by omega) (by omega) (by rw [rounds_n]; omega) hok
 refine q1.trans ?_
 exact out_l (fun y10 y11=>K y11) none (List.replicate 4 0) _ q2 q4 (by omega) (elimA (l.map (tellF vals sh)).length (l.map (tellF vals sh)).length 0 (l.map (tellF vals sh))).length (List.replicate 4 0) 0 sl1.n (by omega) (by rw [rounds_n]; omega)
theorem irow_nat {β:Type} (kind a:Int) (K:List Int→Option β):impl_rowOf.G sl1 kind a K=(impl_rowOf.G sl1 kind a some).bind K:=by
 have h:∀ {γ:Type} (K:List Int→Option γ),impl_rowOf.G sl0 kind a K=(impl_rowOf.G sl0 kind a (fun a=>some ((),(((a,()):List Int×Unit),())))).bind (fun y=>K y.2.1.1):=fun K=>impl_rowOf.ok.nat ((),(kind,(a,()))) (fun y=>K y.2.1.1)
 rw [sl_eq] at h
 rw [h K,h some,Option.bind_assoc]; rfl
theorem irow1_0:impl_rowOf.G sl1 1 ((0:Nat):Int) some=some (rowS 1 ((0:Nat):Int)):=by kernel_rfl
theorem irow1_1:impl_rowOf.G sl1 1 ((1:Nat):Int) some=some (rowS 1 ((1:Nat):Int)):=by kernel_rfl
theorem irow1_2:impl_rowOf.G sl1 1 ((2:Nat):Int) some=some (rowS 1 ((2:Nat):Int)):=by kernel_rfl
theorem irow1_3:impl_rowOf.G sl1 1 ((3:Nat):Int) some=some (rowS 1 ((3:Nat):Int)):=by kernel_rfl
theorem irow1_4:impl_rowOf.G sl1 1 ((4:Nat):Int) some=some (rowS 1 ((4:Nat):Int)):=by kernel_rfl
theorem irow1_5:impl_rowOf.G sl1 1 ((5:Nat):Int) some=some (rowS 1 ((5:Nat):Int)):=by kernel_rfl
theorem irow1_6:impl_rowOf.G sl1 1 ((6:Nat):Int) some=some (rowS 1 ((6:Nat):Int)):=by kernel_rfl
theorem irow1_7:impl_rowOf.G sl1 1 ((7:Nat):Int) some=some (rowS 1 ((7:Nat):Int)):=by kernel_rfl
theorem irow2_0:impl_rowOf.G sl1 2 ((0:Nat):Int) some=some (rowS 2 ((0:Nat):Int)):=by kernel_rfl
theorem irow2_1:impl_rowOf.G sl1 2 ((1:Nat):Int) some=some (rowS 2 ((1:Nat):Int)):=by kernel_rfl
theorem irow2_2:impl_rowOf.G sl1 2 ((2:Nat):Int) some=some (rowS 2 ((2:Nat):Int)):=by kernel_rfl
theorem irow2_3:impl_rowOf.G sl1 2 ((3:Nat):Int) some=some (rowS 2 ((3:Nat):Int)):=by kernel_rfl
theorem irow2_4:impl_rowOf.G sl1 2 ((4:Nat):Int) some=some (rowS 2 ((4:Nat):Int)):=by kernel_rfl
theorem irow2_5:impl_rowOf.G sl1 2 ((5:Nat):Int) some=some (rowS 2 ((5:Nat):Int)):=by kernel_rfl
theorem irow2_6:impl_rowOf.G sl1 2 ((6:Nat):Int) some=some (rowS 2 ((6:Nat):Int)):=by kernel_rfl
theorem irow2_7:impl_rowOf.G sl1 2 ((7:Nat):Int) some=some (rowS 2 ((7:Nat):Int)):=by kernel_rfl
theorem irow_tab {kind:Int} (hk:kind=1∨kind=2) {a:Nat} (ha:a<8):impl_rowOf.G sl1 kind (a:Int) some=some (rowS kind (a:Int)):=by
 rcases hk with rfl | rfl
 ·match a, ha with
  | 0, _ => exact irow1_0
  | 1, _ => exact irow1_1
  | 2, _ => exact irow1_2
  | 3, _ => exact irow1_3
  | 4, _ => exact irow1_4
  | 5, _ => exact irow1_5
  | 6, _ => exact irow1_6
  | 7, _ => exact irow1_7
 ·match a, ha with
  | 0, _ => exact irow2_0
  | 1, _ => exact irow2_1
  | 2, _ => exact irow2_2
  | 3, _ => exact irow2_3
  | 4, _ => exact irow2_4
  | 5, _ => exact irow2_5
  | 6, _ => exact irow2_6
  | 7, _ => exact irow2_7
theorem irow_G {β:Type} {kind:Int} (hk:kind=1∨kind=2) {a:Nat} (ha:a<8) (K:List Int→Option β):impl_rowOf.G sl1 kind (a:Int) K=K (rowS kind (a:Int)):=by
 rw [irow_nat,irow_tab hk ha]; rfl
def dotM (u v:List Int):Int:=(u.getD 0 0*v.getD 0 0+u.getD 1 0*v.getD 1 0+u.getD 2 0*v.getD 2 0+u.getD 3 0*v.getD 3 0)%31
theorem dotM_G {β:Type} {u v:List Int} (h:V4 u) (k:V4 v) (K:Int→Option β):impl_vector_dot.G sl1 u v K=K (dotM u v):=by
 obtain⟨a,b,c,d,rfl,ha,hb,hc,hd⟩:=h
 obtain⟨a',b',c',d',rfl,ha',hb',hc',hd'⟩:=k
 exact vdot_G ha hb hc hd ha' hb' hc' hd' K
theorem V4.of {u:List Int} (h:u.length=4) (k:∀ x∈u,El x):V4 u:=by
 match u,h with
 | [a, b, c, d], _ => exact ⟨a, b, c, d, rfl, k a (by simp), k b (by simp), k c (by simp), k d (by simp)⟩
theorem V4.len {u:List Int} (h:V4 u):u.length=4:=by obtain⟨a,b,c,d,rfl,_⟩:=h; rfl
theorem V4.mem {u:List Int} (h:V4 u):∀ x∈u,El x:=by
 obtain⟨a,b,c,d,rfl,ha,hb,hc,hd⟩:=h
 intro x hx
 simp only [List.mem_cons,List.not_mem_nil,or_false] at hx
 rcases hx with rfl | rfl | rfl | rfl <;> assumption
theorem V4.set {u:List Int} (h:V4 u) (i:Nat) {x:Int} (hx:El x):V4 (u.set i x):=V4.of (by rw [List.length_set,h.len]) fun y hy=>by
 rcases List.mem_or_eq_of_mem_set hy with k | rfl
 ·exact h.mem y k
 ·exact hx
theorem V4.row {kind:Int} (hk:kind=1∨kind=2) {a:Nat} (ha:a<8):V4 (rowS kind (a:Int)):=by
 obtain⟨h1,h2⟩:=vecV_iff.1 (row_vec hk ha)
 exact V4.of h2 h1
theorem outF_V4 (d:Nat):∀ (j:Nat) (l:List Told) (o:List Int),(∀ r∈l,ToldOk r)→j+d=l.length→V4 o→V4 (outF d j l o):=by
 induction d with
 | zero => intro j l o _ _ ho; exact ho
 | succ d ih =>
  intro j l o hv hj ho
  rw [outF]
  exact ih (j+1) l _ hv (by omega) (ho.set _ (getD_ok hv (by omega)).2)
theorem V4.zero:V4 (List.replicate 4 0):=⟨0,0,0,0,rfl,by constructor <;> omega,by constructor <;> omega,by constructor <;> omega,by constructor <;> omega⟩
noncomputable def fitsW (kind:Int) (vals data:List Int):List Nat→Bool
 | [] => true
 | a :: r => dotM (rowS kind (a : Int)) data == vals.getD a 0 && fitsW kind vals data r
theorem fitsW_l {β:Type} {kind:Int} (hk:kind=1∨kind=2) {vals:List Int} (hv:L8 vals) {data:List Int} (hd:V4 data) (sh:List Nat) (hsh:∀ a∈sh,a<8) (h8:sh.length≤8) (kx:Option β) (kr:Bool→Option β) (d:Nat):∀ (i n:Nat),i+d=sh.length→d<n→
  impl_fits.l3 sl1 n kx kr data kind vals (shI sh) ((shI sh).length:Int) (i:Int)=bif fitsW kind vals data (sh.drop i)then kx else kr false:=by
 have hl:(shI sh).length=sh.length:=List.length_map _
 induction d with
 | zero =>
  intro i n hi hn
  obtain⟨n,rfl⟩:∃ m,n=m+1:=⟨n-1,by omega⟩
  rw [impl_fits.t3,List.drop_of_length_le (by omega)]; exact cF (ltF (by omega)) rfl
 | succ d ih =>
  intro i n hi hn
  obtain⟨n,rfl⟩:∃ m,n=m+1:=⟨n-1,by omega⟩
  have h1:i<sh.length:=by omega
  have hg:List.getD (shI sh) (Int.toNat (i:Int)) 0=((sh[i]:Nat):Int):=by
   rw [getN (shI sh) i (by omega),List.getElem_map]
  have ha:=hsh _ (List.getElem_mem h1)
  rw [impl_fits.t3,List.drop_eq_getElem_cons h1,fitsW]
  unfold impl_fits.b3
  rw [hg,w_succ (by omega)]
  refine cT (ltT (by omega)) (cT (irT (by omega) (by omega)) ((irow_G hk ha _).trans ((dotM_G (V4.row hk ha) hd _).trans (cT (irT (by omega) (by rw [hv.1]; omega)) ?_))))
  simp only [Int.toNat_natCast]
  by_cases hx:dotM (rowS kind ((sh[i]:Nat):Int)) data=vals.getD sh[i] 0
  ·rw [beq_iff_eq.2 hx, Bool.true_and]
   exact cF (neF hx) (ih (i+1) n (by omega) (by omega))
  ·rw [beq_eq_false_iff_ne.2 hx, Bool.false_and]
   exact cT (neT hx) rfl
theorem fitsI_G {β:Type} {kind:Int} (hk:kind=1∨kind=2) {vals:List Int} (hv:L8 vals) {sh:List Nat} (hsh:∀ a∈sh,a<8) (h8:sh.length≤8) {l:List KeptR} {p:List Int} (hs:spanP kind sh=some (l,p)) (hl8:l.length≤8) (hl:∀ k∈l,V4 k.1∧L8 k.2.1)
  (hok:elimOk (l.map (tellF vals sh)).length (l.map (tellF vals sh)).length 0 (l.map (tellF vals sh))=true) (K:Bool→Option β):impl_fits.G sl1 kind vals (shI sh) K=K (fitsW kind vals (solveF l vals sh) sh):=by
 have hT:(l.map (tellF vals sh)).length=l.length:=List.length_map _
 obtain⟨_,q2,q3,_⟩:=elimA_l (β:=Unit) (fun _ _ _=>none) none [] [] (l.map (tellF vals sh)).length (l.map (tellF vals sh)) (l.map (tellF vals sh)).length 0 sl1.n (tell_ok hl vals sh) rfl (by omega) (by omega) (by rw [rounds_n]; omega) hok
 have hd:V4 (solveF l vals sh):=outF_V4 _ 0 _ _ q2 (by omega) V4.zero
 unfold impl_fits.G
 refine(solve_G hv hsh h8 hs hl8 hl hok _).trans ?_
 refine(fitsW_l hk hv hd sh hsh h8 (K true) (fun y2=>K y2) sh.length 0 sl1.n (by omega) (by rw [rounds_n]; omega)).trans ?_
 rw [List.drop_zero]
 cases fitsW kind vals (solveF l vals sh) sh <;> rfl
def Cg (a b:Int):Prop:=∃ k,a=b+31*k
theorem Cg.refl (a:Int):Cg a a:=⟨0,by omega⟩
theorem Cg.symm {a b:Int}:Cg a b→Cg b a:=fun⟨k,h⟩=>⟨-k,by omega⟩
theorem Cg.trans {a b c:Int}:Cg a b→Cg b c→Cg a c:=fun⟨k,h⟩ ⟨m,g⟩=>⟨k+m,by omega⟩
theorem Cg.mod (a:Int):Cg (a%31) a:=⟨-(a / 31),by omega⟩
theorem Cg.add {a b c d:Int}:Cg a b→Cg c d→Cg (a+c) (b+d):=fun⟨k,h⟩ ⟨m,g⟩=>⟨k+m,by omega⟩
theorem Cg.sub {a b c d:Int}:Cg a b→Cg c d→Cg (a-c) (b-d):=fun⟨k,h⟩ ⟨m,g⟩=>⟨k-m,by omega⟩
theorem Cg.mul {a b c d:Int}:Cg a b→Cg c d→Cg (a*c) (b*d):=by
 rintro ⟨k,rfl⟩ ⟨m,rfl⟩
 refine⟨b*m+k*d+k*(31*m),?_⟩
 rw [Int.add_mul,Int.mul_add,Int.mul_add,Int.mul_left_comm b 31 m,Int.mul_assoc 31 k d,Int.mul_assoc 31 k (31*m)]
 omega
theorem Cg.eq {a b:Int} (h:Cg a b):a%31=b%31:=by obtain⟨k,rfl⟩:=h; omega
theorem dotM_sub {u w d:List Int} (hu:V4 u) (hw:V4 w) (hd:V4 d) (c:Int):dotM (subV u (mulV w c)) d=(dotM u d-dotM w d*c%31)%31:=by
 obtain⟨x0,x1,x2,x3,rfl,_⟩:=hu
 obtain⟨w0,w1,w2,w3,rfl,_⟩:=hw
 obtain⟨d0,d1,d2,d3,rfl,_⟩:=hd
 show((x0-w0*c%31)%31*d0+(x1-w1*c%31)%31*d1+(x2-w2*c%31)%31*d2+(x3-w3*c%31)%31*d3)%31 =
  ((x0*d0+x1*d1+x2*d2+x3*d3)%31-(w0*d0+w1*d1+w2*d2+w3*d3)%31*c%31)%31
 have t:∀ x w d:Int,Cg ((x-w*c%31)%31*d) ((x-w*c)*d):=fun x w d=>Cg.mul ((Cg.mod _).trans (Cg.sub (Cg.refl _) (Cg.mod _))) (Cg.refl _)
 have l:=Cg.add (Cg.add (Cg.add (t x0 w0 d0) (t x1 w1 d1)) (t x2 w2 d2)) (t x3 w3 d3)
 have r:Cg ((x0*d0+x1*d1+x2*d2+x3*d3)%31-(w0*d0+w1*d1+w2*d2+w3*d3)%31*c%31) ((x0*d0+x1*d1+x2*d2+x3*d3)-(w0*d0+w1*d1+w2*d2+w3*d3)*c):=
  Cg.sub (Cg.mod _) ((Cg.mod _).trans (Cg.mul (Cg.mod _) (Cg.refl _)))
 have e:(x0-w0*c)*d0+(x1-w1*c)*d1+(x2-w2*c)*d2+(x3-w3*c)*d3=(x0*d0+x1*d1+x2*d2+x3*d3)-(w0*d0+w1*d1+w2*d2+w3*d3)*c:=by
  simp only [Int.sub_mul,Int.add_mul]
  rw [Int.mul_right_comm w0 c d0,Int.mul_right_comm w1 c d1,Int.mul_right_comm w2 c d2,Int.mul_right_comm w3 c d3]
  omega
 rw [e] at l
 exact(l.trans r.symm).eq
def By (d:List Int) (r:Told):Prop:=r.2.1=dotM r.1 d
theorem stepT_by {d:List Int} (hd:V4 d) {ri rj:Told} (oi:ToldOk ri) (oj:ToldOk rj) (hi:By d ri) (hj:By d rj) (c:Int):By d (stepT ri rj c):=by
 unfold By stepT
 rw [dotM_sub oj.1 oi.1 hd,hi,hj]
theorem getD_by {d:List Int} {l:List Told} (h:∀ r∈l,By d r) {i:Nat} (hi:i<l.length):By d (l.getD i noT):=by
 rw [List.getD_eq_getElem?_getD,List.getElem?_eq_getElem hi]
 exact h _ (List.getElem_mem hi)
theorem elimJ_by {d:List Int} (hd:V4 d) (i at_:Nat) (m:Nat):∀ (j:Nat) (l:List Told),(∀ r∈l,ToldOk r)→(∀ r∈l,By d r)→i<l.length→j+m=l.length→∀ r∈elimJ i at_ m j l,By d r:=by
 induction m with
 | zero => intro j l hv hb _ _; exact hb
 | succ m ih =>
  intro j l hv hb hi hj
  rw [elimJ]
  split
  ·exact ih (j+1) l hv hb hi (by omega)
  ·split
   ·exact ih (j+1) l hv hb hi (by omega)
   ·refine ih (j + 1) _ (set_ok hv (stepT_ok (getD_ok hv hi) (getD_ok hv (by omega)) _)) (fun r hr => ?_) (by simp; omega) (by simp; omega)
    rcases List.mem_or_eq_of_mem_set hr with h | rfl
    ·exact hb r h
    ·exact stepT_by hd (getD_ok hv hi) (getD_ok hv (by omega)) (getD_by hb hi) (getD_by hb (by omega)) _
theorem elimA_by {d:List Int} (hd:V4 d) (N:Nat) (m:Nat):∀ (i:Nat) (l:List Told),(∀ r∈l,ToldOk r)→(∀ r∈l,By d r)→l.length=N→i+m=N→∀ r∈elimA N m i l,By d r:=by
 induction m with
 | zero => intro i l hv hb _ _; exact hb
 | succ m ih =>
  intro i l hv hb hN hi
  rw [elimA]
  obtain⟨g1,g2⟩:=elimJ_ok i (leadN (l.getD i noT).1) N 0 l hv (by omega) (by omega)
  exact ih (i+1) _ g1 (elimJ_by hd i _ N 0 l hv hb (by omega) (by omega)) (g2.trans hN) (by omega)
noncomputable def mixI (by_:List Int) (kind:Int) (c:Nat):List Nat→Nat→Int
 | [], _ => 0
 | a :: r, i => by_.getD i 0 * (rowS kind (a : Int)).getD c 0 + mixI by_ kind c r (i + 1)
theorem sumE_mix {kind:Int} {by_ vals d:List Int}:∀ (sh:List Nat) (i:Nat) (s:Int),(∀ a∈sh,vals.getD a 0=dotM (rowS kind (a:Int)) d)→
  Cg (sumE by_ vals sh i s) (s+(mixI by_ kind 0 sh i*d.getD 0 0+mixI by_ kind 1 sh i*d.getD 1 0+mixI by_ kind 2 sh i*d.getD 2 0+mixI by_ kind 3 sh i*d.getD 3 0))
 | [], i, s, _ => by
  simp only [sumE,mixI,Int.zero_mul,Int.add_zero]
  exact Cg.refl s
 | a :: r, i, s, h => by
  have ih:=sumE_mix (by_:=by_) r (i+1) ((s+by_.getD i 0*vals.getD a 0%31)%31) (fun b hb=>h b (List.mem_cons_of_mem _ hb))
  rw [sumE]
  refine ih.trans ?_
  rw [h a List.mem_cons_self]
  simp only [mixI]
  generalize mixI by_ kind 0 r (i+1)=m0,mixI by_ kind 1 r (i+1)=m1,mixI by_ kind 2 r (i+1)=m2,mixI by_ kind 3 r (i+1)=m3,by_.getD i 0=b
  unfold dotM
  generalize (rowS kind (a:Int)).getD 0 0=r0,(rowS kind (a:Int)).getD 1 0=r1,(rowS kind (a:Int)).getD 2 0=r2,(rowS kind (a:Int)).getD 3 0=r3,d.getD 0 0=d0,d.getD 1 0=d1,d.getD 2 0=d2,d.getD 3 0=d3
  have q:Cg ((s+b*((r0*d0+r1*d1+r2*d2+r3*d3)%31)%31)%31) (s+b*(r0*d0+r1*d1+r2*d2+r3*d3)):=
   (Cg.mod _).trans (Cg.add (Cg.refl _) ((Cg.mod _).trans (Cg.mul (Cg.refl _) (Cg.mod _))))
  refine(Cg.add q (Cg.refl _)).trans ?_
  simp only [Int.add_mul,Int.mul_add,Int.mul_assoc]
  exact⟨0,by omega⟩
theorem El.self {a:Int} (h:El a):a%31=a:=by have:=h.1; have:=h.2; omega
theorem tell_by {kind:Int} {vals d:List Int} {sh:List Nat} (hs:∀ a∈sh,vals.getD a 0=dotM (rowS kind (a:Int)) d) {k:KeptR} (hm:∀ c,c<4→mixI k.2.1 kind c sh 0%31=k.1.getD c 0):By d (tellF vals sh k):=by
 have h:=sumE_mix (by_:=k.2.1) sh 0 0 hs
 have e:El (sumE k.2.1 vals sh 0 0):=sumE_in _ _ _ _ _ (by constructor <;> omega)
 unfold By tellF
 show sumE k.2.1 vals sh 0 0=dotM k.1 d
 rw [←e.self]
 unfold dotM
 rw [←hm 0 (by omega),←hm 1 (by omega),←hm 2 (by omega),←hm 3 (by omega)]
 refine Cg.eq (h.trans ?_)
 rw [Int.zero_add]
 exact Cg.add (Cg.add (Cg.add (Cg.mul (Cg.mod _).symm (Cg.refl _)) (Cg.mul (Cg.mod _).symm (Cg.refl _))) (Cg.mul (Cg.mod _).symm (Cg.refl _))) (Cg.mul (Cg.mod _).symm (Cg.refl _))
theorem fst_getD (l:List Told) (j:Nat):(l.getD j noT).1=(l.map Prod.fst).getD j (List.replicate 4 0):=by
 rw [List.getD_eq_getElem?_getD,List.getD_eq_getElem?_getD,List.getElem?_map]
 cases l[j]? <;> rfl
theorem elimJ_rows (i at_:Nat) (m:Nat):∀ (j:Nat) (l l':List Told),l.map Prod.fst=l'.map Prod.fst→(elimJ i at_ m j l).map Prod.fst=(elimJ i at_ m j l').map Prod.fst:=by
 induction m with
 | zero => intro j l l' h; exact h
 | succ m ih =>
  intro j l l' h
  have hj:(l.getD j noT).1=(l'.getD j noT).1:=by rw [fst_getD,fst_getD,h]
  have hi:(l.getD i noT).1=(l'.getD i noT).1:=by rw [fst_getD,fst_getD,h]
  rw [elimJ,elimJ]
  refine ih (j+1) _ _ ?_
  by_cases e:j=i
  ·rw [if_pos e,if_pos e]; exact h
  ·rw [if_neg e, if_neg e, hj]
   by_cases c:(l'.getD j noT).1.getD at_ 0=0
   ·rw [if_pos c,if_pos c]; exact h
   ·rw [if_neg c, if_neg c, List.map_set, List.map_set, h]
    unfold stepT
    rw [hj,hi]
theorem elimA_rows (N:Nat) (m:Nat):∀ (i:Nat) (l l':List Told),l.map Prod.fst=l'.map Prod.fst→(elimA N m i l).map Prod.fst=(elimA N m i l').map Prod.fst:=by
 induction m with
 | zero => intro i l l' h; exact h
 | succ m ih =>
  intro i l l' h
  have hi:(l.getD i noT).1=(l'.getD i noT).1:=by rw [fst_getD,fst_getD,h]
  rw [elimA,elimA,hi]
  exact ih (i+1) _ _ (elimJ_rows i _ N 0 l l' h)
theorem elimOk_rows (N:Nat) (m:Nat):∀ (i:Nat) (l l':List Told),l.map Prod.fst=l'.map Prod.fst→elimOk N m i l=elimOk N m i l':=by
 have al:∀ l:List Told,(l.all fun r=>Nat.blt (leadN r.1) 4)=(l.map Prod.fst).all fun u=>Nat.blt (leadN u) 4:=fun l=>by rw [List.all_map]; rfl
 induction m with
 | zero => intro i l l' h; rw [elimOk, elimOk, al, al, h]
 | succ m ih =>
  intro i l l' h
  have hi:(l.getD i noT).1=(l'.getD i noT).1:=by rw [fst_getD,fst_getD,h]
  rw [elimOk,elimOk,hi,ih (i+1) _ _ (elimJ_rows i (leadN (l'.getD i noT).1) N 0 l l' h)]
def bare (l:List KeptR):List Told:=l.map fun k=>(k.1,(0,()))
theorem bare_tell (l:List KeptR) (vals:List Int) (sh:List Nat):(l.map (tellF vals sh)).map Prod.fst=(bare l).map Prod.fst:=by
 unfold bare
 rw [List.map_map,List.map_map]; rfl
noncomputable def readR (u:List Int):List Told→List Int→Int
 | [], o => dotM u o
 | r :: l, o => readR u l (o.set (leadN r.1) r.2.1)
theorem outF_readR (u:List Int) (d:Nat):∀ (j:Nat) (l:List Told) (o:List Int),j+d=l.length→dotM u (outF d j l o)=readR u (l.drop j) o:=by
 induction d with
 | zero => intro j l o h; rw [outF, List.drop_of_length_le (by omega), readR]
 | succ d ih =>
  intro j l o h
  have h1:j<l.length:=by omega
  rw [outF,List.drop_eq_getElem_cons h1,readR,ih (j+1) l _ (by omega)]
  rw [List.getD_eq_getElem?_getD,List.getElem?_eq_getElem h1]; rfl
def sumR (u:List Int) (c:Nat):List Told→Int
 | [] => 0
 | r :: l => u.getD (leadN r.1) 0 * r.1.getD c 0 + sumR u c l
def apart:List Nat→Bool
 | [] => true
 | a :: l => l.all (fun b => !Nat.beq a b) && apart l
noncomputable def keptOk (kind:Int) (sh:List Nat) (k:KeptR):Bool:=
 Nat.beq k.1.length 4&&(k.1.all (fun x=>inV x 0 30)&&(Nat.beq k.2.1.length 8&&(k.2.1.all (fun x=>inV x 0 30) && [0,1,2,3].all fun c=>mixI k.2.1 kind c sh 0%31==k.1.getD c 0)))
noncomputable def readOk (kind:Int) (sh:List Nat) (R:List Told):Bool:=
 apart (R.map fun r=>leadN r.1)&&sh.all fun a=>[0,1,2,3].all fun c=>sumR (rowS kind (a:Int)) c R%31==(rowS kind (a:Int)).getD c 0
noncomputable def tabL (kind:Int) (sh:List Nat) (l:List KeptR):Bool:=
 Nat.ble l.length 4&&(l.all (keptOk kind sh)&&(elimOk l.length l.length 0 (bare l)&&readOk kind sh (elimA l.length l.length 0 (bare l))))
noncomputable def tabOk (kind:Int) (sh:List Nat):Bool:=match spanP kind sh with
 | some (l, p) => tabL kind sh l && (bif Nat.beq p.length 4 then covL kind sh else !covL kind sh)
 | none => false
noncomputable def tabAll (kind:Int):Nat→Nat→List Nat→Bool
 | 0, _, I => tabOk kind I
 | d + 1, i, I => tabAll kind d (i + 1) I && tabAll kind d (i + 1) (I ++ [i])
theorem tabAll_spec {kind:Int} (d:Nat):∀ (i:Nat) (I:List Nat),tabAll kind d i I=true→∀ f:Nat→Bool,tabOk kind (I++(List.range' i d).filter f)=true:=by
 induction d with
 | zero => intro i I h f; rw [List.range'_zero, List.filter_nil, List.append_nil]; exact h
 | succ d ih =>
  intro i I h f
  rw [tabAll,Bool.and_eq_true] at h
  rw [List.range'_succ,List.filter_cons]
  cases f i with
  | false => exact ih (i + 1) I h.1 f
  | true =>
   have e:=ih (i+1) (I ++ [i]) h.2 f
   rw [List.append_assoc] at e
   exact e
theorem tabAll_join {kind:Int} {d i:Nat} {I:List Nat} (h:tabAll kind d (i+1) I=true) (k:tabAll kind d (i+1) (I ++ [i])=true):tabAll kind (d+1) i I=true:=by
 rw [tabAll,h,k]; rfl
def rawD (u v:List Int):Int:=u.getD 0 0*v.getD 0 0+u.getD 1 0*v.getD 1 0+u.getD 2 0*v.getD 2 0+u.getD 3 0*v.getD 3 0
theorem rawD_set {u o:List Int} (hu:V4 u) (ho:V4 o) {i:Nat} (hi:i<4) (h0:o.getD i 0=0) (x:Int):rawD u (o.set i x)=rawD u o+u.getD i 0*x:=by
 obtain⟨a,b,c,d,rfl,_⟩:=hu
 obtain⟨a',b',c',d',rfl,_⟩:=ho
 match i,hi with
 | 0, _ => obtain rfl : a' = 0 := h0; show a * x + b * b' + c * c' + d * d' = a * 0 + b * b' + c * c' + d * d' + a * x; rw [Int.mul_zero]; omega
 | 1, _ => obtain rfl : b' = 0 := h0; show a * a' + b * x + c * c' + d * d' = a * a' + b * 0 + c * c' + d * d' + b * x; rw [Int.mul_zero]; omega
 | 2, _ => obtain rfl : c' = 0 := h0; show a * a' + b * b' + c * x + d * d' = a * a' + b * b' + c * 0 + d * d' + c * x; rw [Int.mul_zero]; omega
 | 3, _ => obtain rfl : d' = 0 := h0; show a * a' + b * b' + c * c' + d * x = a * a' + b * b' + c * c' + d * 0 + d * x; rw [Int.mul_zero]; omega
def sumV (u:List Int):List Told→Int
 | [] => 0
 | r :: l => u.getD (leadN r.1) 0 * r.2.1 + sumV u l
theorem readR_sum {u:List Int} (hu:V4 u):∀ (l:List Told) (o:List Int),V4 o→(∀ r∈l,ToldOk r)→(∀ r∈l,leadN r.1<4)→apart (l.map fun r=>leadN r.1)=true→(∀ r∈l,o.getD (leadN r.1) 0=0)→Cg (readR u l o) (rawD u o+sumV u l)
 | [], o, ho, _, _, _, _ => by
  rw [readR,sumV,Int.add_zero]; exact Cg.mod _
 | r :: l, o, ho, hv, hl, ha, hz => by
  rw [List.map_cons,apart,Bool.and_eq_true] at ha
  have h1:=hl r List.mem_cons_self
  have ih:=readR_sum hu l (o.set (leadN r.1) r.2.1) (ho.set _ (hv r List.mem_cons_self).2) (fun x hx=>hv x (List.mem_cons_of_mem _ hx)) (fun x hx=>hl x (List.mem_cons_of_mem _ hx)) ha.2 (fun x hx=>by
   have hne:leadN r.1≠leadN x.1:=by
    have:=List.all_eq_true.1 ha.1 (leadN x.1) (List.mem_map.2 ⟨x,hx,rfl⟩)
    intro e
    rw [e] at this
    simp at this
   rw [List.getD_eq_getElem?_getD,List.getElem?_set_ne hne,←List.getD_eq_getElem?_getD]
   exact hz x (List.mem_cons_of_mem _ hx))
  rw [readR,sumV]
  rw [rawD_set hu ho h1 (hz r List.mem_cons_self)] at ih
  exact ih.trans ⟨0,by omega⟩
theorem sumV_by {u d:List Int}:∀ (l:List Told),(∀ r∈l,By d r)→Cg (sumV u l) (sumR u 0 l*d.getD 0 0+sumR u 1 l*d.getD 1 0+sumR u 2 l*d.getD 2 0+sumR u 3 l*d.getD 3 0)
 | [], _ => ⟨0, by simp [sumV, sumR]⟩
 | r :: l, h => by
  have ih:=sumV_by (u:=u) l (fun x hx=>h x (List.mem_cons_of_mem _ hx))
  have e:r.2.1=dotM r.1 d:=h r List.mem_cons_self
  simp only [sumV,sumR]
  rw [e]
  unfold dotM
  generalize u.getD (leadN r.1) 0=x,r.1.getD 0 0=r0,r.1.getD 1 0=r1,r.1.getD 2 0=r2,r.1.getD 3 0=r3
  refine(Cg.add (Cg.mul (Cg.refl x) (Cg.mod _)) ih).trans ?_
  simp only [Int.add_mul,Int.mul_add,Int.mul_assoc]
  exact⟨0,by omega⟩
theorem out_by {u d:List Int} (hu:V4 u) {R:List Told} (hv:∀ r∈R,ToldOk r) (hl:∀ r∈R,leadN r.1<4) (ha:apart (R.map fun r=>leadN r.1)=true) (hb:∀ r∈R,By d r) (hr:∀ c,c<4→sumR u c R%31=u.getD c 0):
  dotM u (outF R.length 0 R (List.replicate 4 0))=dotM u d:=by
 rw [outF_readR u R.length 0 R _ (by omega),List.drop_zero]
 have h1:=readR_sum hu R (List.replicate 4 0) V4.zero hv hl ha (fun r hr=>by
  match leadN r.1,hl r hr with
  | 0, _ => rfl
  | 1, _ => rfl
  | 2, _ => rfl
  | 3, _ => rfl)
 have h2:rawD u (List.replicate 4 0)=0:=by
  show u.getD 0 0*0+u.getD 1 0*0+u.getD 2 0*0+u.getD 3 0*0=0
  simp
 rw [h2,Int.zero_add] at h1
 have h3:=h1.trans (sumV_by R hb)
 have h4:Cg (sumR u 0 R*d.getD 0 0+sumR u 1 R*d.getD 1 0+sumR u 2 R*d.getD 2 0+sumR u 3 R*d.getD 3 0) (u.getD 0 0*d.getD 0 0+u.getD 1 0*d.getD 1 0+u.getD 2 0*d.getD 2 0+u.getD 3 0*d.getD 3 0):=by
  have q:∀ c,c<4→Cg (sumR u c R*d.getD c 0) (u.getD c 0*d.getD c 0):=fun c hc=>by
   rw [←hr c hc]; exact Cg.mul (Cg.mod _).symm (Cg.refl _)
  exact Cg.add (Cg.add (Cg.add (q 0 (by omega)) (q 1 (by omega))) (q 2 (by omega))) (q 3 (by omega))
 have h5:=(h3.trans h4).eq
 have h6:∀ (l:List Told) (o:List Int),readR u l o%31=readR u l o:=by
  intro l
  induction l with
  | nil => intro o; rw [readR]; exact (El.mod _).self
  | cons r l ih => intro o; rw [readR]; exact ih _
 rw [h6] at h5
 exact h5
theorem sumR_rows (u:List Int) (c:Nat):∀ (l l':List Told),l.map Prod.fst=l'.map Prod.fst→sumR u c l=sumR u c l'
 | [], [], _ => rfl
 | [], _ :: _, h => by simp at h
 | _ :: _, [], h => by simp at h
 | r :: l, r' :: l', h => by
  rw [List.map_cons,List.map_cons,List.cons.injEq] at h
  rw [sumR,sumR,h.1,sumR_rows u c l l' h.2]
theorem leads_rows (l:List Told):(l.map fun r=>leadN r.1)=(l.map Prod.fst).map leadN:=by rw [List.map_map]; rfl
theorem fitsW_iff {kind:Int} {vals data:List Int}:∀ {sh:List Nat},fitsW kind vals data sh=true↔∀ a∈sh,vals.getD a 0=dotM (rowS kind (a:Int)) data
 | [] => by simp [fitsW]
 | a :: r => by
  rw [fitsW,Bool.and_eq_true,fitsW_iff,beq_iff_eq]
  constructor
  ·rintro ⟨h, k⟩ b hb
   rcases List.mem_cons.1 hb with rfl | hb
   ·exact h.symm
   ·exact k b hb
  ·intro h
   exact⟨(h a List.mem_cons_self).symm,fun b hb=>h b (List.mem_cons_of_mem _ hb)⟩
theorem keptOk_spec {kind:Int} {sh:List Nat} {k:KeptR} (h:keptOk kind sh k=true):V4 k.1∧L8 k.2.1∧∀ c,c<4→mixI k.2.1 kind c sh 0%31=k.1.getD c 0:=by
 unfold keptOk at h
 simp only [Bool.and_eq_true] at h
 obtain⟨h1,h2,h3,h4,h5⟩:=h
 refine⟨V4.of (Nat.eq_of_beq_eq_true h1) fun x hx=>inV_iff.1 (List.all_eq_true.1 h2 x hx),⟨Nat.eq_of_beq_eq_true h3,fun x hx=>inV_iff.1 (List.all_eq_true.1 h4 x hx)⟩,fun c hc=>?_⟩
 refine beq_iff_eq.1 (List.all_eq_true.1 h5 c ?_)
 match c,hc with
 | 0, _ => simp
 | 1, _ => simp
 | 2, _ => simp
 | 3, _ => simp
theorem solveI_of {kind:Int} (hk:kind=1∨kind=2) {sh:List Nat} (hsh:∀ a∈sh,a<8) (h8:sh.length≤8) (ht:tabOk kind sh=true) {vals:List Int} (hv:L8 vals):
  ∃ x:List Int,V4 x∧(∀ (β:Type) (K:List Int→Option β),impl_solve.G sl1 kind vals (shI sh) K=K x)∧(∀ (β:Type) (K:Bool→Option β),impl_fits.G sl1 kind vals (shI sh) K=K (fitsW kind vals x sh))∧
   (fitsW kind vals x sh=true↔∃ d,V4 d∧∀ a∈sh,vals.getD a 0=dotM (rowS kind (a:Int)) d):=by
 unfold tabOk at ht
 split at ht
 ·rename_i l p hs
  unfold tabL at ht
  simp only [Bool.and_eq_true] at ht
  obtain⟨⟨t1,t2,t3,t4⟩,_⟩:=ht
  have hl4:l.length≤4:=Nat.le_of_ble_eq_true t1
  have hko:=fun k hkk=>keptOk_spec (List.all_eq_true.1 t2 k hkk)
  have hl:∀ k∈l,V4 k.1∧L8 k.2.1:=fun k hkk=>⟨(hko k hkk).1,(hko k hkk).2.1⟩
  have hT:(l.map (tellF vals sh)).length=l.length:=List.length_map _
  have hok:elimOk (l.map (tellF vals sh)).length (l.map (tellF vals sh)).length 0 (l.map (tellF vals sh))=true:=by
   rw [elimOk_rows _ _ 0 _ (bare l) (bare_tell l vals sh),hT]; exact t3
  obtain⟨_,q2,q3,q4⟩:=elimA_l (β:=Unit) (fun _ _ _=>none) none [] [] (l.map (tellF vals sh)).length (l.map (tellF vals sh)) (l.map (tellF vals sh)).length 0 sl1.n (tell_ok hl vals sh) rfl (by omega) (by omega) (by rw [rounds_n]; omega) hok
  have hR:=elimA_rows (l.map (tellF vals sh)).length (l.map (tellF vals sh)).length 0 _ (bare l) (bare_tell l vals sh)
  have hd:V4 (solveF l vals sh):=outF_V4 _ 0 _ _ q2 (by omega) V4.zero
  refine⟨solveF l vals sh,hd,fun β K=>solve_G hv hsh h8 hs (by omega) hl hok K,fun β K=>fitsI_G hk hv hsh h8 hs (by omega) hl hok K,fun h=>⟨_,hd,fitsW_iff.1 h⟩,?_⟩
  rintro ⟨d,hd4,hds⟩
  refine fitsW_iff.2 fun a ha=>?_
  rw [hds a ha]
  have hb:∀ r∈l.map (tellF vals sh),By d r:=fun r hr=>by
   obtain⟨k,hkk,rfl⟩:=List.mem_map.1 hr
   exact tell_by hds (hko k hkk).2.2
  have hB:=elimA_by hd4 (l.map (tellF vals sh)).length (l.map (tellF vals sh)).length 0 _ (tell_ok hl vals sh) hb rfl (by omega)
  unfold readOk at t4
  rw [Bool.and_eq_true] at t4
  rw [hT] at hR
  refine(out_by (V4.row hk (hsh a ha)) q2 q4 ?_ hB fun c hc=>?_).symm
  ·rw [leads_rows,hT,hR,←leads_rows]; exact t4.1
  ·rw [hT, sumR_rows _ c _ _ hR]
   refine beq_iff_eq.1 (List.all_eq_true.1 (List.all_eq_true.1 t4.2 a ha) c ?_)
   match c,hc with
   | 0, _ => simp
   | 1, _ => simp
   | 2, _ => simp
   | 3, _ => simp
 ·cases ht
theorem fitsI_of {kind:Int} (hk:kind=1∨kind=2) {sh:List Nat} (hsh:∀ a∈sh,a<8) (h8:sh.length≤8) (ht:tabOk kind sh=true) {vals:List Int} (hv:L8 vals):
  ∃ b:Bool,(∀ (β:Type) (K:Bool→Option β),impl_fits.G sl1 kind vals (shI sh) K=K b)∧(b=true↔∃ d,V4 d∧∀ a∈sh,vals.getD a 0=dotM (rowS kind (a:Int)) d):=by
 obtain⟨x,_,_,h1,h2⟩:=solveI_of hk hsh h8 ht hv
 exact⟨_,h1,h2⟩
theorem pivots_of {kind:Int} {sh:List Nat} (ht:tabOk kind sh=true):∃ l p,spanP kind sh=some (l,p)∧Nat.beq p.length 4=covL kind sh:=by
 unfold tabOk at ht
 split at ht
 ·rename_i l p hs
  rw [Bool.and_eq_true] at ht
  refine⟨l,p,hs,?_⟩
  have h:=ht.2
  cases c:Nat.beq p.length 4
  ·rw [c] at h
   exact(Bool.not_eq_true' _ ▸ h).symm
  ·rw [c] at h; exact h.symm
 ·cases ht
namespace impl_Stripe_drop
def sin:Sig:=⟨[.buf I false,.buf I false,.buf .bool false],[.agg [.val I false,.ref (.own 0),.ref (.own 1),.ref (.own 2)],.one (.val I false)]⟩
def sout:Sig:=⟨[.buf I false,.buf I false,.buf .bool false],[]⟩
noncomputable def G {β:Type}(S:Sl)(a0:(List Int))(a1:(List Int))(a2:(List Bool))(a3:Int)(a4:Int)(K:(List Int)→(List Int)→(List Bool)→Option β):Option β:=bif(S.ir a4 a0.length)then(bif(S.ir a4 a1.length)then(bif(S.ir a4 a2.length)then(K (List.set a0 (Int.toNat a4) 0) (List.set a1 (Int.toNat a4) 0) (List.set a2 (Int.toNat a4) false))else(none))else(none))else(none)
noncomputable def o:Orac:=⟨118,sin,sout,fun s K=>G sl0 s.1.1 s.1.2.1 s.1.2.2.1 s.2.1.1 s.2.2.1 (fun x0 x1 x2=>K ((x0,(x1,(x2,()))),()))⟩
noncomputable def C:Ctx:=⟨tyT,[],[],16,3⟩
theorem ctx:CtxOk Tryz.prog C:=⟨tyOk,all0⟩
theorem eG (β:Type)(s:sin.den)(K:sout.den→Option β):evalFn C Tryz.f118 sin sout s K=o.F s K:=by kernel_rfl
theorem ok:OracOk Tryz.prog o:=fn_ok mixed Tryz.func118 (by kernel_rfl) ctx (c:=bodyC Tryz.f118) (by kernel_rfl) (all0) (by kernel_rfl) (by kernel_rfl) (by kernel_rfl) (Nat.le_of_ble_eq_true (by kernel_rfl)) eG (by kernel_rfl) (Nat.le_of_ble_eq_true (by kernel_rfl))
end impl_Stripe_drop
namespace impl_StripeLose
def sin:Sig:=⟨[],[.agg [.val I false,.val (.sl I) false,.val (.sl I) false,.val (.sl .bool) false],.one (.val I false)]⟩
def sout:Sig:=⟨[.buf I false,.buf I false,.buf .bool false],[.agg [.val I false,.ref (.own 0),.ref (.own 1),.ref (.own 2)]]⟩
noncomputable def G {β:Type}(S:Sl)(a0:Int)(a1:(List Int))(a2:(List Int))(a3:(List Bool))(a4:Int)(K:(List Int)→(List Int)→(List Bool)→Int→Option β):Option β:=impl_StripeOk.G S a0 a1 a2 a3 (fun y1=>bif(!y1)then(K [] [] [] 0)else(impl_shardOk.G S a4 (fun y2=>bif(!y2)then(K [] [] [] 0)else(impl_Stripe_copied.G S a0 a1 a2 a3 (fun y3 y4 y5 y6=>impl_Stripe_drop.G S y3 y4 y5 y6 a4 (fun y7 y8 y9=>K y7 y8 y9 y6))))))
noncomputable def o:Orac:=⟨57,sin,sout,fun s K=>G sl0 s.2.1.1 s.2.1.2.1 s.2.1.2.2.1 s.2.1.2.2.2.1 s.2.2.1 (fun x0 x1 x2 x3=>K ((x0,(x1,(x2,()))),((x3,()),())))⟩
noncomputable def C:Ctx:=⟨tyT,[impl_StripeOk.o,impl_Stripe_copied.o,impl_Stripe_drop.o,impl_shardOk.o],[],21,0⟩
theorem ctx:CtxOk Tryz.prog C:=⟨tyOk,all1 impl_StripeOk.ok (all1 impl_Stripe_copied.ok (all1 impl_Stripe_drop.ok (all1 impl_shardOk.ok (all0))))⟩
theorem eG (β:Type)(s:sin.den)(K:sout.den→Option β):evalFn C Tryz.f57 sin sout s K=o.F s K:=by kernel_rfl
theorem ok:OracOk Tryz.prog o:=fn_ok mixed Tryz.func57 (by kernel_rfl) ctx (c:=bodyC Tryz.f57) (by kernel_rfl) (all0) (by kernel_rfl) (by kernel_rfl) (by kernel_rfl) (Nat.le_of_ble_eq_true (by kernel_rfl)) eG (by kernel_rfl) (Nat.le_of_ble_eq_true (by kernel_rfl))
end impl_StripeLose
namespace spec_l41Sum
def sin:Sig:=⟨[],[.one (.val I false),.one (.val I false),.one (.val I false)]⟩
def sout:Sig:=⟨[],[.one (.val I false)]⟩
noncomputable def G {β:Type}(S:Sl)(a0:Int)(a1:Int)(a2:Int)(K:Int→Option β):Option β:=K (S.w ((Int.tmod (S.w ((S.w ((S.w ((3:Int)*a0))+(S.w ((5:Int)*a1))))+(S.w ((7:Int)*a2)))) 89)+1))
noncomputable def o:Orac:=⟨206,sin,sout,fun s K=>G sl0 s.2.1 s.2.2.1 s.2.2.2.1 (fun x0=>K ((),(x0,())))⟩
noncomputable def C:Ctx:=⟨tyT,[],[],17,0⟩
theorem ctx:CtxOk Tryz.prog C:=⟨tyOk,all0⟩
theorem eG (β:Type)(s:sin.den)(K:sout.den→Option β):evalFn C Tryz.f206 sin sout s K=o.F s K:=by kernel_rfl
theorem ok:OracOk Tryz.prog o:=fn_ok mixed Tryz.func206 (by kernel_rfl) ctx (c:=bodyC Tryz.f206) (by kernel_rfl) (all0) (by kernel_rfl) (by kernel_rfl) (by kernel_rfl) (Nat.le_of_ble_eq_true (by kernel_rfl)) eG (by kernel_rfl) (Nat.le_of_ble_eq_true (by kernel_rfl))
end spec_l41Sum
namespace spec_RotWrite
def sin:Sig:=⟨[],[.agg [.val I false,.val (.sl I) false,.val (.sl I) false,.val (.sl .bool) false]]⟩
def sout:Sig:=⟨[.buf (.pair I (.pair I (.pair I .unit))) false],[.one (.ref (.own 0))]⟩
def h5:SS:=⟨[1,3,4],⟨[.box [.val I false,.val (.sl I) false,.val (.sl I) false,.val (.sl .bool) false],.buf (.pair I (.pair I (.pair I .unit))) false],[.one (.ref (.ptr 0)),.one (.ref (.own 1)),.one (.val I false)]⟩⟩
def x5:SS:=⟨[3],⟨[.buf (.pair I (.pair I (.pair I .unit))) false],[.one (.ref (.own 0))]⟩⟩
def y5:SS:=⟨[],⟨[],[]⟩⟩
noncomputable def b5 {β:Type}(S:Sl)(L:Int→(List Int)→(List Int)→(List Bool)→(List (Int×(Int×(Int×Unit))))→Int→Option β)(kx:(List (Int×(Int×(Int×Unit))))→Option β)(kr:Option β)(s0:Int)(s1:(List Int))(s2:(List Int))(s3:(List Bool))(s4:(List (Int×(Int×(Int×Unit)))))(s5:Int):Option β:=bif(S.lt s5 8)then(bif(S.ir s5 s3.length)then(bif(List.getD s3 (Int.toNat s5) false)then(bif(S.ir s5 s1.length)then(bif(S.ir s5 s2.length)then(bif(S.ir s5 s1.length)then(bif(S.ir s5 s2.length)then(spec_l41Sum.G S (List.getD s1 (Int.toNat s5) 0) (List.getD s2 (Int.toNat s5) 0) s5 (fun y1=>bif(S.fw (s4 ++ [((List.getD s1 (Int.toNat s5) 0),((List.getD s2 (Int.toNat s5) 0),(y1,())))]).length)then(L s0 s1 s2 s3 (s4 ++ [((List.getD s1 (Int.toNat s5) 0),((List.getD s2 (Int.toNat s5) 0),(y1,())))]) (S.w (s5+1)))else(none)))else(none))else(none))else(none))else(none))else(bif(S.fw (s4 ++ [(0,(0,(0,())))]).length)then(L s0 s1 s2 s3 (s4 ++ [(0,(0,(0,())))]) (S.w (s5+1)))else(none)))else(none))else(kx s4)
noncomputable def r5 {β:Type}(S:Sl)(n:Nat)(kx:x5.sig.den→Option β)(kr:y5.sig.den→Option β)(s:h5.sig.den):Option β:=rounds (fun L kx kr s=>b5 S (fun x0 x1 x2 x3 x4 x5=>L (((x0,(x1,(x2,(x3,())))),(x4,())),(x5,()))) (fun x0=>kx ((x0,()),())) (kr ((),())) s.1.1.1 s.1.1.2.1 s.1.1.2.2.1 s.1.1.2.2.2.1 s.1.2.1 s.2.1) kx kr n s
noncomputable def l5 {β:Type}(S:Sl)(n:Nat)(kx:(List (Int×(Int×(Int×Unit))))→Option β)(kr:Option β)(s0:Int)(s1:(List Int))(s2:(List Int))(s3:(List Bool))(s4:(List (Int×(Int×(Int×Unit)))))(s5:Int):Option β:=r5 S n (fun s=>kx s.1.1) (fun s=>kr) (((s0,(s1,(s2,(s3,())))),(s4,())),(s5,()))
theorem t5 {β:Type}(S:Sl)(n:Nat)(kx:(List (Int×(Int×(Int×Unit))))→Option β)(kr:Option β)(s0:Int)(s1:(List Int))(s2:(List Int))(s3:(List Bool))(s4:(List (Int×(Int×(Int×Unit)))))(s5:Int):l5 S (n+1) kx kr s0 s1 s2 s3 s4 s5=b5 S (l5 S n kx kr) kx kr s0 s1 s2 s3 s4 s5:=by kernel_rfl
noncomputable def G {β:Type}(S:Sl)(a0:Int)(a1:(List Int))(a2:(List Int))(a3:(List Bool))(K:(List (Int×(Int×(Int×Unit))))→Option β):Option β:=spec_StripeOk.G S a0 a1 a2 a3 (fun y1=>bif(!y1)then(K [])else(l5 S S.n (fun y2=>K y2) none a0 a1 a2 a3 [] 0))
noncomputable def o:Orac:=⟨160,sin,sout,fun s K=>G sl0 s.2.1.1 s.2.1.2.1 s.2.1.2.2.1 s.2.1.2.2.2.1 (fun x0=>K ((x0,()),()))⟩
noncomputable def C:Ctx:=⟨tyT,[spec_StripeOk.o,spec_l41Sum.o],[⟨5,0,h5,x5,y5,fun s kx kr=>r5 sl0 sl0.n kx kr s⟩],49,0⟩
theorem ctx:CtxOk Tryz.prog C:=⟨tyOk,all1 spec_StripeOk.ok (all1 spec_l41Sum.ok (all0))⟩
theorem e5 (β:Type)(L:h5.sig.den→Option β)(kx:x5.sig.den→Option β)(kr:y5.sig.den→Option β)(s:h5.sig.den):evalBody C (nthC (loopsOf (bodyC Tryz.f160)) 0) 0 h5 x5 y5 L kx kr s=b5 sl0 (fun x0 x1 x2 x3 x4 x5=>L (((x0,(x1,(x2,(x3,())))),(x4,())),(x5,()))) (fun x0=>kx ((x0,()),())) (kr ((),())) s.1.1.1 s.1.1.2.1 s.1.1.2.2.1 s.1.1.2.2.2.1 s.1.2.1 s.2.1:=by kernel_rfl
theorem g5:LS Tryz.prog C ⟨5,0,h5,x5,y5,fun s kx kr=>r5 sl0 sl0.n kx kr s⟩ (loopsOf (bodyC Tryz.f160)):=LS.at (i:=0) (by kernel_rfl) (loop_good mixed ctx (ctx_nat ctx) (N:=sl0.n) (fun _ _ _ _=>rfl) e5 (all1 (LS.none (by kernel_rfl)) (all0)))
theorem eG (β:Type)(s:sin.den)(K:sout.den→Option β):evalFn C Tryz.f160 sin sout s K=o.F s K:=by kernel_rfl
theorem ok:OracOk Tryz.prog o:=fn_ok mixed Tryz.func160 (by kernel_rfl) ctx (c:=bodyC Tryz.f160) (by kernel_rfl) (all1 g5 (all0)) (by kernel_rfl) (by kernel_rfl) (by kernel_rfl) (Nat.le_of_ble_eq_true (by kernel_rfl)) eG (by kernel_rfl) (Nat.le_of_ble_eq_true (by kernel_rfl))
end spec_RotWrite
theorem lkInts_l {β:Type} (l:List Int) (hl:l.length≤1000000) (kx:Option β) (kr:Bool→Option β) (d:Nat):∀ (i n:Nat),i+d=l.length→d<n→laws_lkInts.l4 sl1 n kx kr l l (i:Int)=kx:=by
 induction d with
 | zero =>
  intro i n hi hn
  obtain⟨n,rfl⟩:∃ m,n=m+1:=⟨n-1,by omega⟩
  rw [laws_lkInts.t4]; exact cF (ltF (by omega)) rfl
 | succ d ih =>
  intro i n hi hn
  obtain⟨n,rfl⟩:∃ m,n=m+1:=⟨n-1,by omega⟩
  rw [laws_lkInts.t4]
  unfold laws_lkInts.b4
  refine cT (ltT (by omega)) (cT (irT (by omega) (by omega)) (cT (irT (by omega) (by omega)) (cF (neF rfl) ?_)))
  rw [w_succ (by omega)]
  exact ih (i+1) n (by omega) (by omega)
theorem lkInts_same {β:Type} (l:List Int) (hl:l.length≤1000000) (K:Bool→Option β):laws_lkInts.G sl1 l l K=K true:=by
 unfold laws_lkInts.G
 exact cF (neF rfl) (lkInts_l l hl _ _ l.length 0 sl1.n (by omega) (by rw [rounds_n]; omega))
namespace impl_RotSum
def sin:Sig:=⟨[],[.one (.val I false),.one (.val I false),.one (.val I false)]⟩
def sout:Sig:=⟨[],[.one (.val I false)]⟩
noncomputable def G {β:Type}(S:Sl)(a0:Int)(a1:Int)(a2:Int)(K:Int→Option β):Option β:=impl_FieldOk.G S a0 (fun y1=>bif(!y1)then(K 0)else(impl_versOk.G S a1 (fun y2=>bif(!y2)then(K 0)else(impl_shardOk.G S a2 (fun y3=>bif(!y3)then(K 0)else(K (S.w ((Int.tmod (S.w ((S.w ((S.w ((3:Int)*a0))+(S.w ((5:Int)*a1))))+(S.w ((7:Int)*a2)))) 89)+1))))))))
noncomputable def o:Orac:=⟨208,sin,sout,fun s K=>G sl0 s.2.1 s.2.2.1 s.2.2.2.1 (fun x0=>K ((),(x0,())))⟩
noncomputable def C:Ctx:=⟨tyT,[impl_FieldOk.o,impl_shardOk.o,impl_versOk.o],[],30,0⟩
theorem ctx:CtxOk Tryz.prog C:=⟨tyOk,all1 impl_FieldOk.ok (all1 impl_shardOk.ok (all1 impl_versOk.ok (all0)))⟩
theorem eG (β:Type)(s:sin.den)(K:sout.den→Option β):evalFn C Tryz.f208 sin sout s K=o.F s K:=by kernel_rfl
theorem ok:OracOk Tryz.prog o:=fn_ok mixed Tryz.func208 (by kernel_rfl) ctx (c:=bodyC Tryz.f208) (by kernel_rfl) (all0) (by kernel_rfl) (by kernel_rfl) (by kernel_rfl) (Nat.le_of_ble_eq_true (by kernel_rfl)) eG (by kernel_rfl) (Nat.le_of_ble_eq_true (by kernel_rfl))
end impl_RotSum
namespace impl_Disk_intact
def sin:Sig:=⟨[],[.agg [.val I false,.val I false,.val I false],.one (.val I false)]⟩
def sout:Sig:=⟨[],[.one (.val .bool false)]⟩
noncomputable def G {β:Type}(S:Sl)(a0:Int)(a1:Int)(a2:Int)(a3:Int)(K:Bool→Option β):Option β:=bif(!S.eq a2 0)then(impl_RotSum.G S a0 a1 a3 (fun y1=>K (S.eq a2 y1)))else(K false)
noncomputable def o:Orac:=⟨207,sin,sout,fun s K=>G sl0 s.2.1.1 s.2.1.2.1 s.2.1.2.2.1 s.2.2.1 (fun x0=>K ((),(x0,())))⟩
noncomputable def C:Ctx:=⟨tyT,[impl_RotSum.o],[],19,0⟩
theorem ctx:CtxOk Tryz.prog C:=⟨tyOk,all1 impl_RotSum.ok (all0)⟩
theorem eG (β:Type)(s:sin.den)(K:sout.den→Option β):evalFn C Tryz.f207 sin sout s K=o.F s K:=by kernel_rfl
theorem ok:OracOk Tryz.prog o:=fn_ok mixed Tryz.func207 (by kernel_rfl) ctx (c:=bodyC Tryz.f207) (by kernel_rfl) (all0) (by kernel_rfl) (by kernel_rfl) (by kernel_rfl) (Nat.le_of_ble_eq_true (by kernel_rfl)) eG (by kernel_rfl) (Nat.le_of_ble_eq_true (by kernel_rfl))
end impl_Disk_intact
namespace spec_RotSum
def sin:Sig:=⟨[],[.one (.val I false),.one (.val I false),.one (.val I false)]⟩
def sout:Sig:=⟨[],[.one (.val I false)]⟩
noncomputable def G {β:Type}(S:Sl)(a0:Int)(a1:Int)(a2:Int)(K:Int→Option β):Option β:=spec_FieldOk.G S a0 (fun y1=>bif(!y1)then(K 0)else(spec_l6In.G S a1 1 99 (fun y2=>bif(!y2)then(K 0)else(spec_l6In.G S a2 0 7 (fun y3=>bif(!y3)then(K 0)else(spec_l41Sum.G S a0 a1 a2 (fun y4=>K y4)))))))
noncomputable def o:Orac:=⟨233,sin,sout,fun s K=>G sl0 s.2.1 s.2.2.1 s.2.2.2.1 (fun x0=>K ((),(x0,())))⟩
noncomputable def C:Ctx:=⟨tyT,[spec_FieldOk.o,spec_l41Sum.o,spec_l6In.o],[],24,0⟩
theorem ctx:CtxOk Tryz.prog C:=⟨tyOk,all1 spec_FieldOk.ok (all1 spec_l41Sum.ok (all1 spec_l6In.ok (all0)))⟩
theorem eG (β:Type)(s:sin.den)(K:sout.den→Option β):evalFn C Tryz.f233 sin sout s K=o.F s K:=by kernel_rfl
theorem ok:OracOk Tryz.prog o:=fn_ok mixed Tryz.func233 (by kernel_rfl) ctx (c:=bodyC Tryz.f233) (by kernel_rfl) (all0) (by kernel_rfl) (by kernel_rfl) (by kernel_rfl) (Nat.le_of_ble_eq_true (by kernel_rfl)) eG (by kernel_rfl) (Nat.le_of_ble_eq_true (by kernel_rfl))
end spec_RotSum
namespace spec_l41Good
def sin:Sig:=⟨[],[.agg [.val I false,.val I false,.val I false],.one (.val I false)]⟩
def sout:Sig:=⟨[],[.one (.val .bool false)]⟩
noncomputable def G {β:Type}(S:Sl)(a0:Int)(a1:Int)(a2:Int)(a3:Int)(K:Bool→Option β):Option β:=bif(S.lt 0 a2)then(spec_RotSum.G S a0 a1 a3 (fun y1=>K (S.eq y1 a2)))else(K false)
noncomputable def o:Orac:=⟨205,sin,sout,fun s K=>G sl0 s.2.1.1 s.2.1.2.1 s.2.1.2.2.1 s.2.2.1 (fun x0=>K ((),(x0,())))⟩
noncomputable def C:Ctx:=⟨tyT,[spec_RotSum.o],[],19,0⟩
theorem ctx:CtxOk Tryz.prog C:=⟨tyOk,all1 spec_RotSum.ok (all0)⟩
theorem eG (β:Type)(s:sin.den)(K:sout.den→Option β):evalFn C Tryz.f205 sin sout s K=o.F s K:=by kernel_rfl
theorem ok:OracOk Tryz.prog o:=fn_ok mixed Tryz.func205 (by kernel_rfl) ctx (c:=bodyC Tryz.f205) (by kernel_rfl) (all0) (by kernel_rfl) (by kernel_rfl) (by kernel_rfl) (Nat.le_of_ble_eq_true (by kernel_rfl)) eG (by kernel_rfl) (Nat.le_of_ble_eq_true (by kernel_rfl))
end spec_l41Good
abbrev Dk':=Int×Int×Int×Unit
def rotRaw (a b c:Int):Int:=sl1.w ((Int.tmod (sl1.w ((sl1.w ((sl1.w ((3:Int)*a))+(sl1.w ((5:Int)*b))))+(sl1.w ((7:Int)*c)))) 89)+1)
def rotV (a b c:Int):Int:=bif inV a 0 30&&(inV b 1 99&&inV c 0 7)then rotRaw a b c else 0
theorem rot_impl {β:Type} (a b c:Int) (K:Int→Option β):impl_RotSum.G sl1 a b c K=K (rotV a b c):=by
 unfold impl_RotSum.G rotV
 refine(impl_field _ _).trans ?_
 cases h1:inV a 0 30
 ·exact cT rfl rfl
 refine cF rfl ((impl_in b 1 99 _).trans ?_)
 cases h2:inV b 1 99
 ·exact cT rfl rfl
 refine cF rfl ((impl_in c 0 7 _).trans ?_)
 cases h3:inV c 0 7
 ·exact cT rfl rfl
 exact cF rfl rfl
theorem rot_spec {β:Type} (a b c:Int) (K:Int→Option β):spec_RotSum.G sl1 a b c K=K (rotV a b c):=by
 unfold spec_RotSum.G rotV
 refine(spec_field _ _).trans ?_
 cases h1:inV a 0 30
 ·exact cT rfl rfl
 refine cF rfl ((spec_in b 1 99 _).trans ?_)
 cases h2:inV b 1 99
 ·exact cT rfl rfl
 refine cF rfl ((spec_in c 0 7 _).trans ?_)
 cases h3:inV c 0 7
 ·exact cT rfl rfl
 exact cF rfl rfl
theorem rotV_pos (a b c:Int):0≤rotV a b c:=by
 unfold rotV
 cases h:inV a 0 30&&(inV b 1 99&&inV c 0 7)
 ·exact Int.le_refl _
 ·simp only [Bool.and_eq_true, inV_iff] at h
  obtain⟨h1,h2,h3⟩:=h
  show 0≤rotRaw a b c
  unfold rotRaw
  rw [wE (a:=3*a) (by omega) (by omega),wE (a:=5*b) (by omega) (by omega),wE (a:=7*c) (by omega) (by omega),wE (a:=3*a+5*b) (by omega) (by omega),wE (a:=3*a+5*b+7*c) (by omega) (by omega)]
  have:=tmod_in (a:=3*a+5*b+7*c) (n:=89) (by omega) (by omega)
  rw [wE (by omega) (by omega)]; omega
def zeroD (d:Dk'):Bool:=sl1.eq d.1 0&&(sl1.eq d.2.1 0&&(sl1.eq d.2.2.1 0&&true))
def goodV (d:Dk') (i:Int):Bool:=!(d.2.2.1==0)&&(d.2.2.1==rotV d.1 d.2.1 i)
theorem good_impl {β:Type} (d:Dk') (i:Int) (K:Bool→Option β):impl_Disk_intact.G sl1 d.1 d.2.1 d.2.2.1 i K=K (goodV d i):=by
 unfold impl_Disk_intact.G goodV
 by_cases h:d.2.2.1=0
 ·rw [show (d.2.2.1 == 0) = true from beq_iff_eq.2 h]
  exact cF (neF h) rfl
 ·rw [show (d.2.2.1 == 0) = false from beq_eq_false_iff_ne.2 h]
  exact cT (neT h) ((rot_impl _ _ _ _).trans rfl)
theorem good_spec {β:Type} (d:Dk') (i:Int) (K:Bool→Option β):spec_l41Good.G sl1 d.1 d.2.1 d.2.2.1 i K=K (goodV d i):=by
 unfold spec_l41Good.G goodV
 have hp:=rotV_pos d.1 d.2.1 i
 by_cases h:0<d.2.2.1
 ·rw [show (d.2.2.1 == 0) = false from beq_eq_false_iff_ne.2 (by omega)]
  refine cT (ltT h) ((rot_spec _ _ _ _).trans ?_)
  rw [eq_def,Bool.not_false,Bool.true_and,Bool.beq_comm]
 ·refine cF (ltF (by omega)) ?_
  by_cases h0:d.2.2.1=0
  ·rw [show(d.2.2.1==0)=true from beq_iff_eq.2 h0]; rfl
  ·rw [show(d.2.2.1==rotV d.1 d.2.1 i)=false from beq_eq_false_iff_ne.2 (by omega),Bool.and_false]
namespace impl_blocks
def sin:Sig:=⟨[],[.agg [.val I false,.val (.sl I) false,.val (.sl I) false,.val (.sl .bool) false]]⟩
def sout:Sig:=⟨[.buf (.pair I (.pair I (.pair I .unit))) false],[.one (.ref (.own 0))]⟩
def h3:SS:=⟨[1,3,9,10,11],⟨[.box [.val I false,.val (.sl I) false,.val (.sl I) false,.val (.sl .bool) false],.buf (.pair I (.pair I (.pair I .unit))) false,.buf I false],[.one (.ref (.ptr 0)),.one (.ref (.own 1)),.one (.ref (.own 2)),.one (.val I false),.one (.val I false)]⟩⟩
def x3:SS:=⟨[3],⟨[.buf (.pair I (.pair I (.pair I .unit))) false],[.one (.ref (.own 0))]⟩⟩
def y3:SS:=⟨[],⟨[],[]⟩⟩
noncomputable def b3 {β:Type}(S:Sl)(L:Int→(List Int)→(List Int)→(List Bool)→(List (Int×(Int×(Int×Unit))))→(List Int)→Int→Int→Option β)(kx:(List (Int×(Int×(Int×Unit))))→Option β)(kr:Option β)(s0:Int)(s1:(List Int))(s2:(List Int))(s3:(List Bool))(s4:(List (Int×(Int×(Int×Unit)))))(s5:(List Int))(s6:Int)(s7:Int):Option β:=bif(S.lt s7 s6)then(bif(S.ir s7 s5.length)then(bif(S.ir (List.getD s5 (Int.toNat s7) 0) s1.length)then(bif(S.ir (List.getD s5 (Int.toNat s7) 0) s2.length)then(bif(S.ir (List.getD s5 (Int.toNat s7) 0) s1.length)then(bif(S.ir (List.getD s5 (Int.toNat s7) 0) s2.length)then(impl_RotSum.G S (List.getD s1 (Int.toNat (List.getD s5 (Int.toNat s7) 0)) 0) (List.getD s2 (Int.toNat (List.getD s5 (Int.toNat s7) 0)) 0) (List.getD s5 (Int.toNat s7) 0) (fun y1=>bif(S.ir (List.getD s5 (Int.toNat s7) 0) s4.length)then(L s0 s1 s2 s3 (List.set s4 (Int.toNat (List.getD s5 (Int.toNat s7) 0)) ((List.getD s1 (Int.toNat (List.getD s5 (Int.toNat s7) 0)) 0),((List.getD s2 (Int.toNat (List.getD s5 (Int.toNat s7) 0)) 0),(y1,())))) s5 s6 (S.w (s7+1)))else(none)))else(none))else(none))else(none))else(none))else(none))else(kx s4)
noncomputable def r3 {β:Type}(S:Sl)(n:Nat)(kx:x3.sig.den→Option β)(kr:y3.sig.den→Option β)(s:h3.sig.den):Option β:=rounds (fun L kx kr s=>b3 S (fun x0 x1 x2 x3 x4 x5 x6 x7=>L (((x0,(x1,(x2,(x3,())))),(x4,(x5,()))),(x6,(x7,())))) (fun x0=>kx ((x0,()),())) (kr ((),())) s.1.1.1 s.1.1.2.1 s.1.1.2.2.1 s.1.1.2.2.2.1 s.1.2.1 s.1.2.2.1 s.2.1 s.2.2.1) kx kr n s
noncomputable def l3 {β:Type}(S:Sl)(n:Nat)(kx:(List (Int×(Int×(Int×Unit))))→Option β)(kr:Option β)(s0:Int)(s1:(List Int))(s2:(List Int))(s3:(List Bool))(s4:(List (Int×(Int×(Int×Unit)))))(s5:(List Int))(s6:Int)(s7:Int):Option β:=r3 S n (fun s=>kx s.1.1) (fun s=>kr) (((s0,(s1,(s2,(s3,())))),(s4,(s5,()))),(s6,(s7,())))
theorem t3 {β:Type}(S:Sl)(n:Nat)(kx:(List (Int×(Int×(Int×Unit))))→Option β)(kr:Option β)(s0:Int)(s1:(List Int))(s2:(List Int))(s3:(List Bool))(s4:(List (Int×(Int×(Int×Unit)))))(s5:(List Int))(s6:Int)(s7:Int):l3 S (n+1) kx kr s0 s1 s2 s3 s4 s5 s6 s7=b3 S (l3 S n kx kr) kx kr s0 s1 s2 s3 s4 s5 s6 s7:=by kernel_rfl
noncomputable def G {β:Type}(S:Sl)(a0:Int)(a1:(List Int))(a2:(List Int))(a3:(List Bool))(K:(List (Int×(Int×(Int×Unit))))→Option β):Option β:=bif((S.le 0 8)&&(S.le 8 8)&&S.fw (Int.toNat 8))then(impl_flagged.G S a3 (fun y1=>l3 S S.n (fun y2=>K y2) none a0 a1 a2 a3 (List.replicate (Int.toNat 8) ((0,(0,(0,()))):(Int×(Int×(Int×Unit))))) y1 (y1.length:Int) 0))else(none)
noncomputable def o:Orac:=⟨165,sin,sout,fun s K=>G sl0 s.2.1.1 s.2.1.2.1 s.2.1.2.2.1 s.2.1.2.2.2.1 (fun x0=>K ((x0,()),()))⟩
noncomputable def C:Ctx:=⟨tyT,[impl_RotSum.o,impl_flagged.o],[⟨3,0,h3,x3,y3,fun s kx kr=>r3 sl0 sl0.n kx kr s⟩],43,0⟩
theorem ctx:CtxOk Tryz.prog C:=⟨tyOk,all1 impl_RotSum.ok (all1 impl_flagged.ok (all0))⟩
theorem e3 (β:Type)(L:h3.sig.den→Option β)(kx:x3.sig.den→Option β)(kr:y3.sig.den→Option β)(s:h3.sig.den):evalBody C (nthC (loopsOf (bodyC Tryz.f165)) 0) 0 h3 x3 y3 L kx kr s=b3 sl0 (fun x0 x1 x2 x3 x4 x5 x6 x7=>L (((x0,(x1,(x2,(x3,())))),(x4,(x5,()))),(x6,(x7,())))) (fun x0=>kx ((x0,()),())) (kr ((),())) s.1.1.1 s.1.1.2.1 s.1.1.2.2.1 s.1.1.2.2.2.1 s.1.2.1 s.1.2.2.1 s.2.1 s.2.2.1:=by kernel_rfl
theorem g3:LS Tryz.prog C ⟨3,0,h3,x3,y3,fun s kx kr=>r3 sl0 sl0.n kx kr s⟩ (loopsOf (bodyC Tryz.f165)):=LS.at (i:=0) (by kernel_rfl) (loop_good mixed ctx (ctx_nat ctx) (N:=sl0.n) (fun _ _ _ _=>rfl) e3 (all1 (LS.none (by kernel_rfl)) (all0)))
theorem eG (β:Type)(s:sin.den)(K:sout.den→Option β):evalFn C Tryz.f165 sin sout s K=o.F s K:=by kernel_rfl
theorem ok:OracOk Tryz.prog o:=fn_ok mixed Tryz.func165 (by kernel_rfl) ctx (c:=bodyC Tryz.f165) (by kernel_rfl) (all1 g3 (all0)) (by kernel_rfl) (by kernel_rfl) (by kernel_rfl) (Nat.le_of_ble_eq_true (by kernel_rfl)) eG (by kernel_rfl) (Nat.le_of_ble_eq_true (by kernel_rfl))
end impl_blocks
namespace impl_RotWrite
def sin:Sig:=⟨[],[.agg [.val I false,.val (.sl I) false,.val (.sl I) false,.val (.sl .bool) false]]⟩
def sout:Sig:=⟨[.buf (.pair I (.pair I (.pair I .unit))) false],[.one (.ref (.own 0))]⟩
noncomputable def G {β:Type}(S:Sl)(a0:Int)(a1:(List Int))(a2:(List Int))(a3:(List Bool))(K:(List (Int×(Int×(Int×Unit))))→Option β):Option β:=impl_StripeOk.G S a0 a1 a2 a3 (fun y1=>bif(!y1)then(K [])else(impl_blocks.G S a0 a1 a2 a3 (fun y2=>K y2)))
noncomputable def o:Orac:=⟨78,sin,sout,fun s K=>G sl0 s.2.1.1 s.2.1.2.1 s.2.1.2.2.1 s.2.1.2.2.2.1 (fun x0=>K ((x0,()),()))⟩
noncomputable def C:Ctx:=⟨tyT,[impl_StripeOk.o,impl_blocks.o],[],8,0⟩
theorem ctx:CtxOk Tryz.prog C:=⟨tyOk,all1 impl_StripeOk.ok (all1 impl_blocks.ok (all0))⟩
theorem eG (β:Type)(s:sin.den)(K:sout.den→Option β):evalFn C Tryz.f78 sin sout s K=o.F s K:=by kernel_rfl
theorem ok:OracOk Tryz.prog o:=fn_ok mixed Tryz.func78 (by kernel_rfl) ctx (c:=bodyC Tryz.f78) (by kernel_rfl) (all0) (by kernel_rfl) (by kernel_rfl) (by kernel_rfl) (Nat.le_of_ble_eq_true (by kernel_rfl)) eG (by kernel_rfl) (Nat.le_of_ble_eq_true (by kernel_rfl))
end impl_RotWrite
namespace impl_Stripe_top
def sin:Sig:=⟨[],[.agg [.val I false,.val (.sl I) false,.val (.sl I) false,.val (.sl .bool) false]]⟩
def sout:Sig:=⟨[],[.one (.val I false)]⟩
def h2:SS:=⟨[6,7,8],⟨[.buf I false],[.one (.ref (.own 0)),.one (.val I false),.one (.val I false)]⟩⟩
def x2:SS:=⟨[],⟨[],[]⟩⟩
def y2:SS:=⟨[2],⟨[],[.one (.val I false)]⟩⟩
noncomputable def b2 {β:Type}(S:Sl)(L:(List Int)→Int→Int→Option β)(kx:Option β)(kr:Int→Option β)(s0:(List Int))(s1:Int)(s2:Int):Option β:=bif(S.lt s2 s1)then(bif(S.ir s2 s0.length)then(kr (List.getD s0 (Int.toNat s2) 0))else(none))else(kx)
noncomputable def r2 {β:Type}(S:Sl)(n:Nat)(kx:x2.sig.den→Option β)(kr:y2.sig.den→Option β)(s:h2.sig.den):Option β:=rounds (fun L kx kr s=>b2 S (fun x0 x1 x2=>L ((x0,()),(x1,(x2,())))) (kx ((),())) (fun x0=>kr ((),(x0,()))) s.1.1 s.2.1 s.2.2.1) kx kr n s
noncomputable def l2 {β:Type}(S:Sl)(n:Nat)(kx:Option β)(kr:Int→Option β)(s0:(List Int))(s1:Int)(s2:Int):Option β:=r2 S n (fun s=>kx) (fun s=>kr s.2.1) ((s0,()),(s1,(s2,())))
theorem t2 {β:Type}(S:Sl)(n:Nat)(kx:Option β)(kr:Int→Option β)(s0:(List Int))(s1:Int)(s2:Int):l2 S (n+1) kx kr s0 s1 s2=b2 S (l2 S n kx kr) kx kr s0 s1 s2:=by kernel_rfl
noncomputable def G {β:Type}(S:Sl)(a0:Int)(a1:(List Int))(a2:(List Int))(a3:(List Bool))(K:Int→Option β):Option β:=impl_Stripe_versions.G S a0 a1 a2 a3 (fun y1=>l2 S S.n (K 0) (fun y2=>K y2) y1 (y1.length:Int) 0)
noncomputable def o:Orac:=⟨91,sin,sout,fun s K=>G sl0 s.2.1.1 s.2.1.2.1 s.2.1.2.2.1 s.2.1.2.2.2.1 (fun x0=>K ((),(x0,())))⟩
noncomputable def C:Ctx:=⟨tyT,[impl_Stripe_versions.o],[⟨2,0,h2,x2,y2,fun s kx kr=>r2 sl0 sl0.n kx kr s⟩],14,0⟩
theorem ctx:CtxOk Tryz.prog C:=⟨tyOk,all1 impl_Stripe_versions.ok (all0)⟩
theorem e2 (β:Type)(L:h2.sig.den→Option β)(kx:x2.sig.den→Option β)(kr:y2.sig.den→Option β)(s:h2.sig.den):evalBody C (nthC (loopsOf (bodyC Tryz.f91)) 0) 0 h2 x2 y2 L kx kr s=b2 sl0 (fun x0 x1 x2=>L ((x0,()),(x1,(x2,())))) (kx ((),())) (fun x0=>kr ((),(x0,()))) s.1.1 s.2.1 s.2.2.1:=by kernel_rfl
theorem g2:LS Tryz.prog C ⟨2,0,h2,x2,y2,fun s kx kr=>r2 sl0 sl0.n kx kr s⟩ (loopsOf (bodyC Tryz.f91)):=LS.at (i:=0) (by kernel_rfl) (loop_good mixed ctx (ctx_nat ctx) (N:=sl0.n) (fun _ _ _ _=>rfl) e2 (all1 (LS.none (by kernel_rfl)) (all0)))
theorem eG (β:Type)(s:sin.den)(K:sout.den→Option β):evalFn C Tryz.f91 sin sout s K=o.F s K:=by kernel_rfl
theorem ok:OracOk Tryz.prog o:=fn_ok mixed Tryz.func91 (by kernel_rfl) ctx (c:=bodyC Tryz.f91) (by kernel_rfl) (all1 g2 (all0)) (by kernel_rfl) (by kernel_rfl) (by kernel_rfl) (Nat.le_of_ble_eq_true (by kernel_rfl)) eG (by kernel_rfl) (Nat.le_of_ble_eq_true (by kernel_rfl))
end impl_Stripe_top
namespace impl_StripeWrite
def sin:Sig:=⟨[],[.agg [.val I false,.val (.sl I) false,.val (.sl I) false,.val (.sl .bool) false],.one (.val (.sl I) false),.one (.val (.sl .bool) false)]⟩
def sout:Sig:=⟨[.buf I false,.buf I false,.buf .bool false],[.agg [.val I false,.ref (.own 0),.ref (.own 1),.ref (.own 2)],.one (.val .bool false)]⟩
def h9:SS:=⟨[3,6,10,11,43,44,45],⟨[.box [.val I false,.val (.sl I) false,.val (.sl I) false,.val (.sl .bool) false],.box [.val I false,.ref .e0,.ref .e0,.ref .e0],.box [.val I false,.ref (.own 5),.ref (.own 6),.ref (.own 7)],.buf I false,.buf I false,.buf I false,.buf I false,.buf .bool false],[.one (.ref (.ptr 0)),.one (.ref (.ptr 1)),.one (.ref (.ptr 2)),.one (.ref (.own 3)),.one (.ref (.own 4)),.one (.val I false),.one (.val I false)]⟩⟩
def x9:SS:=⟨[6,10],⟨[.box [.val I false,.ref .e0,.ref .e0,.ref .e0],.box [.val I false,.ref (.own 2),.ref (.own 3),.ref (.own 4)],.buf I false,.buf I false,.buf .bool false],[.one (.ref (.ptr 0)),.one (.ref (.ptr 1))]⟩⟩
def y9:SS:=⟨[],⟨[],[]⟩⟩
noncomputable def b9 {β:Type}(S:Sl)(L:Int→(List Int)→(List Int)→(List Bool)→Int→Int→(List Int)→(List Int)→(List Int)→(List Int)→(List Bool)→Int→Int→Option β)(kx:Int→Int→(List Int)→(List Int)→(List Bool)→Option β)(kr:Option β)(s0:Int)(s1:(List Int))(s2:(List Int))(s3:(List Bool))(s4:Int)(s5:Int)(s6:(List Int))(s7:(List Int))(s8:(List Int))(s9:(List Int))(s10:(List Bool))(s11:Int)(s12:Int):Option β:=bif(S.lt s12 s11)then(bif(S.ir s12 s7.length)then(bif(S.ir (List.getD s7 (Int.toNat s12) 0) s6.length)then(impl_Stripe_top.G S s0 s1 s2 s3 (fun y1=>impl_Stripe_put.G S s8 s9 s10 s5 (List.getD s7 (Int.toNat s12) 0) (List.getD s6 (Int.toNat (List.getD s7 (Int.toNat s12) 0)) 0) (S.w (y1+1)) (fun y2 y3 y4=>L s0 s1 s2 s3 s4 s5 s6 s7 y2 y3 y4 s11 (S.w (s12+1)))))else(none))else(none))else(kx s4 s5 s8 s9 s10)
noncomputable def r9 {β:Type}(S:Sl)(n:Nat)(kx:x9.sig.den→Option β)(kr:y9.sig.den→Option β)(s:h9.sig.den):Option β:=rounds (fun L kx kr s=>b9 S (fun x0 x1 x2 x3 x4 x5 x6 x7 x8 x9 x10 x11 x12=>L (((x0,(x1,(x2,(x3,())))),((x4,()),((x5,()),(x6,(x7,(x8,(x9,(x10,())))))))),(x11,(x12,())))) (fun x0 x1 x2 x3 x4=>kx (((x0,()),((x1,()),(x2,(x3,(x4,()))))),())) (kr ((),())) s.1.1.1 s.1.1.2.1 s.1.1.2.2.1 s.1.1.2.2.2.1 s.1.2.1.1 s.1.2.2.1.1 s.1.2.2.2.1 s.1.2.2.2.2.1 s.1.2.2.2.2.2.1 s.1.2.2.2.2.2.2.1 s.1.2.2.2.2.2.2.2.1 s.2.1 s.2.2.1) kx kr n s
noncomputable def l9 {β:Type}(S:Sl)(n:Nat)(kx:Int→Int→(List Int)→(List Int)→(List Bool)→Option β)(kr:Option β)(s0:Int)(s1:(List Int))(s2:(List Int))(s3:(List Bool))(s4:Int)(s5:Int)(s6:(List Int))(s7:(List Int))(s8:(List Int))(s9:(List Int))(s10:(List Bool))(s11:Int)(s12:Int):Option β:=r9 S n (fun s=>kx s.1.1.1 s.1.2.1.1 s.1.2.2.1 s.1.2.2.2.1 s.1.2.2.2.2.1) (fun s=>kr) (((s0,(s1,(s2,(s3,())))),((s4,()),((s5,()),(s6,(s7,(s8,(s9,(s10,())))))))),(s11,(s12,())))
theorem t9 {β:Type}(S:Sl)(n:Nat)(kx:Int→Int→(List Int)→(List Int)→(List Bool)→Option β)(kr:Option β)(s0:Int)(s1:(List Int))(s2:(List Int))(s3:(List Bool))(s4:Int)(s5:Int)(s6:(List Int))(s7:(List Int))(s8:(List Int))(s9:(List Int))(s10:(List Bool))(s11:Int)(s12:Int):l9 S (n+1) kx kr s0 s1 s2 s3 s4 s5 s6 s7 s8 s9 s10 s11 s12=b9 S (l9 S n kx kr) kx kr s0 s1 s2 s3 s4 s5 s6 s7 s8 s9 s10 s11 s12:=by kernel_rfl
noncomputable def G {β:Type}(S:Sl)(a0:Int)(a1:(List Int))(a2:(List Int))(a3:(List Bool))(a4:(List Int))(a5:(List Bool))(K:(List Int)→(List Int)→(List Bool)→Int→Bool→Option β):Option β:=impl_vectorOf.G S a4 (fun y1 y2=>bif(!y2)then(K [] [] [] 0 false)else(impl_StripeOk.G S a0 a1 a2 a3 (fun y3=>bif(!y3)then(K [] [] [] 0 false)else(bif(!S.eq (a5.length:Int) 8)then(K [] [] [] 0 false)else(impl_Stripe_copied.G S a0 a1 a2 a3 (fun y4 y5 y6 y7=>impl_Stripe_top.G S a0 a1 a2 a3 (fun y8=>bif(S.eq y8 99)then(K y4 y5 y6 y7 false)else(impl_encode.G S a0 y1 (fun y9=>impl_flagged.G S a5 (fun y10=>l9 S S.n (fun y11 y12 y13 y14 y15=>K y13 y14 y15 y12 true) none a0 a1 a2 a3 0 y7 y9 y10 y4 y5 y6 (y10.length:Int) 0))))))))))
noncomputable def o:Orac:=⟨22,sin,sout,fun s K=>G sl0 s.2.1.1 s.2.1.2.1 s.2.1.2.2.1 s.2.1.2.2.2.1 s.2.2.1 s.2.2.2.1 (fun x0 x1 x2 x3 x4=>K ((x0,(x1,(x2,()))),((x3,()),(x4,()))))⟩
noncomputable def C:Ctx:=⟨tyT,[impl_StripeOk.o,impl_Stripe_copied.o,impl_Stripe_put.o,impl_Stripe_top.o,impl_encode.o,impl_flagged.o,impl_vectorOf.o],[⟨9,0,h9,x9,y9,fun s kx kr=>r9 sl0 sl0.n kx kr s⟩],61,0⟩
theorem ctx:CtxOk Tryz.prog C:=⟨tyOk,all1 impl_StripeOk.ok (all1 impl_Stripe_copied.ok (all1 impl_Stripe_put.ok (all1 impl_Stripe_top.ok (all1 impl_encode.ok (all1 impl_flagged.ok (all1 impl_vectorOf.ok (all0)))))))⟩
theorem e9 (β:Type)(L:h9.sig.den→Option β)(kx:x9.sig.den→Option β)(kr:y9.sig.den→Option β)(s:h9.sig.den):evalBody C (nthC (loopsOf (bodyC Tryz.f22)) 0) 0 h9 x9 y9 L kx kr s=b9 sl0 (fun x0 x1 x2 x3 x4 x5 x6 x7 x8 x9 x10 x11 x12=>L (((x0,(x1,(x2,(x3,())))),((x4,()),((x5,()),(x6,(x7,(x8,(x9,(x10,())))))))),(x11,(x12,())))) (fun x0 x1 x2 x3 x4=>kx (((x0,()),((x1,()),(x2,(x3,(x4,()))))),())) (kr ((),())) s.1.1.1 s.1.1.2.1 s.1.1.2.2.1 s.1.1.2.2.2.1 s.1.2.1.1 s.1.2.2.1.1 s.1.2.2.2.1 s.1.2.2.2.2.1 s.1.2.2.2.2.2.1 s.1.2.2.2.2.2.2.1 s.1.2.2.2.2.2.2.2.1 s.2.1 s.2.2.1:=by kernel_rfl
theorem g9:LS Tryz.prog C ⟨9,0,h9,x9,y9,fun s kx kr=>r9 sl0 sl0.n kx kr s⟩ (loopsOf (bodyC Tryz.f22)):=LS.at (i:=0) (by kernel_rfl) (loop_good mixed ctx (ctx_nat ctx) (N:=sl0.n) (fun _ _ _ _=>rfl) e9 (all1 (LS.none (by kernel_rfl)) (all0)))
theorem eG (β:Type)(s:sin.den)(K:sout.den→Option β):evalFn C Tryz.f22 sin sout s K=o.F s K:=by kernel_rfl
theorem ok:OracOk Tryz.prog o:=fn_ok mixed Tryz.func22 (by kernel_rfl) ctx (c:=bodyC Tryz.f22) (by kernel_rfl) (all1 g9 (all0)) (by kernel_rfl) (by kernel_rfl) (by kernel_rfl) (Nat.le_of_ble_eq_true (by kernel_rfl)) eG (by kernel_rfl) (Nat.le_of_ble_eq_true (by kernel_rfl))
end impl_StripeWrite
end Go.Proofs.YtnbighmbgmjbkaaGreat.E
end
section
namespace Go.Proofs.YtnbighmbgmjbkaaGreat.Head
theorem strip (r : List (List Char)) : stripLifts liftWords ("cut".toList :: r) = ([], "cut".toList :: r) := by
 unfold liftWords
 repeat (rw [stripLifts,if_neg (by decide +kernel)])
 rw [stripLifts]
theorem words_of {ws : List (List Char)} (h : ws.head? = some "cut".toList) : ∃ r, ws = "cut".toList :: r := by
 cases ws with
 | nil => cases h
 | cons c r => exact ⟨r, by rw [Option.some.inj h]⟩
theorem lifts_of (P : Program) (l : List Char) (hl : P.initOrder.toList = l) (h : (behindMainWord (wordsSigns l)).head? = some "cut".toList) : P.headLifts = [] := by
 obtain⟨r,hr⟩:=words_of h
 unfold Program.headLifts
 rw [hl,hr,strip]
 dsimp only
 split <;> rfl
theorem e1 : ("cut".toList == "gc".toList) = false := by decide +kernel
theorem e2 : ("cut".toList == "spec".toList) = false := by decide +kernel
theorem e3 : ("cut".toList == "carried".toList) = false := by decide +kernel
theorem e4 : (some "cut".toList == some "carried".toList) = false := by decide +kernel
theorem make_of (P : Program) (l : List Char) (hl : P.initOrder.toList = l) (h : (behindMainWord (wordsSigns l)).head? = some "cut".toList) : P.make = some .cut := by
 obtain⟨r,hr⟩:=words_of h
 unfold Program.make
 rw [hl,hr]
 dsimp only
 rw [e1,e2]
 simp
theorem final_of (P : Program) (l : List Char) (hl : P.initOrder.toList = l) (h : (behindMainWord (wordsSigns l)).head? = some "cut".toList) : P.liftsFinal = false := by
 obtain⟨r,hr⟩:=words_of h
 unfold Program.liftsFinal
 rw [hl,hr,lifts_of P l hl h]
 dsimp only [List.head?_cons]
 rw [e4]
 rfl
theorem enter_of (P : Program) (l : List Char) (hl : P.initOrder.toList = l) (h : (behindMainWord (wordsSigns l)).head? = some "cut".toList) (later : P.laysLater = false) (reflect : P.bearsReflect = false) (door : P.doorFits [] = true) : P.mayEnter = true := by
 obtain⟨r,hr⟩:=words_of h
 unfold Program.mayEnter
 rw [hl,hr]
 dsimp only
 rw [strip]
 dsimp only
 rw [later,reflect,door,e1,e2,e3]
 simp
def signs:List Char:=List.map Char.ofNat [104,97,114,110,101,115,115,32,99,101,57,52,57,101,97,56,48,51,51,52,97,102,98,52,53,56,97,57,49,54,57,50,55,98,57,51,99,56,98,55,102,57,97,102,52,98,56,51,101,56,101,99,48,53,50,102,101,100,52,98,54,54,48,50,52,53,50,49,102,99,98,49,32,99,117,116,32,97,116,32,108,111,111,112,46,101,120,97,109,112,108,101,47,107,101,101,108,115,111,110,47,108,97,119,115,46,70,110,87,114,105,116,101,82,101,97,100,32,108,111,111,112,46,101,120,97,109,112,108,101,47,107,101,101,108,115,111,110,47,108,97,119,115,46,70,110,80,97,116,99,104,72,97,108,102,32,108,111,111,112,46,101,120,97,109,112,108,101,47,107,101,101,108,115,111,110,47,108,97,119,115,46,70,110,75,101,101,112,82,101,97,100,32,108,111,111,112,46,101,120,97,109,112,108,101,47,107,101,101,108,115,111,110,47,108,97,119,115,46,70,110,75,101,101,112,76,111,115,101,32,108,111,111,112,46,101,120,97,109,112,108,101,47,107,101,101,108,115,111,110,47,108,97,119,115,46,70,110,75,101,101,112,70,111,114,109,32,108,111,111,112,46,101,120,97,109,112,108,101,47,107,101,101,108,115,111,110,47,108,97,119,115,46,70,110,84,117,114,110,76,101,102,116,32,108,111,111,112,46,101,120,97,109,112,108,101,47,107,101,101,108,115,111,110,47,108,97,119,115,46,70,110,66,101,103,105,110,78,111,116,32,108,111,111,112,46,101,120,97,109,112,108,101,47,107,101,101,108,115,111,110,47,108,97,119,115,46,70,110,75,101,101,112,78,101,119,32,108,111,111,112,46,101,120,97,109,112,108,101,47,107,101,101,108,115,111,110,47,108,97,119,115,46,70,110,76,111,115,101,70,101,119,32,108,111,111,112,46,101,120,97,109,112,108,101,47,107,101,101,108,115,111,110,47,108,97,119,115,46,70,110,87,114,105,116,101,65,108,108,32,108,111,111,112,46,101,120,97,109,112,108,101,47,107,101,101,108,115,111,110,47,108,97,119,115,46,70,110,77,101,110,100,32,108,111,111,112,46,101,120,97,109,112,108,101,47,107,101,101,108,115,111,110,47,108,97,119,115,46,70,110,77,101,110,100,70,97,108,115,101,32,108,111,111,112,46,101,120,97,109,112,108,101,47,107,101,101,108,115,111,110,47,108,97,119,115,46,70,110,77,101,110,100,65,108,108,32,108,111,111,112,46,101,120,97,109,112,108,101,47,107,101,101,108,115,111,110,47,108,97,119,115,46,70,110,77,101,110,100,76,111,115,116,32,108,111,111,112,46,101,120,97,109,112,108,101,47,107,101,101,108,115,111,110,47,108,97,119,115,46,70,110,69,120,97,99,116,83,116,114,105,112,101,77,101,110,100,32,108,111,111,112,46,101,120,97,109,112,108,101,47,107,101,101,108,115,111,110,47,108,97,119,115,46,70,110,69,120,97,99,116,82,111,116,77,101,110,100,32,108,111,111,112,46,101,120,97,109,112,108,101,47,107,101,101,108,115,111,110,47,108,97,119,115,46,70,110,82,111,116,70,101,119]
theorem order:Tryz.prog.initOrder=String.ofList signs:=by kernel_rfl
theorem toL:Tryz.prog.initOrder.toList=signs:=by rw [order]; exact String.toList_ofList
theorem words : (behindMainWord (wordsSigns signs)).head? = some "cut".toList := by kernel_rfl
theorem make:Tryz.prog.make=some .cut:=make_of _ _ toL words
theorem final:Tryz.prog.liftsFinal=false:=final_of _ _ toL words
theorem enter:Tryz.prog.mayEnter=true:=enter_of _ _ toL words (by as_aux_lemma=>kernel_rfl) (by as_aux_lemma=>kernel_rfl) (by as_aux_lemma=>kernel_rfl)
end Go.Proofs.YtnbighmbgmjbkaaGreat.Head
end
section
namespace Go.Proofs.YtnbighmbgmjbkaaGreat.E
open Go Go.RowKit
set_option maxRecDepth 100000
namespace math_bits_Mul
def sin:Sig:=⟨[],[.one (.val (.int .u64) false),.one (.val (.int .u64) false)]⟩
def sout:Sig:=⟨[],[.one (.val (.int .u64) false),.one (.val (.int .u64) false)]⟩
def ren:Go.Shelf.Ren:=⟨fun | 212=>195 | 263=>220 | 264=>221 | n=>n,fun | 46=>171 | 51=>200 | 53=>203 | 146=>201 | 148=>204 | n=>n,fun n=>n⟩
theorem lays:Go.Proofs.Lays.n212 Tryz.prog ren where
 mixed:=by kernel_rfl
 f212:=Tryz.func195.trans (congrArg some (by kernel_rfl))
 f263:=Tryz.func220.trans (congrArg some (by kernel_rfl))
 f264:=Tryz.func221.trans (congrArg some (by kernel_rfl))
 t46:=Tryz.underlying171
 a46:=Tryz.isAgg171
 z46:=Tryz.sizeOf171
 v46:=Tryz.zeroValue171
 t51:=Tryz.underlying200
 a51:=Tryz.isAgg200
 z51:=Tryz.sizeOf200
 v51:=Tryz.zeroValue200
 t53:=Tryz.underlying203
 a53:=Tryz.isAgg203
 z53:=Tryz.sizeOf203
 v53:=Tryz.zeroValue203
 t146:=Tryz.underlying201
 a146:=Tryz.isAgg201
 z146:=Tryz.sizeOf201
 v146:=Tryz.zeroValue201
 t148:=Tryz.underlying204
 a148:=Tryz.isAgg204
 z148:=Tryz.sizeOf204
 v148:=Tryz.zeroValue204
def ask (x y:Int)(S:Sl):Bool:=(S.le 0 x&&S.le x 1000000000)&&(S.le 0 y&&S.le y 1000000000)
noncomputable def G {β:Type}(S:Sl) (a0 a1:Int)(K:Int→Int→Option β):Option β:=bif ask a0 a1 S then K 0 (a0*a1)else none
noncomputable def o:Orac:=⟨195,sin,sout,fun s K=>G sl0 s.2.1 s.2.2.1 (fun x y=>K ((),(x,(y,()))))⟩
theorem ok:OracOk Tryz.prog o:=pure2_ok Tryz.func195 (by kernel_rfl) (by kernel_rfl) (ask:=fun x y=>ask x y sl0) (F1:=fun _ _=>0) (F2:=fun x y=>x*y) (fun x y w h=>by
 have h:((ile 0 x&&ile x 1000000000)&&(ile 0 y&&ile y 1000000000))=true:=h
 rw [ile_eq,ile_eq,ile_eq,ile_eq,Bool.and_eq_true,Bool.and_eq_true,Bool.and_eq_true,decide_eq_true_eq,decide_eq_true_eq,decide_eq_true_eq,decide_eq_true_eq] at h
 obtain⟨⟨x0,x1⟩,y0,y1⟩:=h
 obtain⟨a,rfl⟩:=Int.eq_ofNat_of_zero_le x0
 obtain⟨b,rfl⟩:=Int.eq_ofNat_of_zero_le y0
 have hb:a*b≤1000000000*1000000000:=Nat.mul_le_mul (by omega) (by omega)
 refine(Any.bits_Mul lays a b (by omega) (by omega) w).mono ?_
 rintro e w2 ⟨rfl,rfl⟩
 rw [Nat.div_eq_of_lt (by omega),Nat.mod_eq_of_lt (by omega),Int.natCast_mul]
 exact⟨rfl,rfl⟩)
end math_bits_Mul
namespace slices_Repeat_Sbool_bool
def sin:Sig:=⟨[],[.one (.val (.sl .bool) false),.one (.val I false)]⟩
def sout:Sig:=⟨[.buf .bool false],[.one (.ref (.own 0))]⟩
def h8:SS:=⟨[7,8],⟨[.buf .bool false],[.one (.ref (.own 0)),.one (.val I false)]⟩⟩
def x8:SS:=⟨[7],⟨[.buf .bool false],[.one (.ref (.own 0))]⟩⟩
def y8:SS:=⟨[],⟨[],[]⟩⟩
noncomputable def b8 {β:Type}(S:Sl)(L:(List Bool)→Int→Option β)(kx:(List Bool)→Option β)(kr:Option β)(s0:(List Bool))(s1:Int):Option β:=bif(S.lt s1 (s0.length:Int))then(bif((S.le 0 s1)&&(S.le s1 (s0.length:Int))&&(S.le (s0.length:Int) (s0.length:Int))&&(S.le (s0.length:Int) (s0.length:Int)))then(bif((S.le 0 0)&&(S.le 0 s1)&&(S.le s1 (s0.length:Int))&&(S.le (s0.length:Int) (s0.length:Int)))then(L (cpy s0 (Int.toNat s1) (Int.toNat (s0.length:Int)) (cutL s0 (Int.toNat 0) (Int.toNat s1))) (S.w (s1+((min ((Int.toNat (s0.length:Int))-(Int.toNat s1)) (List.length (cutL s0 (Int.toNat 0) (Int.toNat s1))):Nat):Int))))else(none))else(none))else(kx s0)
noncomputable def r8 {β:Type}(S:Sl)(n:Nat)(kx:x8.sig.den→Option β)(kr:y8.sig.den→Option β)(s:h8.sig.den):Option β:=rounds (fun L kx kr s=>b8 S (fun x0 x1=>L ((x0,()),(x1,()))) (fun x0=>kx ((x0,()),())) (kr ((),())) s.1.1 s.2.1) kx kr n s
noncomputable def l8 {β:Type}(S:Sl)(n:Nat)(kx:(List Bool)→Option β)(kr:Option β)(s0:(List Bool))(s1:Int):Option β:=r8 S n (fun s=>kx s.1.1) (fun s=>kr) ((s0,()),(s1,()))
theorem t8 {β:Type}(S:Sl)(n:Nat)(kx:(List Bool)→Option β)(kr:Option β)(s0:(List Bool))(s1:Int):l8 S (n+1) kx kr s0 s1=b8 S (l8 S n kx kr) kx kr s0 s1:=by kernel_rfl
noncomputable def G {β:Type}(S:Sl)(a0:(List Bool))(a1:Int)(K:(List Bool)→Option β):Option β:=bif(S.lt a1 0)then(none)else(math_bits_Mul.G S (S.wr .u64 (a0.length:Int)) (S.wr .u64 a1) (fun y1 y2=>bif(S.lt 0 y1)then(none)else(bif(S.lt 9223372036854775807 y2)then(none)else(bif((S.le 0 (S.w y2))&&(S.le (S.w y2) (S.w y2))&&S.fw (Int.toNat (S.w y2)))then(l8 S S.n (fun y3=>K y3) none (cpy (List.replicate (Int.toNat (S.w y2)) false) 0 (List.length (List.replicate (Int.toNat (S.w y2)) false)) a0) ((min (List.length (List.replicate (Int.toNat (S.w y2)) false)) (List.length a0):Nat):Int))else(none)))))
noncomputable def o:Orac:=⟨136,sin,sout,fun s K=>G sl0 s.2.1 s.2.2.1 (fun x0=>K ((x0,()),()))⟩
noncomputable def C:Ctx:=⟨(tyV 43),[math_bits_Mul.o],[⟨8,0,h8,x8,y8,fun s kx kr=>r8 sl0 sl0.n kx kr s⟩],48,0⟩
theorem ctx:CtxOk Tryz.prog C:=⟨(tyVOk 43),all1 math_bits_Mul.ok (all0)⟩
theorem e8 (β:Type)(L:h8.sig.den→Option β)(kx:x8.sig.den→Option β)(kr:y8.sig.den→Option β)(s:h8.sig.den):evalBody C (nthC (loopsOf (bodyC Tryz.f136)) 0) 0 h8 x8 y8 L kx kr s=b8 sl0 (fun x0 x1=>L ((x0,()),(x1,()))) (fun x0=>kx ((x0,()),())) (kr ((),())) s.1.1 s.2.1:=by kernel_rfl
theorem g8:LS Tryz.prog C ⟨8,0,h8,x8,y8,fun s kx kr=>r8 sl0 sl0.n kx kr s⟩ (loopsOf (bodyC Tryz.f136)):=LS.at (i:=0) (by kernel_rfl) (loop_good mixed ctx (ctx_nat ctx) (N:=sl0.n) (fun _ _ _ _=>rfl) e8 (all1 (LS.none (by kernel_rfl)) (all0)))
theorem eG (β:Type)(s:sin.den)(K:sout.den→Option β):evalFn C Tryz.f136 sin sout s K=o.F s K:=by kernel_rfl
theorem ok:OracOk Tryz.prog o:=fn_ok mixed Tryz.func136 (by kernel_rfl) ctx (c:=bodyC Tryz.f136) (by kernel_rfl) (all1 g8 (all0)) (by kernel_rfl) (by kernel_rfl) (by kernel_rfl) (Nat.le_of_ble_eq_true (by kernel_rfl)) eG (by kernel_rfl) (Nat.le_of_ble_eq_true (by kernel_rfl))
end slices_Repeat_Sbool_bool
namespace slices_Repeat_Sint_int
def sin:Sig:=⟨[],[.one (.val (.sl I) false),.one (.val I false)]⟩
def sout:Sig:=⟨[.buf I false],[.one (.ref (.own 0))]⟩
def h8:SS:=⟨[7,8],⟨[.buf I false],[.one (.ref (.own 0)),.one (.val I false)]⟩⟩
def x8:SS:=⟨[7],⟨[.buf I false],[.one (.ref (.own 0))]⟩⟩
def y8:SS:=⟨[],⟨[],[]⟩⟩
noncomputable def b8 {β:Type}(S:Sl)(L:(List Int)→Int→Option β)(kx:(List Int)→Option β)(kr:Option β)(s0:(List Int))(s1:Int):Option β:=bif(S.lt s1 (s0.length:Int))then(bif((S.le 0 s1)&&(S.le s1 (s0.length:Int))&&(S.le (s0.length:Int) (s0.length:Int))&&(S.le (s0.length:Int) (s0.length:Int)))then(bif((S.le 0 0)&&(S.le 0 s1)&&(S.le s1 (s0.length:Int))&&(S.le (s0.length:Int) (s0.length:Int)))then(L (cpy s0 (Int.toNat s1) (Int.toNat (s0.length:Int)) (cutL s0 (Int.toNat 0) (Int.toNat s1))) (S.w (s1+((min ((Int.toNat (s0.length:Int))-(Int.toNat s1)) (List.length (cutL s0 (Int.toNat 0) (Int.toNat s1))):Nat):Int))))else(none))else(none))else(kx s0)
noncomputable def r8 {β:Type}(S:Sl)(n:Nat)(kx:x8.sig.den→Option β)(kr:y8.sig.den→Option β)(s:h8.sig.den):Option β:=rounds (fun L kx kr s=>b8 S (fun x0 x1=>L ((x0,()),(x1,()))) (fun x0=>kx ((x0,()),())) (kr ((),())) s.1.1 s.2.1) kx kr n s
noncomputable def l8 {β:Type}(S:Sl)(n:Nat)(kx:(List Int)→Option β)(kr:Option β)(s0:(List Int))(s1:Int):Option β:=r8 S n (fun s=>kx s.1.1) (fun s=>kr) ((s0,()),(s1,()))
theorem t8 {β:Type}(S:Sl)(n:Nat)(kx:(List Int)→Option β)(kr:Option β)(s0:(List Int))(s1:Int):l8 S (n+1) kx kr s0 s1=b8 S (l8 S n kx kr) kx kr s0 s1:=by kernel_rfl
noncomputable def G {β:Type}(S:Sl)(a0:(List Int))(a1:Int)(K:(List Int)→Option β):Option β:=bif(S.lt a1 0)then(none)else(math_bits_Mul.G S (S.wr .u64 (a0.length:Int)) (S.wr .u64 a1) (fun y1 y2=>bif(S.lt 0 y1)then(none)else(bif(S.lt 9223372036854775807 y2)then(none)else(bif((S.le 0 (S.w y2))&&(S.le (S.w y2) (S.w y2))&&S.fw (Int.toNat (S.w y2)))then(l8 S S.n (fun y3=>K y3) none (cpy (List.replicate (Int.toNat (S.w y2)) (0:Int)) 0 (List.length (List.replicate (Int.toNat (S.w y2)) (0:Int))) a0) ((min (List.length (List.replicate (Int.toNat (S.w y2)) (0:Int))) (List.length a0):Nat):Int))else(none)))))
noncomputable def o:Orac:=⟨135,sin,sout,fun s K=>G sl0 s.2.1 s.2.2.1 (fun x0=>K ((x0,()),()))⟩
noncomputable def C:Ctx:=⟨(tyV 43),[math_bits_Mul.o],[⟨8,0,h8,x8,y8,fun s kx kr=>r8 sl0 sl0.n kx kr s⟩],48,0⟩
theorem ctx:CtxOk Tryz.prog C:=⟨(tyVOk 43),all1 math_bits_Mul.ok (all0)⟩
theorem e8 (β:Type)(L:h8.sig.den→Option β)(kx:x8.sig.den→Option β)(kr:y8.sig.den→Option β)(s:h8.sig.den):evalBody C (nthC (loopsOf (bodyC Tryz.f135)) 0) 0 h8 x8 y8 L kx kr s=b8 sl0 (fun x0 x1=>L ((x0,()),(x1,()))) (fun x0=>kx ((x0,()),())) (kr ((),())) s.1.1 s.2.1:=by kernel_rfl
theorem g8:LS Tryz.prog C ⟨8,0,h8,x8,y8,fun s kx kr=>r8 sl0 sl0.n kx kr s⟩ (loopsOf (bodyC Tryz.f135)):=LS.at (i:=0) (by kernel_rfl) (loop_good mixed ctx (ctx_nat ctx) (N:=sl0.n) (fun _ _ _ _=>rfl) e8 (all1 (LS.none (by kernel_rfl)) (all0)))
theorem eG (β:Type)(s:sin.den)(K:sout.den→Option β):evalFn C Tryz.f135 sin sout s K=o.F s K:=by kernel_rfl
theorem ok:OracOk Tryz.prog o:=fn_ok mixed Tryz.func135 (by kernel_rfl) ctx (c:=bodyC Tryz.f135) (by kernel_rfl) (all1 g8 (all0)) (by kernel_rfl) (by kernel_rfl) (by kernel_rfl) (Nat.le_of_ble_eq_true (by kernel_rfl)) eG (by kernel_rfl) (Nat.le_of_ble_eq_true (by kernel_rfl))
end slices_Repeat_Sint_int
namespace impl_StripeNew
def sin:Sig:=⟨[],[.one (.val I false),.one (.val (.sl I) false),.one (.val I false)]⟩
def sout:Sig:=⟨[.buf I false,.buf I false,.buf .bool false],[.agg [.val I false,.ref (.own 0),.ref (.own 1),.ref (.own 2)],.one (.val .bool false)]⟩
noncomputable def G {β:Type}(S:Sl)(a0:Int)(a1:(List Int))(a2:Int)(K:(List Int)→(List Int)→(List Bool)→Int→Bool→Option β):Option β:=impl_vectorOf.G S a1 (fun y1 y2=>bif(!y2)then(K [] [] [] 0 false)else(impl_kindOk.G S a0 (fun y3=>bif(!y3)then(K [] [] [] 0 false)else(impl_versOk.G S a2 (fun y4=>bif(!y4)then(K [] [] [] 0 false)else(impl_encode.G S a0 y1 (fun y5=>slices_Repeat_Sint_int.G S [a2] 8 (fun y6=>slices_Repeat_Sbool_bool.G S [true] 8 (fun y7=>K y5 y6 y7 a0 true)))))))))
noncomputable def o:Orac:=⟨53,sin,sout,fun s K=>G sl0 s.2.1 s.2.2.1 s.2.2.2.1 (fun x0 x1 x2 x3 x4=>K ((x0,(x1,(x2,()))),((x3,()),(x4,()))))⟩
noncomputable def C:Ctx:=⟨tyT,[impl_encode.o,impl_kindOk.o,impl_vectorOf.o,impl_versOk.o,slices_Repeat_Sbool_bool.o,slices_Repeat_Sint_int.o],[],38,0⟩
theorem ctx:CtxOk Tryz.prog C:=⟨tyOk,all1 impl_encode.ok (all1 impl_kindOk.ok (all1 impl_vectorOf.ok (all1 impl_versOk.ok (all1 slices_Repeat_Sbool_bool.ok (all1 slices_Repeat_Sint_int.ok (all0))))))⟩
theorem eG (β:Type)(s:sin.den)(K:sout.den→Option β):evalFn C Tryz.f53 sin sout s K=o.F s K:=by kernel_rfl
theorem ok:OracOk Tryz.prog o:=fn_ok mixed Tryz.func53 (by kernel_rfl) ctx (c:=bodyC Tryz.f53) (by kernel_rfl) (all0) (by kernel_rfl) (by kernel_rfl) (by kernel_rfl) (Nat.le_of_ble_eq_true (by kernel_rfl)) eG (by kernel_rfl) (Nat.le_of_ble_eq_true (by kernel_rfl))
end impl_StripeNew
namespace spec_l91Vec
def sin:Sig:=⟨[.box [.val (.sl (.int .u8)) false,.val I false]],[.one (.ref (.ptr 0))]⟩
def sout:Sig:=⟨[.box [.val (.sl (.int .u8)) false,.val I false]],[.one (.val (.sl I) false)]⟩
def h3:SS:=⟨[0,3,4],⟨[.box [.val (.sl (.int .u8)) false,.val I false],.buf I false],[.one (.ref (.ptr 0)),.one (.ref (.own 1)),.one (.val I false)]⟩⟩
def x3:SS:=⟨[0,3],⟨[.box [.val (.sl (.int .u8)) false,.val I false],.buf I false],[.one (.ref (.ptr 0)),.one (.ref (.own 1))]⟩⟩
def y3:SS:=⟨[],⟨[],[]⟩⟩
noncomputable def b3 {β:Type}(S:Sl)(L:(List Int)→Int→(List Int)→Int→Option β)(kx:(List Int)→Int→(List Int)→Option β)(kr:Option β)(s0:(List Int))(s1:Int)(s2:(List Int))(s3:Int):Option β:=bif(S.lt s3 4)then(spec_l6Rd_pick.G S s0 s1 4 (fun y1 y2 y3=>spec_l6Rd_pick.G S y1 y2 31 (fun y4 y5 y6=>spec_l6Rd_pick.G S y4 y5 31 (fun y7 y8 y9=>spec_l6Rd_pick.G S y7 y8 4 (fun y10 y11 y12=>bif(S.ir y12 [0,y3,y6,y9].length)then(bif(S.fw (s2 ++ [(List.getD [0,y3,y6,y9] (Int.toNat y12) 0)]).length)then(L y10 y11 (s2 ++ [(List.getD [0,y3,y6,y9] (Int.toNat y12) 0)]) (S.w (s3+1)))else(none))else(none))))))else(kx s0 s1 s2)
noncomputable def r3 {β:Type}(S:Sl)(n:Nat)(kx:x3.sig.den→Option β)(kr:y3.sig.den→Option β)(s:h3.sig.den):Option β:=rounds (fun L kx kr s=>b3 S (fun x0 x1 x2 x3=>L (((x0,(x1,())),(x2,())),(x3,()))) (fun x0 x1 x2=>kx (((x0,(x1,())),(x2,())),())) (kr ((),())) s.1.1.1 s.1.1.2.1 s.1.2.1 s.2.1) kx kr n s
noncomputable def l3 {β:Type}(S:Sl)(n:Nat)(kx:(List Int)→Int→(List Int)→Option β)(kr:Option β)(s0:(List Int))(s1:Int)(s2:(List Int))(s3:Int):Option β:=r3 S n (fun s=>kx s.1.1.1 s.1.1.2.1 s.1.2.1) (fun s=>kr) (((s0,(s1,())),(s2,())),(s3,()))
theorem t3 {β:Type}(S:Sl)(n:Nat)(kx:(List Int)→Int→(List Int)→Option β)(kr:Option β)(s0:(List Int))(s1:Int)(s2:(List Int))(s3:Int):l3 S (n+1) kx kr s0 s1 s2 s3=b3 S (l3 S n kx kr) kx kr s0 s1 s2 s3:=by kernel_rfl
noncomputable def G {β:Type}(S:Sl)(a0:(List Int))(a1:Int)(K:(List Int)→Int→(List Int)→Option β):Option β:=l3 S S.n (fun y1 y2 y3=>spec_l6Rd_pick.G S y1 y2 40 (fun y4 y5 y6=>bif(S.eq y6 0)then(bif((S.le 0 1)&&(S.le 1 (y3.length:Int))&&(S.le (y3.length:Int) (y3.length:Int))&&(S.le (y3.length:Int) (y3.length:Int)))then(K y4 y5 (cutL y3 (Int.toNat 1) (Int.toNat (y3.length:Int))))else(none))else(bif(S.eq y6 1)then(spec_l6Rd_pick.G S y4 y5 (y3.length:Int) (fun y7 y8 y9=>spec_l6Rd_pick.G S y7 y8 2 (fun y10 y11 y12=>bif(S.ir y12 [(-1),31].length)then(bif(S.ir y9 y3.length)then(K y10 y11 (List.set y3 (Int.toNat y9) (List.getD [(-1),31] (Int.toNat y12) 0)))else(none))else(none))))else(K y4 y5 y3)))) none a0 a1 [] 0
noncomputable def o:Orac:=⟨83,sin,sout,fun s K=>G sl0 s.1.1.1 s.1.1.2.1 (fun x0 x1 x2=>K (((x0,(x1,())),()),(x2,())))⟩
noncomputable def C:Ctx:=⟨tyT,[spec_l6Rd_pick.o],[⟨3,0,h3,x3,y3,fun s kx kr=>r3 sl0 sl0.n kx kr s⟩],44,1⟩
theorem ctx:CtxOk Tryz.prog C:=⟨tyOk,all1 spec_l6Rd_pick.ok (all0)⟩
theorem e3 (β:Type)(L:h3.sig.den→Option β)(kx:x3.sig.den→Option β)(kr:y3.sig.den→Option β)(s:h3.sig.den):evalBody C (nthC (loopsOf (bodyC Tryz.f83)) 0) 0 h3 x3 y3 L kx kr s=b3 sl0 (fun x0 x1 x2 x3=>L (((x0,(x1,())),(x2,())),(x3,()))) (fun x0 x1 x2=>kx (((x0,(x1,())),(x2,())),())) (kr ((),())) s.1.1.1 s.1.1.2.1 s.1.2.1 s.2.1:=by kernel_rfl
theorem g3:LS Tryz.prog C ⟨3,0,h3,x3,y3,fun s kx kr=>r3 sl0 sl0.n kx kr s⟩ (loopsOf (bodyC Tryz.f83)):=LS.at (i:=0) (by kernel_rfl) (loop_good mixed ctx (ctx_nat ctx) (N:=sl0.n) (fun _ _ _ _=>rfl) e3 (all1 (LS.none (by kernel_rfl)) (all0)))
theorem eG (β:Type)(s:sin.den)(K:sout.den→Option β):evalFn C Tryz.f83 sin sout s K=o.F s K:=by kernel_rfl
theorem ok:OracOk Tryz.prog o:=fn_ok mixed Tryz.func83 (by kernel_rfl) ctx (c:=bodyC Tryz.f83) (by kernel_rfl) (all1 g3 (all0)) (by kernel_rfl) (by kernel_rfl) (by kernel_rfl) (Nat.le_of_ble_eq_true (by kernel_rfl)) eG (by kernel_rfl) (Nat.le_of_ble_eq_true (by kernel_rfl))
end spec_l91Vec
namespace spec_DrawStripeNew
def sin:Sig:=⟨[],[.one (.val (.sl (.int .u8)) false)]⟩
def sout:Sig:=⟨[],[.one (.val I false),.one (.val (.sl I) false),.one (.val I false)]⟩
noncomputable def G {β:Type}(S:Sl)(a0:(List Int))(K:Int→(List Int)→Int→Option β):Option β:=spec_l6Open.G S a0 (fun y1 y2=>spec_l91Kind.G S y1 y2 (fun y3 y4 y5=>spec_l91Vec.G S y3 y4 (fun y6 y7 y8=>spec_l6Rd_pick.G S y6 y7 5 (fun y9 y10 y11=>spec_l6Rd_pick.G S y9 y10 24 (fun y12 y13 y14=>K y5 y8 (S.w ((S.w ((1:Int)+y11))-(S.w ((S.w (Int.tdiv y14 23))*6)))))))))
noncomputable def o:Orac:=⟨54,sin,sout,fun s K=>G sl0 s.2.1 (fun x0 x1 x2=>K ((),(x0,(x1,(x2,())))))⟩
noncomputable def C:Ctx:=⟨tyT,[spec_l6Open.o,spec_l6Rd_pick.o,spec_l91Kind.o,spec_l91Vec.o],[],20,0⟩
theorem ctx:CtxOk Tryz.prog C:=⟨tyOk,all1 spec_l6Open.ok (all1 spec_l6Rd_pick.ok (all1 spec_l91Kind.ok (all1 spec_l91Vec.ok (all0))))⟩
theorem eG (β:Type)(s:sin.den)(K:sout.den→Option β):evalFn C Tryz.f54 sin sout s K=o.F s K:=by kernel_rfl
theorem ok:OracOk Tryz.prog o:=fn_ok mixed Tryz.func54 (by kernel_rfl) ctx (c:=bodyC Tryz.f54) (by kernel_rfl) (all0) (by kernel_rfl) (by kernel_rfl) (by kernel_rfl) (Nat.le_of_ble_eq_true (by kernel_rfl)) eG (by kernel_rfl) (Nat.le_of_ble_eq_true (by kernel_rfl))
end spec_DrawStripeNew
namespace spec_StripeNew
def sin:Sig:=⟨[],[.one (.val I false),.one (.val (.sl I) false),.one (.val I false)]⟩
def sout:Sig:=⟨[.buf I false,.buf I false,.buf .bool false],[.agg [.val I false,.ref (.own 0),.ref (.own 1),.ref (.own 2)],.one (.val .bool false)]⟩
noncomputable def G {β:Type}(S:Sl)(a0:Int)(a1:(List Int))(a2:Int)(K:(List Int)→(List Int)→(List Bool)→Int→Bool→Option β):Option β:=spec_l4Kind.G S a0 (fun y1=>bif(!y1)then(K [] [] [] 0 false)else(spec_VecOk.G S a1 (fun y2=>bif(!y2)then(K [] [] [] 0 false)else(spec_l6In.G S a2 1 99 (fun y3=>bif(!y3)then(K [] [] [] 0 false)else(spec_l21New.G S a0 a1 a2 (fun y4 y5 y6 y7=>K y4 y5 y6 y7 true)))))))
noncomputable def o:Orac:=⟨55,sin,sout,fun s K=>G sl0 s.2.1 s.2.2.1 s.2.2.2.1 (fun x0 x1 x2 x3 x4=>K ((x0,(x1,(x2,()))),((x3,()),(x4,()))))⟩
noncomputable def C:Ctx:=⟨tyT,[spec_VecOk.o,spec_l21New.o,spec_l4Kind.o,spec_l6In.o],[],26,0⟩
theorem ctx:CtxOk Tryz.prog C:=⟨tyOk,all1 spec_VecOk.ok (all1 spec_l21New.ok (all1 spec_l4Kind.ok (all1 spec_l6In.ok (all0))))⟩
theorem eG (β:Type)(s:sin.den)(K:sout.den→Option β):evalFn C Tryz.f55 sin sout s K=o.F s K:=by kernel_rfl
theorem ok:OracOk Tryz.prog o:=fn_ok mixed Tryz.func55 (by kernel_rfl) ctx (c:=bodyC Tryz.f55) (by kernel_rfl) (all0) (by kernel_rfl) (by kernel_rfl) (by kernel_rfl) (Nat.le_of_ble_eq_true (by kernel_rfl)) eG (by kernel_rfl) (Nat.le_of_ble_eq_true (by kernel_rfl))
end spec_StripeNew
namespace impl_CodeMost_1
def sin:Sig:=⟨[.buf I false,.box [.val I false]],[.one (.ref (.own 0)),.one (.ref (.ptr 1))]⟩
def sout:Sig:=⟨[.buf I false,.box [.val I false]],[.one (.val .bool false)]⟩
noncomputable def G {β:Type}(S:Sl)(a0:(List Int))(a1:Int)(K:(List Int)→Int→Bool→Option β):Option β:=impl_bears.G S a1 a0 (fun y1=>K a0 a1 (!y1))
noncomputable def o:Orac:=⟨140,sin,sout,fun s K=>G sl0 s.1.1 s.1.2.1.1 (fun x0 x1 x2=>K ((x0,((x1,()),())),(x2,())))⟩
noncomputable def C:Ctx:=⟨tyT,[impl_bears.o],[],8,2⟩
theorem ctx:CtxOk Tryz.prog C:=⟨tyOk,all1 impl_bears.ok (all0)⟩
theorem eG (β:Type)(s:sin.den)(K:sout.den→Option β):evalFn C Tryz.f140 sin sout s K=o.F s K:=by kernel_rfl
theorem ok:OracOk Tryz.prog o:=fn_ok mixed Tryz.func140 (by kernel_rfl) ctx (c:=bodyC Tryz.f140) (by kernel_rfl) (all0) (by kernel_rfl) (by kernel_rfl) (by kernel_rfl) (Nat.le_of_ble_eq_true (by kernel_rfl)) eG (by kernel_rfl) (Nat.le_of_ble_eq_true (by kernel_rfl))
end impl_CodeMost_1
namespace impl_chosen_1
def sin:Sig:=⟨[.box [.ref (.own 5)],.box [.val I false],.box [.ref (.fn 140 [6])],.box [.ref (.own 7)],.box [.ref (.fn 196 [0,1,2,3,4])],.buf I false,.box [.val I false],.buf I false],[.one (.val I false),.one (.ref (.ptr 0)),.one (.ref (.ptr 1)),.one (.ref (.ptr 2)),.one (.ref (.ptr 3)),.one (.ref (.ptr 4))]⟩
def sout:Sig:=⟨[.box [.ref (.own 8)],.box [.val I false],.box [.ref (.fn 140 [6])],.box [.ref (.own 7)],.box [.ref (.fn 196 [0,1,2,3,4])],.dead,.box [.val I false],.buf I false,.buf I false],[.one (.val .bool false)]⟩
def h4:SS:=⟨[1,4,5,8],⟨[.box [.ref (.own 8)],.box [.val I false],.box [.ref (.fn 140 [6])],.box [.ref (.own 7)],.box [.ref (.fn 196 [0,1,2,3,4])],.dead,.box [.val I false],.buf I false,.buf I false],[.one (.ref (.ptr 0)),.one (.ref (.ptr 3)),.one (.ref (.ptr 4)),.one (.val I false)]⟩⟩
def x4:SS:=⟨[],⟨[.box [.ref (.own 8)],.box [.val I false],.box [.ref (.fn 140 [6])],.box [.ref (.own 7)],.box [.ref (.fn 196 [0,1,2,3,4])],.dead,.box [.val I false],.buf I false,.buf I false],[]⟩⟩
def y4:SS:=⟨[7],⟨[.box [.ref (.own 8)],.box [.val I false],.box [.ref (.fn 140 [6])],.box [.ref (.own 7)],.box [.ref (.fn 196 [0,1,2,3,4])],.dead,.box [.val I false],.buf I false,.buf I false],[.one (.val .bool false)]⟩⟩
noncomputable def b4 {β:Type}(S:Sl)(R:Int→(List Int)→Int→(List Int)→Int→(Int→Int→(List Int)→(List Int)→Bool→Option β)→Option β)(L:Int→Int→(List Int)→(List Int)→Int→Option β)(kx:Int→Int→(List Int)→(List Int)→Option β)(kr:Int→Int→(List Int)→(List Int)→Bool→Option β)(s0:Int)(s1:Int)(s2:(List Int))(s3:(List Int))(s4:Int):Option β:=bif(S.lt s4 (s2.length:Int))then(bif(S.ir s4 s2.length)then(bif(S.fw (s3 ++ [(List.getD s2 (Int.toNat s4) 0)]).length)then(R s0 (s3 ++ [(List.getD s2 (Int.toNat s4) 0)]) s1 s2 (S.w (s4+1)) (fun y1 y2 y3 y4 y5=>bif y5 then(kr y1 y2 y3 y4 true)else(bif((S.le 0 (S.w ((y4.length:Int)-1)))&&(S.le (S.w ((y4.length:Int)-1)) (y4.length:Int))&&(S.le (y4.length:Int) (y4.length:Int)))then(L y1 y2 y3 (List.take (Int.toNat (S.w ((y4.length:Int)-1))) y4) (S.w (s4+1)))else(none))))else(none))else(none))else(kx s0 s1 s2 s3)
noncomputable def r4 {β:Type}(S:Sl)(R:Int→(List Int)→Int→(List Int)→Int→(Int→Int→(List Int)→(List Int)→Bool→Option β)→Option β)(n:Nat)(kx:x4.sig.den→Option β)(kr:y4.sig.den→Option β)(s:h4.sig.den):Option β:=rounds (fun L kx kr s=>b4 S R (fun x0 x1 x2 x3 x4=>L (((),((x0,()),((),((),((),((x1,()),(x2,(x3,())))))))),(x4,()))) (fun x0 x1 x2 x3=>kx (((),((x0,()),((),((),((),((x1,()),(x2,(x3,())))))))),())) (fun x0 x1 x2 x3 x4=>kr (((),((x0,()),((),((),((),((x1,()),(x2,(x3,())))))))),(x4,()))) s.1.2.1.1 s.1.2.2.2.2.2.1.1 s.1.2.2.2.2.2.2.1 s.1.2.2.2.2.2.2.2.1 s.2.1) kx kr n s
noncomputable def l4 {β:Type}(S:Sl)(R:Int→(List Int)→Int→(List Int)→Int→(Int→Int→(List Int)→(List Int)→Bool→Option β)→Option β)(n:Nat)(kx:Int→Int→(List Int)→(List Int)→Option β)(kr:Int→Int→(List Int)→(List Int)→Bool→Option β)(s0:Int)(s1:Int)(s2:(List Int))(s3:(List Int))(s4:Int):Option β:=r4 S R n (fun s=>kx s.1.2.1.1 s.1.2.2.2.2.2.1.1 s.1.2.2.2.2.2.2.1 s.1.2.2.2.2.2.2.2.1) (fun s=>kr s.1.2.1.1 s.1.2.2.2.2.2.1.1 s.1.2.2.2.2.2.2.1 s.1.2.2.2.2.2.2.2.1 s.2.1) (((),((s0,()),((),((),((),((s1,()),(s2,(s3,())))))))),(s4,()))
theorem t4 {β:Type}(S:Sl)(R:Int→(List Int)→Int→(List Int)→Int→(Int→Int→(List Int)→(List Int)→Bool→Option β)→Option β)(n:Nat)(kx:Int→Int→(List Int)→(List Int)→Option β)(kr:Int→Int→(List Int)→(List Int)→Bool→Option β)(s0:Int)(s1:Int)(s2:(List Int))(s3:(List Int))(s4:Int):l4 S R (n+1) kx kr s0 s1 s2 s3 s4=b4 S R (l4 S R n kx kr) kx kr s0 s1 s2 s3 s4:=by kernel_rfl
noncomputable def B {β:Type}(S:Sl)(R:Int→(List Int)→Int→(List Int)→Int→(Int→Int→(List Int)→(List Int)→Bool→Option β)→Option β)(a0:Int)(a1:(List Int))(a2:Int)(a3:(List Int))(a4:Int)(K:Int→Int→(List Int)→(List Int)→Bool→Option β):Option β:=bif(S.eq (a1.length:Int) a0)then(impl_CodeMost_1.G S a1 a2 (fun y1 y2 y3=>K a0 y2 a3 y1 y3))else(l4 S R S.n (fun y4 y5 y6 y7=>K y4 y5 y6 y7 false) (fun y8 y9 y10 y11 y12=>K y8 y9 y10 y11 y12) a0 a2 a3 a1 a4)
noncomputable def Gn {β:Type}(S:Sl)(n:Nat):Int→(List Int)→Int→(List Int)→Int→(Int→Int→(List Int)→(List Int)→Bool→Option β)→Option β:=Nat.rec (motive:=fun _=>Int→(List Int)→Int→(List Int)→Int→(Int→Int→(List Int)→(List Int)→Bool→Option β)→Option β) (fun _ _ _ _ _ _=>none) (fun _ R=>B S R) n
noncomputable def G {β:Type}(S:Sl)(a0:Int)(a1:(List Int))(a2:Int)(a3:(List Int))(a4:Int)(K:Int→Int→(List Int)→(List Int)→Bool→Option β):Option β:=Gn S S.n a0 a1 a2 a3 a4 K
theorem tG {β:Type}(S:Sl)(n:Nat)(a0:Int)(a1:(List Int))(a2:Int)(a3:(List Int))(a4:Int)(K:Int→Int→(List Int)→(List Int)→Bool→Option β):Gn S (n+1) a0 a1 a2 a3 a4 K=B S (Gn S n) a0 a1 a2 a3 a4 K:=by kernel_rfl
noncomputable def o:Orac:=⟨196,sin,sout,fun s K=>G sl0 s.1.2.1.1 s.1.2.2.2.2.2.1 s.1.2.2.2.2.2.2.1.1 s.1.2.2.2.2.2.2.2.1 s.2.1 (fun x0 x1 x2 x3 x4=>K (((),((x0,()),((),((),((),((x1,()),(x2,(x3,())))))))),(x4,())))⟩
noncomputable def oN (n:Nat):Orac:=⟨196,sin,sout,fun s K=>Gn sl0 n s.1.2.1.1 s.1.2.2.2.2.2.1 s.1.2.2.2.2.2.2.1.1 s.1.2.2.2.2.2.2.2.1 s.2.1 (fun x0 x1 x2 x3 x4=>K (((),((x0,()),((),((),((),((x1,()),(x2,(x3,())))))))),(x4,())))⟩
noncomputable def C (n:Nat):Ctx:=⟨tyT,[oN n,impl_CodeMost_1.o],[⟨4,0,h4,x4,y4,fun s kx kr=>r4 sl0 (Gn sl0 n) sl0.n kx kr s⟩],39,8⟩
theorem ctx (n:Nat)(hn:OracOk Tryz.prog (oN n)):CtxOk Tryz.prog (C n):=⟨tyOk,all1 hn (all1 impl_CodeMost_1.ok (all0))⟩
theorem e4 (n:Nat) (β:Type)(L:h4.sig.den→Option β)(kx:x4.sig.den→Option β)(kr:y4.sig.den→Option β)(s:h4.sig.den):evalBody (C n) (nthC (loopsOf (bodyC Tryz.f196)) 0) 0 h4 x4 y4 L kx kr s=b4 sl0 (Gn sl0 n) (fun x0 x1 x2 x3 x4=>L (((),((x0,()),((),((),((),((x1,()),(x2,(x3,())))))))),(x4,()))) (fun x0 x1 x2 x3=>kx (((),((x0,()),((),((),((),((x1,()),(x2,(x3,())))))))),())) (fun x0 x1 x2 x3 x4=>kr (((),((x0,()),((),((),((),((x1,()),(x2,(x3,())))))))),(x4,()))) s.1.2.1.1 s.1.2.2.2.2.2.1.1 s.1.2.2.2.2.2.2.1 s.1.2.2.2.2.2.2.2.1 s.2.1:=by kernel_rfl
theorem g4 (n:Nat)(hn:OracOk Tryz.prog (oN n)):LS Tryz.prog (C n) ⟨4,0,h4,x4,y4,fun s kx kr=>r4 sl0 (Gn sl0 n) sl0.n kx kr s⟩ (loopsOf (bodyC Tryz.f196)):=LS.at (i:=0) (by kernel_rfl) (loop_good mixed (ctx n hn) (ctx_nat (ctx n hn)) (N:=sl0.n) (fun _ _ _ _=>rfl) (e4 n) (all1 (LS.none (by kernel_rfl)) (all0)))
theorem eG (n:Nat) (β:Type)(s:sin.den)(K:sout.den→Option β):evalFn (C n) Tryz.f196 sin sout s K=(oN (n+1)).F s K:=by kernel_rfl
theorem ok0:OracOk Tryz.prog (oN 0):=none_ok (o:=oN 0) Tryz.func196 (by kernel_rfl) (by kernel_rfl) (by kernel_rfl) (Nat.le_of_ble_eq_true (by kernel_rfl)) (fun _ _ _=>by kernel_rfl)
theorem ok1 (n:Nat)(hn:OracOk Tryz.prog (oN n)):OracOk Tryz.prog (oN (n+1)):=fn_ok mixed Tryz.func196 (by kernel_rfl) (ctx n hn) (c:=bodyC Tryz.f196) (by kernel_rfl) (all1 (g4 n hn) (all0)) (by kernel_rfl) (by kernel_rfl) (by kernel_rfl) (Nat.le_of_ble_eq_true (by kernel_rfl)) (eG n) (by kernel_rfl) (Nat.le_of_ble_eq_true (by kernel_rfl))
theorem okN (n:Nat):OracOk Tryz.prog (oN n):=Nat.rec ok0 (fun n hn=>ok1 n hn) n
theorem ok:OracOk Tryz.prog o:=okN sl0.n
end impl_chosen_1
namespace impl_chosen
def sin:Sig:=⟨[.buf I false,.box [.val I false]],[.one (.ref (.own 0)),.one (.val I false),.one (.ref (.fn 140 [1]))]⟩
def sout:Sig:=⟨[.buf I false,.box [.val I false]],[.one (.val .bool false)]⟩
noncomputable def G {β:Type}(S:Sl)(a0:(List Int))(a1:Int)(a2:Int)(K:(List Int)→Int→Bool→Option β):Option β:=bif((S.le 0 0)&&(S.le 0 a2)&&S.fw (Int.toNat a2))then(impl_chosen_1.G S a2 (List.replicate (Int.toNat 0) (0:Int)) a1 a0 0 (fun y1 y2 y3 y4 y5=>K y3 y2 y5))else(none)
noncomputable def o:Orac:=⟨138,sin,sout,fun s K=>G sl0 s.1.1 s.1.2.1.1 s.2.1 (fun x0 x1 x2=>K ((x0,((x1,()),())),(x2,())))⟩
noncomputable def C:Ctx:=⟨tyT,[impl_chosen_1.o],[],14,2⟩
theorem ctx:CtxOk Tryz.prog C:=⟨tyOk,all1 impl_chosen_1.ok (all0)⟩
theorem eG (β:Type)(s:sin.den)(K:sout.den→Option β):evalFn C Tryz.f138 sin sout s K=o.F s K:=by kernel_rfl
theorem ok:OracOk Tryz.prog o:=fn_ok mixed Tryz.func138 (by kernel_rfl) ctx (c:=bodyC Tryz.f138) (by kernel_rfl) (all0) (by kernel_rfl) (by kernel_rfl) (by kernel_rfl) (Nat.le_of_ble_eq_true (by kernel_rfl)) eG (by kernel_rfl) (Nat.le_of_ble_eq_true (by kernel_rfl))
end impl_chosen
namespace impl_everyShard
def sin:Sig:=⟨[],[]⟩
def sout:Sig:=⟨[.buf I false],[.one (.ref (.own 0))]⟩
def h3:SS:=⟨[1,4],⟨[.buf I false],[.one (.ref (.own 0)),.one (.val I false)]⟩⟩
def x3:SS:=⟨[1],⟨[.buf I false],[.one (.ref (.own 0))]⟩⟩
def y3:SS:=⟨[],⟨[],[]⟩⟩
noncomputable def b3 {β:Type}(S:Sl)(L:(List Int)→Int→Option β)(kx:(List Int)→Option β)(kr:Option β)(s0:(List Int))(s1:Int):Option β:=bif(S.lt s1 8)then(bif(S.fw (s0 ++ [s1]).length)then(L (s0 ++ [s1]) (S.w (s1+1)))else(none))else(kx s0)
noncomputable def r3 {β:Type}(S:Sl)(n:Nat)(kx:x3.sig.den→Option β)(kr:y3.sig.den→Option β)(s:h3.sig.den):Option β:=rounds (fun L kx kr s=>b3 S (fun x0 x1=>L ((x0,()),(x1,()))) (fun x0=>kx ((x0,()),())) (kr ((),())) s.1.1 s.2.1) kx kr n s
noncomputable def l3 {β:Type}(S:Sl)(n:Nat)(kx:(List Int)→Option β)(kr:Option β)(s0:(List Int))(s1:Int):Option β:=r3 S n (fun s=>kx s.1.1) (fun s=>kr) ((s0,()),(s1,()))
theorem t3 {β:Type}(S:Sl)(n:Nat)(kx:(List Int)→Option β)(kr:Option β)(s0:(List Int))(s1:Int):l3 S (n+1) kx kr s0 s1=b3 S (l3 S n kx kr) kx kr s0 s1:=by kernel_rfl
noncomputable def G {β:Type}(S:Sl)  (K:(List Int)→Option β):Option β:=bif((S.le 0 0)&&(S.le 0 8)&&S.fw (Int.toNat 8))then(l3 S S.n (fun y1=>K y1) none (List.replicate (Int.toNat 0) (0:Int)) 0)else(none)
noncomputable def o:Orac:=⟨139,sin,sout,fun s K=>G sl0 (fun x0=>K ((x0,()),()))⟩
noncomputable def C:Ctx:=⟨tyT,[],[⟨3,0,h3,x3,y3,fun s kx kr=>r3 sl0 sl0.n kx kr s⟩],13,0⟩
theorem ctx:CtxOk Tryz.prog C:=⟨tyOk,all0⟩
theorem e3 (β:Type)(L:h3.sig.den→Option β)(kx:x3.sig.den→Option β)(kr:y3.sig.den→Option β)(s:h3.sig.den):evalBody C (nthC (loopsOf (bodyC Tryz.f139)) 0) 0 h3 x3 y3 L kx kr s=b3 sl0 (fun x0 x1=>L ((x0,()),(x1,()))) (fun x0=>kx ((x0,()),())) (kr ((),())) s.1.1 s.2.1:=by kernel_rfl
theorem g3:LS Tryz.prog C ⟨3,0,h3,x3,y3,fun s kx kr=>r3 sl0 sl0.n kx kr s⟩ (loopsOf (bodyC Tryz.f139)):=LS.at (i:=0) (by kernel_rfl) (loop_good mixed ctx (ctx_nat ctx) (N:=sl0.n) (fun _ _ _ _=>rfl) e3 (all1 (LS.none (by kernel_rfl)) (all0)))
theorem eG (β:Type)(s:sin.den)(K:sout.den→Option β):evalFn C Tryz.f139 sin sout s K=o.F s K:=by kernel_rfl
theorem ok:OracOk Tryz.prog o:=fn_ok mixed Tryz.func139 (by kernel_rfl) ctx (c:=bodyC Tryz.f139) (by kernel_rfl) (all1 g3 (all0)) (by kernel_rfl) (by kernel_rfl) (by kernel_rfl) (Nat.le_of_ble_eq_true (by kernel_rfl)) eG (by kernel_rfl) (Nat.le_of_ble_eq_true (by kernel_rfl))
end impl_everyShard
namespace impl_CodeMost
def sin:Sig:=⟨[],[.one (.val I false)]⟩
def sout:Sig:=⟨[],[.one (.val I false)]⟩
def h4:SS:=⟨[1,3],⟨[.box [.val I false]],[.one (.ref (.ptr 0)),.one (.val I false)]⟩⟩
def x4:SS:=⟨[3],⟨[],[.one (.val I false)]⟩⟩
def y4:SS:=⟨[],⟨[],[]⟩⟩
noncomputable def b4 {β:Type}(S:Sl)(L:Int→Int→Option β)(kx:Int→Option β)(kr:Option β)(s0:Int)(s1:Int):Option β:=bif(S.lt 0 s1)then(impl_everyShard.G S (fun y1=>impl_chosen.G S y1 s0 (S.w (s1-1)) (fun y2 y3 y4=>bif(!y4)then(L y3 (S.w (s1-1)))else(kx s1))))else(kx s1)
noncomputable def r4 {β:Type}(S:Sl)(n:Nat)(kx:x4.sig.den→Option β)(kr:y4.sig.den→Option β)(s:h4.sig.den):Option β:=rounds (fun L kx kr s=>b4 S (fun x0 x1=>L (((x0,()),()),(x1,()))) (fun x0=>kx ((),(x0,()))) (kr ((),())) s.1.1.1 s.2.1) kx kr n s
noncomputable def l4 {β:Type}(S:Sl)(n:Nat)(kx:Int→Option β)(kr:Option β)(s0:Int)(s1:Int):Option β:=r4 S n (fun s=>kx s.2.1) (fun s=>kr) (((s0,()),()),(s1,()))
theorem t4 {β:Type}(S:Sl)(n:Nat)(kx:Int→Option β)(kr:Option β)(s0:Int)(s1:Int):l4 S (n+1) kx kr s0 s1=b4 S (l4 S n kx kr) kx kr s0 s1:=by kernel_rfl
noncomputable def G {β:Type}(S:Sl)(a0:Int)(K:Int→Option β):Option β:=impl_kindOk.G S a0 (fun y1=>bif(!y1)then(K (-1))else(l4 S S.n (fun y2=>K (S.w ((8:Int)-y2))) none a0 8))
noncomputable def o:Orac:=⟨56,sin,sout,fun s K=>G sl0 s.2.1 (fun x0=>K ((),(x0,())))⟩
noncomputable def C:Ctx:=⟨tyT,[impl_chosen.o,impl_everyShard.o,impl_kindOk.o],[⟨4,0,h4,x4,y4,fun s kx kr=>r4 sl0 sl0.n kx kr s⟩],21,0⟩
theorem ctx:CtxOk Tryz.prog C:=⟨tyOk,all1 impl_chosen.ok (all1 impl_everyShard.ok (all1 impl_kindOk.ok (all0)))⟩
theorem e4 (β:Type)(L:h4.sig.den→Option β)(kx:x4.sig.den→Option β)(kr:y4.sig.den→Option β)(s:h4.sig.den):evalBody C (nthC (loopsOf (bodyC Tryz.f56)) 0) 0 h4 x4 y4 L kx kr s=b4 sl0 (fun x0 x1=>L (((x0,()),()),(x1,()))) (fun x0=>kx ((),(x0,()))) (kr ((),())) s.1.1.1 s.2.1:=by kernel_rfl
theorem g4:LS Tryz.prog C ⟨4,0,h4,x4,y4,fun s kx kr=>r4 sl0 sl0.n kx kr s⟩ (loopsOf (bodyC Tryz.f56)):=LS.at (i:=0) (by kernel_rfl) (loop_good mixed ctx (ctx_nat ctx) (N:=sl0.n) (fun _ _ _ _=>rfl) e4 (all1 (LS.none (by kernel_rfl)) (all0)))
theorem eG (β:Type)(s:sin.den)(K:sout.den→Option β):evalFn C Tryz.f56 sin sout s K=o.F s K:=by kernel_rfl
theorem ok:OracOk Tryz.prog o:=fn_ok mixed Tryz.func56 (by kernel_rfl) ctx (c:=bodyC Tryz.f56) (by kernel_rfl) (all1 g4 (all0)) (by kernel_rfl) (by kernel_rfl) (by kernel_rfl) (Nat.le_of_ble_eq_true (by kernel_rfl)) eG (by kernel_rfl) (Nat.le_of_ble_eq_true (by kernel_rfl))
end impl_CodeMost
namespace impl_Keep_rest
def sin:Sig:=⟨[],[.agg [.val I false,.val (.sl I) false,.val (.sl I) false,.val (.sl .bool) false,.val .bool false,.val I false,.val (.sl I) false,.val I false]]⟩
def sout:Sig:=⟨[.buf I false,.buf I false,.buf .bool false],[.agg [.val I false,.ref (.own 0),.ref (.own 1),.ref (.own 2)]]⟩
def h3:SS:=⟨[1,2,3,10,11,12],⟨[.box [.val I false,.val (.sl I) false,.val (.sl I) false,.val (.sl .bool) false,.val .bool false,.val I false,.val (.sl I) false,.val I false],.box [.val I false,.ref .e0,.ref .e0,.ref .e0],.box [.val I false,.ref (.own 4),.ref (.own 3),.ref (.own 5)],.buf I false,.buf I false,.buf .bool false],[.one (.ref (.ptr 0)),.one (.ref (.ptr 1)),.one (.ref (.ptr 2)),.one (.ref (.own 3)),.one (.val I false),.one (.val I false)]⟩⟩
def x3:SS:=⟨[2,3],⟨[.box [.val I false,.ref .e0,.ref .e0,.ref .e0],.box [.val I false,.ref (.own 2),.ref (.own 3),.ref (.own 4)],.buf I false,.buf I false,.buf .bool false],[.one (.ref (.ptr 0)),.one (.ref (.ptr 1))]⟩⟩
def y3:SS:=⟨[],⟨[],[]⟩⟩
noncomputable def b3 {β:Type}(S:Sl)(L:Int→(List Int)→(List Int)→(List Bool)→Bool→Int→(List Int)→Int→Int→Int→(List Int)→(List Int)→(List Bool)→Int→Int→Option β)(kx:Int→Int→(List Int)→(List Int)→(List Bool)→Option β)(kr:Option β)(s0:Int)(s1:(List Int))(s2:(List Int))(s3:(List Bool))(s4:Bool)(s5:Int)(s6:(List Int))(s7:Int)(s8:Int)(s9:Int)(s10:(List Int))(s11:(List Int))(s12:(List Bool))(s13:Int)(s14:Int):Option β:=bif(S.lt s14 s13)then(bif(S.ir s14 s10.length)then(bif(S.eq (List.getD s10 (Int.toNat s14) 0) s7)then(impl_Stripe_drop.G S s11 s10 s12 s9 s14 (fun y1 y2 y3=>L s0 s1 s2 s3 s4 s5 s6 s7 s8 s9 y2 y1 y3 s13 (S.w (s14+1))))else(L s0 s1 s2 s3 s4 s5 s6 s7 s8 s9 s10 s11 s12 s13 (S.w (s14+1))))else(none))else(kx s8 s9 s11 s10 s12)
noncomputable def r3 {β:Type}(S:Sl)(n:Nat)(kx:x3.sig.den→Option β)(kr:y3.sig.den→Option β)(s:h3.sig.den):Option β:=rounds (fun L kx kr s=>b3 S (fun x0 x1 x2 x3 x4 x5 x6 x7 x8 x9 x10 x11 x12 x13 x14=>L (((x0,(x1,(x2,(x3,(x4,(x5,(x6,(x7,())))))))),((x8,()),((x9,()),(x10,(x11,(x12,())))))),(x13,(x14,())))) (fun x0 x1 x2 x3 x4=>kx (((x0,()),((x1,()),(x2,(x3,(x4,()))))),())) (kr ((),())) s.1.1.1 s.1.1.2.1 s.1.1.2.2.1 s.1.1.2.2.2.1 s.1.1.2.2.2.2.1 s.1.1.2.2.2.2.2.1 s.1.1.2.2.2.2.2.2.1 s.1.1.2.2.2.2.2.2.2.1 s.1.2.1.1 s.1.2.2.1.1 s.1.2.2.2.1 s.1.2.2.2.2.1 s.1.2.2.2.2.2.1 s.2.1 s.2.2.1) kx kr n s
noncomputable def l3 {β:Type}(S:Sl)(n:Nat)(kx:Int→Int→(List Int)→(List Int)→(List Bool)→Option β)(kr:Option β)(s0:Int)(s1:(List Int))(s2:(List Int))(s3:(List Bool))(s4:Bool)(s5:Int)(s6:(List Int))(s7:Int)(s8:Int)(s9:Int)(s10:(List Int))(s11:(List Int))(s12:(List Bool))(s13:Int)(s14:Int):Option β:=r3 S n (fun s=>kx s.1.1.1 s.1.2.1.1 s.1.2.2.1 s.1.2.2.2.1 s.1.2.2.2.2.1) (fun s=>kr) (((s0,(s1,(s2,(s3,(s4,(s5,(s6,(s7,())))))))),((s8,()),((s9,()),(s10,(s11,(s12,())))))),(s13,(s14,())))
theorem t3 {β:Type}(S:Sl)(n:Nat)(kx:Int→Int→(List Int)→(List Int)→(List Bool)→Option β)(kr:Option β)(s0:Int)(s1:(List Int))(s2:(List Int))(s3:(List Bool))(s4:Bool)(s5:Int)(s6:(List Int))(s7:Int)(s8:Int)(s9:Int)(s10:(List Int))(s11:(List Int))(s12:(List Bool))(s13:Int)(s14:Int):l3 S (n+1) kx kr s0 s1 s2 s3 s4 s5 s6 s7 s8 s9 s10 s11 s12 s13 s14=b3 S (l3 S n kx kr) kx kr s0 s1 s2 s3 s4 s5 s6 s7 s8 s9 s10 s11 s12 s13 s14:=by kernel_rfl
noncomputable def G {β:Type}(S:Sl)(a0:Int)(a1:(List Int))(a2:(List Int))(a3:(List Bool))(a4:Bool)(a5:Int)(a6:(List Int))(a7:Int)(K:(List Int)→(List Int)→(List Bool)→Int→Option β):Option β:=impl_Stripe_copied.G S a0 a1 a2 a3 (fun y1 y2 y3 y4=>l3 S S.n (fun y5 y6 y7 y8 y9=>K y7 y8 y9 y6) none a0 a1 a2 a3 a4 a5 a6 a7 0 y4 y2 y1 y3 (y2.length:Int) 0)
noncomputable def o:Orac:=⟨129,sin,sout,fun s K=>G sl0 s.2.1.1 s.2.1.2.1 s.2.1.2.2.1 s.2.1.2.2.2.1 s.2.1.2.2.2.2.1 s.2.1.2.2.2.2.2.1 s.2.1.2.2.2.2.2.2.1 s.2.1.2.2.2.2.2.2.2.1 (fun x0 x1 x2 x3=>K ((x0,(x1,(x2,()))),((x3,()),())))⟩
noncomputable def C:Ctx:=⟨tyT,[impl_Stripe_copied.o,impl_Stripe_drop.o],[⟨3,0,h3,x3,y3,fun s kx kr=>r3 sl0 sl0.n kx kr s⟩],26,0⟩
theorem ctx:CtxOk Tryz.prog C:=⟨tyOk,all1 impl_Stripe_copied.ok (all1 impl_Stripe_drop.ok (all0))⟩
theorem e3 (β:Type)(L:h3.sig.den→Option β)(kx:x3.sig.den→Option β)(kr:y3.sig.den→Option β)(s:h3.sig.den):evalBody C (nthC (loopsOf (bodyC Tryz.f129)) 0) 0 h3 x3 y3 L kx kr s=b3 sl0 (fun x0 x1 x2 x3 x4 x5 x6 x7 x8 x9 x10 x11 x12 x13 x14=>L (((x0,(x1,(x2,(x3,(x4,(x5,(x6,(x7,())))))))),((x8,()),((x9,()),(x10,(x11,(x12,())))))),(x13,(x14,())))) (fun x0 x1 x2 x3 x4=>kx (((x0,()),((x1,()),(x2,(x3,(x4,()))))),())) (kr ((),())) s.1.1.1 s.1.1.2.1 s.1.1.2.2.1 s.1.1.2.2.2.1 s.1.1.2.2.2.2.1 s.1.1.2.2.2.2.2.1 s.1.1.2.2.2.2.2.2.1 s.1.1.2.2.2.2.2.2.2.1 s.1.2.1.1 s.1.2.2.1.1 s.1.2.2.2.1 s.1.2.2.2.2.1 s.1.2.2.2.2.2.1 s.2.1 s.2.2.1:=by kernel_rfl
theorem g3:LS Tryz.prog C ⟨3,0,h3,x3,y3,fun s kx kr=>r3 sl0 sl0.n kx kr s⟩ (loopsOf (bodyC Tryz.f129)):=LS.at (i:=0) (by kernel_rfl) (loop_good mixed ctx (ctx_nat ctx) (N:=sl0.n) (fun _ _ _ _=>rfl) e3 (all1 (LS.none (by kernel_rfl)) (all0)))
theorem eG (β:Type)(s:sin.den)(K:sout.den→Option β):evalFn C Tryz.f129 sin sout s K=o.F s K:=by kernel_rfl
theorem ok:OracOk Tryz.prog o:=fn_ok mixed Tryz.func129 (by kernel_rfl) ctx (c:=bodyC Tryz.f129) (by kernel_rfl) (all1 g3 (all0)) (by kernel_rfl) (by kernel_rfl) (by kernel_rfl) (Nat.le_of_ble_eq_true (by kernel_rfl)) eG (by kernel_rfl) (Nat.le_of_ble_eq_true (by kernel_rfl))
end impl_Keep_rest
namespace impl_KeepOk
def sin:Sig:=⟨[],[.agg [.val I false,.val (.sl I) false,.val (.sl I) false,.val (.sl .bool) false,.val .bool false,.val I false,.val (.sl I) false,.val I false]]⟩
def sout:Sig:=⟨[],[.one (.val .bool false)]⟩
def h12:SS:=⟨[1,9,96,97,98],⟨[.box [.val I false,.val (.sl I) false,.val (.sl I) false,.val (.sl .bool) false,.val .bool false,.val I false,.val (.sl I) false,.val I false],.buf I false],[.one (.ref (.ptr 0)),.one (.ref (.own 1)),.one (.val (.sl I) false),.one (.val I false),.one (.val I false)]⟩⟩
def x12:SS:=⟨[],⟨[],[]⟩⟩
def y12:SS:=⟨[2],⟨[],[.one (.val .bool false)]⟩⟩
noncomputable def b12 {β:Type}(S:Sl)(L:Int→(List Int)→(List Int)→(List Bool)→Bool→Int→(List Int)→Int→(List Int)→(List Int)→Int→Int→Option β)(kx:Option β)(kr:Bool→Option β)(s0:Int)(s1:(List Int))(s2:(List Int))(s3:(List Bool))(s4:Bool)(s5:Int)(s6:(List Int))(s7:Int)(s8:(List Int))(s9:(List Int))(s10:Int)(s11:Int):Option β:=bif(S.lt s11 s10)then(bif(S.ir s11 s9.length)then(bif(S.eq (List.getD s9 (Int.toNat s11) 0) s7)then(bif(S.ir s11 s3.length)then(bif(!(List.getD s3 (Int.toNat s11) false))then(kr false)else(bif(S.ir s11 s1.length)then(bif(S.ir s11 s8.length)then(bif(!S.eq (List.getD s1 (Int.toNat s11) 0) (List.getD s8 (Int.toNat s11) 0))then(kr false)else(L s0 s1 s2 s3 s4 s5 s6 s7 s8 s9 s10 (S.w (s11+1))))else(none))else(none)))else(none))else(L s0 s1 s2 s3 s4 s5 s6 s7 s8 s9 s10 (S.w (s11+1))))else(none))else(kx)
noncomputable def r12 {β:Type}(S:Sl)(n:Nat)(kx:x12.sig.den→Option β)(kr:y12.sig.den→Option β)(s:h12.sig.den):Option β:=rounds (fun L kx kr s=>b12 S (fun x0 x1 x2 x3 x4 x5 x6 x7 x8 x9 x10 x11=>L (((x0,(x1,(x2,(x3,(x4,(x5,(x6,(x7,())))))))),(x8,())),(x9,(x10,(x11,()))))) (kx ((),())) (fun x0=>kr ((),(x0,()))) s.1.1.1 s.1.1.2.1 s.1.1.2.2.1 s.1.1.2.2.2.1 s.1.1.2.2.2.2.1 s.1.1.2.2.2.2.2.1 s.1.1.2.2.2.2.2.2.1 s.1.1.2.2.2.2.2.2.2.1 s.1.2.1 s.2.1 s.2.2.1 s.2.2.2.1) kx kr n s
noncomputable def l12 {β:Type}(S:Sl)(n:Nat)(kx:Option β)(kr:Bool→Option β)(s0:Int)(s1:(List Int))(s2:(List Int))(s3:(List Bool))(s4:Bool)(s5:Int)(s6:(List Int))(s7:Int)(s8:(List Int))(s9:(List Int))(s10:Int)(s11:Int):Option β:=r12 S n (fun s=>kx) (fun s=>kr s.2.1) (((s0,(s1,(s2,(s3,(s4,(s5,(s6,(s7,())))))))),(s8,())),(s9,(s10,(s11,()))))
theorem t12 {β:Type}(S:Sl)(n:Nat)(kx:Option β)(kr:Bool→Option β)(s0:Int)(s1:(List Int))(s2:(List Int))(s3:(List Bool))(s4:Bool)(s5:Int)(s6:(List Int))(s7:Int)(s8:(List Int))(s9:(List Int))(s10:Int)(s11:Int):l12 S (n+1) kx kr s0 s1 s2 s3 s4 s5 s6 s7 s8 s9 s10 s11=b12 S (l12 S n kx kr) kx kr s0 s1 s2 s3 s4 s5 s6 s7 s8 s9 s10 s11:=by kernel_rfl
noncomputable def G {β:Type}(S:Sl)(a0:Int)(a1:(List Int))(a2:(List Int))(a3:(List Bool))(a4:Bool)(a5:Int)(a6:(List Int))(a7:Int)(K:Bool→Option β):Option β:=bif(!a4)then(impl_StripeRead.G S a0 a1 a2 a3 (fun y1 y2 y3=>bif y3 then(bif(S.eq a5 0)then(bif(S.eq (a6.length:Int) 0)then(bif(S.eq a7 0)then(impl_Stripe_versions.G S a0 a1 a2 a3 (fun y4=>K (S.eq (y4.length:Int) 1)))else(K false))else(K false))else(K false))else(K false)))else(impl_vectorOf.G S a6 (fun y5 y6=>bif(!y6)then(K false)else(impl_kindOk.G S a5 (fun y7=>bif(!y7)then(K false)else(impl_versOk.G S a7 (fun y8=>bif(!y8)then(K false)else(impl_Stripe_shaped.G S a0 a1 a2 a3 (fun y9=>bif(!y9)then(K false)else(impl_Keep_rest.G S a0 a1 a2 a3 a4 a5 a6 a7 (fun y10 y11 y12 y13=>impl_StripeOk.G S y13 y10 y11 y12 (fun y14=>bif(!y14)then(K false)else(impl_Stripe_versions.G S y13 y10 y11 y12 (fun y15=>bif(S.lt 1 (y15.length:Int))then(K false)else(impl_Stripe_top.G S y13 y10 y11 y12 (fun y16=>bif(S.le a7 y16)then(K false)else(impl_encode.G S a5 y5 (fun y17=>l12 S S.n (K true) (fun y18=>K y18) a0 a1 a2 a3 a4 a5 a6 a7 y17 a2 (a2.length:Int) 0)))))))))))))))))
noncomputable def o:Orac:=⟨40,sin,sout,fun s K=>G sl0 s.2.1.1 s.2.1.2.1 s.2.1.2.2.1 s.2.1.2.2.2.1 s.2.1.2.2.2.2.1 s.2.1.2.2.2.2.2.1 s.2.1.2.2.2.2.2.2.1 s.2.1.2.2.2.2.2.2.2.1 (fun x0=>K ((),(x0,())))⟩
noncomputable def C:Ctx:=⟨tyT,[impl_Keep_rest.o,impl_StripeOk.o,impl_StripeRead.o,impl_Stripe_shaped.o,impl_Stripe_top.o,impl_Stripe_versions.o,impl_encode.o,impl_kindOk.o,impl_vectorOf.o,impl_versOk.o],[⟨12,0,h12,x12,y12,fun s kx kr=>r12 sl0 sl0.n kx kr s⟩],130,0⟩
theorem ctx:CtxOk Tryz.prog C:=⟨tyOk,all1 impl_Keep_rest.ok (all1 impl_StripeOk.ok (all1 impl_StripeRead.ok (all1 impl_Stripe_shaped.ok (all1 impl_Stripe_top.ok (all1 impl_Stripe_versions.ok (all1 impl_encode.ok (all1 impl_kindOk.ok (all1 impl_vectorOf.ok (all1 impl_versOk.ok (all0))))))))))⟩
theorem e12 (β:Type)(L:h12.sig.den→Option β)(kx:x12.sig.den→Option β)(kr:y12.sig.den→Option β)(s:h12.sig.den):evalBody C (nthC (loopsOf (bodyC Tryz.f40)) 0) 0 h12 x12 y12 L kx kr s=b12 sl0 (fun x0 x1 x2 x3 x4 x5 x6 x7 x8 x9 x10 x11=>L (((x0,(x1,(x2,(x3,(x4,(x5,(x6,(x7,())))))))),(x8,())),(x9,(x10,(x11,()))))) (kx ((),())) (fun x0=>kr ((),(x0,()))) s.1.1.1 s.1.1.2.1 s.1.1.2.2.1 s.1.1.2.2.2.1 s.1.1.2.2.2.2.1 s.1.1.2.2.2.2.2.1 s.1.1.2.2.2.2.2.2.1 s.1.1.2.2.2.2.2.2.2.1 s.1.2.1 s.2.1 s.2.2.1 s.2.2.2.1:=by kernel_rfl
theorem g12:LS Tryz.prog C ⟨12,0,h12,x12,y12,fun s kx kr=>r12 sl0 sl0.n kx kr s⟩ (loopsOf (bodyC Tryz.f40)):=LS.at (i:=0) (by kernel_rfl) (loop_good mixed ctx (ctx_nat ctx) (N:=sl0.n) (fun _ _ _ _=>rfl) e12 (all1 (LS.none (by kernel_rfl)) (all0)))
theorem eG (β:Type)(s:sin.den)(K:sout.den→Option β):evalFn C Tryz.f40 sin sout s K=o.F s K:=by kernel_rfl
theorem ok:OracOk Tryz.prog o:=fn_ok mixed Tryz.func40 (by kernel_rfl) ctx (c:=bodyC Tryz.f40) (by kernel_rfl) (all1 g12 (all0)) (by kernel_rfl) (by kernel_rfl) (by kernel_rfl) (Nat.le_of_ble_eq_true (by kernel_rfl)) eG (by kernel_rfl) (Nat.le_of_ble_eq_true (by kernel_rfl))
end impl_KeepOk
namespace spec_l23Elder
def sin:Sig:=⟨[],[.agg [.val I false,.val (.sl I) false,.val (.sl I) false,.val (.sl .bool) false,.val .bool false,.val I false,.val (.sl I) false,.val I false]]⟩
def sout:Sig:=⟨[.buf I false,.buf I false,.buf .bool false],[.agg [.val I false,.ref (.own 0),.ref (.own 1),.ref (.own 2)]]⟩
def h3:SS:=⟨[1,2,3,4],⟨[.box [.val I false,.val (.sl I) false,.val (.sl I) false,.val (.sl .bool) false,.val .bool false,.val I false,.val (.sl I) false,.val I false],.box [.val I false,.ref .e0,.ref .e0,.ref .e0],.box [.val I false,.ref (.own 3),.ref (.own 4),.ref (.own 5)],.buf I false,.buf I false,.buf .bool false],[.one (.ref (.ptr 0)),.one (.ref (.ptr 1)),.one (.ref (.ptr 2)),.one (.val I false)]⟩⟩
def x3:SS:=⟨[2,3],⟨[.box [.val I false,.ref .e0,.ref .e0,.ref .e0],.box [.val I false,.ref (.own 2),.ref (.own 3),.ref (.own 4)],.buf I false,.buf I false,.buf .bool false],[.one (.ref (.ptr 0)),.one (.ref (.ptr 1))]⟩⟩
def y3:SS:=⟨[],⟨[],[]⟩⟩
noncomputable def b3 {β:Type}(S:Sl)(L:Int→(List Int)→(List Int)→(List Bool)→Bool→Int→(List Int)→Int→Int→Int→(List Int)→(List Int)→(List Bool)→Int→Option β)(kx:Int→Int→(List Int)→(List Int)→(List Bool)→Option β)(kr:Option β)(s0:Int)(s1:(List Int))(s2:(List Int))(s3:(List Bool))(s4:Bool)(s5:Int)(s6:(List Int))(s7:Int)(s8:Int)(s9:Int)(s10:(List Int))(s11:(List Int))(s12:(List Bool))(s13:Int):Option β:=bif(S.lt s13 8)then(bif s4 then(bif(S.ir s13 s11.length)then(bif(S.eq (List.getD s11 (Int.toNat s13) 0) s7)then(spec_l21Lose.G S s9 s10 s11 s12 s13 (fun y1 y2 y3 y4=>L s0 s1 s2 s3 s4 s5 s6 s7 s8 y4 y1 y2 y3 (S.w (s13+1))))else(L s0 s1 s2 s3 s4 s5 s6 s7 s8 s9 s10 s11 s12 (S.w (s13+1))))else(none))else(L s0 s1 s2 s3 s4 s5 s6 s7 s8 s9 s10 s11 s12 (S.w (s13+1))))else(kx s8 s9 s10 s11 s12)
noncomputable def r3 {β:Type}(S:Sl)(n:Nat)(kx:x3.sig.den→Option β)(kr:y3.sig.den→Option β)(s:h3.sig.den):Option β:=rounds (fun L kx kr s=>b3 S (fun x0 x1 x2 x3 x4 x5 x6 x7 x8 x9 x10 x11 x12 x13=>L (((x0,(x1,(x2,(x3,(x4,(x5,(x6,(x7,())))))))),((x8,()),((x9,()),(x10,(x11,(x12,())))))),(x13,()))) (fun x0 x1 x2 x3 x4=>kx (((x0,()),((x1,()),(x2,(x3,(x4,()))))),())) (kr ((),())) s.1.1.1 s.1.1.2.1 s.1.1.2.2.1 s.1.1.2.2.2.1 s.1.1.2.2.2.2.1 s.1.1.2.2.2.2.2.1 s.1.1.2.2.2.2.2.2.1 s.1.1.2.2.2.2.2.2.2.1 s.1.2.1.1 s.1.2.2.1.1 s.1.2.2.2.1 s.1.2.2.2.2.1 s.1.2.2.2.2.2.1 s.2.1) kx kr n s
noncomputable def l3 {β:Type}(S:Sl)(n:Nat)(kx:Int→Int→(List Int)→(List Int)→(List Bool)→Option β)(kr:Option β)(s0:Int)(s1:(List Int))(s2:(List Int))(s3:(List Bool))(s4:Bool)(s5:Int)(s6:(List Int))(s7:Int)(s8:Int)(s9:Int)(s10:(List Int))(s11:(List Int))(s12:(List Bool))(s13:Int):Option β:=r3 S n (fun s=>kx s.1.1.1 s.1.2.1.1 s.1.2.2.1 s.1.2.2.2.1 s.1.2.2.2.2.1) (fun s=>kr) (((s0,(s1,(s2,(s3,(s4,(s5,(s6,(s7,())))))))),((s8,()),((s9,()),(s10,(s11,(s12,())))))),(s13,()))
theorem t3 {β:Type}(S:Sl)(n:Nat)(kx:Int→Int→(List Int)→(List Int)→(List Bool)→Option β)(kr:Option β)(s0:Int)(s1:(List Int))(s2:(List Int))(s3:(List Bool))(s4:Bool)(s5:Int)(s6:(List Int))(s7:Int)(s8:Int)(s9:Int)(s10:(List Int))(s11:(List Int))(s12:(List Bool))(s13:Int):l3 S (n+1) kx kr s0 s1 s2 s3 s4 s5 s6 s7 s8 s9 s10 s11 s12 s13=b3 S (l3 S n kx kr) kx kr s0 s1 s2 s3 s4 s5 s6 s7 s8 s9 s10 s11 s12 s13:=by kernel_rfl
noncomputable def G {β:Type}(S:Sl)(a0:Int)(a1:(List Int))(a2:(List Int))(a3:(List Bool))(a4:Bool)(a5:Int)(a6:(List Int))(a7:Int)(K:(List Int)→(List Int)→(List Bool)→Int→Option β):Option β:=spec_l21Copy.G S a0 a1 a2 a3 (fun y1 y2 y3 y4=>l3 S S.n (fun y5 y6 y7 y8 y9=>K y7 y8 y9 y6) none a0 a1 a2 a3 a4 a5 a6 a7 0 y4 y1 y2 y3 0)
noncomputable def o:Orac:=⟨124,sin,sout,fun s K=>G sl0 s.2.1.1 s.2.1.2.1 s.2.1.2.2.1 s.2.1.2.2.2.1 s.2.1.2.2.2.2.1 s.2.1.2.2.2.2.2.1 s.2.1.2.2.2.2.2.2.1 s.2.1.2.2.2.2.2.2.2.1 (fun x0 x1 x2 x3=>K ((x0,(x1,(x2,()))),((x3,()),())))⟩
noncomputable def C:Ctx:=⟨tyT,[spec_l21Copy.o,spec_l21Lose.o],[⟨3,0,h3,x3,y3,fun s kx kr=>r3 sl0 sl0.n kx kr s⟩],28,0⟩
theorem ctx:CtxOk Tryz.prog C:=⟨tyOk,all1 spec_l21Copy.ok (all1 spec_l21Lose.ok (all0))⟩
theorem e3 (β:Type)(L:h3.sig.den→Option β)(kx:x3.sig.den→Option β)(kr:y3.sig.den→Option β)(s:h3.sig.den):evalBody C (nthC (loopsOf (bodyC Tryz.f124)) 0) 0 h3 x3 y3 L kx kr s=b3 sl0 (fun x0 x1 x2 x3 x4 x5 x6 x7 x8 x9 x10 x11 x12 x13=>L (((x0,(x1,(x2,(x3,(x4,(x5,(x6,(x7,())))))))),((x8,()),((x9,()),(x10,(x11,(x12,())))))),(x13,()))) (fun x0 x1 x2 x3 x4=>kx (((x0,()),((x1,()),(x2,(x3,(x4,()))))),())) (kr ((),())) s.1.1.1 s.1.1.2.1 s.1.1.2.2.1 s.1.1.2.2.2.1 s.1.1.2.2.2.2.1 s.1.1.2.2.2.2.2.1 s.1.1.2.2.2.2.2.2.1 s.1.1.2.2.2.2.2.2.2.1 s.1.2.1.1 s.1.2.2.1.1 s.1.2.2.2.1 s.1.2.2.2.2.1 s.1.2.2.2.2.2.1 s.2.1:=by kernel_rfl
theorem g3:LS Tryz.prog C ⟨3,0,h3,x3,y3,fun s kx kr=>r3 sl0 sl0.n kx kr s⟩ (loopsOf (bodyC Tryz.f124)):=LS.at (i:=0) (by kernel_rfl) (loop_good mixed ctx (ctx_nat ctx) (N:=sl0.n) (fun _ _ _ _=>rfl) e3 (all1 (LS.none (by kernel_rfl)) (all0)))
theorem eG (β:Type)(s:sin.den)(K:sout.den→Option β):evalFn C Tryz.f124 sin sout s K=o.F s K:=by kernel_rfl
theorem ok:OracOk Tryz.prog o:=fn_ok mixed Tryz.func124 (by kernel_rfl) ctx (c:=bodyC Tryz.f124) (by kernel_rfl) (all1 g3 (all0)) (by kernel_rfl) (by kernel_rfl) (by kernel_rfl) (Nat.le_of_ble_eq_true (by kernel_rfl)) eG (by kernel_rfl) (Nat.le_of_ble_eq_true (by kernel_rfl))
end spec_l23Elder
namespace spec_KeepOk
def sin:Sig:=⟨[],[.agg [.val I false,.val (.sl I) false,.val (.sl I) false,.val (.sl .bool) false,.val .bool false,.val I false,.val (.sl I) false,.val I false]]⟩
def sout:Sig:=⟨[],[.one (.val .bool false)]⟩
def h18:SS:=⟨[1,8,9],⟨[.box [.val I false,.val (.sl I) false,.val (.sl I) false,.val (.sl .bool) false,.val .bool false,.val I false,.val (.sl I) false,.val I false],.buf I false],[.one (.ref (.ptr 0)),.one (.ref (.own 1)),.one (.val I false)]⟩⟩
def x18:SS:=⟨[],⟨[],[]⟩⟩
def y18:SS:=⟨[2],⟨[],[.one (.val .bool false)]⟩⟩
noncomputable def b18 {β:Type}(S:Sl)(L:Int→(List Int)→(List Int)→(List Bool)→Bool→Int→(List Int)→Int→(List Int)→Int→Option β)(kx:Option β)(kr:Bool→Option β)(s0:Int)(s1:(List Int))(s2:(List Int))(s3:(List Bool))(s4:Bool)(s5:Int)(s6:(List Int))(s7:Int)(s8:(List Int))(s9:Int):Option β:=bif(S.lt s9 8)then(bif(S.ir s9 s2.length)then(bif(S.eq (List.getD s2 (Int.toNat s9) 0) s7)then(bif(S.ir s9 s3.length)then(bif(!(List.getD s3 (Int.toNat s9) false))then(kr false)else(bif(S.ir s9 s1.length)then(bif(S.ir s9 s8.length)then(bif(!S.eq (List.getD s1 (Int.toNat s9) 0) (List.getD s8 (Int.toNat s9) 0))then(kr false)else(L s0 s1 s2 s3 s4 s5 s6 s7 s8 (S.w (s9+1))))else(none))else(none)))else(none))else(L s0 s1 s2 s3 s4 s5 s6 s7 s8 (S.w (s9+1))))else(none))else(kx)
noncomputable def r18 {β:Type}(S:Sl)(n:Nat)(kx:x18.sig.den→Option β)(kr:y18.sig.den→Option β)(s:h18.sig.den):Option β:=rounds (fun L kx kr s=>b18 S (fun x0 x1 x2 x3 x4 x5 x6 x7 x8 x9=>L (((x0,(x1,(x2,(x3,(x4,(x5,(x6,(x7,())))))))),(x8,())),(x9,()))) (kx ((),())) (fun x0=>kr ((),(x0,()))) s.1.1.1 s.1.1.2.1 s.1.1.2.2.1 s.1.1.2.2.2.1 s.1.1.2.2.2.2.1 s.1.1.2.2.2.2.2.1 s.1.1.2.2.2.2.2.2.1 s.1.1.2.2.2.2.2.2.2.1 s.1.2.1 s.2.1) kx kr n s
noncomputable def l18 {β:Type}(S:Sl)(n:Nat)(kx:Option β)(kr:Bool→Option β)(s0:Int)(s1:(List Int))(s2:(List Int))(s3:(List Bool))(s4:Bool)(s5:Int)(s6:(List Int))(s7:Int)(s8:(List Int))(s9:Int):Option β:=r18 S n (fun s=>kx) (fun s=>kr s.2.1) (((s0,(s1,(s2,(s3,(s4,(s5,(s6,(s7,())))))))),(s8,())),(s9,()))
theorem t18 {β:Type}(S:Sl)(n:Nat)(kx:Option β)(kr:Bool→Option β)(s0:Int)(s1:(List Int))(s2:(List Int))(s3:(List Bool))(s4:Bool)(s5:Int)(s6:(List Int))(s7:Int)(s8:(List Int))(s9:Int):l18 S (n+1) kx kr s0 s1 s2 s3 s4 s5 s6 s7 s8 s9=b18 S (l18 S n kx kr) kx kr s0 s1 s2 s3 s4 s5 s6 s7 s8 s9:=by kernel_rfl
def h7:SS:=⟨[1,3,4],⟨[.box [.val I false,.val (.sl I) false,.val (.sl I) false,.val (.sl .bool) false,.val .bool false,.val I false,.val (.sl I) false,.val I false],.box [.val I false,.ref (.own 2),.ref (.own 3),.ref (.own 4)],.buf I false,.buf I false,.buf .bool false],[.one (.ref (.ptr 0)),.one (.ref (.ptr 1)),.one (.val I false)]⟩⟩
def x7:SS:=⟨[1,3],⟨[.box [.val I false,.val (.sl I) false,.val (.sl I) false,.val (.sl .bool) false,.val .bool false,.val I false,.val (.sl I) false,.val I false],.box [.val I false,.ref (.own 2),.ref (.own 3),.ref (.own 4)],.buf I false,.buf I false,.buf .bool false],[.one (.ref (.ptr 0)),.one (.ref (.ptr 1))]⟩⟩
def y7:SS:=⟨[2],⟨[],[.one (.val .bool false)]⟩⟩
noncomputable def b7 {β:Type}(S:Sl)(L:Int→(List Int)→(List Int)→(List Bool)→Bool→Int→(List Int)→Int→Int→(List Int)→(List Int)→(List Bool)→Int→Option β)(kx:Int→(List Int)→(List Int)→(List Bool)→Bool→Int→(List Int)→Int→Int→(List Int)→(List Int)→(List Bool)→Option β)(kr:Bool→Option β)(s0:Int)(s1:(List Int))(s2:(List Int))(s3:(List Bool))(s4:Bool)(s5:Int)(s6:(List Int))(s7:Int)(s8:Int)(s9:(List Int))(s10:(List Int))(s11:(List Bool))(s12:Int):Option β:=bif(S.lt s12 8)then(bif(S.ir s12 s11.length)then(bif(List.getD s11 (Int.toNat s12) false)then(bif(S.ir s12 s10.length)then(spec_l21Top.G S s8 s9 s10 s11 (fun y1=>bif(!S.eq (List.getD s10 (Int.toNat s12) 0) y1)then(kr false)else(L s0 s1 s2 s3 s4 s5 s6 s7 s8 s9 s10 s11 (S.w (s12+1)))))else(none))else(L s0 s1 s2 s3 s4 s5 s6 s7 s8 s9 s10 s11 (S.w (s12+1))))else(none))else(kx s0 s1 s2 s3 s4 s5 s6 s7 s8 s9 s10 s11)
noncomputable def r7 {β:Type}(S:Sl)(n:Nat)(kx:x7.sig.den→Option β)(kr:y7.sig.den→Option β)(s:h7.sig.den):Option β:=rounds (fun L kx kr s=>b7 S (fun x0 x1 x2 x3 x4 x5 x6 x7 x8 x9 x10 x11 x12=>L (((x0,(x1,(x2,(x3,(x4,(x5,(x6,(x7,())))))))),((x8,()),(x9,(x10,(x11,()))))),(x12,()))) (fun x0 x1 x2 x3 x4 x5 x6 x7 x8 x9 x10 x11=>kx (((x0,(x1,(x2,(x3,(x4,(x5,(x6,(x7,())))))))),((x8,()),(x9,(x10,(x11,()))))),())) (fun x0=>kr ((),(x0,()))) s.1.1.1 s.1.1.2.1 s.1.1.2.2.1 s.1.1.2.2.2.1 s.1.1.2.2.2.2.1 s.1.1.2.2.2.2.2.1 s.1.1.2.2.2.2.2.2.1 s.1.1.2.2.2.2.2.2.2.1 s.1.2.1.1 s.1.2.2.1 s.1.2.2.2.1 s.1.2.2.2.2.1 s.2.1) kx kr n s
noncomputable def l7 {β:Type}(S:Sl)(n:Nat)(kx:Int→(List Int)→(List Int)→(List Bool)→Bool→Int→(List Int)→Int→Int→(List Int)→(List Int)→(List Bool)→Option β)(kr:Bool→Option β)(s0:Int)(s1:(List Int))(s2:(List Int))(s3:(List Bool))(s4:Bool)(s5:Int)(s6:(List Int))(s7:Int)(s8:Int)(s9:(List Int))(s10:(List Int))(s11:(List Bool))(s12:Int):Option β:=r7 S n (fun s=>kx s.1.1.1 s.1.1.2.1 s.1.1.2.2.1 s.1.1.2.2.2.1 s.1.1.2.2.2.2.1 s.1.1.2.2.2.2.2.1 s.1.1.2.2.2.2.2.2.1 s.1.1.2.2.2.2.2.2.2.1 s.1.2.1.1 s.1.2.2.1 s.1.2.2.2.1 s.1.2.2.2.2.1) (fun s=>kr s.2.1) (((s0,(s1,(s2,(s3,(s4,(s5,(s6,(s7,())))))))),((s8,()),(s9,(s10,(s11,()))))),(s12,()))
theorem t7 {β:Type}(S:Sl)(n:Nat)(kx:Int→(List Int)→(List Int)→(List Bool)→Bool→Int→(List Int)→Int→Int→(List Int)→(List Int)→(List Bool)→Option β)(kr:Bool→Option β)(s0:Int)(s1:(List Int))(s2:(List Int))(s3:(List Bool))(s4:Bool)(s5:Int)(s6:(List Int))(s7:Int)(s8:Int)(s9:(List Int))(s10:(List Int))(s11:(List Bool))(s12:Int):l7 S (n+1) kx kr s0 s1 s2 s3 s4 s5 s6 s7 s8 s9 s10 s11 s12=b7 S (l7 S n kx kr) kx kr s0 s1 s2 s3 s4 s5 s6 s7 s8 s9 s10 s11 s12:=by kernel_rfl
noncomputable def G {β:Type}(S:Sl)(a0:Int)(a1:(List Int))(a2:(List Int))(a3:(List Bool))(a4:Bool)(a5:Int)(a6:(List Int))(a7:Int)(K:Bool→Option β):Option β:=spec_l4Kind.G S a0 (fun y1=>bif(!y1)then(K false)else(spec_l4Vals.G S a1 a3 (fun y2=>bif(!y2)then(K false)else(bif(!S.eq (a2.length:Int) 8)then(K false)else(spec_l23Elder.G S a0 a1 a2 a3 a4 a5 a6 a7 (fun y3 y4 y5 y6=>spec_StripeOk.G S y6 y3 y4 y5 (fun y7=>bif(!y7)then(K false)else(l7 S S.n (fun y8 y9 y10 y11 y12 y13 y14 y15 y16 y17 y18 y19=>bif(!y12)then(spec_l21Read.G S y8 y9 y10 y11 (fun y20 y21 y22=>bif y22 then(bif(S.eq y13 0)then(bif(S.eq (y14.length:Int) 0)then(K (S.eq y15 0))else(K false))else(K false))else(K false)))else(spec_l4Kind.G S y13 (fun y23=>bif(!y23)then(K false)else(spec_VecOk.G S y14 (fun y24=>bif(!y24)then(K false)else(spec_l21Top.G S y16 y17 y18 y19 (fun y25=>spec_l6In.G S y15 (S.w (y25+1)) 99 (fun y26=>bif(!y26)then(K false)else(spec_l4All.G S y13 y14 (fun y27=>l18 S S.n (K true) (fun y28=>K y28) y8 y9 y10 y11 y12 y13 y14 y15 y27 0)))))))))) (fun y29=>K y29) a0 a1 a2 a3 a4 a5 a6 a7 y6 y3 y4 y5 0))))))))
noncomputable def o:Orac:=⟨39,sin,sout,fun s K=>G sl0 s.2.1.1 s.2.1.2.1 s.2.1.2.2.1 s.2.1.2.2.2.1 s.2.1.2.2.2.2.1 s.2.1.2.2.2.2.2.1 s.2.1.2.2.2.2.2.2.1 s.2.1.2.2.2.2.2.2.2.1 (fun x0=>K ((),(x0,())))⟩
noncomputable def C:Ctx:=⟨tyT,[spec_StripeOk.o,spec_VecOk.o,spec_l21Read.o,spec_l21Top.o,spec_l23Elder.o,spec_l4All.o,spec_l4Kind.o,spec_l4Vals.o,spec_l6In.o],[⟨7,0,h7,x7,y7,fun s kx kr=>r7 sl0 sl0.n kx kr s⟩,⟨18,2,h18,x18,y18,fun s kx kr=>r18 sl0 sl0.n kx kr s⟩],142,0⟩
theorem ctx:CtxOk Tryz.prog C:=⟨tyOk,all1 spec_StripeOk.ok (all1 spec_VecOk.ok (all1 spec_l21Read.ok (all1 spec_l21Top.ok (all1 spec_l23Elder.ok (all1 spec_l4All.ok (all1 spec_l4Kind.ok (all1 spec_l4Vals.ok (all1 spec_l6In.ok (all0)))))))))⟩
theorem e18 (β:Type)(L:h18.sig.den→Option β)(kx:x18.sig.den→Option β)(kr:y18.sig.den→Option β)(s:h18.sig.den):evalBody C (nthC (loopsOf (bodyC Tryz.f39)) 1) 2 h18 x18 y18 L kx kr s=b18 sl0 (fun x0 x1 x2 x3 x4 x5 x6 x7 x8 x9=>L (((x0,(x1,(x2,(x3,(x4,(x5,(x6,(x7,())))))))),(x8,())),(x9,()))) (kx ((),())) (fun x0=>kr ((),(x0,()))) s.1.1.1 s.1.1.2.1 s.1.1.2.2.1 s.1.1.2.2.2.1 s.1.1.2.2.2.2.1 s.1.1.2.2.2.2.2.1 s.1.1.2.2.2.2.2.2.1 s.1.1.2.2.2.2.2.2.2.1 s.1.2.1 s.2.1:=by kernel_rfl
theorem g18:LS Tryz.prog C ⟨18,2,h18,x18,y18,fun s kx kr=>r18 sl0 sl0.n kx kr s⟩ (loopsOf (bodyC Tryz.f39)):=LS.at (i:=1) (by kernel_rfl) (loop_good mixed ctx (ctx_nat ctx) (N:=sl0.n) (fun _ _ _ _=>rfl) e18 (all1 (LS.none (by kernel_rfl)) (all1 (LS.none (by kernel_rfl)) (all0))))
theorem e7 (β:Type)(L:h7.sig.den→Option β)(kx:x7.sig.den→Option β)(kr:y7.sig.den→Option β)(s:h7.sig.den):evalBody C (nthC (loopsOf (bodyC Tryz.f39)) 0) 0 h7 x7 y7 L kx kr s=b7 sl0 (fun x0 x1 x2 x3 x4 x5 x6 x7 x8 x9 x10 x11 x12=>L (((x0,(x1,(x2,(x3,(x4,(x5,(x6,(x7,())))))))),((x8,()),(x9,(x10,(x11,()))))),(x12,()))) (fun x0 x1 x2 x3 x4 x5 x6 x7 x8 x9 x10 x11=>kx (((x0,(x1,(x2,(x3,(x4,(x5,(x6,(x7,())))))))),((x8,()),(x9,(x10,(x11,()))))),())) (fun x0=>kr ((),(x0,()))) s.1.1.1 s.1.1.2.1 s.1.1.2.2.1 s.1.1.2.2.2.1 s.1.1.2.2.2.2.1 s.1.1.2.2.2.2.2.1 s.1.1.2.2.2.2.2.2.1 s.1.1.2.2.2.2.2.2.2.1 s.1.2.1.1 s.1.2.2.1 s.1.2.2.2.1 s.1.2.2.2.2.1 s.2.1:=by kernel_rfl
theorem g7:LS Tryz.prog C ⟨7,0,h7,x7,y7,fun s kx kr=>r7 sl0 sl0.n kx kr s⟩ (loopsOf (bodyC Tryz.f39)):=LS.at (i:=0) (by kernel_rfl) (loop_good mixed ctx (ctx_nat ctx) (N:=sl0.n) (fun _ _ _ _=>rfl) e7 (all1 (LS.none (by kernel_rfl)) (all1 (LS.none (by kernel_rfl)) (all0))))
theorem eG (β:Type)(s:sin.den)(K:sout.den→Option β):evalFn C Tryz.f39 sin sout s K=o.F s K:=by kernel_rfl
theorem ok:OracOk Tryz.prog o:=fn_ok mixed Tryz.func39 (by kernel_rfl) ctx (c:=bodyC Tryz.f39) (by kernel_rfl) (all1 g7 (all1 g18 (all0))) (by kernel_rfl) (by kernel_rfl) (by kernel_rfl) (Nat.le_of_ble_eq_true (by kernel_rfl)) eG (by kernel_rfl) (Nat.le_of_ble_eq_true (by kernel_rfl))
end spec_KeepOk
namespace impl_Keep_copied
def sin:Sig:=⟨[],[.agg [.val I false,.val (.sl I) false,.val (.sl I) false,.val (.sl .bool) false,.val .bool false,.val I false,.val (.sl I) false,.val I false]]⟩
def sout:Sig:=⟨[.buf I false,.buf I false,.buf .bool false,.buf I false],[.agg [.val I false,.ref (.own 0),.ref (.own 1),.ref (.own 2),.val .bool false,.val I false,.ref (.own 3),.val I false]]⟩
noncomputable def G {β:Type}(S:Sl)(a0:Int)(a1:(List Int))(a2:(List Int))(a3:(List Bool))(a4:Bool)(a5:Int)(a6:(List Int))(a7:Int)(K:(List Int)→(List Int)→(List Bool)→(List Int)→Int→Bool→Int→Int→Option β):Option β:=impl_Stripe_copied.G S a0 a1 a2 a3 (fun y1 y2 y3 y4=>slices_Clone_Sint_int.G S a6 (fun y5=>slices_Clip_Sint_int_.G S y5 (fun y6=>K y1 y2 y3 y6 y4 a4 a5 a7)))
noncomputable def o:Orac:=⟨117,sin,sout,fun s K=>G sl0 s.2.1.1 s.2.1.2.1 s.2.1.2.2.1 s.2.1.2.2.2.1 s.2.1.2.2.2.2.1 s.2.1.2.2.2.2.2.1 s.2.1.2.2.2.2.2.2.1 s.2.1.2.2.2.2.2.2.2.1 (fun x0 x1 x2 x3 x4 x5 x6 x7=>K ((x0,(x1,(x2,(x3,())))),((x4,(x5,(x6,(x7,())))),())))⟩
noncomputable def C:Ctx:=⟨tyT,[impl_Stripe_copied.o,slices_Clip_Sint_int_.o,slices_Clone_Sint_int.o],[],13,0⟩
theorem ctx:CtxOk Tryz.prog C:=⟨tyOk,all1 impl_Stripe_copied.ok (all1 slices_Clip_Sint_int_.ok (all1 slices_Clone_Sint_int.ok (all0)))⟩
theorem eG (β:Type)(s:sin.den)(K:sout.den→Option β):evalFn C Tryz.f117 sin sout s K=o.F s K:=by kernel_rfl
theorem ok:OracOk Tryz.prog o:=fn_ok mixed Tryz.func117 (by kernel_rfl) ctx (c:=bodyC Tryz.f117) (by kernel_rfl) (all0) (by kernel_rfl) (by kernel_rfl) (by kernel_rfl) (Nat.le_of_ble_eq_true (by kernel_rfl)) eG (by kernel_rfl) (Nat.le_of_ble_eq_true (by kernel_rfl))
end impl_Keep_copied
namespace spec_l23Copy
def sin:Sig:=⟨[],[.agg [.val I false,.val (.sl I) false,.val (.sl I) false,.val (.sl .bool) false,.val .bool false,.val I false,.val (.sl I) false,.val I false]]⟩
def sout:Sig:=⟨[.buf I false,.buf I false,.buf .bool false,.buf I false],[.agg [.val I false,.ref (.own 0),.ref (.own 1),.ref (.own 2),.val .bool false,.val I false,.ref (.own 3),.val I false]]⟩
noncomputable def G {β:Type}(S:Sl)(a0:Int)(a1:(List Int))(a2:(List Int))(a3:(List Bool))(a4:Bool)(a5:Int)(a6:(List Int))(a7:Int)(K:(List Int)→(List Int)→(List Bool)→(List Int)→Int→Bool→Int→Int→Option β):Option β:=spec_l21Copy.G S a0 a1 a2 a3 (fun y1 y2 y3 y4=>bif(S.fw ([]++a6).length)then(K y1 y2 y3 ([]++a6) y4 a4 a5 a7)else(none))
noncomputable def o:Orac:=⟨120,sin,sout,fun s K=>G sl0 s.2.1.1 s.2.1.2.1 s.2.1.2.2.1 s.2.1.2.2.2.1 s.2.1.2.2.2.2.1 s.2.1.2.2.2.2.2.1 s.2.1.2.2.2.2.2.2.1 s.2.1.2.2.2.2.2.2.2.1 (fun x0 x1 x2 x3 x4 x5 x6 x7=>K ((x0,(x1,(x2,(x3,())))),((x4,(x5,(x6,(x7,())))),())))⟩
noncomputable def C:Ctx:=⟨tyT,[spec_l21Copy.o],[],13,0⟩
theorem ctx:CtxOk Tryz.prog C:=⟨tyOk,all1 spec_l21Copy.ok (all0)⟩
theorem eG (β:Type)(s:sin.den)(K:sout.den→Option β):evalFn C Tryz.f120 sin sout s K=o.F s K:=by kernel_rfl
theorem ok:OracOk Tryz.prog o:=fn_ok mixed Tryz.func120 (by kernel_rfl) ctx (c:=bodyC Tryz.f120) (by kernel_rfl) (all0) (by kernel_rfl) (by kernel_rfl) (by kernel_rfl) (Nat.le_of_ble_eq_true (by kernel_rfl)) eG (by kernel_rfl) (Nat.le_of_ble_eq_true (by kernel_rfl))
end spec_l23Copy
theorem vec_l {b:List Int} (hb:Src b) (d:Nat):∀ (i n:Nat) (p:Int) (acc:List Int),i+d=4→acc.length=i→d<n→0≤p→p+4*d≤900000→
  ∃ (v:List Int) (q:Int),v.length=4∧p≤q∧q≤p+4*d∧∀ (β:Type) (kx:List Int→Int→List Int→Option β) (kr:Option β),spec_l91Vec.l3 sl1 n kx kr b p acc (i:Int)=kx b q v:=by
 induction d with
 | zero =>
  intro i n p acc hi ha hn hp hp2
  obtain⟨n,rfl⟩:∃ m,n=m+1:=⟨n-1,by omega⟩
  exact⟨acc,p,by omega,by omega,by omega,fun β kx kr=>by rw [spec_l91Vec.t3]; exact cF (ltF (by omega)) rfl⟩
 | succ d ih =>
  intro i n p acc hi ha hn hp hp2
  obtain⟨n,rfl⟩:∃ m,n=m+1:=⟨n-1,by omega⟩
  obtain⟨v1,_,_,e1⟩:=pick_S hb (p:=p) 4
  obtain⟨v2,_,_,e2⟩:=pick_S hb (p:=p+1) 31
  obtain⟨v3,_,_,e3⟩:=pick_S hb (p:=p+1+1) 31
  obtain⟨v4,f0,f1,e4⟩:=pick_S hb (p:=p+1+1+1) 4
  obtain⟨v,q,k1,k2,k3,k4⟩:=ih (i+1) n (p+1+1+1+1) (acc ++ [List.getD [0,v1,v2,v3] (Int.toNat v4) 0]) (by omega) (by rw [List.length_append,List.length_singleton]; omega) (by omega) (by omega) (by omega)
  refine⟨v,q,k1,by omega,by omega,fun β kx kr=>?_⟩
  rw [spec_l91Vec.t3]
  unfold spec_l91Vec.b3
  refine cT (ltT (by omega)) ((e1 _ _).trans ((e2 _ _).trans ((e3 _ _).trans ((e4 _ _).trans (cT (irT f0 f1) (cT (fwT (by rw [List.length_append,List.length_singleton]; omega)) ?_))))))
  rw [w_succ (by omega)]
  exact k4 β kx kr
theorem vec_S {b:List Int} (hb:Src b) {p:Int} (hp:0≤p) (hp2:p≤800000):∃ (v:List Int) (q:Int),v.length≤4∧p≤q∧q≤p+19∧∀ (β:Type) (K:List Int→Int→List Int→Option β),spec_l91Vec.G sl1 b p K=K b q v:=by
 obtain⟨v,q,k1,k2,k3,k4⟩:=vec_l hb 4 0 sl1.n p [] (by omega) rfl (by rw [rounds_n]; omega) hp (by omega)
 obtain⟨a,a0,a1,ea⟩:=pick_S hb (p:=q) 40
 by_cases h0:a=0
 ·refine ⟨cutL v 1 v.length, q + 1, ?_, by omega, by omega, fun β K => (k4 _ _ _).trans ((ea _ _).trans (cT (eqT h0) (cT (andT (andT (andT rfl (leT (by omega))) (leT (by omega))) (leT (by omega))) ?_)))⟩
  ·unfold cutL
   simp; omega
  ·rw [Int.toNat_natCast]; rfl
 by_cases h1:a=1
 ·obtain ⟨c, c0, c1, ec⟩ := pick_S hb (p := q + 1) (v.length : Int)
  obtain⟨e,e0,e1,ee⟩:=pick_S hb (p:=q+1+1) 2
  exact⟨v.set (Int.toNat c) (List.getD [(-1),31] (Int.toNat e) 0),q+1+1+1,by rw [List.length_set]; omega,by omega,by omega,fun β K=>(k4 _ _ _).trans ((ea _ _).trans (cF (eqF h0) (cT (eqT h1) ((ec _ _).trans ((ee _ _).trans (cT (irT e0 e1) (cT (irT c0 c1) rfl)))))))⟩
 ·exact⟨v,q+1,by omega,by omega,by omega,fun β K=>(k4 _ _ _).trans ((ea _ _).trans (cF (eqF h0) (cF (eqF h1) rfl)))⟩
end Go.Proofs.YtnbighmbgmjbkaaGreat.E
end
section
namespace Go.Proofs.YtnbighmbgmjbkaaGreat.E
open Go Go.RowKit Go.ChangeShapes Go.WideShapes
section
variable {H:Type} {enc:TypeId×Value→H} {P:Program} {w:World} {spare:Nat→Bool} {held:Bool}
abbrev V0 (w:World):View:=viewOf ⟨w,fun _=>True,0,fun _=>none⟩ w (fun _=>none) (fun _=>none)
theorem V0_m (w:World):∀ b c,cellsAt w b c→(V0 w).m b c:=mem_start (h:=fun _=>none) fun _=>rfl
def Rd (enc:TypeId×Value→H) (P:Program) (w:World) (spare:Nat→Bool) (held:Bool) (T:Ty) (Q:T.den→Prop) (t:TypeId):Prop:=
 P.cellsOf t=T.size∧∀ n cs x,DataW.trod enc P w 0 spare held n t cs=some x→∃ a:T.den,Has (V0 w).m T a cs∧Q a
theorem Rd_int {t:TypeId} {k:IntKind} (ht:P.underlying t=some (.int k)) (hc:P.cellsOf t=1):Rd enc P w spare held (.int k) (fun n=>(Lit.int k n).wf=true) t:=
 ⟨hc, fun n cs x h => by
  obtain⟨m,rfl,_,hw⟩:=DataW.trod_int ht h
  exact⟨m,rfl,hw⟩⟩
theorem Rd_bool {t:TypeId} (ht:P.underlying t=some .bool) (hc:P.cellsOf t=1):Rd enc P w spare held .bool (fun _=>True) t:=
 ⟨hc, fun n cs x h => by
  obtain⟨m,rfl,_⟩:=DataW.trod_bool ht h
  exact⟨m,rfl,trivial⟩⟩
theorem list_of {α:Type} {p:Nat→α→Prop}:∀ n,(∀ i,i<n→∃ x,p i x)→∃ xs:List α,xs.length=n∧∀ i x,xs[i]? = some x→p i x
 | 0, _ => ⟨[], rfl, fun i x h => by simp at h⟩
 | n + 1, h => by
  obtain⟨xs,hl,hx⟩:=list_of n (fun i hi=>h i (by omega))
  obtain⟨y,hy⟩:=h n (by omega)
  refine⟨xs ++ [y],by rw [List.length_append,hl]; rfl,fun i x hi=>?_⟩
  by_cases c:i<n
  ·rw [List.getElem?_append_left (by omega)] at hi
   exact hx i x hi
  ·have hlt := (List.getElem?_eq_some_iff.1 hi).1
   rw [List.length_append,hl,List.length_singleton] at hlt
   have e:i=n:=by omega
   subst e
   rw [List.getElem?_append_right (by omega),hl,Nat.sub_self] at hi
   simp at hi
   exact hi ▸ hy
theorem block_take {c:Array Value} {o n:Nat} {cs:List Value} (hl:cs.length=n) (h:∀ j,j<n→c[o+j]? = cs[j]?):(c.toList.drop o).take n=cs:=by
 refine List.ext_getElem? fun j=>?_
 by_cases hj:j<n
 ·rw [List.getElem?_take_of_lt hj,List.getElem?_drop,Array.getElem?_toList,h j hj]
 ·rw [List.getElem?_eq_none (by rw [List.length_take]; omega),List.getElem?_eq_none (by omega)]
theorem Rd_slice {t e:TypeId} {T:Ty} {Q:T.den→Prop} (ht:P.underlying t=some (.slice e)) (hc:P.cellsOf t=1) (hz:0<T.size) (h:Rd enc P w spare held T Q e):Rd enc P w spare held (.sl T) (fun xs:List T.den=>List.length xs≤maxLen∧∀ x∈xs,Q x) t:=
 ⟨hc, fun n cs x hx => by
  rcases Deep.open_slice ht hx with ⟨rfl,_⟩ | ⟨a,len,cap,m,n',D,Pl,rfl,_,hl,hm,hmm,_,hel⟩
  ·exact⟨[],⟨none,0,rfl,Nat.le_refl _,.inl rfl⟩,by simp,fun x hx=>by simp at hx⟩
  ·have hml : len ≤ m := by rw [hmm]; split <;> omega
   obtain⟨xs,hxl,hxs⟩:=list_of (p:=fun i (y:T.den)=>∃ cs',Has (V0 w).m T y cs'∧Q y∧cs'.length=T.size∧∀ j,j<T.size→w.cell? (a.add (i*T.size+j))=cs'[j]?) len (fun i hi=>by
    obtain⟨cs',h1,h2⟩:=hel i (by omega)
    obtain⟨y,hy,hq⟩:=h.2 _ _ _ h2
    obtain⟨_,h4,h5⟩:=World.cells?_some h1
    refine⟨y,cs',hy,hq,by rw [h4,h.1],fun j hj=>?_⟩
    have:=h5 j (by rw [h.1]; exact hj)
    rw [Deep.add_add,h.1] at this
    exact this)
   refine⟨xs,⟨some a,cap,?_,?_,?_⟩,by omega,fun x hx=>?_⟩
   ·show _ = [Value.slice (some a) xs.length cap]
    rw [hxl]
   ·show xs.length ≤ cap
    omega
   ·rcases Nat.eq_zero_or_pos len with h0 | h0
    ·left; show xs.length=0; omega
    ·right
     have x0:xs[0]? = some xs[0]:=List.getElem?_eq_getElem (by omega)
     obtain⟨cs',_,_,k3,k4⟩:=hxs 0 _ x0
     have k5:=k4 0 hz
     rw [Nat.zero_mul,Nat.zero_add,List.getElem?_eq_getElem (by omega)] at k5
     have ha0:a.add 0=a:=by simp [Addr.add]
     obtain⟨c,e',fz,hcb,hsp,_⟩:=cell_block k5
     rw [ha0] at hcb hsp
     refine⟨a.block,a.off,c,by rw [←hsp],V0_m w _ _ ⟨e',fz,hcb⟩,fun i y hy=>?_⟩
     obtain⟨cs',q1,_,q3,q4⟩:=hxs i y hy
     rw [block_take (cs:=cs') q3 fun j hj=>?_]
     ·exact q1
     ·have q5 := q4 j hj
      rw [List.getElem?_eq_getElem (by omega)] at q5 ⊢
      obtain⟨c2,e2,fz2,hc2,_,hv⟩:=cell_block q5
      have hb:(a.add (i*T.size+j)).block=a.block∧(a.add (i*T.size+j)).off=a.off+(i*T.size+j):=by unfold Addr.add; split <;> simp_all
      rw [hb.1,hcb] at hc2
      obtain⟨rfl,_,_⟩:=by simpa using hc2
      rw [hb.2,←Nat.add_assoc] at hv
      exact hv
   ·obtain ⟨i, hi⟩ := List.getElem?_of_mem hx
    obtain⟨_,_,hq,_⟩:=hxs i x hi
    exact hq⟩
def RdF (enc:TypeId×Value→H) (P:Program) (w:World) (spare:Nat→Bool) (held:Bool) (T:Ty) (Q:T.den→Prop) (fs:List Field) (off:Nat):Prop:=
 ∀ cs:List Value,cs.length=off+T.size→(∀ (i:Nat) (f:Field),fs[i]? = some f→∃ (n:Nat) (y:DataW H×List MemPlace),DataW.trod enc P w 0 spare held n f.type ((cs.drop f.offset).take (P.cellsOf f.type))=some y)→∃ a:T.den,Has (V0 w).m T a (cs.drop off)∧Q a
theorem RdF_nil {off:Nat}:RdF enc P w spare held .unit (fun _=>True) [] off:=fun cs hl _=>⟨(),List.drop_of_length_le (by rw [hl]; exact Nat.le_refl _),trivial⟩
theorem RdF_cons {A B:Ty} {Q:A.den→Prop} {Q':B.den→Prop} {f:Field} {fs:List Field} {off:Nat} (ho:f.offset=off) (h:Rd enc P w spare held A Q f.type) (h':RdF enc P w spare held B Q' fs (off+A.size)):
  RdF enc P w spare held (.pair A B) (fun x:A.den×B.den=>Q x.1∧Q' x.2) (f::fs) off:=fun cs hl hf=>by
 have hs:(Ty.pair A B).size=A.size+B.size:=rfl
 obtain⟨n,y,hy⟩:=hf 0 f rfl
 rw [ho,h.1] at hy
 obtain⟨a,ha,hq⟩:=h.2 _ _ _ hy
 obtain⟨b,hb,hq'⟩:=h' cs (by omega) (fun i g hg=>hf (i+1) g hg)
 exact⟨(a,b),⟨_,_,by rw [←List.drop_drop,List.take_append_drop],ha,hb⟩,hq,hq'⟩
theorem fields {t:TypeId} {fs:Array Field} {n:Nat} {cs:List Value} {x:DataW H×List MemPlace} (ht:P.underlying t=some (.struct fs)) (hx:DataW.trod enc P w 0 spare held n t cs=some x):
  cs.length=P.cellsOf t∧∀ (i:Nat) (f:Field),fs.toList[i]? = some f→∃ (n:Nat) (y:DataW H×List MemPlace),DataW.trod enc P w 0 spare held n f.type ((cs.drop f.offset).take (P.cellsOf f.type))=some y:=by
 obtain⟨xs,n',_,_,hl,hlen,hf⟩:=DataW.trod_struct ht hx
 refine⟨hl,fun i f hi=>?_⟩
 rw [Array.getElem?_toList] at hi
 have h1:=hf i f hi
 have hlt:i<xs.length:=by rw [hlen]; exact(Array.getElem?_eq_some_iff.1 hi).1
 rw [List.getElem?_eq_getElem hlt] at h1
 exact⟨_,_,h1⟩
theorem Rd_struct {t:TypeId} {T:Ty} {Q:T.den→Prop} {fs:Array Field} (ht:P.underlying t=some (.struct fs)) (hc:P.cellsOf t=T.size) (h:RdF enc P w spare held T Q fs.toList 0):Rd enc P w spare held T Q t:=
 ⟨hc, fun n cs x hx => by
  obtain⟨hl,hf⟩:=fields ht hx
  exact h cs (by rw [hl,hc]; omega) hf⟩
def RdG (enc:TypeId×Value→H) (P:Program) (w:World) (spare:Nat→Bool) (held:Bool) (as_:List AS) (Q:denA as_→Prop) (fs:List Field) (off n:Nat):Prop:=
 ∀ cs:List Value,cs.length=n→(∀ (i:Nat) (f:Field),fs[i]? = some f→∃ (n:Nat) (y:DataW H×List MemPlace),DataW.trod enc P w 0 spare held n f.type ((cs.drop f.offset).take (P.cellsOf f.type))=some y)→∃ a:denA as_,AtomsR (V0 w) (mkA id as_ a) (cs.drop off)∧Q a
theorem RdG_nil {off n:Nat} (h:n≤off):RdG enc P w spare held [] (fun _=>True) [] off n:=fun cs hl _=>⟨(),List.drop_of_length_le (by omega),trivial⟩
theorem RdG_cons {A:Ty} {as_:List AS} {Q:A.den→Prop} {Q':denA as_→Prop} {f:Field} {fs:List Field} {off n:Nat} (ho:f.offset=off) (h:Rd enc P w spare held A Q f.type) (h':RdG enc P w spare held as_ Q' fs (off+A.size) n):
  RdG enc P w spare held (.val A false::as_) (fun x:A.den×denA as_=>Q x.1∧Q' x.2) (f::fs) off n:=fun cs hl hf=>by
 obtain⟨n',y,hy⟩:=hf 0 f rfl
 rw [ho,h.1] at hy
 obtain⟨a,ha,hq⟩:=h.2 _ _ _ hy
 obtain⟨b,hb,hq'⟩:=h' cs hl (fun i g hg=>hf (i+1) g hg)
 refine⟨(a,b),?_,hq,hq'⟩
 have:=AtomsR.append (atomsOf_R (V0 w) false A a _ ha) hb
 rw [←List.drop_drop,List.take_append_drop] at this
 exact this
theorem arg_struct {r:Reach} {b0:Nat} {t:TypeId} {as_:List AS} {Q:denA as_→Prop} {fs:Array Field} {v:Value} {D:DataW H} {p:List MemPlace} (ht:P.underlying t=some (.struct fs)) (hv:Value.okWide P w r b0 t v) (h:DataW.Trod enc P w 0 spare held t v D p) (R:RdG enc P w spare held as_ Q fs.toList 0 (P.cellsOf t)):
  ∃ x:denA as_,V1R (V0 w) (.agg (mkA id as_ x)) v∧Q x:=by
 obtain⟨cs,rfl,_⟩:=okWide_struct ht hv
 obtain⟨fuel,hf⟩:=h
 obtain⟨hl,hf⟩:=fields ht hf
 obtain⟨x,h1,h2⟩:=R _ hl hf
 exact⟨x,⟨cs.toList,rfl,h1⟩,h2⟩
theorem arg_slice {r:Reach} {b0:Nat} {t e:TypeId} {T:Ty} {Q:List T.den→Prop} {v:Value} {D:DataW H} {p:List MemPlace} (ht:P.underlying t=some (.slice e)) (hv:Value.okWide P w r b0 t v) (h:DataW.Trod enc P w 0 spare held t v D p) (R:Rd enc P w spare held (.sl T) Q t):
  ∃ xs:List T.den,V1R (V0 w) (.one (.ro T false xs)) v∧Q xs:=by
 obtain⟨a,len,cap,rfl⟩:=okWide_slice ht hv
 obtain⟨fuel,hf⟩:=h
 obtain⟨xs,h1,h2⟩:=R.2 _ _ _ hf
 exact⟨xs,⟨rfl,h1,trivial⟩,h2⟩
theorem arg_int {r:Reach} {b0:Nat} {t:TypeId} {k:IntKind} {v:Value} {D:DataW H} {p:List MemPlace} (ht:P.underlying t=some (.int k)) (hv:Value.okWide P w r b0 t v) (h:DataW.Trod enc P w 0 spare held t v D p):
  ∃ n:Int,V1R (V0 w) (.one (.int k n)) v∧(Lit.int k n).wf=true:=by
 obtain⟨n,rfl⟩:=okWide_int ht hv
 obtain⟨fuel,hf⟩:=h
 obtain⟨m,e,_,hw⟩:=DataW.trod_int ht hf
 simp only [Value.cells,List.cons.injEq,and_true,Value.int.injEq,true_and] at e
 subst e
 exact⟨n,⟨rfl,rfl,trivial⟩,hw⟩
theorem law_any {f:Nat} {vals:List VS} {F:{β:Type}→(Sig.mk [] vals).den→((Sig.mk [] [.one (.val .bool false)]).den→Option β)→Option β} (hO:OracOk P ⟨f,⟨[],vals⟩,⟨[],[.one (.val .bool false)]⟩,F⟩) {s:denV vals}
  (h:F ((),s) some=some ((),(true,()))) {args:List Value} (hv:V1sR (V0 w) (mkV id vals s) args):Calls P f args.toArray w fun e w'=>e = .returned (.bool true)∧Below w.heap.size w w':=by
 refine law_of hO rfl h ?_ (fun V v=>res_bool V v)
 have hh:hOf (Sig.mk [] vals) ((),s)=fun _=>none:=funext fun j=>by rw [hOf_eq]; rfl
 rw [hh]
 exact hv
end
end Go.Proofs.YtnbighmbgmjbkaaGreat.E
end
section
namespace Go.Proofs.YtnbighmbgmjbkaaGreat.E
open Go Go.RowKit
set_option maxRecDepth 100000
namespace laws_eqBoolS
def sin:Sig:=⟨[],[.one (.val (.sl .bool) false),.one (.val (.sl .bool) false)]⟩
def sout:Sig:=⟨[],[.one (.val .bool false)]⟩
def h4:SS:=⟨[0,1,5],⟨[],[.one (.val (.sl .bool) false),.one (.val (.sl .bool) false),.one (.val I false)]⟩⟩
def x4:SS:=⟨[],⟨[],[]⟩⟩
def y4:SS:=⟨[4],⟨[],[.one (.val .bool false)]⟩⟩
noncomputable def b4 {β:Type}(S:Sl)(L:(List Bool)→(List Bool)→Int→Option β)(kx:Option β)(kr:Bool→Option β)(s0:(List Bool))(s1:(List Bool))(s2:Int):Option β:=bif(S.lt s2 (s0.length:Int))then(bif(S.ir s2 s0.length)then(bif(S.ir s2 s1.length)then(bif((List.getD s0 (Int.toNat s2) false) != (List.getD s1 (Int.toNat s2) false))then(kr false)else(L s0 s1 (S.w (s2+1))))else(none))else(none))else(kx)
noncomputable def r4 {β:Type}(S:Sl)(n:Nat)(kx:x4.sig.den→Option β)(kr:y4.sig.den→Option β)(s:h4.sig.den):Option β:=rounds (fun L kx kr s=>b4 S (fun x0 x1 x2=>L ((),(x0,(x1,(x2,()))))) (kx ((),())) (fun x0=>kr ((),(x0,()))) s.2.1 s.2.2.1 s.2.2.2.1) kx kr n s
noncomputable def l4 {β:Type}(S:Sl)(n:Nat)(kx:Option β)(kr:Bool→Option β)(s0:(List Bool))(s1:(List Bool))(s2:Int):Option β:=r4 S n (fun s=>kx) (fun s=>kr s.2.1) ((),(s0,(s1,(s2,()))))
theorem t4 {β:Type}(S:Sl)(n:Nat)(kx:Option β)(kr:Bool→Option β)(s0:(List Bool))(s1:(List Bool))(s2:Int):l4 S (n+1) kx kr s0 s1 s2=b4 S (l4 S n kx kr) kx kr s0 s1 s2:=by kernel_rfl
noncomputable def G {β:Type}(S:Sl)(a0:(List Bool))(a1:(List Bool))(K:Bool→Option β):Option β:=bif(!S.eq (a0.length:Int) (a1.length:Int))then(K false)else(l4 S S.n (K true) (fun y1=>K y1) a0 a1 0)
noncomputable def o:Orac:=⟨154,sin,sout,fun s K=>G sl0 s.2.1 s.2.2.1 (fun x0=>K ((),(x0,())))⟩
noncomputable def C:Ctx:=⟨tyT,[],[⟨4,0,h4,x4,y4,fun s kx kr=>r4 sl0 sl0.n kx kr s⟩],26,0⟩
theorem ctx:CtxOk Tryz.prog C:=⟨tyOk,all0⟩
theorem e4 (β:Type)(L:h4.sig.den→Option β)(kx:x4.sig.den→Option β)(kr:y4.sig.den→Option β)(s:h4.sig.den):evalBody C (nthC (loopsOf (bodyC Tryz.f154)) 0) 0 h4 x4 y4 L kx kr s=b4 sl0 (fun x0 x1 x2=>L ((),(x0,(x1,(x2,()))))) (kx ((),())) (fun x0=>kr ((),(x0,()))) s.2.1 s.2.2.1 s.2.2.2.1:=by kernel_rfl
theorem g4:LS Tryz.prog C ⟨4,0,h4,x4,y4,fun s kx kr=>r4 sl0 sl0.n kx kr s⟩ (loopsOf (bodyC Tryz.f154)):=LS.at (i:=0) (by kernel_rfl) (loop_good mixed ctx (ctx_nat ctx) (N:=sl0.n) (fun _ _ _ _=>rfl) e4 (all1 (LS.none (by kernel_rfl)) (all0)))
theorem eG (β:Type)(s:sin.den)(K:sout.den→Option β):evalFn C Tryz.f154 sin sout s K=o.F s K:=by kernel_rfl
theorem ok:OracOk Tryz.prog o:=fn_ok mixed Tryz.func154 (by kernel_rfl) ctx (c:=bodyC Tryz.f154) (by kernel_rfl) (all1 g4 (all0)) (by kernel_rfl) (by kernel_rfl) (by kernel_rfl) (Nat.le_of_ble_eq_true (by kernel_rfl)) eG (by kernel_rfl) (Nat.le_of_ble_eq_true (by kernel_rfl))
end laws_eqBoolS
namespace laws_eqIntS
def sin:Sig:=⟨[],[.one (.val (.sl I) false),.one (.val (.sl I) false)]⟩
def sout:Sig:=⟨[],[.one (.val .bool false)]⟩
def h4:SS:=⟨[0,1,5],⟨[],[.one (.val (.sl I) false),.one (.val (.sl I) false),.one (.val I false)]⟩⟩
def x4:SS:=⟨[],⟨[],[]⟩⟩
def y4:SS:=⟨[4],⟨[],[.one (.val .bool false)]⟩⟩
noncomputable def b4 {β:Type}(S:Sl)(L:(List Int)→(List Int)→Int→Option β)(kx:Option β)(kr:Bool→Option β)(s0:(List Int))(s1:(List Int))(s2:Int):Option β:=bif(S.lt s2 (s0.length:Int))then(bif(S.ir s2 s0.length)then(bif(S.ir s2 s1.length)then(bif(!S.eq (List.getD s0 (Int.toNat s2) 0) (List.getD s1 (Int.toNat s2) 0))then(kr false)else(L s0 s1 (S.w (s2+1))))else(none))else(none))else(kx)
noncomputable def r4 {β:Type}(S:Sl)(n:Nat)(kx:x4.sig.den→Option β)(kr:y4.sig.den→Option β)(s:h4.sig.den):Option β:=rounds (fun L kx kr s=>b4 S (fun x0 x1 x2=>L ((),(x0,(x1,(x2,()))))) (kx ((),())) (fun x0=>kr ((),(x0,()))) s.2.1 s.2.2.1 s.2.2.2.1) kx kr n s
noncomputable def l4 {β:Type}(S:Sl)(n:Nat)(kx:Option β)(kr:Bool→Option β)(s0:(List Int))(s1:(List Int))(s2:Int):Option β:=r4 S n (fun s=>kx) (fun s=>kr s.2.1) ((),(s0,(s1,(s2,()))))
theorem t4 {β:Type}(S:Sl)(n:Nat)(kx:Option β)(kr:Bool→Option β)(s0:(List Int))(s1:(List Int))(s2:Int):l4 S (n+1) kx kr s0 s1 s2=b4 S (l4 S n kx kr) kx kr s0 s1 s2:=by kernel_rfl
noncomputable def G {β:Type}(S:Sl)(a0:(List Int))(a1:(List Int))(K:Bool→Option β):Option β:=bif(!S.eq (a0.length:Int) (a1.length:Int))then(K false)else(l4 S S.n (K true) (fun y1=>K y1) a0 a1 0)
noncomputable def o:Orac:=⟨153,sin,sout,fun s K=>G sl0 s.2.1 s.2.2.1 (fun x0=>K ((),(x0,())))⟩
noncomputable def C:Ctx:=⟨tyT,[],[⟨4,0,h4,x4,y4,fun s kx kr=>r4 sl0 sl0.n kx kr s⟩],26,0⟩
theorem ctx:CtxOk Tryz.prog C:=⟨tyOk,all0⟩
theorem e4 (β:Type)(L:h4.sig.den→Option β)(kx:x4.sig.den→Option β)(kr:y4.sig.den→Option β)(s:h4.sig.den):evalBody C (nthC (loopsOf (bodyC Tryz.f153)) 0) 0 h4 x4 y4 L kx kr s=b4 sl0 (fun x0 x1 x2=>L ((),(x0,(x1,(x2,()))))) (kx ((),())) (fun x0=>kr ((),(x0,()))) s.2.1 s.2.2.1 s.2.2.2.1:=by kernel_rfl
theorem g4:LS Tryz.prog C ⟨4,0,h4,x4,y4,fun s kx kr=>r4 sl0 sl0.n kx kr s⟩ (loopsOf (bodyC Tryz.f153)):=LS.at (i:=0) (by kernel_rfl) (loop_good mixed ctx (ctx_nat ctx) (N:=sl0.n) (fun _ _ _ _=>rfl) e4 (all1 (LS.none (by kernel_rfl)) (all0)))
theorem eG (β:Type)(s:sin.den)(K:sout.den→Option β):evalFn C Tryz.f153 sin sout s K=o.F s K:=by kernel_rfl
theorem ok:OracOk Tryz.prog o:=fn_ok mixed Tryz.func153 (by kernel_rfl) ctx (c:=bodyC Tryz.f153) (by kernel_rfl) (all1 g4 (all0)) (by kernel_rfl) (by kernel_rfl) (by kernel_rfl) (Nat.le_of_ble_eq_true (by kernel_rfl)) eG (by kernel_rfl) (Nat.le_of_ble_eq_true (by kernel_rfl))
end laws_eqIntS
namespace laws_eqStripe
def sin:Sig:=⟨[],[.agg [.val I false,.val (.sl I) false,.val (.sl I) false,.val (.sl .bool) false],.agg [.val I false,.val (.sl I) false,.val (.sl I) false,.val (.sl .bool) false]]⟩
def sout:Sig:=⟨[],[.one (.val .bool false)]⟩
noncomputable def G {β:Type}(S:Sl)(a0:Int)(a1:(List Int))(a2:(List Int))(a3:(List Bool))(a4:Int)(a5:(List Int))(a6:(List Int))(a7:(List Bool))(K:Bool→Option β):Option β:=bif(!S.eq a0 a4)then(K false)else(laws_eqIntS.G S a1 a5 (fun y1=>bif(!y1)then(K false)else(laws_eqIntS.G S a2 a6 (fun y2=>bif(!y2)then(K false)else(laws_eqBoolS.G S a3 a7 (fun y3=>bif(!y3)then(K false)else(K true)))))))
noncomputable def o:Orac:=⟨68,sin,sout,fun s K=>G sl0 s.2.1.1 s.2.1.2.1 s.2.1.2.2.1 s.2.1.2.2.2.1 s.2.2.1.1 s.2.2.1.2.1 s.2.2.1.2.2.1 s.2.2.1.2.2.2.1 (fun x0=>K ((),(x0,())))⟩
noncomputable def C:Ctx:=⟨tyT,[laws_eqBoolS.o,laws_eqIntS.o],[],28,0⟩
theorem ctx:CtxOk Tryz.prog C:=⟨tyOk,all1 laws_eqBoolS.ok (all1 laws_eqIntS.ok (all0))⟩
theorem eG (β:Type)(s:sin.den)(K:sout.den→Option β):evalFn C Tryz.f68 sin sout s K=o.F s K:=by kernel_rfl
theorem ok:OracOk Tryz.prog o:=fn_ok mixed Tryz.func68 (by kernel_rfl) ctx (c:=bodyC Tryz.f68) (by kernel_rfl) (all0) (by kernel_rfl) (by kernel_rfl) (by kernel_rfl) (Nat.le_of_ble_eq_true (by kernel_rfl)) eG (by kernel_rfl) (Nat.le_of_ble_eq_true (by kernel_rfl))
end laws_eqStripe
namespace laws_heldBoolS
def sin:Sig:=⟨[],[.one (.val (.sl .bool) false),.one (.val I false)]⟩
def sout:Sig:=⟨[],[.one (.val I false)]⟩
def h2:SS:=⟨[0,1,5],⟨[],[.one (.val (.sl .bool) false),.one (.val I false),.one (.val I false)]⟩⟩
def x2:SS:=⟨[1],⟨[],[.one (.val I false)]⟩⟩
def y2:SS:=⟨[4],⟨[],[.one (.val I false)]⟩⟩
noncomputable def b2 {β:Type}(S:Sl)(L:(List Bool)→Int→Int→Option β)(kx:Int→Option β)(kr:Int→Option β)(s0:(List Bool))(s1:Int)(s2:Int):Option β:=bif(S.lt s2 (s0.length:Int))then(bif(S.ir s2 s0.length)then(bif((List.getD s0 (Int.toNat s2) false) != (S.eq (Int.tmod s1 3) 0))then(kr (-1))else(L s0 (S.w (s1+1)) (S.w (s2+1))))else(none))else(kx s1)
noncomputable def r2 {β:Type}(S:Sl)(n:Nat)(kx:x2.sig.den→Option β)(kr:y2.sig.den→Option β)(s:h2.sig.den):Option β:=rounds (fun L kx kr s=>b2 S (fun x0 x1 x2=>L ((),(x0,(x1,(x2,()))))) (fun x0=>kx ((),(x0,()))) (fun x0=>kr ((),(x0,()))) s.2.1 s.2.2.1 s.2.2.2.1) kx kr n s
noncomputable def l2 {β:Type}(S:Sl)(n:Nat)(kx:Int→Option β)(kr:Int→Option β)(s0:(List Bool))(s1:Int)(s2:Int):Option β:=r2 S n (fun s=>kx s.2.1) (fun s=>kr s.2.1) ((),(s0,(s1,(s2,()))))
theorem t2 {β:Type}(S:Sl)(n:Nat)(kx:Int→Option β)(kr:Int→Option β)(s0:(List Bool))(s1:Int)(s2:Int):l2 S (n+1) kx kr s0 s1 s2=b2 S (l2 S n kx kr) kx kr s0 s1 s2:=by kernel_rfl
noncomputable def G {β:Type}(S:Sl)(a0:(List Bool))(a1:Int)(K:Int→Option β):Option β:=l2 S S.n (fun y1=>K y1) (fun y2=>K y2) a0 a1 0
noncomputable def o:Orac:=⟨158,sin,sout,fun s K=>G sl0 s.2.1 s.2.2.1 (fun x0=>K ((),(x0,())))⟩
noncomputable def C:Ctx:=⟨tyT,[],[⟨2,0,h2,x2,y2,fun s kx kr=>r2 sl0 sl0.n kx kr s⟩],23,0⟩
theorem ctx:CtxOk Tryz.prog C:=⟨tyOk,all0⟩
theorem e2 (β:Type)(L:h2.sig.den→Option β)(kx:x2.sig.den→Option β)(kr:y2.sig.den→Option β)(s:h2.sig.den):evalBody C (nthC (loopsOf (bodyC Tryz.f158)) 0) 0 h2 x2 y2 L kx kr s=b2 sl0 (fun x0 x1 x2=>L ((),(x0,(x1,(x2,()))))) (fun x0=>kx ((),(x0,()))) (fun x0=>kr ((),(x0,()))) s.2.1 s.2.2.1 s.2.2.2.1:=by kernel_rfl
theorem g2:LS Tryz.prog C ⟨2,0,h2,x2,y2,fun s kx kr=>r2 sl0 sl0.n kx kr s⟩ (loopsOf (bodyC Tryz.f158)):=LS.at (i:=0) (by kernel_rfl) (loop_good mixed ctx (ctx_nat ctx) (N:=sl0.n) (fun _ _ _ _=>rfl) e2 (all1 (LS.none (by kernel_rfl)) (all0)))
theorem eG (β:Type)(s:sin.den)(K:sout.den→Option β):evalFn C Tryz.f158 sin sout s K=o.F s K:=by kernel_rfl
theorem ok:OracOk Tryz.prog o:=fn_ok mixed Tryz.func158 (by kernel_rfl) ctx (c:=bodyC Tryz.f158) (by kernel_rfl) (all1 g2 (all0)) (by kernel_rfl) (by kernel_rfl) (by kernel_rfl) (Nat.le_of_ble_eq_true (by kernel_rfl)) eG (by kernel_rfl) (Nat.le_of_ble_eq_true (by kernel_rfl))
end laws_heldBoolS
namespace laws_heldIntS
def sin:Sig:=⟨[],[.one (.val (.sl I) false),.one (.val I false)]⟩
def sout:Sig:=⟨[],[.one (.val I false)]⟩
def h2:SS:=⟨[0,1,5],⟨[],[.one (.val (.sl I) false),.one (.val I false),.one (.val I false)]⟩⟩
def x2:SS:=⟨[1],⟨[],[.one (.val I false)]⟩⟩
def y2:SS:=⟨[4],⟨[],[.one (.val I false)]⟩⟩
noncomputable def b2 {β:Type}(S:Sl)(L:(List Int)→Int→Int→Option β)(kx:Int→Option β)(kr:Int→Option β)(s0:(List Int))(s1:Int)(s2:Int):Option β:=bif(S.lt s2 (s0.length:Int))then(bif(S.ir s2 s0.length)then(bif(!S.eq (List.getD s0 (Int.toNat s2) 0) s1)then(kr (-1))else(L s0 (S.w (s1+1)) (S.w (s2+1))))else(none))else(kx s1)
noncomputable def r2 {β:Type}(S:Sl)(n:Nat)(kx:x2.sig.den→Option β)(kr:y2.sig.den→Option β)(s:h2.sig.den):Option β:=rounds (fun L kx kr s=>b2 S (fun x0 x1 x2=>L ((),(x0,(x1,(x2,()))))) (fun x0=>kx ((),(x0,()))) (fun x0=>kr ((),(x0,()))) s.2.1 s.2.2.1 s.2.2.2.1) kx kr n s
noncomputable def l2 {β:Type}(S:Sl)(n:Nat)(kx:Int→Option β)(kr:Int→Option β)(s0:(List Int))(s1:Int)(s2:Int):Option β:=r2 S n (fun s=>kx s.2.1) (fun s=>kr s.2.1) ((),(s0,(s1,(s2,()))))
theorem t2 {β:Type}(S:Sl)(n:Nat)(kx:Int→Option β)(kr:Int→Option β)(s0:(List Int))(s1:Int)(s2:Int):l2 S (n+1) kx kr s0 s1 s2=b2 S (l2 S n kx kr) kx kr s0 s1 s2:=by kernel_rfl
noncomputable def G {β:Type}(S:Sl)(a0:(List Int))(a1:Int)(K:Int→Option β):Option β:=l2 S S.n (fun y1=>K y1) (fun y2=>K y2) a0 a1 0
noncomputable def o:Orac:=⟨157,sin,sout,fun s K=>G sl0 s.2.1 s.2.2.1 (fun x0=>K ((),(x0,())))⟩
noncomputable def C:Ctx:=⟨tyT,[],[⟨2,0,h2,x2,y2,fun s kx kr=>r2 sl0 sl0.n kx kr s⟩],21,0⟩
theorem ctx:CtxOk Tryz.prog C:=⟨tyOk,all0⟩
theorem e2 (β:Type)(L:h2.sig.den→Option β)(kx:x2.sig.den→Option β)(kr:y2.sig.den→Option β)(s:h2.sig.den):evalBody C (nthC (loopsOf (bodyC Tryz.f157)) 0) 0 h2 x2 y2 L kx kr s=b2 sl0 (fun x0 x1 x2=>L ((),(x0,(x1,(x2,()))))) (fun x0=>kx ((),(x0,()))) (fun x0=>kr ((),(x0,()))) s.2.1 s.2.2.1 s.2.2.2.1:=by kernel_rfl
theorem g2:LS Tryz.prog C ⟨2,0,h2,x2,y2,fun s kx kr=>r2 sl0 sl0.n kx kr s⟩ (loopsOf (bodyC Tryz.f157)):=LS.at (i:=0) (by kernel_rfl) (loop_good mixed ctx (ctx_nat ctx) (N:=sl0.n) (fun _ _ _ _=>rfl) e2 (all1 (LS.none (by kernel_rfl)) (all0)))
theorem eG (β:Type)(s:sin.den)(K:sout.den→Option β):evalFn C Tryz.f157 sin sout s K=o.F s K:=by kernel_rfl
theorem ok:OracOk Tryz.prog o:=fn_ok mixed Tryz.func157 (by kernel_rfl) ctx (c:=bodyC Tryz.f157) (by kernel_rfl) (all1 g2 (all0)) (by kernel_rfl) (by kernel_rfl) (by kernel_rfl) (Nat.le_of_ble_eq_true (by kernel_rfl)) eG (by kernel_rfl) (Nat.le_of_ble_eq_true (by kernel_rfl))
end laws_heldIntS
namespace laws_heldStripe
def sin:Sig:=⟨[],[.agg [.val I false,.val (.sl I) false,.val (.sl I) false,.val (.sl .bool) false],.one (.val I false)]⟩
def sout:Sig:=⟨[],[.one (.val I false)]⟩
noncomputable def G {β:Type}(S:Sl)(a0:Int)(a1:(List Int))(a2:(List Int))(a3:(List Bool))(a4:Int)(K:Int→Option β):Option β:=laws_heldIntS.G S a1 a4 (fun y1=>bif(S.lt y1 0)then(K (-1))else(laws_heldIntS.G S a2 y1 (fun y2=>bif(S.lt y2 0)then(K (-1))else(laws_heldBoolS.G S a3 y2 (fun y3=>bif(S.lt y3 0)then(K (-1))else(K y3))))))
noncomputable def o:Orac:=⟨70,sin,sout,fun s K=>G sl0 s.2.1.1 s.2.1.2.1 s.2.1.2.2.1 s.2.1.2.2.2.1 s.2.2.1 (fun x0=>K ((),(x0,())))⟩
noncomputable def C:Ctx:=⟨tyT,[laws_heldBoolS.o,laws_heldIntS.o],[],24,0⟩
theorem ctx:CtxOk Tryz.prog C:=⟨tyOk,all1 laws_heldBoolS.ok (all1 laws_heldIntS.ok (all0))⟩
theorem eG (β:Type)(s:sin.den)(K:sout.den→Option β):evalFn C Tryz.f70 sin sout s K=o.F s K:=by kernel_rfl
theorem ok:OracOk Tryz.prog o:=fn_ok mixed Tryz.func70 (by kernel_rfl) ctx (c:=bodyC Tryz.f70) (by kernel_rfl) (all0) (by kernel_rfl) (by kernel_rfl) (by kernel_rfl) (Nat.le_of_ble_eq_true (by kernel_rfl)) eG (by kernel_rfl) (Nat.le_of_ble_eq_true (by kernel_rfl))
end laws_heldStripe
namespace laws_markBoolS_
def sin:Sig:=⟨[.buf .bool false],[.one (.ref (.own 0)),.one (.val I false)]⟩
def sout:Sig:=⟨[.buf .bool false],[.one (.val I false)]⟩
def h2:SS:=⟨[0,1,5],⟨[.buf .bool false],[.one (.ref (.own 0)),.one (.val I false),.one (.val I false)]⟩⟩
def x2:SS:=⟨[1],⟨[.buf .bool false],[.one (.val I false)]⟩⟩
def y2:SS:=⟨[],⟨[],[]⟩⟩
noncomputable def b2 {β:Type}(S:Sl)(L:(List Bool)→Int→Int→Option β)(kx:(List Bool)→Int→Option β)(kr:Option β)(s0:(List Bool))(s1:Int)(s2:Int):Option β:=bif(S.lt s2 (s0.length:Int))then(bif(S.ir s2 s0.length)then(L (List.set s0 (Int.toNat s2) (S.eq (Int.tmod s1 3) 0)) (S.w (s1+1)) (S.w (s2+1)))else(none))else(kx s0 s1)
noncomputable def r2 {β:Type}(S:Sl)(n:Nat)(kx:x2.sig.den→Option β)(kr:y2.sig.den→Option β)(s:h2.sig.den):Option β:=rounds (fun L kx kr s=>b2 S (fun x0 x1 x2=>L ((x0,()),(x1,(x2,())))) (fun x0 x1=>kx ((x0,()),(x1,()))) (kr ((),())) s.1.1 s.2.1 s.2.2.1) kx kr n s
noncomputable def l2 {β:Type}(S:Sl)(n:Nat)(kx:(List Bool)→Int→Option β)(kr:Option β)(s0:(List Bool))(s1:Int)(s2:Int):Option β:=r2 S n (fun s=>kx s.1.1 s.2.1) (fun s=>kr) ((s0,()),(s1,(s2,())))
theorem t2 {β:Type}(S:Sl)(n:Nat)(kx:(List Bool)→Int→Option β)(kr:Option β)(s0:(List Bool))(s1:Int)(s2:Int):l2 S (n+1) kx kr s0 s1 s2=b2 S (l2 S n kx kr) kx kr s0 s1 s2:=by kernel_rfl
noncomputable def G {β:Type}(S:Sl)(a0:(List Bool))(a1:Int)(K:(List Bool)→Int→Option β):Option β:=l2 S S.n (fun y1 y2=>K y1 y2) none a0 a1 0
noncomputable def o:Orac:=⟨156,sin,sout,fun s K=>G sl0 s.1.1 s.2.1 (fun x0 x1=>K ((x0,()),(x1,())))⟩
noncomputable def C:Ctx:=⟨tyT,[],[⟨2,0,h2,x2,y2,fun s kx kr=>r2 sl0 sl0.n kx kr s⟩],21,1⟩
theorem ctx:CtxOk Tryz.prog C:=⟨tyOk,all0⟩
theorem e2 (β:Type)(L:h2.sig.den→Option β)(kx:x2.sig.den→Option β)(kr:y2.sig.den→Option β)(s:h2.sig.den):evalBody C (nthC (loopsOf (bodyC Tryz.f156)) 0) 0 h2 x2 y2 L kx kr s=b2 sl0 (fun x0 x1 x2=>L ((x0,()),(x1,(x2,())))) (fun x0 x1=>kx ((x0,()),(x1,()))) (kr ((),())) s.1.1 s.2.1 s.2.2.1:=by kernel_rfl
theorem g2:LS Tryz.prog C ⟨2,0,h2,x2,y2,fun s kx kr=>r2 sl0 sl0.n kx kr s⟩ (loopsOf (bodyC Tryz.f156)):=LS.at (i:=0) (by kernel_rfl) (loop_good mixed ctx (ctx_nat ctx) (N:=sl0.n) (fun _ _ _ _=>rfl) e2 (all1 (LS.none (by kernel_rfl)) (all0)))
theorem eG (β:Type)(s:sin.den)(K:sout.den→Option β):evalFn C Tryz.f156 sin sout s K=o.F s K:=by kernel_rfl
theorem ok:OracOk Tryz.prog o:=fn_ok mixed Tryz.func156 (by kernel_rfl) ctx (c:=bodyC Tryz.f156) (by kernel_rfl) (all1 g2 (all0)) (by kernel_rfl) (by kernel_rfl) (by kernel_rfl) (Nat.le_of_ble_eq_true (by kernel_rfl)) eG (by kernel_rfl) (Nat.le_of_ble_eq_true (by kernel_rfl))
end laws_markBoolS_
namespace laws_markIntS_
def sin:Sig:=⟨[.buf I false],[.one (.ref (.own 0)),.one (.val I false)]⟩
def sout:Sig:=⟨[.buf I false],[.one (.val I false)]⟩
def h2:SS:=⟨[0,1,5],⟨[.buf I false],[.one (.ref (.own 0)),.one (.val I false),.one (.val I false)]⟩⟩
def x2:SS:=⟨[1],⟨[.buf I false],[.one (.val I false)]⟩⟩
def y2:SS:=⟨[],⟨[],[]⟩⟩
noncomputable def b2 {β:Type}(S:Sl)(L:(List Int)→Int→Int→Option β)(kx:(List Int)→Int→Option β)(kr:Option β)(s0:(List Int))(s1:Int)(s2:Int):Option β:=bif(S.lt s2 (s0.length:Int))then(bif(S.ir s2 s0.length)then(L (List.set s0 (Int.toNat s2) s1) (S.w (s1+1)) (S.w (s2+1)))else(none))else(kx s0 s1)
noncomputable def r2 {β:Type}(S:Sl)(n:Nat)(kx:x2.sig.den→Option β)(kr:y2.sig.den→Option β)(s:h2.sig.den):Option β:=rounds (fun L kx kr s=>b2 S (fun x0 x1 x2=>L ((x0,()),(x1,(x2,())))) (fun x0 x1=>kx ((x0,()),(x1,()))) (kr ((),())) s.1.1 s.2.1 s.2.2.1) kx kr n s
noncomputable def l2 {β:Type}(S:Sl)(n:Nat)(kx:(List Int)→Int→Option β)(kr:Option β)(s0:(List Int))(s1:Int)(s2:Int):Option β:=r2 S n (fun s=>kx s.1.1 s.2.1) (fun s=>kr) ((s0,()),(s1,(s2,())))
theorem t2 {β:Type}(S:Sl)(n:Nat)(kx:(List Int)→Int→Option β)(kr:Option β)(s0:(List Int))(s1:Int)(s2:Int):l2 S (n+1) kx kr s0 s1 s2=b2 S (l2 S n kx kr) kx kr s0 s1 s2:=by kernel_rfl
noncomputable def G {β:Type}(S:Sl)(a0:(List Int))(a1:Int)(K:(List Int)→Int→Option β):Option β:=l2 S S.n (fun y1 y2=>K y1 y2) none a0 a1 0
noncomputable def o:Orac:=⟨155,sin,sout,fun s K=>G sl0 s.1.1 s.2.1 (fun x0 x1=>K ((x0,()),(x1,())))⟩
noncomputable def C:Ctx:=⟨tyT,[],[⟨2,0,h2,x2,y2,fun s kx kr=>r2 sl0 sl0.n kx kr s⟩],19,1⟩
theorem ctx:CtxOk Tryz.prog C:=⟨tyOk,all0⟩
theorem e2 (β:Type)(L:h2.sig.den→Option β)(kx:x2.sig.den→Option β)(kr:y2.sig.den→Option β)(s:h2.sig.den):evalBody C (nthC (loopsOf (bodyC Tryz.f155)) 0) 0 h2 x2 y2 L kx kr s=b2 sl0 (fun x0 x1 x2=>L ((x0,()),(x1,(x2,())))) (fun x0 x1=>kx ((x0,()),(x1,()))) (kr ((),())) s.1.1 s.2.1 s.2.2.1:=by kernel_rfl
theorem g2:LS Tryz.prog C ⟨2,0,h2,x2,y2,fun s kx kr=>r2 sl0 sl0.n kx kr s⟩ (loopsOf (bodyC Tryz.f155)):=LS.at (i:=0) (by kernel_rfl) (loop_good mixed ctx (ctx_nat ctx) (N:=sl0.n) (fun _ _ _ _=>rfl) e2 (all1 (LS.none (by kernel_rfl)) (all0)))
theorem eG (β:Type)(s:sin.den)(K:sout.den→Option β):evalFn C Tryz.f155 sin sout s K=o.F s K:=by kernel_rfl
theorem ok:OracOk Tryz.prog o:=fn_ok mixed Tryz.func155 (by kernel_rfl) ctx (c:=bodyC Tryz.f155) (by kernel_rfl) (all1 g2 (all0)) (by kernel_rfl) (by kernel_rfl) (by kernel_rfl) (Nat.le_of_ble_eq_true (by kernel_rfl)) eG (by kernel_rfl) (Nat.le_of_ble_eq_true (by kernel_rfl))
end laws_markIntS_
namespace laws_markStripe_
def sin:Sig:=⟨[.buf I false,.buf I false,.buf .bool false],[.agg [.val I false,.ref (.own 0),.ref (.own 1),.ref (.own 2)],.one (.val I false)]⟩
def sout:Sig:=⟨[.buf I false,.buf I false,.buf .bool false],[.one (.val I false)]⟩
noncomputable def G {β:Type}(S:Sl)(a0:(List Int))(a1:(List Int))(a2:(List Bool))(a3:Int)(a4:Int)(K:(List Int)→(List Int)→(List Bool)→Int→Option β):Option β:=laws_markIntS_.G S a0 a4 (fun y1 y2=>laws_markIntS_.G S a1 y2 (fun y3 y4=>laws_markBoolS_.G S a2 y4 (fun y5 y6=>K y1 y3 y5 y6)))
noncomputable def o:Orac:=⟨69,sin,sout,fun s K=>G sl0 s.1.1 s.1.2.1 s.1.2.2.1 s.2.1.1 s.2.2.1 (fun x0 x1 x2 x3=>K ((x0,(x1,(x2,()))),(x3,())))⟩
noncomputable def C:Ctx:=⟨tyT,[laws_markBoolS_.o,laws_markIntS_.o],[],18,3⟩
theorem ctx:CtxOk Tryz.prog C:=⟨tyOk,all1 laws_markBoolS_.ok (all1 laws_markIntS_.ok (all0))⟩
theorem eG (β:Type)(s:sin.den)(K:sout.den→Option β):evalFn C Tryz.f69 sin sout s K=o.F s K:=by kernel_rfl
theorem ok:OracOk Tryz.prog o:=fn_ok mixed Tryz.func69 (by kernel_rfl) ctx (c:=bodyC Tryz.f69) (by kernel_rfl) (all0) (by kernel_rfl) (by kernel_rfl) (by kernel_rfl) (Nat.le_of_ble_eq_true (by kernel_rfl)) eG (by kernel_rfl) (Nat.le_of_ble_eq_true (by kernel_rfl))
end laws_markStripe_
namespace laws_szBoolS
def sin:Sig:=⟨[],[.one (.val (.sl .bool) false),.one (.val I false)]⟩
def sout:Sig:=⟨[],[.one (.val I false)]⟩
noncomputable def G {β:Type}(S:Sl)(a0:(List Bool))(a1:Int)(K:Int→Option β):Option β:=bif(S.lt (S.w (a1-(a0.length:Int))) 0)then(K (-1))else(K (S.w (a1-(a0.length:Int))))
noncomputable def o:Orac:=⟨150,sin,sout,fun s K=>G sl0 s.2.1 s.2.2.1 (fun x0=>K ((),(x0,())))⟩
noncomputable def C:Ctx:=⟨tyT,[],[],12,0⟩
theorem ctx:CtxOk Tryz.prog C:=⟨tyOk,all0⟩
theorem eG (β:Type)(s:sin.den)(K:sout.den→Option β):evalFn C Tryz.f150 sin sout s K=o.F s K:=by kernel_rfl
theorem ok:OracOk Tryz.prog o:=fn_ok mixed Tryz.func150 (by kernel_rfl) ctx (c:=bodyC Tryz.f150) (by kernel_rfl) (all0) (by kernel_rfl) (by kernel_rfl) (by kernel_rfl) (Nat.le_of_ble_eq_true (by kernel_rfl)) eG (by kernel_rfl) (Nat.le_of_ble_eq_true (by kernel_rfl))
end laws_szBoolS
namespace laws_szIntS
def sin:Sig:=⟨[],[.one (.val (.sl I) false),.one (.val I false)]⟩
def sout:Sig:=⟨[],[.one (.val I false)]⟩
noncomputable def G {β:Type}(S:Sl)(a0:(List Int))(a1:Int)(K:Int→Option β):Option β:=bif(S.lt (S.w (a1-(a0.length:Int))) 0)then(K (-1))else(K (S.w (a1-(a0.length:Int))))
noncomputable def o:Orac:=⟨149,sin,sout,fun s K=>G sl0 s.2.1 s.2.2.1 (fun x0=>K ((),(x0,())))⟩
noncomputable def C:Ctx:=⟨tyT,[],[],12,0⟩
theorem ctx:CtxOk Tryz.prog C:=⟨tyOk,all0⟩
theorem eG (β:Type)(s:sin.den)(K:sout.den→Option β):evalFn C Tryz.f149 sin sout s K=o.F s K:=by kernel_rfl
theorem ok:OracOk Tryz.prog o:=fn_ok mixed Tryz.func149 (by kernel_rfl) ctx (c:=bodyC Tryz.f149) (by kernel_rfl) (all0) (by kernel_rfl) (by kernel_rfl) (by kernel_rfl) (Nat.le_of_ble_eq_true (by kernel_rfl)) eG (by kernel_rfl) (Nat.le_of_ble_eq_true (by kernel_rfl))
end laws_szIntS
namespace laws_szStripe
def sin:Sig:=⟨[],[.agg [.val I false,.val (.sl I) false,.val (.sl I) false,.val (.sl .bool) false],.one (.val I false)]⟩
def sout:Sig:=⟨[],[.one (.val I false)]⟩
noncomputable def G {β:Type}(S:Sl)(a0:Int)(a1:(List Int))(a2:(List Int))(a3:(List Bool))(a4:Int)(K:Int→Option β):Option β:=laws_szIntS.G S a1 a4 (fun y1=>bif(S.lt y1 0)then(K (-1))else(laws_szIntS.G S a2 y1 (fun y2=>bif(S.lt y2 0)then(K (-1))else(laws_szBoolS.G S a3 y2 (fun y3=>bif(S.lt y3 0)then(K (-1))else(K y3))))))
noncomputable def o:Orac:=⟨66,sin,sout,fun s K=>G sl0 s.2.1.1 s.2.1.2.1 s.2.1.2.2.1 s.2.1.2.2.2.1 s.2.2.1 (fun x0=>K ((),(x0,())))⟩
noncomputable def C:Ctx:=⟨tyT,[laws_szBoolS.o,laws_szIntS.o],[],24,0⟩
theorem ctx:CtxOk Tryz.prog C:=⟨tyOk,all1 laws_szBoolS.ok (all1 laws_szIntS.ok (all0))⟩
theorem eG (β:Type)(s:sin.den)(K:sout.den→Option β):evalFn C Tryz.f66 sin sout s K=o.F s K:=by kernel_rfl
theorem ok:OracOk Tryz.prog o:=fn_ok mixed Tryz.func66 (by kernel_rfl) ctx (c:=bodyC Tryz.f66) (by kernel_rfl) (all0) (by kernel_rfl) (by kernel_rfl) (by kernel_rfl) (Nat.le_of_ble_eq_true (by kernel_rfl)) eG (by kernel_rfl) (Nat.le_of_ble_eq_true (by kernel_rfl))
end laws_szStripe
end Go.Proofs.YtnbighmbgmjbkaaGreat.E
end
