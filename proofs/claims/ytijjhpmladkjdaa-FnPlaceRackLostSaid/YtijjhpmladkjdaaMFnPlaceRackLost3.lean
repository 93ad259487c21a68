/- Part 3 of the proof of the statement FnPlaceRackLost; the last part states it. No condition. -/
import Derived.Test.YtijjhpmladkjdaaRows
import Derived.WalkKit
import Derived.JoinedOf
import Derived.ProofKit
import Derived.OpenShut
import Derived.ShutString
import Derived.ChangeOld
import Derived.Below
import Derived.SizedLaws
import Derived.Test.YtijjhpmladkjdaaMFnPlaceRackLost2
set_option linter.unusedVariables false
set_option linter.unusedSimpArgs false
section
namespace Go.Proofs.Ytijjhpmladkjdaa.E
open Go Go.RowKit
set_option maxRecDepth 100000
namespace slices_partialInsertionSortCmpFunc_impl_House
def sin:Sig:=⟨[.buf (.pair I (.pair I (.pair I .unit))) false,.box [.val I false]],[.one (.ref (.own 0)),.one (.val I false),.one (.val I false),.one (.ref (.fn 90 [1]))]⟩
def sout:Sig:=⟨[.buf (.pair I (.pair I (.pair I .unit))) false,.box [.val I false]],[.one (.val .bool false)]⟩
def h20:SS:=⟨[0,1,2,3,9,10,12],⟨[.buf (.pair I (.pair I (.pair I .unit))) false,.box [.val I false]],[.one (.ref (.own 0)),.one (.val I false),.one (.val I false),.one (.ref (.fn 90 [1])),.one (.val I false),.one (.val I false),.one (.val I false)]⟩⟩
def x20:SS:=⟨[0,1,2,3,9,10],⟨[.buf (.pair I (.pair I (.pair I .unit))) false,.box [.val I false]],[.one (.ref (.own 0)),.one (.val I false),.one (.val I false),.one (.ref (.fn 90 [1])),.one (.val I false),.one (.val I false)]⟩⟩
def y20:SS:=⟨[],⟨[],[]⟩⟩
noncomputable def b20 {β:Type}(S:Sl)(L:(List (Int×(Int×(Int×Unit))))→Int→Int→Int→Int→Int→Int→Option β)(kx:(List (Int×(Int×(Int×Unit))))→Int→Int→Int→Int→Int→Option β)(kr:Option β)(s0:(List (Int×(Int×(Int×Unit)))))(s1:Int)(s2:Int)(s3:Int)(s4:Int)(s5:Int)(s6:Int):Option β:=bif(S.lt s6 s3)then(bif(S.ir s6 s0.length)then(bif(S.ir (S.w (s6-1)) s0.length)then(impl_ranks_1.G S s1 ((List.getD s0 (Int.toNat s6) (0,(0,(0,())))).1) ((List.getD s0 (Int.toNat s6) (0,(0,(0,())))).2.1) ((List.getD s0 (Int.toNat s6) (0,(0,(0,())))).2.2.1) ((List.getD s0 (Int.toNat (S.w (s6-1))) (0,(0,(0,())))).1) ((List.getD s0 (Int.toNat (S.w (s6-1))) (0,(0,(0,())))).2.1) ((List.getD s0 (Int.toNat (S.w (s6-1))) (0,(0,(0,())))).2.2.1) (fun y1 y2=>bif(!(S.lt y2 0))then(kx s0 y1 s2 s3 s4 s5)else(bif(S.ir (S.w (s6-1)) s0.length)then(bif(S.ir s6 s0.length)then(bif(S.ir s6 s0.length)then(bif(S.ir (S.w (s6-1)) (List.set s0 (Int.toNat s6) ((List.getD s0 (Int.toNat (S.w (s6-1))) (0,(0,(0,())))).1,((List.getD s0 (Int.toNat (S.w (s6-1))) (0,(0,(0,())))).2.1,((List.getD s0 (Int.toNat (S.w (s6-1))) (0,(0,(0,())))).2.2.1,())))).length)then(L (List.set (List.set s0 (Int.toNat s6) ((List.getD s0 (Int.toNat (S.w (s6-1))) (0,(0,(0,())))).1,((List.getD s0 (Int.toNat (S.w (s6-1))) (0,(0,(0,())))).2.1,((List.getD s0 (Int.toNat (S.w (s6-1))) (0,(0,(0,())))).2.2.1,())))) (Int.toNat (S.w (s6-1))) ((List.getD s0 (Int.toNat s6) (0,(0,(0,())))).1,((List.getD s0 (Int.toNat s6) (0,(0,(0,())))).2.1,((List.getD s0 (Int.toNat s6) (0,(0,(0,())))).2.2.1,())))) y1 s2 s3 s4 s5 (S.w (s6+1)))else(none))else(none))else(none))else(none))))else(none))else(none))else(kx s0 s1 s2 s3 s4 s5)
noncomputable def r20 {β:Type}(S:Sl)(n:Nat)(kx:x20.sig.den→Option β)(kr:y20.sig.den→Option β)(s:h20.sig.den):Option β:=rounds (fun L kx kr s=>b20 S (fun x0 x1 x2 x3 x4 x5 x6=>L ((x0,((x1,()),())),(x2,(x3,(x4,(x5,(x6,()))))))) (fun x0 x1 x2 x3 x4 x5=>kx ((x0,((x1,()),())),(x2,(x3,(x4,(x5,())))))) (kr ((),())) s.1.1 s.1.2.1.1 s.2.1 s.2.2.1 s.2.2.2.1 s.2.2.2.2.1 s.2.2.2.2.2.1) kx kr n s
noncomputable def l20 {β:Type}(S:Sl)(n:Nat)(kx:(List (Int×(Int×(Int×Unit))))→Int→Int→Int→Int→Int→Option β)(kr:Option β)(s0:(List (Int×(Int×(Int×Unit)))))(s1:Int)(s2:Int)(s3:Int)(s4:Int)(s5:Int)(s6:Int):Option β:=r20 S n (fun s=>kx s.1.1 s.1.2.1.1 s.2.1 s.2.2.1 s.2.2.2.1 s.2.2.2.2.1) (fun s=>kr) ((s0,((s1,()),())),(s2,(s3,(s4,(s5,(s6,()))))))
theorem t20 {β:Type}(S:Sl)(n:Nat)(kx:(List (Int×(Int×(Int×Unit))))→Int→Int→Int→Int→Int→Option β)(kr:Option β)(s0:(List (Int×(Int×(Int×Unit)))))(s1:Int)(s2:Int)(s3:Int)(s4:Int)(s5:Int)(s6:Int):l20 S (n+1) kx kr s0 s1 s2 s3 s4 s5 s6=b20 S (l20 S n kx kr) kx kr s0 s1 s2 s3 s4 s5 s6:=by kernel_rfl
def h14:SS:=⟨[0,1,2,3,9,10,11],⟨[.buf (.pair I (.pair I (.pair I .unit))) false,.box [.val I false]],[.one (.ref (.own 0)),.one (.val I false),.one (.val I false),.one (.ref (.fn 90 [1])),.one (.val I false),.one (.val I false),.one (.val I false)]⟩⟩
def x14:SS:=⟨[0,1,2,3,9,10],⟨[.buf (.pair I (.pair I (.pair I .unit))) false,.box [.val I false]],[.one (.ref (.own 0)),.one (.val I false),.one (.val I false),.one (.ref (.fn 90 [1])),.one (.val I false),.one (.val I false)]⟩⟩
def y14:SS:=⟨[],⟨[],[]⟩⟩
noncomputable def b14 {β:Type}(S:Sl)(L:(List (Int×(Int×(Int×Unit))))→Int→Int→Int→Int→Int→Int→Option β)(kx:(List (Int×(Int×(Int×Unit))))→Int→Int→Int→Int→Int→Option β)(kr:Option β)(s0:(List (Int×(Int×(Int×Unit)))))(s1:Int)(s2:Int)(s3:Int)(s4:Int)(s5:Int)(s6:Int):Option β:=bif(S.le 1 s6)then(bif(S.ir s6 s0.length)then(bif(S.ir (S.w (s6-1)) s0.length)then(impl_ranks_1.G S s1 ((List.getD s0 (Int.toNat s6) (0,(0,(0,())))).1) ((List.getD s0 (Int.toNat s6) (0,(0,(0,())))).2.1) ((List.getD s0 (Int.toNat s6) (0,(0,(0,())))).2.2.1) ((List.getD s0 (Int.toNat (S.w (s6-1))) (0,(0,(0,())))).1) ((List.getD s0 (Int.toNat (S.w (s6-1))) (0,(0,(0,())))).2.1) ((List.getD s0 (Int.toNat (S.w (s6-1))) (0,(0,(0,())))).2.2.1) (fun y1 y2=>bif(!(S.lt y2 0))then(kx s0 y1 s2 s3 s4 s5)else(bif(S.ir (S.w (s6-1)) s0.length)then(bif(S.ir s6 s0.length)then(bif(S.ir s6 s0.length)then(bif(S.ir (S.w (s6-1)) (List.set s0 (Int.toNat s6) ((List.getD s0 (Int.toNat (S.w (s6-1))) (0,(0,(0,())))).1,((List.getD s0 (Int.toNat (S.w (s6-1))) (0,(0,(0,())))).2.1,((List.getD s0 (Int.toNat (S.w (s6-1))) (0,(0,(0,())))).2.2.1,())))).length)then(L (List.set (List.set s0 (Int.toNat s6) ((List.getD s0 (Int.toNat (S.w (s6-1))) (0,(0,(0,())))).1,((List.getD s0 (Int.toNat (S.w (s6-1))) (0,(0,(0,())))).2.1,((List.getD s0 (Int.toNat (S.w (s6-1))) (0,(0,(0,())))).2.2.1,())))) (Int.toNat (S.w (s6-1))) ((List.getD s0 (Int.toNat s6) (0,(0,(0,())))).1,((List.getD s0 (Int.toNat s6) (0,(0,(0,())))).2.1,((List.getD s0 (Int.toNat s6) (0,(0,(0,())))).2.2.1,())))) y1 s2 s3 s4 s5 (S.w (s6-1)))else(none))else(none))else(none))else(none))))else(none))else(none))else(kx s0 s1 s2 s3 s4 s5)
noncomputable def r14 {β:Type}(S:Sl)(n:Nat)(kx:x14.sig.den→Option β)(kr:y14.sig.den→Option β)(s:h14.sig.den):Option β:=rounds (fun L kx kr s=>b14 S (fun x0 x1 x2 x3 x4 x5 x6=>L ((x0,((x1,()),())),(x2,(x3,(x4,(x5,(x6,()))))))) (fun x0 x1 x2 x3 x4 x5=>kx ((x0,((x1,()),())),(x2,(x3,(x4,(x5,())))))) (kr ((),())) s.1.1 s.1.2.1.1 s.2.1 s.2.2.1 s.2.2.2.1 s.2.2.2.2.1 s.2.2.2.2.2.1) kx kr n s
noncomputable def l14 {β:Type}(S:Sl)(n:Nat)(kx:(List (Int×(Int×(Int×Unit))))→Int→Int→Int→Int→Int→Option β)(kr:Option β)(s0:(List (Int×(Int×(Int×Unit)))))(s1:Int)(s2:Int)(s3:Int)(s4:Int)(s5:Int)(s6:Int):Option β:=r14 S n (fun s=>kx s.1.1 s.1.2.1.1 s.2.1 s.2.2.1 s.2.2.2.1 s.2.2.2.2.1) (fun s=>kr) ((s0,((s1,()),())),(s2,(s3,(s4,(s5,(s6,()))))))
theorem t14 {β:Type}(S:Sl)(n:Nat)(kx:(List (Int×(Int×(Int×Unit))))→Int→Int→Int→Int→Int→Option β)(kr:Option β)(s0:(List (Int×(Int×(Int×Unit)))))(s1:Int)(s2:Int)(s3:Int)(s4:Int)(s5:Int)(s6:Int):l14 S (n+1) kx kr s0 s1 s2 s3 s4 s5 s6=b14 S (l14 S n kx kr) kx kr s0 s1 s2 s3 s4 s5 s6:=by kernel_rfl
def h5:SS:=⟨[0,1,2,3,9,10],⟨[.buf (.pair I (.pair I (.pair I .unit))) false,.box [.val I false]],[.one (.ref (.own 0)),.one (.val I false),.one (.val I false),.one (.ref (.fn 90 [1])),.one (.val I false),.one (.val I false)]⟩⟩
def x5:SS:=⟨[0,1,2,3,9,10],⟨[.buf (.pair I (.pair I (.pair I .unit))) false,.box [.val I false]],[.one (.ref (.own 0)),.one (.val I false),.one (.val I false),.one (.ref (.fn 90 [1])),.one (.val I false),.one (.val I false)]⟩⟩
def y5:SS:=⟨[],⟨[],[]⟩⟩
noncomputable def b5 {β:Type}(S:Sl)(L:(List (Int×(Int×(Int×Unit))))→Int→Int→Int→Int→Int→Option β)(kx:(List (Int×(Int×(Int×Unit))))→Int→Int→Int→Int→Int→Option β)(kr:Option β)(s0:(List (Int×(Int×(Int×Unit)))))(s1:Int)(s2:Int)(s3:Int)(s4:Int)(s5:Int):Option β:=bif(S.lt s4 s3)then(bif(S.ir s4 s0.length)then(bif(S.ir (S.w (s4-1)) s0.length)then(impl_ranks_1.G S s1 ((List.getD s0 (Int.toNat s4) (0,(0,(0,())))).1) ((List.getD s0 (Int.toNat s4) (0,(0,(0,())))).2.1) ((List.getD s0 (Int.toNat s4) (0,(0,(0,())))).2.2.1) ((List.getD s0 (Int.toNat (S.w (s4-1))) (0,(0,(0,())))).1) ((List.getD s0 (Int.toNat (S.w (s4-1))) (0,(0,(0,())))).2.1) ((List.getD s0 (Int.toNat (S.w (s4-1))) (0,(0,(0,())))).2.2.1) (fun y1 y2=>bif(!(S.lt y2 0))then(L s0 y1 s2 s3 (S.w (s4+1)) s5)else(kx s0 y1 s2 s3 s4 s5)))else(none))else(none))else(kx s0 s1 s2 s3 s4 s5)
noncomputable def r5 {β:Type}(S:Sl)(n:Nat)(kx:x5.sig.den→Option β)(kr:y5.sig.den→Option β)(s:h5.sig.den):Option β:=rounds (fun L kx kr s=>b5 S (fun x0 x1 x2 x3 x4 x5=>L ((x0,((x1,()),())),(x2,(x3,(x4,(x5,())))))) (fun x0 x1 x2 x3 x4 x5=>kx ((x0,((x1,()),())),(x2,(x3,(x4,(x5,())))))) (kr ((),())) s.1.1 s.1.2.1.1 s.2.1 s.2.2.1 s.2.2.2.1 s.2.2.2.2.1) kx kr n s
noncomputable def l5 {β:Type}(S:Sl)(n:Nat)(kx:(List (Int×(Int×(Int×Unit))))→Int→Int→Int→Int→Int→Option β)(kr:Option β)(s0:(List (Int×(Int×(Int×Unit)))))(s1:Int)(s2:Int)(s3:Int)(s4:Int)(s5:Int):Option β:=r5 S n (fun s=>kx s.1.1 s.1.2.1.1 s.2.1 s.2.2.1 s.2.2.2.1 s.2.2.2.2.1) (fun s=>kr) ((s0,((s1,()),())),(s2,(s3,(s4,(s5,())))))
theorem t5 {β:Type}(S:Sl)(n:Nat)(kx:(List (Int×(Int×(Int×Unit))))→Int→Int→Int→Int→Int→Option β)(kr:Option β)(s0:(List (Int×(Int×(Int×Unit)))))(s1:Int)(s2:Int)(s3:Int)(s4:Int)(s5:Int):l5 S (n+1) kx kr s0 s1 s2 s3 s4 s5=b5 S (l5 S n kx kr) kx kr s0 s1 s2 s3 s4 s5:=by kernel_rfl
def h3:SS:=⟨[0,1,2,3,9,10],⟨[.buf (.pair I (.pair I (.pair I .unit))) false,.box [.val I false]],[.one (.ref (.own 0)),.one (.val I false),.one (.val I false),.one (.ref (.fn 90 [1])),.one (.val I false),.one (.val I false)]⟩⟩
def x3:SS:=⟨[],⟨[.buf (.pair I (.pair I (.pair I .unit))) false,.box [.val I false]],[]⟩⟩
def y3:SS:=⟨[8],⟨[.buf (.pair I (.pair I (.pair I .unit))) false,.box [.val I false]],[.one (.val .bool false)]⟩⟩
noncomputable def b3 {β:Type}(S:Sl)(L:(List (Int×(Int×(Int×Unit))))→Int→Int→Int→Int→Int→Option β)(kx:(List (Int×(Int×(Int×Unit))))→Int→Option β)(kr:(List (Int×(Int×(Int×Unit))))→Int→Bool→Option β)(s0:(List (Int×(Int×(Int×Unit)))))(s1:Int)(s2:Int)(s3:Int)(s4:Int)(s5:Int):Option β:=bif(S.lt s5 5)then(l5 S S.n (fun y1 y2 y3 y4 y5 y6=>bif(S.eq y5 y4)then(kr y1 y2 true)else(bif(S.lt (S.w (y4-y3)) 50)then(kr y1 y2 false)else(bif(S.ir (S.w (y5-1)) y1.length)then(bif(S.ir y5 y1.length)then(bif(S.ir y5 y1.length)then(bif(S.ir (S.w (y5-1)) (List.set y1 (Int.toNat y5) ((List.getD y1 (Int.toNat (S.w (y5-1))) (0,(0,(0,())))).1,((List.getD y1 (Int.toNat (S.w (y5-1))) (0,(0,(0,())))).2.1,((List.getD y1 (Int.toNat (S.w (y5-1))) (0,(0,(0,())))).2.2.1,())))).length)then(bif(S.le 2 (S.w (y5-y3)))then(l14 S S.n (fun y7 y8 y9 y10 y11 y12=>bif(S.le 2 (S.w (y10-y11)))then(l20 S S.n (fun y13 y14 y15 y16 y17 y18=>L y13 y14 y15 y16 y17 (S.w (y18+1))) none y7 y8 y9 y10 y11 y12 (S.w (y11+1)))else(L y7 y8 y9 y10 y11 (S.w (y12+1)))) none (List.set (List.set y1 (Int.toNat y5) ((List.getD y1 (Int.toNat (S.w (y5-1))) (0,(0,(0,())))).1,((List.getD y1 (Int.toNat (S.w (y5-1))) (0,(0,(0,())))).2.1,((List.getD y1 (Int.toNat (S.w (y5-1))) (0,(0,(0,())))).2.2.1,())))) (Int.toNat (S.w (y5-1))) ((List.getD y1 (Int.toNat y5) (0,(0,(0,())))).1,((List.getD y1 (Int.toNat y5) (0,(0,(0,())))).2.1,((List.getD y1 (Int.toNat y5) (0,(0,(0,())))).2.2.1,())))) y2 y3 y4 y5 y6 (S.w (y5-1)))else(bif(S.le 2 (S.w (y4-y5)))then(l20 S S.n (fun y19 y20 y21 y22 y23 y24=>L y19 y20 y21 y22 y23 (S.w (y24+1))) none (List.set (List.set y1 (Int.toNat y5) ((List.getD y1 (Int.toNat (S.w (y5-1))) (0,(0,(0,())))).1,((List.getD y1 (Int.toNat (S.w (y5-1))) (0,(0,(0,())))).2.1,((List.getD y1 (Int.toNat (S.w (y5-1))) (0,(0,(0,())))).2.2.1,())))) (Int.toNat (S.w (y5-1))) ((List.getD y1 (Int.toNat y5) (0,(0,(0,())))).1,((List.getD y1 (Int.toNat y5) (0,(0,(0,())))).2.1,((List.getD y1 (Int.toNat y5) (0,(0,(0,())))).2.2.1,())))) y2 y3 y4 y5 y6 (S.w (y5+1)))else(L (List.set (List.set y1 (Int.toNat y5) ((List.getD y1 (Int.toNat (S.w (y5-1))) (0,(0,(0,())))).1,((List.getD y1 (Int.toNat (S.w (y5-1))) (0,(0,(0,())))).2.1,((List.getD y1 (Int.toNat (S.w (y5-1))) (0,(0,(0,())))).2.2.1,())))) (Int.toNat (S.w (y5-1))) ((List.getD y1 (Int.toNat y5) (0,(0,(0,())))).1,((List.getD y1 (Int.toNat y5) (0,(0,(0,())))).2.1,((List.getD y1 (Int.toNat y5) (0,(0,(0,())))).2.2.1,())))) y2 y3 y4 y5 (S.w (y6+1)))))else(none))else(none))else(none))else(none)))) none s0 s1 s2 s3 s4 s5)else(kx s0 s1)
noncomputable def r3 {β:Type}(S:Sl)(n:Nat)(kx:x3.sig.den→Option β)(kr:y3.sig.den→Option β)(s:h3.sig.den):Option β:=rounds (fun L kx kr s=>b3 S (fun x0 x1 x2 x3 x4 x5=>L ((x0,((x1,()),())),(x2,(x3,(x4,(x5,())))))) (fun x0 x1=>kx ((x0,((x1,()),())),())) (fun x0 x1 x2=>kr ((x0,((x1,()),())),(x2,()))) s.1.1 s.1.2.1.1 s.2.1 s.2.2.1 s.2.2.2.1 s.2.2.2.2.1) kx kr n s
noncomputable def l3 {β:Type}(S:Sl)(n:Nat)(kx:(List (Int×(Int×(Int×Unit))))→Int→Option β)(kr:(List (Int×(Int×(Int×Unit))))→Int→Bool→Option β)(s0:(List (Int×(Int×(Int×Unit)))))(s1:Int)(s2:Int)(s3:Int)(s4:Int)(s5:Int):Option β:=r3 S n (fun s=>kx s.1.1 s.1.2.1.1) (fun s=>kr s.1.1 s.1.2.1.1 s.2.1) ((s0,((s1,()),())),(s2,(s3,(s4,(s5,())))))
theorem t3 {β:Type}(S:Sl)(n:Nat)(kx:(List (Int×(Int×(Int×Unit))))→Int→Option β)(kr:(List (Int×(Int×(Int×Unit))))→Int→Bool→Option β)(s0:(List (Int×(Int×(Int×Unit)))))(s1:Int)(s2:Int)(s3:Int)(s4:Int)(s5:Int):l3 S (n+1) kx kr s0 s1 s2 s3 s4 s5=b3 S (l3 S n kx kr) kx kr s0 s1 s2 s3 s4 s5:=by kernel_rfl
noncomputable def G {β:Type}(S:Sl)(a0:(List (Int×(Int×(Int×Unit)))))(a1:Int)(a2:Int)(a3:Int)(K:(List (Int×(Int×(Int×Unit))))→Int→Bool→Option β):Option β:=l3 S S.n (fun y1 y2=>K y1 y2 false) (fun y3 y4 y5=>K y3 y4 y5) a0 a1 a2 a3 (S.w (a2+1)) 0
noncomputable def o:Orac:=⟨121,sin,sout,fun s K=>G sl0 s.1.1 s.1.2.1.1 s.2.1 s.2.2.1 (fun x0 x1 x2=>K ((x0,((x1,()),())),(x2,())))⟩
noncomputable def C:Ctx:=⟨tyT,[impl_ranks_1.o],[⟨3,0,h3,x3,y3,fun s kx kr=>r3 sl0 sl0.n kx kr s⟩,⟨5,2,h5,x5,y5,fun s kx kr=>r5 sl0 sl0.n kx kr s⟩,⟨14,4,h14,x14,y14,fun s kx kr=>r14 sl0 sl0.n kx kr s⟩,⟨20,6,h20,x20,y20,fun s kx kr=>r20 sl0 sl0.n kx kr s⟩],141,2⟩
theorem ctx:CtxOk Try.prog C:=⟨tyOk,all1 impl_ranks_1.ok (all0)⟩
theorem e20 (β:Type)(L:h20.sig.den→Option β)(kx:x20.sig.den→Option β)(kr:y20.sig.den→Option β)(s:h20.sig.den):evalBody C (nthC (loopsOf (bodyC Try.f121)) 3) 6 h20 x20 y20 L kx kr s=b20 sl0 (fun x0 x1 x2 x3 x4 x5 x6=>L ((x0,((x1,()),())),(x2,(x3,(x4,(x5,(x6,()))))))) (fun x0 x1 x2 x3 x4 x5=>kx ((x0,((x1,()),())),(x2,(x3,(x4,(x5,())))))) (kr ((),())) s.1.1 s.1.2.1.1 s.2.1 s.2.2.1 s.2.2.2.1 s.2.2.2.2.1 s.2.2.2.2.2.1:=by kernel_rfl
theorem g20:LS Try.prog C ⟨20,6,h20,x20,y20,fun s kx kr=>r20 sl0 sl0.n kx kr s⟩ (loopsOf (bodyC Try.f121)):=LS.at (i:=3) (by kernel_rfl) (loop_good mixed ctx (ctx_nat ctx) (N:=sl0.n) (fun _ _ _ _=>rfl) e20 (all1 (LS.none (by kernel_rfl)) (all1 (LS.none (by kernel_rfl)) (all1 (LS.none (by kernel_rfl)) (all1 (LS.none (by kernel_rfl)) (all0))))))
theorem e14 (β:Type)(L:h14.sig.den→Option β)(kx:x14.sig.den→Option β)(kr:y14.sig.den→Option β)(s:h14.sig.den):evalBody C (nthC (loopsOf (bodyC Try.f121)) 2) 4 h14 x14 y14 L kx kr s=b14 sl0 (fun x0 x1 x2 x3 x4 x5 x6=>L ((x0,((x1,()),())),(x2,(x3,(x4,(x5,(x6,()))))))) (fun x0 x1 x2 x3 x4 x5=>kx ((x0,((x1,()),())),(x2,(x3,(x4,(x5,())))))) (kr ((),())) s.1.1 s.1.2.1.1 s.2.1 s.2.2.1 s.2.2.2.1 s.2.2.2.2.1 s.2.2.2.2.2.1:=by kernel_rfl
theorem g14:LS Try.prog C ⟨14,4,h14,x14,y14,fun s kx kr=>r14 sl0 sl0.n kx kr s⟩ (loopsOf (bodyC Try.f121)):=LS.at (i:=2) (by kernel_rfl) (loop_good mixed ctx (ctx_nat ctx) (N:=sl0.n) (fun _ _ _ _=>rfl) e14 (all1 (LS.none (by kernel_rfl)) (all1 (LS.none (by kernel_rfl)) (all1 (LS.none (by kernel_rfl)) (all1 (LS.none (by kernel_rfl)) (all0))))))
theorem e5 (β:Type)(L:h5.sig.den→Option β)(kx:x5.sig.den→Option β)(kr:y5.sig.den→Option β)(s:h5.sig.den):evalBody C (nthC (loopsOf (bodyC Try.f121)) 1) 2 h5 x5 y5 L kx kr s=b5 sl0 (fun x0 x1 x2 x3 x4 x5=>L ((x0,((x1,()),())),(x2,(x3,(x4,(x5,())))))) (fun x0 x1 x2 x3 x4 x5=>kx ((x0,((x1,()),())),(x2,(x3,(x4,(x5,())))))) (kr ((),())) s.1.1 s.1.2.1.1 s.2.1 s.2.2.1 s.2.2.2.1 s.2.2.2.2.1:=by kernel_rfl
theorem g5:LS Try.prog C ⟨5,2,h5,x5,y5,fun s kx kr=>r5 sl0 sl0.n kx kr s⟩ (loopsOf (bodyC Try.f121)):=LS.at (i:=1) (by kernel_rfl) (loop_good mixed ctx (ctx_nat ctx) (N:=sl0.n) (fun _ _ _ _=>rfl) e5 (all1 (LS.none (by kernel_rfl)) (all1 (LS.none (by kernel_rfl)) (all1 (LS.none (by kernel_rfl)) (all1 (LS.none (by kernel_rfl)) (all0))))))
theorem e3 (β:Type)(L:h3.sig.den→Option β)(kx:x3.sig.den→Option β)(kr:y3.sig.den→Option β)(s:h3.sig.den):evalBody C (nthC (loopsOf (bodyC Try.f121)) 0) 0 h3 x3 y3 L kx kr s=b3 sl0 (fun x0 x1 x2 x3 x4 x5=>L ((x0,((x1,()),())),(x2,(x3,(x4,(x5,())))))) (fun x0 x1=>kx ((x0,((x1,()),())),())) (fun x0 x1 x2=>kr ((x0,((x1,()),())),(x2,()))) s.1.1 s.1.2.1.1 s.2.1 s.2.2.1 s.2.2.2.1 s.2.2.2.2.1:=by kernel_rfl
theorem g3:LS Try.prog C ⟨3,0,h3,x3,y3,fun s kx kr=>r3 sl0 sl0.n kx kr s⟩ (loopsOf (bodyC Try.f121)):=LS.at (i:=0) (by kernel_rfl) (loop_good mixed ctx (ctx_nat ctx) (N:=sl0.n) (fun _ _ _ _=>rfl) e3 (all1 (LS.none (by kernel_rfl)) (all1 ((g5).sub (nthC_mem (by kernel_rfl))) (all1 ((g14).sub (nthC_mem (by kernel_rfl))) (all1 ((g20).sub (nthC_mem (by kernel_rfl))) (all0))))))
theorem eG (β:Type)(s:sin.den)(K:sout.den→Option β):evalFn C Try.f121 sin sout s K=o.F s K:=by kernel_rfl
theorem ok:OracOk Try.prog o:=fn_ok mixed Try.func121 (by kernel_rfl) ctx (c:=bodyC Try.f121) (by kernel_rfl) (all1 g3 (all1 g5 (all1 g14 (all1 g20 (all0))))) (by kernel_rfl) (by kernel_rfl) (by kernel_rfl) (Nat.le_of_ble_eq_true (by kernel_rfl)) eG (by kernel_rfl) (Nat.le_of_ble_eq_true (by kernel_rfl))
end slices_partialInsertionSortCmpFunc_impl_House
namespace slices_reverseRangeCmpFunc_impl_House
def sin:Sig:=⟨[.buf (.pair I (.pair I (.pair I .unit))) false,.box [.val I false]],[.one (.ref (.own 0)),.one (.val I false),.one (.val I false),.one (.ref (.fn 90 [1]))]⟩
def sout:Sig:=⟨[.buf (.pair I (.pair I (.pair I .unit))) false,.box [.val I false]],[]⟩
def h2:SS:=⟨[0,8,9],⟨[.buf (.pair I (.pair I (.pair I .unit))) false,.box [.val I false]],[.one (.ref (.own 0)),.one (.val I false),.one (.val I false)]⟩⟩
def x2:SS:=⟨[],⟨[.buf (.pair I (.pair I (.pair I .unit))) false,.box [.val I false]],[]⟩⟩
def y2:SS:=⟨[],⟨[],[]⟩⟩
noncomputable def b2 {β:Type}(S:Sl)(L:(List (Int×(Int×(Int×Unit))))→Int→Int→Int→Option β)(kx:(List (Int×(Int×(Int×Unit))))→Int→Option β)(kr:Option β)(s0:(List (Int×(Int×(Int×Unit)))))(s1:Int)(s2:Int)(s3:Int):Option β:=bif(S.lt s2 s3)then(bif(S.ir s3 s0.length)then(bif(S.ir s2 s0.length)then(bif(S.ir s2 s0.length)then(bif(S.ir s3 (List.set s0 (Int.toNat s2) ((List.getD s0 (Int.toNat s3) (0,(0,(0,())))).1,((List.getD s0 (Int.toNat s3) (0,(0,(0,())))).2.1,((List.getD s0 (Int.toNat s3) (0,(0,(0,())))).2.2.1,())))).length)then(L (List.set (List.set s0 (Int.toNat s2) ((List.getD s0 (Int.toNat s3) (0,(0,(0,())))).1,((List.getD s0 (Int.toNat s3) (0,(0,(0,())))).2.1,((List.getD s0 (Int.toNat s3) (0,(0,(0,())))).2.2.1,())))) (Int.toNat s3) ((List.getD s0 (Int.toNat s2) (0,(0,(0,())))).1,((List.getD s0 (Int.toNat s2) (0,(0,(0,())))).2.1,((List.getD s0 (Int.toNat s2) (0,(0,(0,())))).2.2.1,())))) s1 (S.w (s2+1)) (S.w (s3-1)))else(none))else(none))else(none))else(none))else(kx s0 s1)
noncomputable def r2 {β:Type}(S:Sl)(n:Nat)(kx:x2.sig.den→Option β)(kr:y2.sig.den→Option β)(s:h2.sig.den):Option β:=rounds (fun L kx kr s=>b2 S (fun x0 x1 x2 x3=>L ((x0,((x1,()),())),(x2,(x3,())))) (fun x0 x1=>kx ((x0,((x1,()),())),())) (kr ((),())) s.1.1 s.1.2.1.1 s.2.1 s.2.2.1) kx kr n s
noncomputable def l2 {β:Type}(S:Sl)(n:Nat)(kx:(List (Int×(Int×(Int×Unit))))→Int→Option β)(kr:Option β)(s0:(List (Int×(Int×(Int×Unit)))))(s1:Int)(s2:Int)(s3:Int):Option β:=r2 S n (fun s=>kx s.1.1 s.1.2.1.1) (fun s=>kr) ((s0,((s1,()),())),(s2,(s3,())))
theorem t2 {β:Type}(S:Sl)(n:Nat)(kx:(List (Int×(Int×(Int×Unit))))→Int→Option β)(kr:Option β)(s0:(List (Int×(Int×(Int×Unit)))))(s1:Int)(s2:Int)(s3:Int):l2 S (n+1) kx kr s0 s1 s2 s3=b2 S (l2 S n kx kr) kx kr s0 s1 s2 s3:=by kernel_rfl
noncomputable def G {β:Type}(S:Sl)(a0:(List (Int×(Int×(Int×Unit)))))(a1:Int)(a2:Int)(a3:Int)(K:(List (Int×(Int×(Int×Unit))))→Int→Option β):Option β:=l2 S S.n (fun y1 y2=>K y1 y2) none a0 a1 a2 (S.w (a3-1))
noncomputable def o:Orac:=⟨120,sin,sout,fun s K=>G sl0 s.1.1 s.1.2.1.1 s.2.1 s.2.2.1 (fun x0 x1=>K ((x0,((x1,()),())),()))⟩
noncomputable def C:Ctx:=⟨tyT,[],[⟨2,0,h2,x2,y2,fun s kx kr=>r2 sl0 sl0.n kx kr s⟩],34,2⟩
theorem ctx:CtxOk Try.prog C:=⟨tyOk,all0⟩
theorem e2 (β:Type)(L:h2.sig.den→Option β)(kx:x2.sig.den→Option β)(kr:y2.sig.den→Option β)(s:h2.sig.den):evalBody C (nthC (loopsOf (bodyC Try.f120)) 0) 0 h2 x2 y2 L kx kr s=b2 sl0 (fun x0 x1 x2 x3=>L ((x0,((x1,()),())),(x2,(x3,())))) (fun x0 x1=>kx ((x0,((x1,()),())),())) (kr ((),())) s.1.1 s.1.2.1.1 s.2.1 s.2.2.1:=by kernel_rfl
theorem g2:LS Try.prog C ⟨2,0,h2,x2,y2,fun s kx kr=>r2 sl0 sl0.n kx kr s⟩ (loopsOf (bodyC Try.f120)):=LS.at (i:=0) (by kernel_rfl) (loop_good mixed ctx (ctx_nat ctx) (N:=sl0.n) (fun _ _ _ _=>rfl) e2 (all1 (LS.none (by kernel_rfl)) (all0)))
theorem eG (β:Type)(s:sin.den)(K:sout.den→Option β):evalFn C Try.f120 sin sout s K=o.F s K:=by kernel_rfl
theorem ok:OracOk Try.prog o:=fn_ok mixed Try.func120 (by kernel_rfl) ctx (c:=bodyC Try.f120) (by kernel_rfl) (all1 g2 (all0)) (by kernel_rfl) (by kernel_rfl) (by kernel_rfl) (Nat.le_of_ble_eq_true (by kernel_rfl)) eG (by kernel_rfl) (Nat.le_of_ble_eq_true (by kernel_rfl))
end slices_reverseRangeCmpFunc_impl_House
namespace slices_pdqsortCmpFunc_impl_House
def sin:Sig:=⟨[.buf (.pair I (.pair I (.pair I .unit))) false,.box [.val I false]],[.one (.ref (.own 0)),.one (.val I false),.one (.val I false),.one (.val I false),.one (.ref (.fn 90 [1]))]⟩
def sout:Sig:=⟨[.buf (.pair I (.pair I (.pair I .unit))) false,.box [.val I false]],[]⟩
def h2:SS:=⟨[0,1,2,3,4,10,11],⟨[.buf (.pair I (.pair I (.pair I .unit))) false,.box [.val I false]],[.one (.ref (.own 0)),.one (.val I false),.one (.val I false),.one (.val I false),.one (.ref (.fn 90 [1])),.one (.val .bool false),.one (.val .bool false)]⟩⟩
def x2:SS:=⟨[],⟨[],[]⟩⟩
def y2:SS:=⟨[],⟨[.buf (.pair I (.pair I (.pair I .unit))) false,.box [.val I false]],[]⟩⟩
noncomputable def b2 {β:Type}(S:Sl)(L:(List (Int×(Int×(Int×Unit))))→Int→Int→Int→Int→Bool→Bool→Option β)(kx:Option β)(kr:(List (Int×(Int×(Int×Unit))))→Int→Option β)(s0:(List (Int×(Int×(Int×Unit)))))(s1:Int)(s2:Int)(s3:Int)(s4:Int)(s5:Bool)(s6:Bool):Option β:=bif(S.le (S.w (s3-s2)) 12)then(slices_insertionSortCmpFunc_impl_House.G S s0 s1 s2 s3 (fun y1 y2=>kr y1 y2))else(bif(S.eq s4 0)then(slices_heapSortCmpFunc_impl_House.G S s0 s1 s2 s3 (fun y3 y4=>kr y3 y4))else(bif(!s5)then(slices_breakPatternsCmpFunc_impl_House.G S s0 s1 s2 s3 (fun y5 y6=>slices_choosePivotCmpFunc_impl_House.G S y5 y6 s2 s3 (fun y7 y8 y9 y10=>bif(S.eq y10 2)then(slices_reverseRangeCmpFunc_impl_House.G S y7 y8 s2 s3 (fun y11 y12=>bif s5 then(bif s6 then(bif(S.eq (1:Int) 1)then(slices_partialInsertionSortCmpFunc_impl_House.G S y11 y12 s2 s3 (fun y13 y14 y15=>bif y15 then(kr y13 y14)else(bif(S.lt 0 s2)then(bif(S.ir (S.w (s2-1)) y13.length)then(bif(S.ir (S.w ((S.w (s3-1))-(S.w (y9-s2)))) y13.length)then(impl_ranks_1.G S y14 ((List.getD y13 (Int.toNat (S.w (s2-1))) (0,(0,(0,())))).1) ((List.getD y13 (Int.toNat (S.w (s2-1))) (0,(0,(0,())))).2.1) ((List.getD y13 (Int.toNat (S.w (s2-1))) (0,(0,(0,())))).2.2.1) ((List.getD y13 (Int.toNat (S.w ((S.w (s3-1))-(S.w (y9-s2))))) (0,(0,(0,())))).1) ((List.getD y13 (Int.toNat (S.w ((S.w (s3-1))-(S.w (y9-s2))))) (0,(0,(0,())))).2.1) ((List.getD y13 (Int.toNat (S.w ((S.w (s3-1))-(S.w (y9-s2))))) (0,(0,(0,())))).2.2.1) (fun y16 y17=>bif(!(S.lt y17 0))then(none)else(none)))else(none))else(none))else(none))))else(bif(S.lt 0 s2)then(bif(S.ir (S.w (s2-1)) y11.length)then(bif(S.ir (S.w ((S.w (s3-1))-(S.w (y9-s2)))) y11.length)then(impl_ranks_1.G S y12 ((List.getD y11 (Int.toNat (S.w (s2-1))) (0,(0,(0,())))).1) ((List.getD y11 (Int.toNat (S.w (s2-1))) (0,(0,(0,())))).2.1) ((List.getD y11 (Int.toNat (S.w (s2-1))) (0,(0,(0,())))).2.2.1) ((List.getD y11 (Int.toNat (S.w ((S.w (s3-1))-(S.w (y9-s2))))) (0,(0,(0,())))).1) ((List.getD y11 (Int.toNat (S.w ((S.w (s3-1))-(S.w (y9-s2))))) (0,(0,(0,())))).2.1) ((List.getD y11 (Int.toNat (S.w ((S.w (s3-1))-(S.w (y9-s2))))) (0,(0,(0,())))).2.2.1) (fun y18 y19=>bif(!(S.lt y19 0))then(none)else(none)))else(none))else(none))else(none)))else(bif(S.lt 0 s2)then(bif(S.ir (S.w (s2-1)) y11.length)then(bif(S.ir (S.w ((S.w (s3-1))-(S.w (y9-s2)))) y11.length)then(impl_ranks_1.G S y12 ((List.getD y11 (Int.toNat (S.w (s2-1))) (0,(0,(0,())))).1) ((List.getD y11 (Int.toNat (S.w (s2-1))) (0,(0,(0,())))).2.1) ((List.getD y11 (Int.toNat (S.w (s2-1))) (0,(0,(0,())))).2.2.1) ((List.getD y11 (Int.toNat (S.w ((S.w (s3-1))-(S.w (y9-s2))))) (0,(0,(0,())))).1) ((List.getD y11 (Int.toNat (S.w ((S.w (s3-1))-(S.w (y9-s2))))) (0,(0,(0,())))).2.1) ((List.getD y11 (Int.toNat (S.w ((S.w (s3-1))-(S.w (y9-s2))))) (0,(0,(0,())))).2.2.1) (fun y20 y21=>bif(!(S.lt y21 0))then(none)else(none)))else(none))else(none))else(none)))else(bif(S.lt 0 s2)then(bif(S.ir (S.w (s2-1)) y11.length)then(bif(S.ir (S.w ((S.w (s3-1))-(S.w (y9-s2)))) y11.length)then(impl_ranks_1.G S y12 ((List.getD y11 (Int.toNat (S.w (s2-1))) (0,(0,(0,())))).1) ((List.getD y11 (Int.toNat (S.w (s2-1))) (0,(0,(0,())))).2.1) ((List.getD y11 (Int.toNat (S.w (s2-1))) (0,(0,(0,())))).2.2.1) ((List.getD y11 (Int.toNat (S.w ((S.w (s3-1))-(S.w (y9-s2))))) (0,(0,(0,())))).1) ((List.getD y11 (Int.toNat (S.w ((S.w (s3-1))-(S.w (y9-s2))))) (0,(0,(0,())))).2.1) ((List.getD y11 (Int.toNat (S.w ((S.w (s3-1))-(S.w (y9-s2))))) (0,(0,(0,())))).2.2.1) (fun y22 y23=>bif(!(S.lt y23 0))then(none)else(none)))else(none))else(none))else(none))))else(bif s5 then(bif s6 then(bif(S.eq y10 1)then(slices_partialInsertionSortCmpFunc_impl_House.G S y7 y8 s2 s3 (fun y24 y25 y26=>bif y26 then(kr y24 y25)else(bif(S.lt 0 s2)then(bif(S.ir (S.w (s2-1)) y24.length)then(bif(S.ir y9 y24.length)then(impl_ranks_1.G S y25 ((List.getD y24 (Int.toNat (S.w (s2-1))) (0,(0,(0,())))).1) ((List.getD y24 (Int.toNat (S.w (s2-1))) (0,(0,(0,())))).2.1) ((List.getD y24 (Int.toNat (S.w (s2-1))) (0,(0,(0,())))).2.2.1) ((List.getD y24 (Int.toNat y9) (0,(0,(0,())))).1) ((List.getD y24 (Int.toNat y9) (0,(0,(0,())))).2.1) ((List.getD y24 (Int.toNat y9) (0,(0,(0,())))).2.2.1) (fun y27 y28=>bif(!(S.lt y28 0))then(none)else(none)))else(none))else(none))else(none))))else(bif(S.lt 0 s2)then(bif(S.ir (S.w (s2-1)) y7.length)then(bif(S.ir y9 y7.length)then(impl_ranks_1.G S y8 ((List.getD y7 (Int.toNat (S.w (s2-1))) (0,(0,(0,())))).1) ((List.getD y7 (Int.toNat (S.w (s2-1))) (0,(0,(0,())))).2.1) ((List.getD y7 (Int.toNat (S.w (s2-1))) (0,(0,(0,())))).2.2.1) ((List.getD y7 (Int.toNat y9) (0,(0,(0,())))).1) ((List.getD y7 (Int.toNat y9) (0,(0,(0,())))).2.1) ((List.getD y7 (Int.toNat y9) (0,(0,(0,())))).2.2.1) (fun y29 y30=>bif(!(S.lt y30 0))then(none)else(none)))else(none))else(none))else(none)))else(bif(S.lt 0 s2)then(bif(S.ir (S.w (s2-1)) y7.length)then(bif(S.ir y9 y7.length)then(impl_ranks_1.G S y8 ((List.getD y7 (Int.toNat (S.w (s2-1))) (0,(0,(0,())))).1) ((List.getD y7 (Int.toNat (S.w (s2-1))) (0,(0,(0,())))).2.1) ((List.getD y7 (Int.toNat (S.w (s2-1))) (0,(0,(0,())))).2.2.1) ((List.getD y7 (Int.toNat y9) (0,(0,(0,())))).1) ((List.getD y7 (Int.toNat y9) (0,(0,(0,())))).2.1) ((List.getD y7 (Int.toNat y9) (0,(0,(0,())))).2.2.1) (fun y31 y32=>bif(!(S.lt y32 0))then(none)else(none)))else(none))else(none))else(none)))else(bif(S.lt 0 s2)then(bif(S.ir (S.w (s2-1)) y7.length)then(bif(S.ir y9 y7.length)then(impl_ranks_1.G S y8 ((List.getD y7 (Int.toNat (S.w (s2-1))) (0,(0,(0,())))).1) ((List.getD y7 (Int.toNat (S.w (s2-1))) (0,(0,(0,())))).2.1) ((List.getD y7 (Int.toNat (S.w (s2-1))) (0,(0,(0,())))).2.2.1) ((List.getD y7 (Int.toNat y9) (0,(0,(0,())))).1) ((List.getD y7 (Int.toNat y9) (0,(0,(0,())))).2.1) ((List.getD y7 (Int.toNat y9) (0,(0,(0,())))).2.2.1) (fun y33 y34=>bif(!(S.lt y34 0))then(none)else(none)))else(none))else(none))else(none))))))else(slices_choosePivotCmpFunc_impl_House.G S s0 s1 s2 s3 (fun y35 y36 y37 y38=>bif(S.eq y38 2)then(slices_reverseRangeCmpFunc_impl_House.G S y35 y36 s2 s3 (fun y39 y40=>bif s5 then(bif s6 then(bif(S.eq (1:Int) 1)then(slices_partialInsertionSortCmpFunc_impl_House.G S y39 y40 s2 s3 (fun y41 y42 y43=>bif y43 then(kr y41 y42)else(bif(S.lt 0 s2)then(bif(S.ir (S.w (s2-1)) y41.length)then(bif(S.ir (S.w ((S.w (s3-1))-(S.w (y37-s2)))) y41.length)then(impl_ranks_1.G S y42 ((List.getD y41 (Int.toNat (S.w (s2-1))) (0,(0,(0,())))).1) ((List.getD y41 (Int.toNat (S.w (s2-1))) (0,(0,(0,())))).2.1) ((List.getD y41 (Int.toNat (S.w (s2-1))) (0,(0,(0,())))).2.2.1) ((List.getD y41 (Int.toNat (S.w ((S.w (s3-1))-(S.w (y37-s2))))) (0,(0,(0,())))).1) ((List.getD y41 (Int.toNat (S.w ((S.w (s3-1))-(S.w (y37-s2))))) (0,(0,(0,())))).2.1) ((List.getD y41 (Int.toNat (S.w ((S.w (s3-1))-(S.w (y37-s2))))) (0,(0,(0,())))).2.2.1) (fun y44 y45=>bif(!(S.lt y45 0))then(none)else(none)))else(none))else(none))else(none))))else(bif(S.lt 0 s2)then(bif(S.ir (S.w (s2-1)) y39.length)then(bif(S.ir (S.w ((S.w (s3-1))-(S.w (y37-s2)))) y39.length)then(impl_ranks_1.G S y40 ((List.getD y39 (Int.toNat (S.w (s2-1))) (0,(0,(0,())))).1) ((List.getD y39 (Int.toNat (S.w (s2-1))) (0,(0,(0,())))).2.1) ((List.getD y39 (Int.toNat (S.w (s2-1))) (0,(0,(0,())))).2.2.1) ((List.getD y39 (Int.toNat (S.w ((S.w (s3-1))-(S.w (y37-s2))))) (0,(0,(0,())))).1) ((List.getD y39 (Int.toNat (S.w ((S.w (s3-1))-(S.w (y37-s2))))) (0,(0,(0,())))).2.1) ((List.getD y39 (Int.toNat (S.w ((S.w (s3-1))-(S.w (y37-s2))))) (0,(0,(0,())))).2.2.1) (fun y46 y47=>bif(!(S.lt y47 0))then(none)else(none)))else(none))else(none))else(none)))else(bif(S.lt 0 s2)then(bif(S.ir (S.w (s2-1)) y39.length)then(bif(S.ir (S.w ((S.w (s3-1))-(S.w (y37-s2)))) y39.length)then(impl_ranks_1.G S y40 ((List.getD y39 (Int.toNat (S.w (s2-1))) (0,(0,(0,())))).1) ((List.getD y39 (Int.toNat (S.w (s2-1))) (0,(0,(0,())))).2.1) ((List.getD y39 (Int.toNat (S.w (s2-1))) (0,(0,(0,())))).2.2.1) ((List.getD y39 (Int.toNat (S.w ((S.w (s3-1))-(S.w (y37-s2))))) (0,(0,(0,())))).1) ((List.getD y39 (Int.toNat (S.w ((S.w (s3-1))-(S.w (y37-s2))))) (0,(0,(0,())))).2.1) ((List.getD y39 (Int.toNat (S.w ((S.w (s3-1))-(S.w (y37-s2))))) (0,(0,(0,())))).2.2.1) (fun y48 y49=>bif(!(S.lt y49 0))then(none)else(none)))else(none))else(none))else(none)))else(bif(S.lt 0 s2)then(bif(S.ir (S.w (s2-1)) y39.length)then(bif(S.ir (S.w ((S.w (s3-1))-(S.w (y37-s2)))) y39.length)then(impl_ranks_1.G S y40 ((List.getD y39 (Int.toNat (S.w (s2-1))) (0,(0,(0,())))).1) ((List.getD y39 (Int.toNat (S.w (s2-1))) (0,(0,(0,())))).2.1) ((List.getD y39 (Int.toNat (S.w (s2-1))) (0,(0,(0,())))).2.2.1) ((List.getD y39 (Int.toNat (S.w ((S.w (s3-1))-(S.w (y37-s2))))) (0,(0,(0,())))).1) ((List.getD y39 (Int.toNat (S.w ((S.w (s3-1))-(S.w (y37-s2))))) (0,(0,(0,())))).2.1) ((List.getD y39 (Int.toNat (S.w ((S.w (s3-1))-(S.w (y37-s2))))) (0,(0,(0,())))).2.2.1) (fun y50 y51=>bif(!(S.lt y51 0))then(none)else(none)))else(none))else(none))else(none))))else(bif s5 then(bif s6 then(bif(S.eq y38 1)then(slices_partialInsertionSortCmpFunc_impl_House.G S y35 y36 s2 s3 (fun y52 y53 y54=>bif y54 then(kr y52 y53)else(bif(S.lt 0 s2)then(bif(S.ir (S.w (s2-1)) y52.length)then(bif(S.ir y37 y52.length)then(impl_ranks_1.G S y53 ((List.getD y52 (Int.toNat (S.w (s2-1))) (0,(0,(0,())))).1) ((List.getD y52 (Int.toNat (S.w (s2-1))) (0,(0,(0,())))).2.1) ((List.getD y52 (Int.toNat (S.w (s2-1))) (0,(0,(0,())))).2.2.1) ((List.getD y52 (Int.toNat y37) (0,(0,(0,())))).1) ((List.getD y52 (Int.toNat y37) (0,(0,(0,())))).2.1) ((List.getD y52 (Int.toNat y37) (0,(0,(0,())))).2.2.1) (fun y55 y56=>bif(!(S.lt y56 0))then(none)else(none)))else(none))else(none))else(none))))else(bif(S.lt 0 s2)then(bif(S.ir (S.w (s2-1)) y35.length)then(bif(S.ir y37 y35.length)then(impl_ranks_1.G S y36 ((List.getD y35 (Int.toNat (S.w (s2-1))) (0,(0,(0,())))).1) ((List.getD y35 (Int.toNat (S.w (s2-1))) (0,(0,(0,())))).2.1) ((List.getD y35 (Int.toNat (S.w (s2-1))) (0,(0,(0,())))).2.2.1) ((List.getD y35 (Int.toNat y37) (0,(0,(0,())))).1) ((List.getD y35 (Int.toNat y37) (0,(0,(0,())))).2.1) ((List.getD y35 (Int.toNat y37) (0,(0,(0,())))).2.2.1) (fun y57 y58=>bif(!(S.lt y58 0))then(none)else(none)))else(none))else(none))else(none)))else(bif(S.lt 0 s2)then(bif(S.ir (S.w (s2-1)) y35.length)then(bif(S.ir y37 y35.length)then(impl_ranks_1.G S y36 ((List.getD y35 (Int.toNat (S.w (s2-1))) (0,(0,(0,())))).1) ((List.getD y35 (Int.toNat (S.w (s2-1))) (0,(0,(0,())))).2.1) ((List.getD y35 (Int.toNat (S.w (s2-1))) (0,(0,(0,())))).2.2.1) ((List.getD y35 (Int.toNat y37) (0,(0,(0,())))).1) ((List.getD y35 (Int.toNat y37) (0,(0,(0,())))).2.1) ((List.getD y35 (Int.toNat y37) (0,(0,(0,())))).2.2.1) (fun y59 y60=>bif(!(S.lt y60 0))then(none)else(none)))else(none))else(none))else(none)))else(bif(S.lt 0 s2)then(bif(S.ir (S.w (s2-1)) y35.length)then(bif(S.ir y37 y35.length)then(impl_ranks_1.G S y36 ((List.getD y35 (Int.toNat (S.w (s2-1))) (0,(0,(0,())))).1) ((List.getD y35 (Int.toNat (S.w (s2-1))) (0,(0,(0,())))).2.1) ((List.getD y35 (Int.toNat (S.w (s2-1))) (0,(0,(0,())))).2.2.1) ((List.getD y35 (Int.toNat y37) (0,(0,(0,())))).1) ((List.getD y35 (Int.toNat y37) (0,(0,(0,())))).2.1) ((List.getD y35 (Int.toNat y37) (0,(0,(0,())))).2.2.1) (fun y61 y62=>bif(!(S.lt y62 0))then(none)else(none)))else(none))else(none))else(none)))))))
noncomputable def r2 {β:Type}(S:Sl)(n:Nat)(kx:x2.sig.den→Option β)(kr:y2.sig.den→Option β)(s:h2.sig.den):Option β:=rounds (fun L kx kr s=>b2 S (fun x0 x1 x2 x3 x4 x5 x6=>L ((x0,((x1,()),())),(x2,(x3,(x4,(x5,(x6,()))))))) (kx ((),())) (fun x0 x1=>kr ((x0,((x1,()),())),())) s.1.1 s.1.2.1.1 s.2.1 s.2.2.1 s.2.2.2.1 s.2.2.2.2.1 s.2.2.2.2.2.1) kx kr n s
noncomputable def l2 {β:Type}(S:Sl)(n:Nat)(kx:Option β)(kr:(List (Int×(Int×(Int×Unit))))→Int→Option β)(s0:(List (Int×(Int×(Int×Unit)))))(s1:Int)(s2:Int)(s3:Int)(s4:Int)(s5:Bool)(s6:Bool):Option β:=r2 S n (fun s=>kx) (fun s=>kr s.1.1 s.1.2.1.1) ((s0,((s1,()),())),(s2,(s3,(s4,(s5,(s6,()))))))
theorem t2 {β:Type}(S:Sl)(n:Nat)(kx:Option β)(kr:(List (Int×(Int×(Int×Unit))))→Int→Option β)(s0:(List (Int×(Int×(Int×Unit)))))(s1:Int)(s2:Int)(s3:Int)(s4:Int)(s5:Bool)(s6:Bool):l2 S (n+1) kx kr s0 s1 s2 s3 s4 s5 s6=b2 S (l2 S n kx kr) kx kr s0 s1 s2 s3 s4 s5 s6:=by kernel_rfl
noncomputable def G {β:Type}(S:Sl)(a0:(List (Int×(Int×(Int×Unit)))))(a1:Int)(a2:Int)(a3:Int)(a4:Int)(K:(List (Int×(Int×(Int×Unit))))→Int→Option β):Option β:=l2 S S.n none (fun y1 y2=>K y1 y2) a0 a1 a2 a3 a4 true true
noncomputable def o:Orac:=⟨108,sin,sout,fun s K=>G sl0 s.1.1 s.1.2.1.1 s.2.1 s.2.2.1 s.2.2.2.1 (fun x0 x1=>K ((x0,((x1,()),())),()))⟩
noncomputable def C:Ctx:=⟨tyT,[impl_ranks_1.o,slices_breakPatternsCmpFunc_impl_House.o,slices_choosePivotCmpFunc_impl_House.o,slices_heapSortCmpFunc_impl_House.o,slices_insertionSortCmpFunc_impl_House.o,slices_partialInsertionSortCmpFunc_impl_House.o,slices_reverseRangeCmpFunc_impl_House.o],[⟨2,999,h2,x2,y2,fun s kx kr=>r2 sl0 sl0.n kx kr s⟩],148,2⟩
theorem ctx:CtxOk Try.prog C:=⟨tyOk,all1 impl_ranks_1.ok (all1 slices_breakPatternsCmpFunc_impl_House.ok (all1 slices_choosePivotCmpFunc_impl_House.ok (all1 slices_heapSortCmpFunc_impl_House.ok (all1 slices_insertionSortCmpFunc_impl_House.ok (all1 slices_partialInsertionSortCmpFunc_impl_House.ok (all1 slices_reverseRangeCmpFunc_impl_House.ok (all0)))))))⟩
theorem e2 (β:Type)(L:h2.sig.den→Option β)(kx:x2.sig.den→Option β)(kr:y2.sig.den→Option β)(s:h2.sig.den):evalBody C (nthC (loopsOf (bodyC Try.f108)) 0) 999 h2 x2 y2 L kx kr s=b2 sl0 (fun x0 x1 x2 x3 x4 x5 x6=>L ((x0,((x1,()),())),(x2,(x3,(x4,(x5,(x6,()))))))) (kx ((),())) (fun x0 x1=>kr ((x0,((x1,()),())),())) s.1.1 s.1.2.1.1 s.2.1 s.2.2.1 s.2.2.2.1 s.2.2.2.2.1 s.2.2.2.2.2.1:=by kernel_rfl
theorem g2:LS Try.prog C ⟨2,999,h2,x2,y2,fun s kx kr=>r2 sl0 sl0.n kx kr s⟩ (loopsOf (bodyC Try.f108)):=LS.at (i:=0) (by kernel_rfl) (loop_good mixed ctx (ctx_nat ctx) (N:=sl0.n) (fun _ _ _ _=>rfl) e2 (all1 (LS.none (by kernel_rfl)) (all0)))
theorem eG (β:Type)(s:sin.den)(K:sout.den→Option β):evalFn C Try.f108 sin sout s K=o.F s K:=by kernel_rfl
theorem ok:OracOk Try.prog o:=fn_ok mixed Try.func108 (by kernel_rfl) ctx (c:=bodyC Try.f108) (by kernel_rfl) (all1 g2 (all0)) (by kernel_rfl) (by kernel_rfl) (by kernel_rfl) (Nat.le_of_ble_eq_true (by kernel_rfl)) eG (by kernel_rfl) (Nat.le_of_ble_eq_true (by kernel_rfl))
end slices_pdqsortCmpFunc_impl_House
namespace slices_SortFunc_Simpl_House_impl_House
def sin:Sig:=⟨[.buf (.pair I (.pair I (.pair I .unit))) false,.box [.val I false]],[.one (.ref (.own 0)),.one (.ref (.fn 90 [1]))]⟩
def sout:Sig:=⟨[.buf (.pair I (.pair I (.pair I .unit))) false,.box [.val I false]],[]⟩
noncomputable def G {β:Type}(S:Sl)(a0:(List (Int×(Int×(Int×Unit)))))(a1:Int)(K:(List (Int×(Int×(Int×Unit))))→Int→Option β):Option β:=math_bits_Len.G S (S.wr .u64 (a0.length:Int)) (fun y1=>slices_pdqsortCmpFunc_impl_House.G S a0 a1 0 (a0.length:Int) y1 (fun y2 y3=>K y2 y3))
noncomputable def o:Orac:=⟨89,sin,sout,fun s K=>G sl0 s.1.1 s.1.2.1.1 (fun x0 x1=>K ((x0,((x1,()),())),()))⟩
noncomputable def C:Ctx:=⟨tyT,[math_bits_Len.o,slices_pdqsortCmpFunc_impl_House.o],[],14,2⟩
theorem ctx:CtxOk Try.prog C:=⟨tyOk,all1 math_bits_Len.ok (all1 slices_pdqsortCmpFunc_impl_House.ok (all0))⟩
theorem eG (β:Type)(s:sin.den)(K:sout.den→Option β):evalFn C Try.f89 sin sout s K=o.F s K:=by kernel_rfl
theorem ok:OracOk Try.prog o:=fn_ok mixed Try.func89 (by kernel_rfl) ctx (c:=bodyC Try.f89) (by kernel_rfl) (all0) (by kernel_rfl) (by kernel_rfl) (by kernel_rfl) (Nat.le_of_ble_eq_true (by kernel_rfl)) eG (by kernel_rfl) (Nat.le_of_ble_eq_true (by kernel_rfl))
end slices_SortFunc_Simpl_House_impl_House
namespace impl_ranks
def sin:Sig:=⟨[],[.one (.val I false),.one (.val (.sl (.pair I (.pair I (.pair I .unit)))) false)]⟩
def sout:Sig:=⟨[.buf (.pair I (.pair I (.pair I .unit))) false],[.one (.ref (.own 0))]⟩
noncomputable def G {β:Type}(S:Sl)(a0:Int)(a1:(List (Int×(Int×(Int×Unit)))))(K:(List (Int×(Int×(Int×Unit))))→Option β):Option β:=slices_Clone_Simpl_House_impl_House.G S a1 (fun y1=>slices_SortFunc_Simpl_House_impl_House.G S y1 a0 (fun y2 y3=>K y2))
noncomputable def o:Orac:=⟨61,sin,sout,fun s K=>G sl0 s.2.1 s.2.2.1 (fun x0=>K ((x0,()),()))⟩
noncomputable def C:Ctx:=⟨tyT,[slices_Clone_Simpl_House_impl_House.o,slices_SortFunc_Simpl_House_impl_House.o],[],12,0⟩
theorem ctx:CtxOk Try.prog C:=⟨tyOk,all1 slices_Clone_Simpl_House_impl_House.ok (all1 slices_SortFunc_Simpl_House_impl_House.ok (all0))⟩
theorem eG (β:Type)(s:sin.den)(K:sout.den→Option β):evalFn C Try.f61 sin sout s K=o.F s K:=by kernel_rfl
theorem ok:OracOk Try.prog o:=fn_ok mixed Try.func61 (by kernel_rfl) ctx (c:=bodyC Try.f61) (by kernel_rfl) (all0) (by kernel_rfl) (by kernel_rfl) (by kernel_rfl) (Nat.le_of_ble_eq_true (by kernel_rfl)) eG (by kernel_rfl) (Nat.le_of_ble_eq_true (by kernel_rfl))
end impl_ranks
namespace impl_PlaceOf
def sin:Sig:=⟨[],[.one (.val I false),.one (.val (.sl (.pair I (.pair I (.pair I .unit)))) false)]⟩
def sout:Sig:=⟨[.buf I false],[.one (.ref (.own 0)),.one (.val .bool false)]⟩
def h6:SS:=⟨[6,7,21,22,23],⟨[.box [.val (.arr 5 I) false],.buf I false,.buf (.pair I (.pair I (.pair I .unit))) false],[.one (.ref (.ptr 0)),.one (.ref (.own 1)),.one (.ref (.own 2)),.one (.val I false),.one (.val I false)]⟩⟩
def x6:SS:=⟨[7],⟨[.buf I false],[.one (.ref (.own 0))]⟩⟩
def y6:SS:=⟨[],⟨[],[]⟩⟩
noncomputable def b6 {β:Type}(S:Sl)(L:(List Int)→(List Int)→(List (Int×(Int×(Int×Unit))))→Int→Int→Option β)(kx:(List Int)→Option β)(kr:Option β)(s0:(List Int))(s1:(List Int))(s2:(List (Int×(Int×(Int×Unit)))))(s3:Int)(s4:Int):Option β:=bif(S.lt s4 s3)then(bif(S.ir s4 s2.length)then(bif(S.lt (s1.length:Int) 8)then(bif(S.ir ((List.getD s2 (Int.toNat s4) (0,(0,(0,())))).2.1) 5)then(bif(S.lt (List.getD s0 (Int.toNat ((List.getD s2 (Int.toNat s4) (0,(0,(0,())))).2.1)) 0) 3)then(bif(S.fw (s1 ++ [(List.getD s2 (Int.toNat s4) (0,(0,(0,())))).1]).length)then(bif(S.ir ((List.getD s2 (Int.toNat s4) (0,(0,(0,())))).2.1) 5)then(bif(S.ir ((List.getD s2 (Int.toNat s4) (0,(0,(0,())))).2.1) 5)then(L (List.set s0 (Int.toNat ((List.getD s2 (Int.toNat s4) (0,(0,(0,())))).2.1)) (S.w ((List.getD s0 (Int.toNat ((List.getD s2 (Int.toNat s4) (0,(0,(0,())))).2.1)) 0)+1))) (s1 ++ [(List.getD s2 (Int.toNat s4) (0,(0,(0,())))).1]) s2 s3 (S.w (s4+1)))else(none))else(none))else(none))else(L s0 s1 s2 s3 (S.w (s4+1))))else(none))else(L s0 s1 s2 s3 (S.w (s4+1))))else(none))else(kx s1)
noncomputable def r6 {β:Type}(S:Sl)(n:Nat)(kx:x6.sig.den→Option β)(kr:y6.sig.den→Option β)(s:h6.sig.den):Option β:=rounds (fun L kx kr s=>b6 S (fun x0 x1 x2 x3 x4=>L (((x0,()),(x1,(x2,()))),(x3,(x4,())))) (fun x0=>kx ((x0,()),())) (kr ((),())) s.1.1.1 s.1.2.1 s.1.2.2.1 s.2.1 s.2.2.1) kx kr n s
noncomputable def l6 {β:Type}(S:Sl)(n:Nat)(kx:(List Int)→Option β)(kr:Option β)(s0:(List Int))(s1:(List Int))(s2:(List (Int×(Int×(Int×Unit)))))(s3:Int)(s4:Int):Option β:=r6 S n (fun s=>kx s.1.1) (fun s=>kr) (((s0,()),(s1,(s2,()))),(s3,(s4,())))
theorem t6 {β:Type}(S:Sl)(n:Nat)(kx:(List Int)→Option β)(kr:Option β)(s0:(List Int))(s1:(List Int))(s2:(List (Int×(Int×(Int×Unit)))))(s3:Int)(s4:Int):l6 S (n+1) kx kr s0 s1 s2 s3 s4=b6 S (l6 S n kx kr) kx kr s0 s1 s2 s3 s4:=by kernel_rfl
noncomputable def G {β:Type}(S:Sl)(a0:Int)(a1:(List (Int×(Int×(Int×Unit)))))(K:(List Int)→Bool→Option β):Option β:=impl_nameOk.G S a0 (fun y1=>bif(!y1)then(K [] false)else(impl_HousesOk.G S a1 (fun y2=>bif(!y2)then(K [] false)else(bif((S.le 0 0)&&(S.le 0 8)&&S.fw (Int.toNat 8))then(impl_ranks.G S a0 a1 (fun y3=>l6 S S.n (fun y4=>bif(S.lt (y4.length:Int) 8)then(K [] false)else(K y4 true)) none (List.replicate 5 0) (List.replicate (Int.toNat 0) (0:Int)) y3 (y3.length:Int) 0))else(none)))))
noncomputable def o:Orac:=⟨22,sin,sout,fun s K=>G sl0 s.2.1 s.2.2.1 (fun x0 x1=>K ((x0,()),(x1,())))⟩
noncomputable def C:Ctx:=⟨tyT,[impl_HousesOk.o,impl_nameOk.o,impl_ranks.o],[⟨6,0,h6,x6,y6,fun s kx kr=>r6 sl0 sl0.n kx kr s⟩],53,0⟩
theorem ctx:CtxOk Try.prog C:=⟨tyOk,all1 impl_HousesOk.ok (all1 impl_nameOk.ok (all1 impl_ranks.ok (all0)))⟩
theorem e6 (β:Type)(L:h6.sig.den→Option β)(kx:x6.sig.den→Option β)(kr:y6.sig.den→Option β)(s:h6.sig.den):evalBody C (nthC (loopsOf (bodyC Try.f22)) 0) 0 h6 x6 y6 L kx kr s=b6 sl0 (fun x0 x1 x2 x3 x4=>L (((x0,()),(x1,(x2,()))),(x3,(x4,())))) (fun x0=>kx ((x0,()),())) (kr ((),())) s.1.1.1 s.1.2.1 s.1.2.2.1 s.2.1 s.2.2.1:=by kernel_rfl
theorem g6:LS Try.prog C ⟨6,0,h6,x6,y6,fun s kx kr=>r6 sl0 sl0.n kx kr s⟩ (loopsOf (bodyC Try.f22)):=LS.at (i:=0) (by kernel_rfl) (loop_good mixed ctx (ctx_nat ctx) (N:=sl0.n) (fun _ _ _ _=>rfl) e6 (all1 (LS.none (by kernel_rfl)) (all0)))
theorem eG (β:Type)(s:sin.den)(K:sout.den→Option β):evalFn C Try.f22 sin sout s K=o.F s K:=by kernel_rfl
theorem ok:OracOk Try.prog o:=fn_ok mixed Try.func22 (by kernel_rfl) ctx (c:=bodyC Try.f22) (by kernel_rfl) (all1 g6 (all0)) (by kernel_rfl) (by kernel_rfl) (by kernel_rfl) (Nat.le_of_ble_eq_true (by kernel_rfl)) eG (by kernel_rfl) (Nat.le_of_ble_eq_true (by kernel_rfl))
end impl_PlaceOf
namespace impl_HouseRack
def sin:Sig:=⟨[],[.one (.val (.sl (.pair I (.pair I (.pair I .unit)))) false),.one (.val I false)]⟩
def sout:Sig:=⟨[],[.one (.val I false)]⟩
def h4:SS:=⟨[1,10,11,12],⟨[],[.one (.val I false),.one (.val (.sl (.pair I (.pair I (.pair I .unit)))) false),.one (.val I false),.one (.val I false)]⟩⟩
def x4:SS:=⟨[],⟨[],[]⟩⟩
def y4:SS:=⟨[4],⟨[],[.one (.val I false)]⟩⟩
noncomputable def b4 {β:Type}(S:Sl)(L:Int→(List (Int×(Int×(Int×Unit))))→Int→Int→Option β)(kx:Option β)(kr:Int→Option β)(s0:Int)(s1:(List (Int×(Int×(Int×Unit)))))(s2:Int)(s3:Int):Option β:=bif(S.lt s3 s2)then(bif(S.ir s3 s1.length)then(bif(S.eq ((List.getD s1 (Int.toNat s3) (0,(0,(0,())))).1) s0)then(kr ((List.getD s1 (Int.toNat s3) (0,(0,(0,())))).2.1))else(L s0 s1 s2 (S.w (s3+1))))else(none))else(kx)
noncomputable def r4 {β:Type}(S:Sl)(n:Nat)(kx:x4.sig.den→Option β)(kr:y4.sig.den→Option β)(s:h4.sig.den):Option β:=rounds (fun L kx kr s=>b4 S (fun x0 x1 x2 x3=>L ((),(x0,(x1,(x2,(x3,())))))) (kx ((),())) (fun x0=>kr ((),(x0,()))) s.2.1 s.2.2.1 s.2.2.2.1 s.2.2.2.2.1) kx kr n s
noncomputable def l4 {β:Type}(S:Sl)(n:Nat)(kx:Option β)(kr:Int→Option β)(s0:Int)(s1:(List (Int×(Int×(Int×Unit)))))(s2:Int)(s3:Int):Option β:=r4 S n (fun s=>kx) (fun s=>kr s.2.1) ((),(s0,(s1,(s2,(s3,())))))
theorem t4 {β:Type}(S:Sl)(n:Nat)(kx:Option β)(kr:Int→Option β)(s0:Int)(s1:(List (Int×(Int×(Int×Unit)))))(s2:Int)(s3:Int):l4 S (n+1) kx kr s0 s1 s2 s3=b4 S (l4 S n kx kr) kx kr s0 s1 s2 s3:=by kernel_rfl
noncomputable def G {β:Type}(S:Sl)(a0:(List (Int×(Int×(Int×Unit)))))(a1:Int)(K:Int→Option β):Option β:=impl_HousesOk.G S a0 (fun y1=>bif(!y1)then(K 0)else(l4 S S.n (K 0) (fun y2=>K y2) a1 a0 (a0.length:Int) 0))
noncomputable def o:Orac:=⟨70,sin,sout,fun s K=>G sl0 s.2.1 s.2.2.1 (fun x0=>K ((),(x0,())))⟩
noncomputable def C:Ctx:=⟨tyT,[impl_HousesOk.o],[⟨4,0,h4,x4,y4,fun s kx kr=>r4 sl0 sl0.n kx kr s⟩],23,0⟩
theorem ctx:CtxOk Try.prog C:=⟨tyOk,all1 impl_HousesOk.ok (all0)⟩
theorem e4 (β:Type)(L:h4.sig.den→Option β)(kx:x4.sig.den→Option β)(kr:y4.sig.den→Option β)(s:h4.sig.den):evalBody C (nthC (loopsOf (bodyC Try.f70)) 0) 0 h4 x4 y4 L kx kr s=b4 sl0 (fun x0 x1 x2 x3=>L ((),(x0,(x1,(x2,(x3,())))))) (kx ((),())) (fun x0=>kr ((),(x0,()))) s.2.1 s.2.2.1 s.2.2.2.1 s.2.2.2.2.1:=by kernel_rfl
theorem g4:LS Try.prog C ⟨4,0,h4,x4,y4,fun s kx kr=>r4 sl0 sl0.n kx kr s⟩ (loopsOf (bodyC Try.f70)):=LS.at (i:=0) (by kernel_rfl) (loop_good mixed ctx (ctx_nat ctx) (N:=sl0.n) (fun _ _ _ _=>rfl) e4 (all1 (LS.none (by kernel_rfl)) (all0)))
theorem eG (β:Type)(s:sin.den)(K:sout.den→Option β):evalFn C Try.f70 sin sout s K=o.F s K:=by kernel_rfl
theorem ok:OracOk Try.prog o:=fn_ok mixed Try.func70 (by kernel_rfl) ctx (c:=bodyC Try.f70) (by kernel_rfl) (all1 g4 (all0)) (by kernel_rfl) (by kernel_rfl) (by kernel_rfl) (Nat.le_of_ble_eq_true (by kernel_rfl)) eG (by kernel_rfl) (Nat.le_of_ble_eq_true (by kernel_rfl))
end impl_HouseRack
namespace impl_PlaceRack_1
def sin:Sig:=⟨[.box [.val (.sl (.pair I (.pair I (.pair I .unit)))) false],.box [.val I false]],[.one (.val I false),.one (.ref (.ptr 0)),.one (.ref (.ptr 1))]⟩
def sout:Sig:=⟨[.box [.val (.sl (.pair I (.pair I (.pair I .unit)))) false],.box [.val I false]],[.one (.val .bool false)]⟩
noncomputable def G {β:Type}(S:Sl)(a0:(List (Int×(Int×(Int×Unit)))))(a1:Int)(a2:Int)(K:(List (Int×(Int×(Int×Unit))))→Int→Bool→Option β):Option β:=impl_HouseRack.G S a0 a2 (fun y1=>K a0 a1 (!S.eq y1 a1))
noncomputable def o:Orac:=⟨69,sin,sout,fun s K=>G sl0 s.1.1.1 s.1.2.1.1 s.2.1 (fun x0 x1 x2=>K (((x0,()),((x1,()),())),(x2,())))⟩
noncomputable def C:Ctx:=⟨tyT,[impl_HouseRack.o],[],10,2⟩
theorem ctx:CtxOk Try.prog C:=⟨tyOk,all1 impl_HouseRack.ok (all0)⟩
theorem eG (β:Type)(s:sin.den)(K:sout.den→Option β):evalFn C Try.f69 sin sout s K=o.F s K:=by kernel_rfl
theorem ok:OracOk Try.prog o:=fn_ok mixed Try.func69 (by kernel_rfl) ctx (c:=bodyC Try.f69) (by kernel_rfl) (all0) (by kernel_rfl) (by kernel_rfl) (by kernel_rfl) (Nat.le_of_ble_eq_true (by kernel_rfl)) eG (by kernel_rfl) (Nat.le_of_ble_eq_true (by kernel_rfl))
end impl_PlaceRack_1
namespace impl_flags
def sin:Sig:=⟨[.box [.val (.sl (.pair I (.pair I (.pair I .unit)))) false],.box [.val I false]],[.one (.val (.sl I) false),.one (.ref (.fn 69 [0,1]))]⟩
def sout:Sig:=⟨[.box [.val (.sl (.pair I (.pair I (.pair I .unit)))) false],.box [.val I false],.buf .bool false],[.one (.ref (.own 2))]⟩
def h3:SS:=⟨[1,5,11,12,13],⟨[.box [.val (.sl (.pair I (.pair I (.pair I .unit)))) false],.box [.val I false],.buf .bool false],[.one (.ref (.fn 69 [0,1])),.one (.ref (.own 2)),.one (.val (.sl I) false),.one (.val I false),.one (.val I false)]⟩⟩
def x3:SS:=⟨[5],⟨[.box [.val (.sl (.pair I (.pair I (.pair I .unit)))) false],.box [.val I false],.buf .bool false],[.one (.ref (.own 2))]⟩⟩
def y3:SS:=⟨[],⟨[],[]⟩⟩
noncomputable def b3 {β:Type}(S:Sl)(L:(List (Int×(Int×(Int×Unit))))→Int→(List Bool)→(List Int)→Int→Int→Option β)(kx:(List (Int×(Int×(Int×Unit))))→Int→(List Bool)→Option β)(kr:Option β)(s0:(List (Int×(Int×(Int×Unit)))))(s1:Int)(s2:(List Bool))(s3:(List Int))(s4:Int)(s5:Int):Option β:=bif(S.lt s5 s4)then(bif(S.ir s5 s3.length)then(impl_PlaceRack_1.G S s0 s1 (List.getD s3 (Int.toNat s5) 0) (fun y1 y2 y3=>bif(S.fw (s2 ++ [y3]).length)then(L y1 y2 (s2 ++ [y3]) s3 s4 (S.w (s5+1)))else(none)))else(none))else(kx s0 s1 s2)
noncomputable def r3 {β:Type}(S:Sl)(n:Nat)(kx:x3.sig.den→Option β)(kr:y3.sig.den→Option β)(s:h3.sig.den):Option β:=rounds (fun L kx kr s=>b3 S (fun x0 x1 x2 x3 x4 x5=>L (((x0,()),((x1,()),(x2,()))),(x3,(x4,(x5,()))))) (fun x0 x1 x2=>kx (((x0,()),((x1,()),(x2,()))),())) (kr ((),())) s.1.1.1 s.1.2.1.1 s.1.2.2.1 s.2.1 s.2.2.1 s.2.2.2.1) kx kr n s
noncomputable def l3 {β:Type}(S:Sl)(n:Nat)(kx:(List (Int×(Int×(Int×Unit))))→Int→(List Bool)→Option β)(kr:Option β)(s0:(List (Int×(Int×(Int×Unit)))))(s1:Int)(s2:(List Bool))(s3:(List Int))(s4:Int)(s5:Int):Option β:=r3 S n (fun s=>kx s.1.1.1 s.1.2.1.1 s.1.2.2.1) (fun s=>kr) (((s0,()),((s1,()),(s2,()))),(s3,(s4,(s5,()))))
theorem t3 {β:Type}(S:Sl)(n:Nat)(kx:(List (Int×(Int×(Int×Unit))))→Int→(List Bool)→Option β)(kr:Option β)(s0:(List (Int×(Int×(Int×Unit)))))(s1:Int)(s2:(List Bool))(s3:(List Int))(s4:Int)(s5:Int):l3 S (n+1) kx kr s0 s1 s2 s3 s4 s5=b3 S (l3 S n kx kr) kx kr s0 s1 s2 s3 s4 s5:=by kernel_rfl
noncomputable def G {β:Type}(S:Sl)(a0:(List (Int×(Int×(Int×Unit)))))(a1:Int)(a2:(List Int))(K:(List (Int×(Int×(Int×Unit))))→Int→(List Bool)→Option β):Option β:=bif((S.le 0 0)&&(S.le 0 (a2.length:Int))&&S.fw (Int.toNat (a2.length:Int)))then(l3 S S.n (fun y1 y2 y3=>K y1 y2 y3) none a0 a1 (List.replicate (Int.toNat 0) false) a2 (a2.length:Int) 0)else(none)
noncomputable def o:Orac:=⟨68,sin,sout,fun s K=>G sl0 s.1.1.1 s.1.2.1.1 s.2.1 (fun x0 x1 x2=>K (((x0,()),((x1,()),(x2,()))),()))⟩
noncomputable def C:Ctx:=⟨tyT,[impl_PlaceRack_1.o],[⟨3,0,h3,x3,y3,fun s kx kr=>r3 sl0 sl0.n kx kr s⟩],25,2⟩
theorem ctx:CtxOk Try.prog C:=⟨tyOk,all1 impl_PlaceRack_1.ok (all0)⟩
theorem e3 (β:Type)(L:h3.sig.den→Option β)(kx:x3.sig.den→Option β)(kr:y3.sig.den→Option β)(s:h3.sig.den):evalBody C (nthC (loopsOf (bodyC Try.f68)) 0) 0 h3 x3 y3 L kx kr s=b3 sl0 (fun x0 x1 x2 x3 x4 x5=>L (((x0,()),((x1,()),(x2,()))),(x3,(x4,(x5,()))))) (fun x0 x1 x2=>kx (((x0,()),((x1,()),(x2,()))),())) (kr ((),())) s.1.1.1 s.1.2.1.1 s.1.2.2.1 s.2.1 s.2.2.1 s.2.2.2.1:=by kernel_rfl
theorem g3:LS Try.prog C ⟨3,0,h3,x3,y3,fun s kx kr=>r3 sl0 sl0.n kx kr s⟩ (loopsOf (bodyC Try.f68)):=LS.at (i:=0) (by kernel_rfl) (loop_good mixed ctx (ctx_nat ctx) (N:=sl0.n) (fun _ _ _ _=>rfl) e3 (all1 (LS.none (by kernel_rfl)) (all0)))
theorem eG (β:Type)(s:sin.den)(K:sout.den→Option β):evalFn C Try.f68 sin sout s K=o.F s K:=by kernel_rfl
theorem ok:OracOk Try.prog o:=fn_ok mixed Try.func68 (by kernel_rfl) ctx (c:=bodyC Try.f68) (by kernel_rfl) (all1 g3 (all0)) (by kernel_rfl) (by kernel_rfl) (by kernel_rfl) (Nat.le_of_ble_eq_true (by kernel_rfl)) eG (by kernel_rfl) (Nat.le_of_ble_eq_true (by kernel_rfl))
end impl_flags
namespace slices_Index_Sint_int
def sin:Sig:=⟨[],[.one (.val (.sl I) false),.one (.val I false)]⟩
def sout:Sig:=⟨[],[.one (.val I false)]⟩
def h2:SS:=⟨[0,1,7,8],⟨[],[.one (.val (.sl I) false),.one (.val I false),.one (.val I false),.one (.val I false)]⟩⟩
def x2:SS:=⟨[],⟨[],[]⟩⟩
def y2:SS:=⟨[4],⟨[],[.one (.val I false)]⟩⟩
noncomputable def b2 {β:Type}(S:Sl)(L:(List Int)→Int→Int→Int→Option β)(kx:Option β)(kr:Int→Option β)(s0:(List Int))(s1:Int)(s2:Int)(s3:Int):Option β:=bif(S.lt s3 s2)then(bif(S.ir s3 s0.length)then(bif(S.eq s1 (List.getD s0 (Int.toNat s3) 0))then(kr s3)else(L s0 s1 s2 (S.w (s3+1))))else(none))else(kx)
noncomputable def r2 {β:Type}(S:Sl)(n:Nat)(kx:x2.sig.den→Option β)(kr:y2.sig.den→Option β)(s:h2.sig.den):Option β:=rounds (fun L kx kr s=>b2 S (fun x0 x1 x2 x3=>L ((),(x0,(x1,(x2,(x3,())))))) (kx ((),())) (fun x0=>kr ((),(x0,()))) s.2.1 s.2.2.1 s.2.2.2.1 s.2.2.2.2.1) kx kr n s
noncomputable def l2 {β:Type}(S:Sl)(n:Nat)(kx:Option β)(kr:Int→Option β)(s0:(List Int))(s1:Int)(s2:Int)(s3:Int):Option β:=r2 S n (fun s=>kx) (fun s=>kr s.2.1) ((),(s0,(s1,(s2,(s3,())))))
theorem t2 {β:Type}(S:Sl)(n:Nat)(kx:Option β)(kr:Int→Option β)(s0:(List Int))(s1:Int)(s2:Int)(s3:Int):l2 S (n+1) kx kr s0 s1 s2 s3=b2 S (l2 S n kx kr) kx kr s0 s1 s2 s3:=by kernel_rfl
noncomputable def G {β:Type}(S:Sl)(a0:(List Int))(a1:Int)(K:Int→Option β):Option β:=l2 S S.n (K (-1)) (fun y1=>K y1) a0 a1 (a0.length:Int) 0
noncomputable def o:Orac:=⟨111,sin,sout,fun s K=>G sl0 s.2.1 s.2.2.1 (fun x0=>K ((),(x0,())))⟩
noncomputable def C:Ctx:=⟨tyT,[],[⟨2,0,h2,x2,y2,fun s kx kr=>r2 sl0 sl0.n kx kr s⟩],19,0⟩
theorem ctx:CtxOk Try.prog C:=⟨tyOk,all0⟩
theorem e2 (β:Type)(L:h2.sig.den→Option β)(kx:x2.sig.den→Option β)(kr:y2.sig.den→Option β)(s:h2.sig.den):evalBody C (nthC (loopsOf (bodyC Try.f111)) 0) 0 h2 x2 y2 L kx kr s=b2 sl0 (fun x0 x1 x2 x3=>L ((),(x0,(x1,(x2,(x3,())))))) (kx ((),())) (fun x0=>kr ((),(x0,()))) s.2.1 s.2.2.1 s.2.2.2.1 s.2.2.2.2.1:=by kernel_rfl
theorem g2:LS Try.prog C ⟨2,0,h2,x2,y2,fun s kx kr=>r2 sl0 sl0.n kx kr s⟩ (loopsOf (bodyC Try.f111)):=LS.at (i:=0) (by kernel_rfl) (loop_good mixed ctx (ctx_nat ctx) (N:=sl0.n) (fun _ _ _ _=>rfl) e2 (all1 (LS.none (by kernel_rfl)) (all0)))
theorem eG (β:Type)(s:sin.den)(K:sout.den→Option β):evalFn C Try.f111 sin sout s K=o.F s K:=by kernel_rfl
theorem ok:OracOk Try.prog o:=fn_ok mixed Try.func111 (by kernel_rfl) ctx (c:=bodyC Try.f111) (by kernel_rfl) (all1 g2 (all0)) (by kernel_rfl) (by kernel_rfl) (by kernel_rfl) (Nat.le_of_ble_eq_true (by kernel_rfl)) eG (by kernel_rfl) (Nat.le_of_ble_eq_true (by kernel_rfl))
end slices_Index_Sint_int
namespace slices_Contains_Sint_int
def sin:Sig:=⟨[],[.one (.val (.sl I) false),.one (.val I false)]⟩
def sout:Sig:=⟨[],[.one (.val .bool false)]⟩
noncomputable def G {β:Type}(S:Sl)(a0:(List Int))(a1:Int)(K:Bool→Option β):Option β:=slices_Index_Sint_int.G S a0 a1 (fun y1=>K (S.le 0 y1))
noncomputable def o:Orac:=⟨95,sin,sout,fun s K=>G sl0 s.2.1 s.2.2.1 (fun x0=>K ((),(x0,())))⟩
noncomputable def C:Ctx:=⟨tyT,[slices_Index_Sint_int.o],[],9,0⟩
theorem ctx:CtxOk Try.prog C:=⟨tyOk,all1 slices_Index_Sint_int.ok (all0)⟩
theorem eG (β:Type)(s:sin.den)(K:sout.den→Option β):evalFn C Try.f95 sin sout s K=o.F s K:=by kernel_rfl
theorem ok:OracOk Try.prog o:=fn_ok mixed Try.func95 (by kernel_rfl) ctx (c:=bodyC Try.f95) (by kernel_rfl) (all0) (by kernel_rfl) (by kernel_rfl) (by kernel_rfl) (Nat.le_of_ble_eq_true (by kernel_rfl)) eG (by kernel_rfl) (Nat.le_of_ble_eq_true (by kernel_rfl))
end slices_Contains_Sint_int
namespace impl_placeOk
def sin:Sig:=⟨[],[.one (.val (.sl I) false)]⟩
def sout:Sig:=⟨[],[.one (.val .bool false)]⟩
def h2:SS:=⟨[0,5,6,7],⟨[],[.one (.val (.sl I) false),.one (.val (.sl I) false),.one (.val I false),.one (.val I false)]⟩⟩
def x2:SS:=⟨[0],⟨[],[.one (.val (.sl I) false)]⟩⟩
def y2:SS:=⟨[2],⟨[],[.one (.val .bool false)]⟩⟩
noncomputable def b2 {β:Type}(S:Sl)(L:(List Int)→(List Int)→Int→Int→Option β)(kx:(List Int)→Option β)(kr:Bool→Option β)(s0:(List Int))(s1:(List Int))(s2:Int)(s3:Int):Option β:=bif(S.lt s3 s2)then(bif(S.ir s3 s1.length)then(impl_within.G S (List.getD s1 (Int.toNat s3) 0) 1 12 (fun y1=>bif(!y1)then(kr false)else(bif((S.le 0 0)&&(S.le 0 s3)&&(S.le s3 (s0.length:Int))&&(S.le (s0.length:Int) (s0.length:Int)))then(slices_Contains_Sint_int.G S (cutL s0 (Int.toNat 0) (Int.toNat s3)) (List.getD s1 (Int.toNat s3) 0) (fun y2=>bif y2 then(kr false)else(L s0 s1 s2 (S.w (s3+1)))))else(none))))else(none))else(kx s0)
noncomputable def r2 {β:Type}(S:Sl)(n:Nat)(kx:x2.sig.den→Option β)(kr:y2.sig.den→Option β)(s:h2.sig.den):Option β:=rounds (fun L kx kr s=>b2 S (fun x0 x1 x2 x3=>L ((),(x0,(x1,(x2,(x3,())))))) (fun x0=>kx ((),(x0,()))) (fun x0=>kr ((),(x0,()))) s.2.1 s.2.2.1 s.2.2.2.1 s.2.2.2.2.1) kx kr n s
noncomputable def l2 {β:Type}(S:Sl)(n:Nat)(kx:(List Int)→Option β)(kr:Bool→Option β)(s0:(List Int))(s1:(List Int))(s2:Int)(s3:Int):Option β:=r2 S n (fun s=>kx s.2.1) (fun s=>kr s.2.1) ((),(s0,(s1,(s2,(s3,())))))
theorem t2 {β:Type}(S:Sl)(n:Nat)(kx:(List Int)→Option β)(kr:Bool→Option β)(s0:(List Int))(s1:(List Int))(s2:Int)(s3:Int):l2 S (n+1) kx kr s0 s1 s2 s3=b2 S (l2 S n kx kr) kx kr s0 s1 s2 s3:=by kernel_rfl
noncomputable def G {β:Type}(S:Sl)(a0:(List Int))(K:Bool→Option β):Option β:=l2 S S.n (fun y1=>K (S.eq (y1.length:Int) 8)) (fun y2=>K y2) a0 a0 (a0.length:Int) 0
noncomputable def o:Orac:=⟨66,sin,sout,fun s K=>G sl0 s.2.1 (fun x0=>K ((),(x0,())))⟩
noncomputable def C:Ctx:=⟨tyT,[impl_within.o,slices_Contains_Sint_int.o],[⟨2,0,h2,x2,y2,fun s kx kr=>r2 sl0 sl0.n kx kr s⟩],26,0⟩
theorem ctx:CtxOk Try.prog C:=⟨tyOk,all1 impl_within.ok (all1 slices_Contains_Sint_int.ok (all0))⟩
theorem e2 (β:Type)(L:h2.sig.den→Option β)(kx:x2.sig.den→Option β)(kr:y2.sig.den→Option β)(s:h2.sig.den):evalBody C (nthC (loopsOf (bodyC Try.f66)) 0) 0 h2 x2 y2 L kx kr s=b2 sl0 (fun x0 x1 x2 x3=>L ((),(x0,(x1,(x2,(x3,())))))) (fun x0=>kx ((),(x0,()))) (fun x0=>kr ((),(x0,()))) s.2.1 s.2.2.1 s.2.2.2.1 s.2.2.2.2.1:=by kernel_rfl
theorem g2:LS Try.prog C ⟨2,0,h2,x2,y2,fun s kx kr=>r2 sl0 sl0.n kx kr s⟩ (loopsOf (bodyC Try.f66)):=LS.at (i:=0) (by kernel_rfl) (loop_good mixed ctx (ctx_nat ctx) (N:=sl0.n) (fun _ _ _ _=>rfl) e2 (all1 (LS.none (by kernel_rfl)) (all0)))
theorem eG (β:Type)(s:sin.den)(K:sout.den→Option β):evalFn C Try.f66 sin sout s K=o.F s K:=by kernel_rfl
theorem ok:OracOk Try.prog o:=fn_ok mixed Try.func66 (by kernel_rfl) ctx (c:=bodyC Try.f66) (by kernel_rfl) (all1 g2 (all0)) (by kernel_rfl) (by kernel_rfl) (by kernel_rfl) (Nat.le_of_ble_eq_true (by kernel_rfl)) eG (by kernel_rfl) (Nat.le_of_ble_eq_true (by kernel_rfl))
end impl_placeOk
namespace impl_PlaceRack
def sin:Sig:=⟨[],[.one (.val (.sl (.pair I (.pair I (.pair I .unit)))) false),.one (.val (.sl I) false),.one (.val I false)]⟩
def sout:Sig:=⟨[.buf .bool false],[.one (.ref (.own 0))]⟩
noncomputable def G {β:Type}(S:Sl)(a0:(List (Int×(Int×(Int×Unit)))))(a1:(List Int))(a2:Int)(K:(List Bool)→Option β):Option β:=impl_HousesOk.G S a0 (fun y1=>bif(!y1)then(K [])else(impl_placeOk.G S a1 (fun y2=>bif(!y2)then(K [])else(impl_flags.G S a0 a2 a1 (fun y3 y4 y5=>K y5)))))
noncomputable def o:Orac:=⟨27,sin,sout,fun s K=>G sl0 s.2.1 s.2.2.1 s.2.2.2.1 (fun x0=>K ((x0,()),()))⟩
noncomputable def C:Ctx:=⟨tyT,[impl_HousesOk.o,impl_flags.o,impl_placeOk.o],[],18,0⟩
theorem ctx:CtxOk Try.prog C:=⟨tyOk,all1 impl_HousesOk.ok (all1 impl_flags.ok (all1 impl_placeOk.ok (all0)))⟩
theorem eG (β:Type)(s:sin.den)(K:sout.den→Option β):evalFn C Try.f27 sin sout s K=o.F s K:=by kernel_rfl
theorem ok:OracOk Try.prog o:=fn_ok mixed Try.func27 (by kernel_rfl) ctx (c:=bodyC Try.f27) (by kernel_rfl) (all0) (by kernel_rfl) (by kernel_rfl) (by kernel_rfl) (Nat.le_of_ble_eq_true (by kernel_rfl)) eG (by kernel_rfl) (Nat.le_of_ble_eq_true (by kernel_rfl))
end impl_PlaceRack
namespace laws_lkInts
def sin:Sig:=⟨[],[.one (.val (.sl I) false),.one (.val (.sl I) false)]⟩
def sout:Sig:=⟨[],[.one (.val .bool false)]⟩
def h4:SS:=⟨[0,1,5],⟨[],[.one (.val (.sl I) false),.one (.val (.sl I) false),.one (.val I false)]⟩⟩
def x4:SS:=⟨[],⟨[],[]⟩⟩
def y4:SS:=⟨[4],⟨[],[.one (.val .bool false)]⟩⟩
noncomputable def b4 {β:Type}(S:Sl)(L:(List Int)→(List Int)→Int→Option β)(kx:Option β)(kr:Bool→Option β)(s0:(List Int))(s1:(List Int))(s2:Int):Option β:=bif(S.lt s2 (s0.length:Int))then(bif(S.ir s2 s0.length)then(bif(S.ir s2 s1.length)then(bif(!S.eq (List.getD s0 (Int.toNat s2) 0) (List.getD s1 (Int.toNat s2) 0))then(kr false)else(L s0 s1 (S.w (s2+1))))else(none))else(none))else(kx)
noncomputable def r4 {β:Type}(S:Sl)(n:Nat)(kx:x4.sig.den→Option β)(kr:y4.sig.den→Option β)(s:h4.sig.den):Option β:=rounds (fun L kx kr s=>b4 S (fun x0 x1 x2=>L ((),(x0,(x1,(x2,()))))) (kx ((),())) (fun x0=>kr ((),(x0,()))) s.2.1 s.2.2.1 s.2.2.2.1) kx kr n s
noncomputable def l4 {β:Type}(S:Sl)(n:Nat)(kx:Option β)(kr:Bool→Option β)(s0:(List Int))(s1:(List Int))(s2:Int):Option β:=r4 S n (fun s=>kx) (fun s=>kr s.2.1) ((),(s0,(s1,(s2,()))))
theorem t4 {β:Type}(S:Sl)(n:Nat)(kx:Option β)(kr:Bool→Option β)(s0:(List Int))(s1:(List Int))(s2:Int):l4 S (n+1) kx kr s0 s1 s2=b4 S (l4 S n kx kr) kx kr s0 s1 s2:=by kernel_rfl
noncomputable def G {β:Type}(S:Sl)(a0:(List Int))(a1:(List Int))(K:Bool→Option β):Option β:=bif(!S.eq (a0.length:Int) (a1.length:Int))then(K false)else(l4 S S.n (K true) (fun y1=>K y1) a0 a1 0)
noncomputable def o:Orac:=⟨23,sin,sout,fun s K=>G sl0 s.2.1 s.2.2.1 (fun x0=>K ((),(x0,())))⟩
noncomputable def C:Ctx:=⟨tyT,[],[⟨4,0,h4,x4,y4,fun s kx kr=>r4 sl0 sl0.n kx kr s⟩],26,0⟩
theorem ctx:CtxOk Try.prog C:=⟨tyOk,all0⟩
theorem e4 (β:Type)(L:h4.sig.den→Option β)(kx:x4.sig.den→Option β)(kr:y4.sig.den→Option β)(s:h4.sig.den):evalBody C (nthC (loopsOf (bodyC Try.f23)) 0) 0 h4 x4 y4 L kx kr s=b4 sl0 (fun x0 x1 x2=>L ((),(x0,(x1,(x2,()))))) (kx ((),())) (fun x0=>kr ((),(x0,()))) s.2.1 s.2.2.1 s.2.2.2.1:=by kernel_rfl
theorem g4:LS Try.prog C ⟨4,0,h4,x4,y4,fun s kx kr=>r4 sl0 sl0.n kx kr s⟩ (loopsOf (bodyC Try.f23)):=LS.at (i:=0) (by kernel_rfl) (loop_good mixed ctx (ctx_nat ctx) (N:=sl0.n) (fun _ _ _ _=>rfl) e4 (all1 (LS.none (by kernel_rfl)) (all0)))
theorem eG (β:Type)(s:sin.den)(K:sout.den→Option β):evalFn C Try.f23 sin sout s K=o.F s K:=by kernel_rfl
theorem ok:OracOk Try.prog o:=fn_ok mixed Try.func23 (by kernel_rfl) ctx (c:=bodyC Try.f23) (by kernel_rfl) (all1 g4 (all0)) (by kernel_rfl) (by kernel_rfl) (by kernel_rfl) (Nat.le_of_ble_eq_true (by kernel_rfl)) eG (by kernel_rfl) (Nat.le_of_ble_eq_true (by kernel_rfl))
end laws_lkInts
namespace laws_lkMany
def sin:Sig:=⟨[],[.one (.val (.sl .bool) false)]⟩
def sout:Sig:=⟨[],[.one (.val I false)]⟩
def h3:SS:=⟨[0,3,4],⟨[],[.one (.val (.sl .bool) false),.one (.val I false),.one (.val I false)]⟩⟩
def x3:SS:=⟨[3],⟨[],[.one (.val I false)]⟩⟩
def y3:SS:=⟨[],⟨[],[]⟩⟩
noncomputable def b3 {β:Type}(S:Sl)(L:(List Bool)→Int→Int→Option β)(kx:Int→Option β)(kr:Option β)(s0:(List Bool))(s1:Int)(s2:Int):Option β:=bif(S.lt s2 (s0.length:Int))then(bif(S.ir s2 s0.length)then(bif(List.getD s0 (Int.toNat s2) false)then(L s0 (S.w (s1+1)) (S.w (s2+1)))else(L s0 s1 (S.w (s2+1))))else(none))else(kx s1)
noncomputable def r3 {β:Type}(S:Sl)(n:Nat)(kx:x3.sig.den→Option β)(kr:y3.sig.den→Option β)(s:h3.sig.den):Option β:=rounds (fun L kx kr s=>b3 S (fun x0 x1 x2=>L ((),(x0,(x1,(x2,()))))) (fun x0=>kx ((),(x0,()))) (kr ((),())) s.2.1 s.2.2.1 s.2.2.2.1) kx kr n s
noncomputable def l3 {β:Type}(S:Sl)(n:Nat)(kx:Int→Option β)(kr:Option β)(s0:(List Bool))(s1:Int)(s2:Int):Option β:=r3 S n (fun s=>kx s.2.1) (fun s=>kr) ((),(s0,(s1,(s2,()))))
theorem t3 {β:Type}(S:Sl)(n:Nat)(kx:Int→Option β)(kr:Option β)(s0:(List Bool))(s1:Int)(s2:Int):l3 S (n+1) kx kr s0 s1 s2=b3 S (l3 S n kx kr) kx kr s0 s1 s2:=by kernel_rfl
noncomputable def G {β:Type}(S:Sl)(a0:(List Bool))(K:Int→Option β):Option β:=l3 S S.n (fun y1=>K y1) none a0 0 0
noncomputable def o:Orac:=⟨28,sin,sout,fun s K=>G sl0 s.2.1 (fun x0=>K ((),(x0,())))⟩
noncomputable def C:Ctx:=⟨tyT,[],[⟨3,0,h3,x3,y3,fun s kx kr=>r3 sl0 sl0.n kx kr s⟩],18,0⟩
theorem ctx:CtxOk Try.prog C:=⟨tyOk,all0⟩
theorem e3 (β:Type)(L:h3.sig.den→Option β)(kx:x3.sig.den→Option β)(kr:y3.sig.den→Option β)(s:h3.sig.den):evalBody C (nthC (loopsOf (bodyC Try.f28)) 0) 0 h3 x3 y3 L kx kr s=b3 sl0 (fun x0 x1 x2=>L ((),(x0,(x1,(x2,()))))) (fun x0=>kx ((),(x0,()))) (kr ((),())) s.2.1 s.2.2.1 s.2.2.2.1:=by kernel_rfl
theorem g3:LS Try.prog C ⟨3,0,h3,x3,y3,fun s kx kr=>r3 sl0 sl0.n kx kr s⟩ (loopsOf (bodyC Try.f28)):=LS.at (i:=0) (by kernel_rfl) (loop_good mixed ctx (ctx_nat ctx) (N:=sl0.n) (fun _ _ _ _=>rfl) e3 (all1 (LS.none (by kernel_rfl)) (all0)))
theorem eG (β:Type)(s:sin.den)(K:sout.den→Option β):evalFn C Try.f28 sin sout s K=o.F s K:=by kernel_rfl
theorem ok:OracOk Try.prog o:=fn_ok mixed Try.func28 (by kernel_rfl) ctx (c:=bodyC Try.f28) (by kernel_rfl) (all1 g3 (all0)) (by kernel_rfl) (by kernel_rfl) (by kernel_rfl) (Nat.le_of_ble_eq_true (by kernel_rfl)) eG (by kernel_rfl) (Nat.le_of_ble_eq_true (by kernel_rfl))
end laws_lkMany
namespace spec_l6Open
def sin:Sig:=⟨[],[.one (.val (.sl (.int .u8)) false)]⟩
def sout:Sig:=⟨[.box [.val (.sl (.int .u8)) false,.val I false]],[.one (.ref (.ptr 0))]⟩
noncomputable def G {β:Type}(S:Sl)(a0:(List Int))(K:(List Int)→Int→Option β):Option β:=bif(S.lt 2000 (a0.length:Int))then(bif((S.le 0 0)&&(S.le 0 2000)&&(S.le 2000 (a0.length:Int))&&(S.le (a0.length:Int) (a0.length:Int)))then(K (cutL a0 (Int.toNat 0) (Int.toNat 2000)) 0)else(none))else(K a0 0)
noncomputable def o:Orac:=⟨30,sin,sout,fun s K=>G sl0 s.2.1 (fun x0 x1=>K (((x0,(x1,())),()),()))⟩
noncomputable def C:Ctx:=⟨tyT,[],[],11,0⟩
theorem ctx:CtxOk Try.prog C:=⟨tyOk,all0⟩
theorem eG (β:Type)(s:sin.den)(K:sout.den→Option β):evalFn C Try.f30 sin sout s K=o.F s K:=by kernel_rfl
theorem ok:OracOk Try.prog o:=fn_ok mixed Try.func30 (by kernel_rfl) ctx (c:=bodyC Try.f30) (by kernel_rfl) (all0) (by kernel_rfl) (by kernel_rfl) (by kernel_rfl) (Nat.le_of_ble_eq_true (by kernel_rfl)) eG (by kernel_rfl) (Nat.le_of_ble_eq_true (by kernel_rfl))
end spec_l6Open
namespace spec_l6Rd_pick
def sin:Sig:=⟨[.box [.val (.sl (.int .u8)) false,.val I false]],[.one (.ref (.ptr 0)),.one (.val I false)]⟩
def sout:Sig:=⟨[.box [.val (.sl (.int .u8)) false,.val I false]],[.one (.val I false)]⟩
noncomputable def G {β:Type}(S:Sl)(a0:(List Int))(a1:Int)(a2:Int)(K:(List Int)→Int→Int→Option β):Option β:=bif(S.lt a2 1)then(K a0 (S.w (a1+1)) 0)else(bif(S.eq (a0.length:Int) 0)then(K a0 (S.w (a1+1)) 0)else(bif(S.lt (S.w ((S.w (a1+1))-1)) (a0.length:Int))then(bif(S.ir (S.w ((S.w (a1+1))-1)) a0.length)then(bif(!(a2==0))then(K a0 (S.w (a1+1)) (Int.tmod (S.w (List.getD a0 (Int.toNat (S.w ((S.w (a1+1))-1))) 0)) a2))else(none))else(none))else(bif(!((a0.length:Int)==0))then(bif(S.ir (Int.tmod (S.w ((S.w (a1+1))-1)) (a0.length:Int)) a0.length)then(bif(!((a0.length:Int)==0))then(bif(S.ir (Int.tmod (S.w ((S.w ((S.w ((S.w (a1+1))-1))*7))+3)) (a0.length:Int)) a0.length)then(bif(!((a0.length:Int)==0))then(bif(!(a2==0))then(K a0 (S.w (a1+1)) (Int.tmod (S.xr .i64 (S.w ((S.w ((S.w ((S.w ((S.w (List.getD a0 (Int.toNat (Int.tmod (S.w ((S.w (a1+1))-1)) (a0.length:Int))) 0))*131))+(S.w ((S.w (List.getD a0 (Int.toNat (Int.tmod (S.w ((S.w ((S.w ((S.w (a1+1))-1))*7))+3)) (a0.length:Int))) 0))*1117))))+(S.w ((S.w ((S.w (a1+1))-1))*29))))+(S.w ((S.w (Int.tdiv (S.w ((S.w (a1+1))-1)) (a0.length:Int)))*53)))) (S.w (Int.tdiv (S.w ((S.w ((S.w ((S.w ((S.w (List.getD a0 (Int.toNat (Int.tmod (S.w ((S.w (a1+1))-1)) (a0.length:Int))) 0))*131))+(S.w ((S.w (List.getD a0 (Int.toNat (Int.tmod (S.w ((S.w ((S.w ((S.w (a1+1))-1))*7))+3)) (a0.length:Int))) 0))*1117))))+(S.w ((S.w ((S.w (a1+1))-1))*29))))+(S.w ((S.w (Int.tdiv (S.w ((S.w (a1+1))-1)) (a0.length:Int)))*53)))) 64))) a2))else(none))else(none))else(none))else(none))else(none))else(none))))
noncomputable def o:Orac:=⟨33,sin,sout,fun s K=>G sl0 s.1.1.1 s.1.1.2.1 s.2.1 (fun x0 x1 x2=>K (((x0,(x1,())),()),(x2,())))⟩
noncomputable def C:Ctx:=⟨tyT,[],[],99,1⟩
theorem ctx:CtxOk Try.prog C:=⟨tyOk,all0⟩
theorem eG (β:Type)(s:sin.den)(K:sout.den→Option β):evalFn C Try.f33 sin sout s K=o.F s K:=by kernel_rfl
theorem ok:OracOk Try.prog o:=fn_ok mixed Try.func33 (by kernel_rfl) ctx (c:=bodyC Try.f33) (by kernel_rfl) (all0) (by kernel_rfl) (by kernel_rfl) (by kernel_rfl) (Nat.le_of_ble_eq_true (by kernel_rfl)) eG (by kernel_rfl) (Nat.le_of_ble_eq_true (by kernel_rfl))
end spec_l6Rd_pick
namespace spec_l92Houses
def sin:Sig:=⟨[.box [.val (.sl (.int .u8)) false,.val I false]],[.one (.ref (.ptr 0))]⟩
def sout:Sig:=⟨[.box [.val (.sl (.int .u8)) false,.val I false],.buf (.pair I (.pair I (.pair I .unit))) false],[.one (.ref (.own 1))]⟩
def h12:SS:=⟨[0,3,5],⟨[.box [.val (.sl (.int .u8)) false,.val I false],.buf (.pair I (.pair I (.pair I .unit))) false],[.one (.ref (.ptr 0)),.one (.ref (.own 1)),.one (.val I false)]⟩⟩
def x12:SS:=⟨[3],⟨[.box [.val (.sl (.int .u8)) false,.val I false],.buf (.pair I (.pair I (.pair I .unit))) false],[.one (.ref (.own 1))]⟩⟩
def y12:SS:=⟨[],⟨[],[]⟩⟩
noncomputable def b12 {β:Type}(S:Sl)(L:(List Int)→Int→(List (Int×(Int×(Int×Unit))))→Int→Option β)(kx:(List Int)→Int→(List (Int×(Int×(Int×Unit))))→Option β)(kr:Option β)(s0:(List Int))(s1:Int)(s2:(List (Int×(Int×(Int×Unit)))))(s3:Int):Option β:=bif(S.lt s3 (s2.length:Int))then(spec_l6Rd_pick.G S s0 s1 2 (fun y1 y2 y3=>bif(S.ir s3 s2.length)then(L y1 y2 (List.set s2 (Int.toNat s3) ((List.getD s2 (Int.toNat s3) (0,(0,(0,())))).1,((S.w ((1:Int)+y3)),(List.getD s2 (Int.toNat s3) (0,(0,(0,())))).2.2))) (S.w (s3+1)))else(none)))else(kx s0 s1 s2)
noncomputable def r12 {β:Type}(S:Sl)(n:Nat)(kx:x12.sig.den→Option β)(kr:y12.sig.den→Option β)(s:h12.sig.den):Option β:=rounds (fun L kx kr s=>b12 S (fun x0 x1 x2 x3=>L (((x0,(x1,())),(x2,())),(x3,()))) (fun x0 x1 x2=>kx (((x0,(x1,())),(x2,())),())) (kr ((),())) s.1.1.1 s.1.1.2.1 s.1.2.1 s.2.1) kx kr n s
noncomputable def l12 {β:Type}(S:Sl)(n:Nat)(kx:(List Int)→Int→(List (Int×(Int×(Int×Unit))))→Option β)(kr:Option β)(s0:(List Int))(s1:Int)(s2:(List (Int×(Int×(Int×Unit)))))(s3:Int):Option β:=r12 S n (fun s=>kx s.1.1.1 s.1.1.2.1 s.1.2.1) (fun s=>kr) (((s0,(s1,())),(s2,())),(s3,()))
theorem t12 {β:Type}(S:Sl)(n:Nat)(kx:(List Int)→Int→(List (Int×(Int×(Int×Unit))))→Option β)(kr:Option β)(s0:(List Int))(s1:Int)(s2:(List (Int×(Int×(Int×Unit)))))(s3:Int):l12 S (n+1) kx kr s0 s1 s2 s3=b12 S (l12 S n kx kr) kx kr s0 s1 s2 s3:=by kernel_rfl
def h3:SS:=⟨[0,3,4],⟨[.box [.val (.sl (.int .u8)) false,.val I false],.buf (.pair I (.pair I (.pair I .unit))) false],[.one (.ref (.ptr 0)),.one (.ref (.own 1)),.one (.val I false)]⟩⟩
def x3:SS:=⟨[0,3],⟨[.box [.val (.sl (.int .u8)) false,.val I false],.buf (.pair I (.pair I (.pair I .unit))) false],[.one (.ref (.ptr 0)),.one (.ref (.own 1))]⟩⟩
def y3:SS:=⟨[],⟨[],[]⟩⟩
noncomputable def b3 {β:Type}(S:Sl)(L:(List Int)→Int→(List (Int×(Int×(Int×Unit))))→Int→Option β)(kx:(List Int)→Int→(List (Int×(Int×(Int×Unit))))→Option β)(kr:Option β)(s0:(List Int))(s1:Int)(s2:(List (Int×(Int×(Int×Unit)))))(s3:Int):Option β:=bif(S.le s3 12)then(spec_l6Rd_pick.G S s0 s1 8 (fun y1 y2 y3=>bif(S.lt 0 y3)then(spec_l6Rd_pick.G S y1 y2 9 (fun y4 y5 y6=>bif(S.fw (s2 ++ [(s3,((S.w ((1:Int)+(Int.tmod s3 4))),((S.w ((1:Int)+y6)),())))]).length)then(L y4 y5 (s2 ++ [(s3,((S.w ((1:Int)+(Int.tmod s3 4))),((S.w ((1:Int)+y6)),())))]) (S.w (s3+1)))else(none)))else(L y1 y2 s2 (S.w (s3+1)))))else(kx s0 s1 s2)
noncomputable def r3 {β:Type}(S:Sl)(n:Nat)(kx:x3.sig.den→Option β)(kr:y3.sig.den→Option β)(s:h3.sig.den):Option β:=rounds (fun L kx kr s=>b3 S (fun x0 x1 x2 x3=>L (((x0,(x1,())),(x2,())),(x3,()))) (fun x0 x1 x2=>kx (((x0,(x1,())),(x2,())),())) (kr ((),())) s.1.1.1 s.1.1.2.1 s.1.2.1 s.2.1) kx kr n s
noncomputable def l3 {β:Type}(S:Sl)(n:Nat)(kx:(List Int)→Int→(List (Int×(Int×(Int×Unit))))→Option β)(kr:Option β)(s0:(List Int))(s1:Int)(s2:(List (Int×(Int×(Int×Unit)))))(s3:Int):Option β:=r3 S n (fun s=>kx s.1.1.1 s.1.1.2.1 s.1.2.1) (fun s=>kr) (((s0,(s1,())),(s2,())),(s3,()))
theorem t3 {β:Type}(S:Sl)(n:Nat)(kx:(List Int)→Int→(List (Int×(Int×(Int×Unit))))→Option β)(kr:Option β)(s0:(List Int))(s1:Int)(s2:(List (Int×(Int×(Int×Unit)))))(s3:Int):l3 S (n+1) kx kr s0 s1 s2 s3=b3 S (l3 S n kx kr) kx kr s0 s1 s2 s3:=by kernel_rfl
noncomputable def G {β:Type}(S:Sl)(a0:(List Int))(a1:Int)(K:(List Int)→Int→(List (Int×(Int×(Int×Unit))))→Option β):Option β:=l3 S S.n (fun y1 y2 y3=>spec_l6Rd_pick.G S y1 y2 30 (fun y4 y5 y6=>bif(S.eq y6 0)then(spec_l6Rd_pick.G S y4 y5 14 (fun y7 y8 y9=>bif(S.fw (y3 ++ [(y9,(1,(1,())))]).length)then(K y7 y8 (y3 ++ [(y9,(1,(1,())))]))else(none)))else(bif(S.eq y6 1)then(l12 S S.n (fun y10 y11 y12=>K y10 y11 y12) none y4 y5 y3 0)else(K y4 y5 y3)))) none a0 a1 [] 1
noncomputable def o:Orac:=⟨54,sin,sout,fun s K=>G sl0 s.1.1.1 s.1.1.2.1 (fun x0 x1 x2=>K (((x0,(x1,())),(x2,())),()))⟩
noncomputable def C:Ctx:=⟨tyT,[spec_l6Rd_pick.o],[⟨3,0,h3,x3,y3,fun s kx kr=>r3 sl0 sl0.n kx kr s⟩,⟨12,3,h12,x12,y12,fun s kx kr=>r12 sl0 sl0.n kx kr s⟩],51,1⟩
theorem ctx:CtxOk Try.prog C:=⟨tyOk,all1 spec_l6Rd_pick.ok (all0)⟩
theorem e12 (β:Type)(L:h12.sig.den→Option β)(kx:x12.sig.den→Option β)(kr:y12.sig.den→Option β)(s:h12.sig.den):evalBody C (nthC (loopsOf (bodyC Try.f54)) 1) 3 h12 x12 y12 L kx kr s=b12 sl0 (fun x0 x1 x2 x3=>L (((x0,(x1,())),(x2,())),(x3,()))) (fun x0 x1 x2=>kx (((x0,(x1,())),(x2,())),())) (kr ((),())) s.1.1.1 s.1.1.2.1 s.1.2.1 s.2.1:=by kernel_rfl
theorem g12:LS Try.prog C ⟨12,3,h12,x12,y12,fun s kx kr=>r12 sl0 sl0.n kx kr s⟩ (loopsOf (bodyC Try.f54)):=LS.at (i:=1) (by kernel_rfl) (loop_good mixed ctx (ctx_nat ctx) (N:=sl0.n) (fun _ _ _ _=>rfl) e12 (all1 (LS.none (by kernel_rfl)) (all1 (LS.none (by kernel_rfl)) (all0))))
theorem e3 (β:Type)(L:h3.sig.den→Option β)(kx:x3.sig.den→Option β)(kr:y3.sig.den→Option β)(s:h3.sig.den):evalBody C (nthC (loopsOf (bodyC Try.f54)) 0) 0 h3 x3 y3 L kx kr s=b3 sl0 (fun x0 x1 x2 x3=>L (((x0,(x1,())),(x2,())),(x3,()))) (fun x0 x1 x2=>kx (((x0,(x1,())),(x2,())),())) (kr ((),())) s.1.1.1 s.1.1.2.1 s.1.2.1 s.2.1:=by kernel_rfl
theorem g3:LS Try.prog C ⟨3,0,h3,x3,y3,fun s kx kr=>r3 sl0 sl0.n kx kr s⟩ (loopsOf (bodyC Try.f54)):=LS.at (i:=0) (by kernel_rfl) (loop_good mixed ctx (ctx_nat ctx) (N:=sl0.n) (fun _ _ _ _=>rfl) e3 (all1 (LS.none (by kernel_rfl)) (all1 (LS.none (by kernel_rfl)) (all0))))
theorem eG (β:Type)(s:sin.den)(K:sout.den→Option β):evalFn C Try.f54 sin sout s K=o.F s K:=by kernel_rfl
theorem ok:OracOk Try.prog o:=fn_ok mixed Try.func54 (by kernel_rfl) ctx (c:=bodyC Try.f54) (by kernel_rfl) (all1 g3 (all1 g12 (all0))) (by kernel_rfl) (by kernel_rfl) (by kernel_rfl) (Nat.le_of_ble_eq_true (by kernel_rfl)) eG (by kernel_rfl) (Nat.le_of_ble_eq_true (by kernel_rfl))
end spec_l92Houses
namespace spec_DrawPlaceOf
def sin:Sig:=⟨[],[.one (.val (.sl (.int .u8)) false)]⟩
def sout:Sig:=⟨[.buf (.pair I (.pair I (.pair I .unit))) false],[.one (.val I false),.one (.ref (.own 0))]⟩
noncomputable def G {β:Type}(S:Sl)(a0:(List Int))(K:(List (Int×(Int×(Int×Unit))))→Int→Option β):Option β:=spec_l6Open.G S a0 (fun y1 y2=>spec_l6Rd_pick.G S y1 y2 100 (fun y3 y4 y5=>spec_l6Rd_pick.G S y3 y4 24 (fun y6 y7 y8=>spec_l92Houses.G S y6 y7 (fun y9 y10 y11=>K y11 (S.w (y5+(S.w ((S.w (Int.tdiv y8 23))*100))))))))
noncomputable def o:Orac:=⟨20,sin,sout,fun s K=>G sl0 s.2.1 (fun x0 x1=>K ((x0,()),(x1,())))⟩
noncomputable def C:Ctx:=⟨tyT,[spec_l6Open.o,spec_l6Rd_pick.o,spec_l92Houses.o],[],16,0⟩
theorem ctx:CtxOk Try.prog C:=⟨tyOk,all1 spec_l6Open.ok (all1 spec_l6Rd_pick.ok (all1 spec_l92Houses.ok (all0)))⟩
theorem eG (β:Type)(s:sin.den)(K:sout.den→Option β):evalFn C Try.f20 sin sout s K=o.F s K:=by kernel_rfl
theorem ok:OracOk Try.prog o:=fn_ok mixed Try.func20 (by kernel_rfl) ctx (c:=bodyC Try.f20) (by kernel_rfl) (all0) (by kernel_rfl) (by kernel_rfl) (by kernel_rfl) (Nat.le_of_ble_eq_true (by kernel_rfl)) eG (by kernel_rfl) (Nat.le_of_ble_eq_true (by kernel_rfl))
end spec_DrawPlaceOf
namespace spec_l6In
def sin:Sig:=⟨[],[.one (.val I false),.one (.val I false),.one (.val I false)]⟩
def sout:Sig:=⟨[],[.one (.val .bool false)]⟩
noncomputable def G {β:Type}(S:Sl)(a0:Int)(a1:Int)(a2:Int)(K:Bool→Option β):Option β:=bif(S.le a1 a0)then(K (S.le a0 a2))else(K false)
noncomputable def o:Orac:=⟨55,sin,sout,fun s K=>G sl0 s.2.1 s.2.2.1 s.2.2.2.1 (fun x0=>K ((),(x0,())))⟩
noncomputable def C:Ctx:=⟨tyT,[],[],15,0⟩
theorem ctx:CtxOk Try.prog C:=⟨tyOk,all0⟩
theorem eG (β:Type)(s:sin.den)(K:sout.den→Option β):evalFn C Try.f55 sin sout s K=o.F s K:=by kernel_rfl
theorem ok:OracOk Try.prog o:=fn_ok mixed Try.func55 (by kernel_rfl) ctx (c:=bodyC Try.f55) (by kernel_rfl) (all0) (by kernel_rfl) (by kernel_rfl) (by kernel_rfl) (Nat.le_of_ble_eq_true (by kernel_rfl)) eG (by kernel_rfl) (Nat.le_of_ble_eq_true (by kernel_rfl))
end spec_l6In
namespace spec_l31House
def sin:Sig:=⟨[],[.agg [.val I false,.val I false,.val I false]]⟩
def sout:Sig:=⟨[],[.one (.val .bool false)]⟩
noncomputable def G {β:Type}(S:Sl)(a0:Int)(a1:Int)(a2:Int)(K:Bool→Option β):Option β:=spec_l6In.G S a0 1 12 (fun y1=>bif y1 then(spec_l6In.G S a1 1 4 (fun y2=>bif y2 then(spec_l6In.G S a2 1 9 (fun y3=>K y3))else(K false)))else(K false))
noncomputable def o:Orac:=⟨86,sin,sout,fun s K=>G sl0 s.2.1.1 s.2.1.2.1 s.2.1.2.2.1 (fun x0=>K ((),(x0,())))⟩
noncomputable def C:Ctx:=⟨tyT,[spec_l6In.o],[],16,0⟩
theorem ctx:CtxOk Try.prog C:=⟨tyOk,all1 spec_l6In.ok (all0)⟩
theorem eG (β:Type)(s:sin.den)(K:sout.den→Option β):evalFn C Try.f86 sin sout s K=o.F s K:=by kernel_rfl
theorem ok:OracOk Try.prog o:=fn_ok mixed Try.func86 (by kernel_rfl) ctx (c:=bodyC Try.f86) (by kernel_rfl) (all0) (by kernel_rfl) (by kernel_rfl) (by kernel_rfl) (Nat.le_of_ble_eq_true (by kernel_rfl)) eG (by kernel_rfl) (Nat.le_of_ble_eq_true (by kernel_rfl))
end spec_l31House
namespace spec_HousesOk
def sin:Sig:=⟨[],[.one (.val (.sl (.pair I (.pair I (.pair I .unit)))) false)]⟩
def sout:Sig:=⟨[],[.one (.val .bool false)]⟩
def h2:SS:=⟨[0,3],⟨[],[.one (.val (.sl (.pair I (.pair I (.pair I .unit)))) false),.one (.val I false)]⟩⟩
def x2:SS:=⟨[],⟨[],[]⟩⟩
def y2:SS:=⟨[2],⟨[],[.one (.val .bool false)]⟩⟩
noncomputable def b2 {β:Type}(S:Sl)(L:(List (Int×(Int×(Int×Unit))))→Int→Option β)(kx:Option β)(kr:Bool→Option β)(s0:(List (Int×(Int×(Int×Unit)))))(s1:Int):Option β:=bif(S.lt s1 (s0.length:Int))then(bif(S.ir s1 s0.length)then(spec_l31House.G S ((List.getD s0 (Int.toNat s1) (0,(0,(0,())))).1) ((List.getD s0 (Int.toNat s1) (0,(0,(0,())))).2.1) ((List.getD s0 (Int.toNat s1) (0,(0,(0,())))).2.2.1) (fun y1=>bif(!y1)then(kr false)else(bif(S.lt 0 s1)then(bif(S.ir (S.w (s1-1)) s0.length)then(bif(S.ir s1 s0.length)then(bif(S.le ((List.getD s0 (Int.toNat s1) (0,(0,(0,())))).1) ((List.getD s0 (Int.toNat (S.w (s1-1))) (0,(0,(0,())))).1))then(kr false)else(L s0 (S.w (s1+1))))else(none))else(none))else(L s0 (S.w (s1+1))))))else(none))else(kx)
noncomputable def r2 {β:Type}(S:Sl)(n:Nat)(kx:x2.sig.den→Option β)(kr:y2.sig.den→Option β)(s:h2.sig.den):Option β:=rounds (fun L kx kr s=>b2 S (fun x0 x1=>L ((),(x0,(x1,())))) (kx ((),())) (fun x0=>kr ((),(x0,()))) s.2.1 s.2.2.1) kx kr n s
noncomputable def l2 {β:Type}(S:Sl)(n:Nat)(kx:Option β)(kr:Bool→Option β)(s0:(List (Int×(Int×(Int×Unit)))))(s1:Int):Option β:=r2 S n (fun s=>kx) (fun s=>kr s.2.1) ((),(s0,(s1,())))
theorem t2 {β:Type}(S:Sl)(n:Nat)(kx:Option β)(kr:Bool→Option β)(s0:(List (Int×(Int×(Int×Unit)))))(s1:Int):l2 S (n+1) kx kr s0 s1=b2 S (l2 S n kx kr) kx kr s0 s1:=by kernel_rfl
noncomputable def G {β:Type}(S:Sl)(a0:(List (Int×(Int×(Int×Unit)))))(K:Bool→Option β):Option β:=l2 S S.n (K true) (fun y1=>K y1) a0 0
noncomputable def o:Orac:=⟨56,sin,sout,fun s K=>G sl0 s.2.1 (fun x0=>K ((),(x0,())))⟩
noncomputable def C:Ctx:=⟨tyT,[spec_l31House.o],[⟨2,0,h2,x2,y2,fun s kx kr=>r2 sl0 sl0.n kx kr s⟩],34,0⟩
theorem ctx:CtxOk Try.prog C:=⟨tyOk,all1 spec_l31House.ok (all0)⟩
theorem e2 (β:Type)(L:h2.sig.den→Option β)(kx:x2.sig.den→Option β)(kr:y2.sig.den→Option β)(s:h2.sig.den):evalBody C (nthC (loopsOf (bodyC Try.f56)) 0) 0 h2 x2 y2 L kx kr s=b2 sl0 (fun x0 x1=>L ((),(x0,(x1,())))) (kx ((),())) (fun x0=>kr ((),(x0,()))) s.2.1 s.2.2.1:=by kernel_rfl
theorem g2:LS Try.prog C ⟨2,0,h2,x2,y2,fun s kx kr=>r2 sl0 sl0.n kx kr s⟩ (loopsOf (bodyC Try.f56)):=LS.at (i:=0) (by kernel_rfl) (loop_good mixed ctx (ctx_nat ctx) (N:=sl0.n) (fun _ _ _ _=>rfl) e2 (all1 (LS.none (by kernel_rfl)) (all0)))
theorem eG (β:Type)(s:sin.den)(K:sout.den→Option β):evalFn C Try.f56 sin sout s K=o.F s K:=by kernel_rfl
theorem ok:OracOk Try.prog o:=fn_ok mixed Try.func56 (by kernel_rfl) ctx (c:=bodyC Try.f56) (by kernel_rfl) (all1 g2 (all0)) (by kernel_rfl) (by kernel_rfl) (by kernel_rfl) (Nat.le_of_ble_eq_true (by kernel_rfl)) eG (by kernel_rfl) (Nat.le_of_ble_eq_true (by kernel_rfl))
end spec_HousesOk
namespace spec_l31Rack
def sin:Sig:=⟨[],[.one (.val (.sl (.pair I (.pair I (.pair I .unit)))) false),.one (.val I false)]⟩
def sout:Sig:=⟨[],[.one (.val I false)]⟩
def h2:SS:=⟨[0,1,5],⟨[],[.one (.val (.sl (.pair I (.pair I (.pair I .unit)))) false),.one (.val I false),.one (.val I false)]⟩⟩
def x2:SS:=⟨[],⟨[],[]⟩⟩
def y2:SS:=⟨[4],⟨[],[.one (.val I false)]⟩⟩
noncomputable def b2 {β:Type}(S:Sl)(L:(List (Int×(Int×(Int×Unit))))→Int→Int→Option β)(kx:Option β)(kr:Int→Option β)(s0:(List (Int×(Int×(Int×Unit)))))(s1:Int)(s2:Int):Option β:=bif(S.lt s2 (s0.length:Int))then(bif(S.ir s2 s0.length)then(bif(S.eq ((List.getD s0 (Int.toNat s2) (0,(0,(0,())))).1) s1)then(bif(S.ir s2 s0.length)then(kr ((List.getD s0 (Int.toNat s2) (0,(0,(0,())))).2.1))else(none))else(L s0 s1 (S.w (s2+1))))else(none))else(kx)
noncomputable def r2 {β:Type}(S:Sl)(n:Nat)(kx:x2.sig.den→Option β)(kr:y2.sig.den→Option β)(s:h2.sig.den):Option β:=rounds (fun L kx kr s=>b2 S (fun x0 x1 x2=>L ((),(x0,(x1,(x2,()))))) (kx ((),())) (fun x0=>kr ((),(x0,()))) s.2.1 s.2.2.1 s.2.2.2.1) kx kr n s
noncomputable def l2 {β:Type}(S:Sl)(n:Nat)(kx:Option β)(kr:Int→Option β)(s0:(List (Int×(Int×(Int×Unit)))))(s1:Int)(s2:Int):Option β:=r2 S n (fun s=>kx) (fun s=>kr s.2.1) ((),(s0,(s1,(s2,()))))
theorem t2 {β:Type}(S:Sl)(n:Nat)(kx:Option β)(kr:Int→Option β)(s0:(List (Int×(Int×(Int×Unit)))))(s1:Int)(s2:Int):l2 S (n+1) kx kr s0 s1 s2=b2 S (l2 S n kx kr) kx kr s0 s1 s2:=by kernel_rfl
noncomputable def G {β:Type}(S:Sl)(a0:(List (Int×(Int×(Int×Unit)))))(a1:Int)(K:Int→Option β):Option β:=l2 S S.n (K 0) (fun y1=>K y1) a0 a1 0
noncomputable def o:Orac:=⟨58,sin,sout,fun s K=>G sl0 s.2.1 s.2.2.1 (fun x0=>K ((),(x0,())))⟩
noncomputable def C:Ctx:=⟨tyT,[],[⟨2,0,h2,x2,y2,fun s kx kr=>r2 sl0 sl0.n kx kr s⟩],24,0⟩
theorem ctx:CtxOk Try.prog C:=⟨tyOk,all0⟩
theorem e2 (β:Type)(L:h2.sig.den→Option β)(kx:x2.sig.den→Option β)(kr:y2.sig.den→Option β)(s:h2.sig.den):evalBody C (nthC (loopsOf (bodyC Try.f58)) 0) 0 h2 x2 y2 L kx kr s=b2 sl0 (fun x0 x1 x2=>L ((),(x0,(x1,(x2,()))))) (kx ((),())) (fun x0=>kr ((),(x0,()))) s.2.1 s.2.2.1 s.2.2.2.1:=by kernel_rfl
theorem g2:LS Try.prog C ⟨2,0,h2,x2,y2,fun s kx kr=>r2 sl0 sl0.n kx kr s⟩ (loopsOf (bodyC Try.f58)):=LS.at (i:=0) (by kernel_rfl) (loop_good mixed ctx (ctx_nat ctx) (N:=sl0.n) (fun _ _ _ _=>rfl) e2 (all1 (LS.none (by kernel_rfl)) (all0)))
theorem eG (β:Type)(s:sin.den)(K:sout.den→Option β):evalFn C Try.f58 sin sout s K=o.F s K:=by kernel_rfl
theorem ok:OracOk Try.prog o:=fn_ok mixed Try.func58 (by kernel_rfl) ctx (c:=bodyC Try.f58) (by kernel_rfl) (all1 g2 (all0)) (by kernel_rfl) (by kernel_rfl) (by kernel_rfl) (Nat.le_of_ble_eq_true (by kernel_rfl)) eG (by kernel_rfl) (Nat.le_of_ble_eq_true (by kernel_rfl))
end spec_l31Rack
namespace spec_l31Score
def sin:Sig:=⟨[],[.one (.val I false),.agg [.val I false,.val I false,.val I false]]⟩
def sout:Sig:=⟨[],[.one (.val I false)]⟩
noncomputable def G {β:Type}(S:Sl)(a0:Int)(a1:Int)(a2:Int)(a3:Int)(K:Int→Option β):Option β:=K (S.w ((Int.tmod (S.w ((S.w ((S.w ((S.w (a0*37))+(S.w (a1*61))))+(S.w ((S.w (a0*a1))*13))))+7)) 101)*a3))
noncomputable def o:Orac:=⟨87,sin,sout,fun s K=>G sl0 s.2.1 s.2.2.1.1 s.2.2.1.2.1 s.2.2.1.2.2.1 (fun x0=>K ((),(x0,())))⟩
noncomputable def C:Ctx:=⟨tyT,[],[],22,0⟩
theorem ctx:CtxOk Try.prog C:=⟨tyOk,all0⟩
theorem eG (β:Type)(s:sin.den)(K:sout.den→Option β):evalFn C Try.f87 sin sout s K=o.F s K:=by kernel_rfl
theorem ok:OracOk Try.prog o:=fn_ok mixed Try.func87 (by kernel_rfl) ctx (c:=bodyC Try.f87) (by kernel_rfl) (all0) (by kernel_rfl) (by kernel_rfl) (by kernel_rfl) (Nat.le_of_ble_eq_true (by kernel_rfl)) eG (by kernel_rfl) (Nat.le_of_ble_eq_true (by kernel_rfl))
end spec_l31Score
namespace spec_l31Ranks
def sin:Sig:=⟨[],[.one (.val I false),.one (.val (.sl (.pair I (.pair I (.pair I .unit)))) false)]⟩
def sout:Sig:=⟨[.buf I false],[.one (.ref (.own 0))]⟩
def h6:SS:=⟨[0,1,5,6,7,8],⟨[.buf I false,.buf .bool false],[.one (.val I false),.one (.val (.sl (.pair I (.pair I (.pair I .unit)))) false),.one (.ref (.own 0)),.one (.ref (.own 1)),.one (.val I false),.one (.val I false)]⟩⟩
def x6:SS:=⟨[0,1,5,6,7],⟨[.buf I false,.buf .bool false],[.one (.val I false),.one (.val (.sl (.pair I (.pair I (.pair I .unit)))) false),.one (.ref (.own 0)),.one (.ref (.own 1)),.one (.val I false)]⟩⟩
def y6:SS:=⟨[],⟨[],[]⟩⟩
noncomputable def b6 {β:Type}(S:Sl)(L:(List Int)→(List Bool)→Int→(List (Int×(Int×(Int×Unit))))→Int→Int→Option β)(kx:(List Int)→(List Bool)→Int→(List (Int×(Int×(Int×Unit))))→Int→Option β)(kr:Option β)(s0:(List Int))(s1:(List Bool))(s2:Int)(s3:(List (Int×(Int×(Int×Unit)))))(s4:Int)(s5:Int):Option β:=bif(S.lt s5 (s3.length:Int))then(bif(S.ir s5 s1.length)then(bif(!(List.getD s1 (Int.toNat s5) false))then(bif(S.lt s4 0)then(L s0 s1 s2 s3 s5 (S.w (s5+1)))else(bif(S.ir s5 s3.length)then(spec_l31Score.G S s2 ((List.getD s3 (Int.toNat s5) (0,(0,(0,())))).1) ((List.getD s3 (Int.toNat s5) (0,(0,(0,())))).2.1) ((List.getD s3 (Int.toNat s5) (0,(0,(0,())))).2.2.1) (fun y1=>bif(S.ir s4 s3.length)then(spec_l31Score.G S s2 ((List.getD s3 (Int.toNat s4) (0,(0,(0,())))).1) ((List.getD s3 (Int.toNat s4) (0,(0,(0,())))).2.1) ((List.getD s3 (Int.toNat s4) (0,(0,(0,())))).2.2.1) (fun y2=>bif(S.lt y2 y1)then(L s0 s1 s2 s3 s5 (S.w (s5+1)))else(L s0 s1 s2 s3 s4 (S.w (s5+1)))))else(none)))else(none)))else(L s0 s1 s2 s3 s4 (S.w (s5+1))))else(none))else(kx s0 s1 s2 s3 s4)
noncomputable def r6 {β:Type}(S:Sl)(n:Nat)(kx:x6.sig.den→Option β)(kr:y6.sig.den→Option β)(s:h6.sig.den):Option β:=rounds (fun L kx kr s=>b6 S (fun x0 x1 x2 x3 x4 x5=>L ((x0,(x1,())),(x2,(x3,(x4,(x5,())))))) (fun x0 x1 x2 x3 x4=>kx ((x0,(x1,())),(x2,(x3,(x4,()))))) (kr ((),())) s.1.1 s.1.2.1 s.2.1 s.2.2.1 s.2.2.2.1 s.2.2.2.2.1) kx kr n s
noncomputable def l6 {β:Type}(S:Sl)(n:Nat)(kx:(List Int)→(List Bool)→Int→(List (Int×(Int×(Int×Unit))))→Int→Option β)(kr:Option β)(s0:(List Int))(s1:(List Bool))(s2:Int)(s3:(List (Int×(Int×(Int×Unit)))))(s4:Int)(s5:Int):Option β:=r6 S n (fun s=>kx s.1.1 s.1.2.1 s.2.1 s.2.2.1 s.2.2.2.1) (fun s=>kr) ((s0,(s1,())),(s2,(s3,(s4,(s5,())))))
theorem t6 {β:Type}(S:Sl)(n:Nat)(kx:(List Int)→(List Bool)→Int→(List (Int×(Int×(Int×Unit))))→Int→Option β)(kr:Option β)(s0:(List Int))(s1:(List Bool))(s2:Int)(s3:(List (Int×(Int×(Int×Unit)))))(s4:Int)(s5:Int):l6 S (n+1) kx kr s0 s1 s2 s3 s4 s5=b6 S (l6 S n kx kr) kx kr s0 s1 s2 s3 s4 s5:=by kernel_rfl
def h3:SS:=⟨[0,1,5,6],⟨[.buf I false,.buf .bool false],[.one (.val I false),.one (.val (.sl (.pair I (.pair I (.pair I .unit)))) false),.one (.ref (.own 0)),.one (.ref (.own 1))]⟩⟩
def x3:SS:=⟨[5],⟨[.buf I false],[.one (.ref (.own 0))]⟩⟩
def y3:SS:=⟨[],⟨[],[]⟩⟩
noncomputable def b3 {β:Type}(S:Sl)(L:(List Int)→(List Bool)→Int→(List (Int×(Int×(Int×Unit))))→Option β)(kx:(List Int)→Option β)(kr:Option β)(s0:(List Int))(s1:(List Bool))(s2:Int)(s3:(List (Int×(Int×(Int×Unit))))):Option β:=bif(S.lt (s0.length:Int) (s3.length:Int))then(l6 S S.n (fun y1 y2 y3 y4 y5=>bif(S.ir y5 y2.length)then(bif(S.ir y5 y4.length)then(bif(S.fw (y1 ++ [(List.getD y4 (Int.toNat y5) (0,(0,(0,())))).1]).length)then(L (y1 ++ [(List.getD y4 (Int.toNat y5) (0,(0,(0,())))).1]) (List.set y2 (Int.toNat y5) true) y3 y4)else(none))else(none))else(none)) none s0 s1 s2 s3 (-1) 0)else(kx s0)
noncomputable def r3 {β:Type}(S:Sl)(n:Nat)(kx:x3.sig.den→Option β)(kr:y3.sig.den→Option β)(s:h3.sig.den):Option β:=rounds (fun L kx kr s=>b3 S (fun x0 x1 x2 x3=>L ((x0,(x1,())),(x2,(x3,())))) (fun x0=>kx ((x0,()),())) (kr ((),())) s.1.1 s.1.2.1 s.2.1 s.2.2.1) kx kr n s
noncomputable def l3 {β:Type}(S:Sl)(n:Nat)(kx:(List Int)→Option β)(kr:Option β)(s0:(List Int))(s1:(List Bool))(s2:Int)(s3:(List (Int×(Int×(Int×Unit))))):Option β:=r3 S n (fun s=>kx s.1.1) (fun s=>kr) ((s0,(s1,())),(s2,(s3,())))
theorem t3 {β:Type}(S:Sl)(n:Nat)(kx:(List Int)→Option β)(kr:Option β)(s0:(List Int))(s1:(List Bool))(s2:Int)(s3:(List (Int×(Int×(Int×Unit))))):l3 S (n+1) kx kr s0 s1 s2 s3=b3 S (l3 S n kx kr) kx kr s0 s1 s2 s3:=by kernel_rfl
noncomputable def G {β:Type}(S:Sl)(a0:Int)(a1:(List (Int×(Int×(Int×Unit)))))(K:(List Int)→Option β):Option β:=bif((S.le 0 (a1.length:Int))&&(S.le (a1.length:Int) (a1.length:Int))&&S.fw (Int.toNat (a1.length:Int)))then(l3 S S.n (fun y1=>K y1) none [] (List.replicate (Int.toNat (a1.length:Int)) false) a0 a1)else(none)
noncomputable def o:Orac:=⟨57,sin,sout,fun s K=>G sl0 s.2.1 s.2.2.1 (fun x0=>K ((x0,()),()))⟩
noncomputable def C:Ctx:=⟨tyT,[spec_l31Score.o],[⟨3,0,h3,x3,y3,fun s kx kr=>r3 sl0 sl0.n kx kr s⟩,⟨6,2,h6,x6,y6,fun s kx kr=>r6 sl0 sl0.n kx kr s⟩],61,0⟩
theorem ctx:CtxOk Try.prog C:=⟨tyOk,all1 spec_l31Score.ok (all0)⟩
theorem e6 (β:Type)(L:h6.sig.den→Option β)(kx:x6.sig.den→Option β)(kr:y6.sig.den→Option β)(s:h6.sig.den):evalBody C (nthC (loopsOf (bodyC Try.f57)) 1) 2 h6 x6 y6 L kx kr s=b6 sl0 (fun x0 x1 x2 x3 x4 x5=>L ((x0,(x1,())),(x2,(x3,(x4,(x5,())))))) (fun x0 x1 x2 x3 x4=>kx ((x0,(x1,())),(x2,(x3,(x4,()))))) (kr ((),())) s.1.1 s.1.2.1 s.2.1 s.2.2.1 s.2.2.2.1 s.2.2.2.2.1:=by kernel_rfl
theorem g6:LS Try.prog C ⟨6,2,h6,x6,y6,fun s kx kr=>r6 sl0 sl0.n kx kr s⟩ (loopsOf (bodyC Try.f57)):=LS.at (i:=1) (by kernel_rfl) (loop_good mixed ctx (ctx_nat ctx) (N:=sl0.n) (fun _ _ _ _=>rfl) e6 (all1 (LS.none (by kernel_rfl)) (all1 (LS.none (by kernel_rfl)) (all0))))
theorem e3 (β:Type)(L:h3.sig.den→Option β)(kx:x3.sig.den→Option β)(kr:y3.sig.den→Option β)(s:h3.sig.den):evalBody C (nthC (loopsOf (bodyC Try.f57)) 0) 0 h3 x3 y3 L kx kr s=b3 sl0 (fun x0 x1 x2 x3=>L ((x0,(x1,())),(x2,(x3,())))) (fun x0=>kx ((x0,()),())) (kr ((),())) s.1.1 s.1.2.1 s.2.1 s.2.2.1:=by kernel_rfl
theorem g3:LS Try.prog C ⟨3,0,h3,x3,y3,fun s kx kr=>r3 sl0 sl0.n kx kr s⟩ (loopsOf (bodyC Try.f57)):=LS.at (i:=0) (by kernel_rfl) (loop_good mixed ctx (ctx_nat ctx) (N:=sl0.n) (fun _ _ _ _=>rfl) e3 (all1 (LS.none (by kernel_rfl)) (all1 ((g6).sub (nthC_mem (by kernel_rfl))) (all0))))
theorem eG (β:Type)(s:sin.den)(K:sout.den→Option β):evalFn C Try.f57 sin sout s K=o.F s K:=by kernel_rfl
theorem ok:OracOk Try.prog o:=fn_ok mixed Try.func57 (by kernel_rfl) ctx (c:=bodyC Try.f57) (by kernel_rfl) (all1 g3 (all1 g6 (all0))) (by kernel_rfl) (by kernel_rfl) (by kernel_rfl) (Nat.le_of_ble_eq_true (by kernel_rfl)) eG (by kernel_rfl) (Nat.le_of_ble_eq_true (by kernel_rfl))
end spec_l31Ranks
namespace spec_PlaceOf
def sin:Sig:=⟨[],[.one (.val I false),.one (.val (.sl (.pair I (.pair I (.pair I .unit)))) false)]⟩
def sout:Sig:=⟨[.buf I false],[.one (.ref (.own 0)),.one (.val .bool false)]⟩
def h7:SS:=⟨[1,6,7,8,9],⟨[.buf I false,.buf I false,.buf I false],[.one (.val (.sl (.pair I (.pair I (.pair I .unit)))) false),.one (.ref (.own 0)),.one (.ref (.own 1)),.one (.ref (.own 2)),.one (.val I false)]⟩⟩
def x7:SS:=⟨[6],⟨[.buf I false],[.one (.ref (.own 0))]⟩⟩
def y7:SS:=⟨[],⟨[],[]⟩⟩
noncomputable def b7 {β:Type}(S:Sl)(L:(List Int)→(List Int)→(List Int)→(List (Int×(Int×(Int×Unit))))→Int→Option β)(kx:(List Int)→Option β)(kr:Option β)(s0:(List Int))(s1:(List Int))(s2:(List Int))(s3:(List (Int×(Int×(Int×Unit)))))(s4:Int):Option β:=bif(S.lt s4 (s1.length:Int))then(bif(S.lt (s0.length:Int) 8)then(bif(S.ir s4 s1.length)then(spec_l31Rack.G S s3 (List.getD s1 (Int.toNat s4) 0) (fun y1=>bif(S.ir y1 s2.length)then(bif(S.lt (List.getD s2 (Int.toNat y1) 0) 3)then(bif(S.ir y1 s2.length)then(bif(S.ir y1 s2.length)then(bif(S.ir s4 s1.length)then(bif(S.fw (s0 ++ [(List.getD s1 (Int.toNat s4) 0)]).length)then(L (s0 ++ [(List.getD s1 (Int.toNat s4) 0)]) s1 (List.set s2 (Int.toNat y1) (S.w ((List.getD s2 (Int.toNat y1) 0)+1))) s3 (S.w (s4+1)))else(none))else(none))else(none))else(none))else(L s0 s1 s2 s3 (S.w (s4+1))))else(none)))else(none))else(kx s0))else(kx s0)
noncomputable def r7 {β:Type}(S:Sl)(n:Nat)(kx:x7.sig.den→Option β)(kr:y7.sig.den→Option β)(s:h7.sig.den):Option β:=rounds (fun L kx kr s=>b7 S (fun x0 x1 x2 x3 x4=>L ((x0,(x1,(x2,()))),(x3,(x4,())))) (fun x0=>kx ((x0,()),())) (kr ((),())) s.1.1 s.1.2.1 s.1.2.2.1 s.2.1 s.2.2.1) kx kr n s
noncomputable def l7 {β:Type}(S:Sl)(n:Nat)(kx:(List Int)→Option β)(kr:Option β)(s0:(List Int))(s1:(List Int))(s2:(List Int))(s3:(List (Int×(Int×(Int×Unit)))))(s4:Int):Option β:=r7 S n (fun s=>kx s.1.1) (fun s=>kr) ((s0,(s1,(s2,()))),(s3,(s4,())))
theorem t7 {β:Type}(S:Sl)(n:Nat)(kx:(List Int)→Option β)(kr:Option β)(s0:(List Int))(s1:(List Int))(s2:(List Int))(s3:(List (Int×(Int×(Int×Unit)))))(s4:Int):l7 S (n+1) kx kr s0 s1 s2 s3 s4=b7 S (l7 S n kx kr) kx kr s0 s1 s2 s3 s4:=by kernel_rfl
noncomputable def G {β:Type}(S:Sl)(a0:Int)(a1:(List (Int×(Int×(Int×Unit)))))(K:(List Int)→Bool→Option β):Option β:=spec_l6In.G S a0 0 99 (fun y1=>bif(!y1)then(K [] false)else(spec_HousesOk.G S a1 (fun y2=>bif(!y2)then(K [] false)else(spec_l31Ranks.G S a0 a1 (fun y3=>bif((S.le 0 5)&&(S.le 5 5)&&S.fw (Int.toNat 5))then(l7 S S.n (fun y4=>bif(S.lt (y4.length:Int) 8)then(K [] false)else(K y4 true)) none [] y3 (List.replicate (Int.toNat 5) (0:Int)) a1 0)else(none))))))
noncomputable def o:Orac:=⟨21,sin,sout,fun s K=>G sl0 s.2.1 s.2.2.1 (fun x0 x1=>K ((x0,()),(x1,())))⟩
noncomputable def C:Ctx:=⟨tyT,[spec_HousesOk.o,spec_l31Rack.o,spec_l31Ranks.o,spec_l6In.o],[⟨7,0,h7,x7,y7,fun s kx kr=>r7 sl0 sl0.n kx kr s⟩],67,0⟩
theorem ctx:CtxOk Try.prog C:=⟨tyOk,all1 spec_HousesOk.ok (all1 spec_l31Rack.ok (all1 spec_l31Ranks.ok (all1 spec_l6In.ok (all0))))⟩
theorem e7 (β:Type)(L:h7.sig.den→Option β)(kx:x7.sig.den→Option β)(kr:y7.sig.den→Option β)(s:h7.sig.den):evalBody C (nthC (loopsOf (bodyC Try.f21)) 0) 0 h7 x7 y7 L kx kr s=b7 sl0 (fun x0 x1 x2 x3 x4=>L ((x0,(x1,(x2,()))),(x3,(x4,())))) (fun x0=>kx ((x0,()),())) (kr ((),())) s.1.1 s.1.2.1 s.1.2.2.1 s.2.1 s.2.2.1:=by kernel_rfl
theorem g7:LS Try.prog C ⟨7,0,h7,x7,y7,fun s kx kr=>r7 sl0 sl0.n kx kr s⟩ (loopsOf (bodyC Try.f21)):=LS.at (i:=0) (by kernel_rfl) (loop_good mixed ctx (ctx_nat ctx) (N:=sl0.n) (fun _ _ _ _=>rfl) e7 (all1 (LS.none (by kernel_rfl)) (all0)))
theorem eG (β:Type)(s:sin.den)(K:sout.den→Option β):evalFn C Try.f21 sin sout s K=o.F s K:=by kernel_rfl
theorem ok:OracOk Try.prog o:=fn_ok mixed Try.func21 (by kernel_rfl) ctx (c:=bodyC Try.f21) (by kernel_rfl) (all1 g7 (all0)) (by kernel_rfl) (by kernel_rfl) (by kernel_rfl) (Nat.le_of_ble_eq_true (by kernel_rfl)) eG (by kernel_rfl) (Nat.le_of_ble_eq_true (by kernel_rfl))
end spec_PlaceOf
namespace laws_FnPlaceRackLost
def sin:Sig:=⟨[],[.one (.val (.sl (.int .u8)) false),.one (.val (.sl (.int .u8)) false)]⟩
def sout:Sig:=⟨[],[.one (.val .bool false)]⟩
noncomputable def G {β:Type}(S:Sl)(a0:(List Int))(a1:(List Int))(K:Bool→Option β):Option β:=bif(S.lt 1048576 (a0.length:Int))then(K true)else(bif(S.lt 1048576 (a1.length:Int))then(K true)else(spec_DrawPlaceOf.G S a0 (fun y1 y2=>spec_PlaceOf.G S y2 y1 (fun y3 y4=>impl_PlaceOf.G S y2 y1 (fun y5 y6=>bif(y6 != y4)then(bif(y6==y4)then(laws_lkInts.G S y5 y3 (fun y7=>K y7))else(K false))else(laws_lkInts.G S y5 y3 (fun y8=>bif(!y8)then(bif(y6==y4)then(laws_lkInts.G S y5 y3 (fun y9=>K y9))else(K false))else(bif(!y6)then(bif(y6==y4)then(laws_lkInts.G S y5 y3 (fun y10=>K y10))else(K false))else(impl_PlaceRack.G S y1 y5 (S.w ((1:Int)+(Int.tmod (a1.length:Int) 4))) (fun y11=>laws_lkMany.G S y11 (fun y12=>bif(S.le (S.w ((8:Int)-y12)) 3)then(impl_CodeBears.G S 2 y11 (fun y13=>K y13))else(K false))))))))))))
noncomputable def o:Orac:=⟨6,sin,sout,fun s K=>G sl0 s.2.1 s.2.2.1 (fun x0=>K ((),(x0,())))⟩
noncomputable def C:Ctx:=⟨tyT,[impl_CodeBears.o,impl_PlaceOf.o,impl_PlaceRack.o,laws_lkInts.o,laws_lkMany.o,spec_DrawPlaceOf.o,spec_PlaceOf.o],[],75,0⟩
theorem ctx:CtxOk Try.prog C:=⟨tyOk,all1 impl_CodeBears.ok (all1 impl_PlaceOf.ok (all1 impl_PlaceRack.ok (all1 laws_lkInts.ok (all1 laws_lkMany.ok (all1 spec_DrawPlaceOf.ok (all1 spec_PlaceOf.ok (all0)))))))⟩
theorem eG (β:Type)(s:sin.den)(K:sout.den→Option β):evalFn C Try.f6 sin sout s K=o.F s K:=by kernel_rfl
theorem ok:OracOk Try.prog o:=fn_ok mixed Try.func6 (by kernel_rfl) ctx (c:=bodyC Try.f6) (by kernel_rfl) (all0) (by kernel_rfl) (by kernel_rfl) (by kernel_rfl) (Nat.le_of_ble_eq_true (by kernel_rfl)) eG (by kernel_rfl) (Nat.le_of_ble_eq_true (by kernel_rfl))
end laws_FnPlaceRackLost
end Go.Proofs.Ytijjhpmladkjdaa.E
end
section
namespace Go.Proofs.Ytijjhpmladkjdaa.E
open Go Go.RowKit
section
variable {β:Type}
theorem cT {c:Bool} {x y r:Option β} (h:c=true) (k:x=r):(bif c then x else y)=r:=by rw [h]; exact k
theorem cF {c:Bool} {x y r:Option β} (h:c=false) (k:y=r):(bif c then x else y)=r:=by rw [h]; exact k
theorem ltT {a b:Int} (h:a<b):sl1.lt a b=true:=decide_eq_true h
theorem ltF {a b:Int} (h:b≤a):sl1.lt a b=false:=decide_eq_false (by omega)
theorem leT {a b:Int} (h:a≤b):sl1.le a b=true:=decide_eq_true h
theorem leF {a b:Int} (h:b<a):sl1.le a b=false:=decide_eq_false (by omega)
theorem eqT {a b:Int} (h:a=b):sl1.eq a b=true:=by subst h; exact beq_self_eq_true a
theorem eqF {a b:Int} (h:a≠b):sl1.eq a b=false:=beq_eq_false_iff_ne.2 h
theorem neT {a b:Int} (h:a≠b):(!sl1.eq a b)=true:=by rw [eqF h]; rfl
theorem neF {a b:Int} (h:a=b):(!sl1.eq a b)=false:=by rw [eqT h]; rfl
theorem irT {i:Int} {n:Nat} (h0:0≤i) (h1:i<(n:Int)):sl1.ir i n=true:=by
 show(decide (0≤i)&&decide (i<(n:Int)))=true
 rw [decide_eq_true h0,decide_eq_true h1]; rfl
theorem fwT {n:Nat} (h:n<1073741824):sl1.fw n=true:=Nat.ble_eq_true_of_le h
theorem andT {a b:Bool} (h:a=true) (k:b=true):(a&&b)=true:=by rw [h,k]; rfl
theorem wE {a:Int} (h0:-9223372036854775808≤a) (h1:a≤9223372036854775807):sl1.w a=a:=by
 show IntKind.i64.wrap a=a
 rw [IntKind.wrap_i64]; omega
theorem w_succ {i:Nat} (h:i≤9000000000):sl1.w ((i:Int)+1)=((i+1:Nat):Int):=by rw [wE (by omega) (by omega)]; omega
theorem le_def (a b:Int):sl1.le a b=decide (a≤b):=rfl
theorem getN {α:Type} {d:α} (l:List α) (i:Nat) (h:i<l.length):List.getD l (Int.toNat (i:Int)) d=l[i]:=by
 rw [Int.toNat_natCast,List.getD_eq_getElem?_getD,List.getElem?_eq_getElem h]; rfl
theorem rounds_n:sl1.n=4294967296:=rfl
def inV (a b c:Int):Bool:=decide (b≤a)&&decide (a≤c)
theorem inV_iff {a b c:Int}:inV a b c=true↔b≤a∧a≤c:=by simp [inV]
theorem spec_in (a b c:Int) (K:Bool→Option β):spec_l6In.G sl1 a b c K=K (inV a b c):=by
 by_cases h:b≤a
 ·exact cT (leT h) (by simp [inV,h,le_def])
 ·exact cF (leF (by omega)) (by simp [inV,h])
theorem impl_in (a b c:Int) (K:Bool→Option β):impl_within.G sl1 a b c K=K (inV a b c):=spec_in a b c K
theorem tmod_in {a n:Int} (h:0≤a) (hn:0<n):0≤Int.tmod a n∧Int.tmod a n<n:=by
 rw [Int.tmod_eq_emod_of_nonneg h]
 exact⟨Int.emod_nonneg _ (by omega),Int.emod_lt_of_pos _ hn⟩
theorem byteAt {b:List Int} (hb:∀ x∈b,0≤x∧x≤255) {i:Int} (h0:0≤i) (h1:i<(b.length:Int)):0≤List.getD b (Int.toNat i) 0∧List.getD b (Int.toNat i) 0≤255:=by
 obtain⟨n,rfl⟩:=Int.eq_ofNat_of_zero_le h0
 have hn:n<b.length:=by omega
 have:=getN b n hn (d:=(0:Int))
 rw [this]
 exact hb _ (List.getElem_mem hn)
theorem xr_pos {a b:Int} (h0:0≤a) (h1:a≤4611686018427387903) (h2:0≤b) (h3:b≤4611686018427387903):0≤sl1.xr .i64 a b:=by
 show 0≤IntKind.i64.wrap _
 have e:∀ c:Int,0≤c→c≤4611686018427387903→(BitVec.ofInt IntKind.i64.bits c).toNat<2 ^ 62:=by
  intro c hc hc2
  show(BitVec.ofInt 64 c).toNat<2 ^ 62
  rw [BitVec.toNat_ofInt]
  omega
 have h:=Nat.xor_lt_two_pow (e a h0 h1) (e b h2 h3)
 have e2:((BitVec.ofInt IntKind.i64.bits a ^^^ BitVec.ofInt IntKind.i64.bits b).toNat)<2 ^ 62:=by
  rw [BitVec.toNat_xor]; exact h
 rw [IntKind.wrap_i64]
 omega
theorem pick_G {b:List Int} (hb:∀ x∈b,0≤x∧x≤255) (hl:b.length≤2000) {p n:Int} (hp:0≤p) (hp2:p≤1000000) (hn:1≤n):∃ v,0≤v∧v<n∧∀ (β:Type) (K:List Int→Int→Int→Option β),spec_l6Rd_pick.G sl1 b p n K=K b (p+1) v:=by
 have wp:sl1.w (p+1)=p+1:=wE (by omega) (by omega)
 have wq:sl1.w (p+1-1)=p:=by rw [wE (a:=p+1-1) (by omega) (by omega)]; omega
 by_cases h0:b.length=0
 ·refine ⟨0, by omega, by omega, fun β K => ?_⟩
  unfold spec_l6Rd_pick.G
  rw [wp]
  exact cF (ltF (by omega)) (cT (eqT (by omega)) rfl)
 ·have hnz : (!((b.length : Int) == 0)) = true := by rw [Bool.not_eq_true']; exact beq_eq_false_iff_ne.2 (by omega)
  have hnn:(!(n==0))=true:=by rw [Bool.not_eq_true']; exact beq_eq_false_iff_ne.2 (by omega)
  by_cases h1:p<(b.length:Int)
  ·have hbt := byteAt hb hp h1
   refine⟨Int.tmod (sl1.w (List.getD b (Int.toNat p) 0)) n,?_,?_,fun β K=>?_⟩
   ·rw [wE (by omega) (by omega)]; exact(tmod_in hbt.1 (by omega)).1
   ·rw [wE (by omega) (by omega)]; exact(tmod_in hbt.1 (by omega)).2
   ·unfold spec_l6Rd_pick.G
    rw [wp,wq]
    exact cF (ltF (by omega)) (cF (eqF (by omega)) (cT (ltT h1) (cT (irT hp h1) (cT hnn rfl))))
  ·have ha := tmod_in hp (show 0 < (b.length : Int) by omega)
   have hc:=tmod_in (a:=p*7+3) (by omega) (show 0<(b.length:Int) by omega)
   have hq:0≤Int.tdiv p (b.length:Int)∧Int.tdiv p (b.length:Int)≤p:=⟨Int.tdiv_nonneg hp (by omega),Int.tdiv_le_self _ hp⟩
   have b1:=byteAt hb ha.1 ha.2
   have b2:=byteAt hb hc.1 hc.2
   have w7:sl1.w (sl1.w (p*7)+3)=p*7+3:=by rw [wE (a:=p*7) (by omega) (by omega),wE (by omega) (by omega)]
   refine⟨Int.tmod (sl1.xr .i64 (sl1.w ((sl1.w ((sl1.w ((sl1.w ((sl1.w (List.getD b (Int.toNat (Int.tmod p (b.length:Int))) 0))*131))+(sl1.w ((sl1.w (List.getD b (Int.toNat (Int.tmod (p*7+3) (b.length:Int))) 0))*1117))))+(sl1.w (p*29))))+(sl1.w ((sl1.w (Int.tdiv p (b.length:Int)))*53)))) (sl1.w (Int.tdiv (sl1.w ((sl1.w ((sl1.w ((sl1.w ((sl1.w (List.getD b (Int.toNat (Int.tmod p (b.length:Int))) 0))*131))+(sl1.w ((sl1.w (List.getD b (Int.toNat (Int.tmod (p*7+3) (b.length:Int))) 0))*1117))))+(sl1.w (p*29))))+(sl1.w ((sl1.w (Int.tdiv p (b.length:Int)))*53)))) 64))) n,?_,?_,fun β K=>?_⟩
   ·refine (tmod_in ?_ (by omega)).1
    generalize List.getD b (Int.toNat (Int.tmod p (b.length:Int))) 0=x at b1 ⊢
    generalize List.getD b (Int.toNat (Int.tmod (p*7+3) (b.length:Int))) 0=y at b2 ⊢
    generalize Int.tdiv p (b.length:Int)=z at hq ⊢
    have e:sl1.w ((sl1.w ((sl1.w ((sl1.w ((sl1.w x)*131))+(sl1.w ((sl1.w y)*1117))))+(sl1.w (p*29))))+(sl1.w ((sl1.w z)*53)))=x*131+y*1117+p*29+z*53:=by
     rw [wE (a:=x) (by omega) (by omega),wE (a:=y) (by omega) (by omega),wE (a:=z) (by omega) (by omega),wE (a:=x*131) (by omega) (by omega),wE (a:=y*1117) (by omega) (by omega),wE (a:=p*29) (by omega) (by omega),wE (a:=z*53) (by omega) (by omega),wE (a:=x*131+y*1117) (by omega) (by omega),wE (a:=x*131+y*1117+p*29) (by omega) (by omega),wE (by omega) (by omega)]
    rw [e]
    have d1:0≤Int.tdiv (x*131+y*1117+p*29+z*53) 64:=Int.tdiv_nonneg (by omega) (by omega)
    have d2:Int.tdiv (x*131+y*1117+p*29+z*53) 64≤x*131+y*1117+p*29+z*53:=Int.tdiv_le_self _ (by omega)
    rw [wE (a:=Int.tdiv _ 64) (by omega) (by omega)]
    exact xr_pos (by omega) (by omega) d1 (by omega)
   ·refine (tmod_in ?_ (by omega)).2
    generalize List.getD b (Int.toNat (Int.tmod p (b.length:Int))) 0=x at b1 ⊢
    generalize List.getD b (Int.toNat (Int.tmod (p*7+3) (b.length:Int))) 0=y at b2 ⊢
    generalize Int.tdiv p (b.length:Int)=z at hq ⊢
    have e:sl1.w ((sl1.w ((sl1.w ((sl1.w ((sl1.w x)*131))+(sl1.w ((sl1.w y)*1117))))+(sl1.w (p*29))))+(sl1.w ((sl1.w z)*53)))=x*131+y*1117+p*29+z*53:=by
     rw [wE (a:=x) (by omega) (by omega),wE (a:=y) (by omega) (by omega),wE (a:=z) (by omega) (by omega),wE (a:=x*131) (by omega) (by omega),wE (a:=y*1117) (by omega) (by omega),wE (a:=p*29) (by omega) (by omega),wE (a:=z*53) (by omega) (by omega),wE (a:=x*131+y*1117) (by omega) (by omega),wE (a:=x*131+y*1117+p*29) (by omega) (by omega),wE (by omega) (by omega)]
    rw [e]
    have d1:0≤Int.tdiv (x*131+y*1117+p*29+z*53) 64:=Int.tdiv_nonneg (by omega) (by omega)
    have d2:Int.tdiv (x*131+y*1117+p*29+z*53) 64≤x*131+y*1117+p*29+z*53:=Int.tdiv_le_self _ (by omega)
    rw [wE (a:=Int.tdiv _ 64) (by omega) (by omega)]
    exact xr_pos (by omega) (by omega) d1 (by omega)
   ·unfold spec_l6Rd_pick.G
    rw [wp,wq,w7]
    exact cF (ltF (by omega)) (cF (eqF (by omega)) (cF (ltF (by omega)) (cT hnz (cT (irT ha.1 ha.2) (cT hnz (cT (irT hc.1 hc.2) (cT hnz (cT hnn rfl))))))))
end
structure Src (b:List Int):Prop where
 byte:∀ x∈b,0≤x∧x≤255
 len:b.length≤2000
theorem pick_S {b:List Int} (hb:Src b) {p:Int} (n:Int) (hn:1≤n:=by omega) (hp:0≤p:=by omega) (hp2:p≤1000000:=by omega):∃ v,0≤v∧v<n∧∀ (β:Type) (K:List Int→Int→Int→Option β),spec_l6Rd_pick.G sl1 b p n K=K b (p+1) v:=pick_G hb.byte hb.len hp hp2 hn
theorem open_G {l:List Int} (hl:∀ x∈l,0≤x∧x≤255):∃ b,Src b∧∀ (β:Type) (K:List Int→Int→Option β),spec_l6Open.G sl1 l K=K b 0:=by
 by_cases h:2000<l.length
 ·refine ⟨l.take 2000, ⟨fun x hx => hl x (List.mem_of_mem_take hx), by rw [List.length_take]; omega⟩, fun β K => ?_⟩
  unfold spec_l6Open.G
  exact cT (ltT (by omega)) (cT (andT (andT (andT rfl rfl) (leT (by omega))) (leT (by omega))) rfl)
 ·exact⟨l,⟨hl,by omega⟩,fun β K=>cF (ltF (by omega)) rfl⟩
end Go.Proofs.Ytijjhpmladkjdaa.E
end
section
namespace Go.Proofs.Ytijjhpmladkjdaa.E
open Go Go.RowKit
set_option maxRecDepth 100000
abbrev Ho:=Int×Int×Int×Unit
abbrev noH:Ho:=(0,(0,(0,())))
def vH (x:Ho):Bool:=inV x.1 1 12&&(inV x.2.1 1 4&&inV x.2.2.1 1 9)
theorem vH_pos {x:Ho} (h:vH x=true):1≤x.1∧x.1≤12∧1≤x.2.1∧x.2.1≤4∧1≤x.2.2.1∧x.2.2.1≤9:=by
 unfold vH at h
 rw [Bool.and_eq_true,Bool.and_eq_true,inV_iff,inV_iff,inV_iff] at h
 omega
def okFrom:Int→List Ho→Bool
 | _, [] => true
 | p, x :: r => vH x && (decide (p < x.1) && okFrom x.1 r)
def okH (l:List Ho):Bool:=okFrom 0 l
theorem okFrom_cons (p:Int) (x:Ho) (r:List Ho):okFrom p (x::r)=(vH x&&(decide (p<x.1)&&okFrom x.1 r)):=rfl
theorem specHouse_G {β:Type} (x:Ho) (K:Bool→Option β):spec_l31House.G sl1 x.1 x.2.1 x.2.2.1 K=K (vH x):=by
 unfold spec_l31House.G vH
 refine(spec_in _ _ _ _).trans ?_
 cases inV x.1 1 12
 ·exact cF rfl rfl
 ·refine cT rfl ((spec_in _ _ _ _).trans ?_)
  cases inV x.2.1 1 4
  ·exact cF rfl rfl
  ·exact cT rfl (spec_in _ _ _ _)
theorem implHouse_G {β:Type} (x:Ho) (K:Bool→Option β):impl_House_valid.G sl1 x.1 x.2.1 x.2.2.1 K=K (vH x):=specHouse_G x K
def idAt (l:List Ho) (i:Nat):Int:=if i=0 then 0 else(l.getD (i-1) noH).1
theorem getH {l:List Ho} {i:Nat} (h:i<l.length):l.getD i noH=l[i]:=by rw [List.getD_eq_getElem?_getD,List.getElem?_eq_getElem h]; rfl
theorem idAt_succ (l:List Ho) (i:Nat) (h:i<l.length):idAt l (i+1)=l[i].1:=by
 unfold idAt
 rw [if_neg (by omega),show i+1-1=i by omega,getH h]
theorem specHousesOk_l {β:Type} (l:List Ho) (hl:l.length≤1000000000) (kx:Option β) (kr:Bool→Option β) (d:Nat):∀ (i n:Nat),i+d=l.length→d<n→spec_HousesOk.l2 sl1 n kx kr l (i:Int)=bif okFrom (idAt l i) (l.drop i)then kx else kr false:=by
 induction d with
 | zero =>
  intro i n hi hn
  obtain⟨n,rfl⟩:∃ m,n=m+1:=⟨n-1,by omega⟩
  rw [spec_HousesOk.t2,List.drop_of_length_le (by omega)]; exact cF (ltF (by omega)) rfl
 | succ d ih =>
  intro i n hi hn
  obtain⟨n,rfl⟩:∃ m,n=m+1:=⟨n-1,by omega⟩
  have h1:i<l.length:=by omega
  have next:=ih (i+1) n (by omega) (by omega)
  rw [idAt_succ l i h1] at next
  rw [spec_HousesOk.t2,List.drop_eq_getElem_cons h1,okFrom_cons]
  unfold spec_HousesOk.b2
  rw [w_succ (by omega),getN l i h1]
  refine cT (ltT (by omega)) (cT (irT (by omega) (by omega)) ((specHouse_G l[i] _).trans ?_))
  cases hv:vH l[i]
  ·exact cT rfl rfl
  ·refine cF rfl ?_
   rw [Bool.true_and]
   by_cases h0:i=0
   ·subst h0
    refine cF (ltF (by omega)) (next.trans ?_)
    rw [show idAt l 0=0 from rfl,decide_eq_true (show(0:Int)<l[0].1 from by have:=vH_pos hv; omega),Bool.true_and]
   ·have ei : idAt l i = l[i - 1].1 := by unfold idAt; rw [if_neg h0, getH (by omega)]
    rw [wE (a:=(i:Int)-1) (by omega) (by omega),show((i:Int)-1)=((i-1:Nat):Int) by omega,getN l (i-1) (by omega),ei]
    refine cT (ltT (by omega)) (cT (irT (by omega) (by omega)) (cT (irT (by omega) (by omega)) ?_))
    by_cases c:l[i-1].1<l[i].1
    ·refine cF (leF c) (next.trans ?_)
     rw [decide_eq_true c,Bool.true_and]
    ·refine cT (leT (by omega)) ?_
     rw [decide_eq_false c]; rfl
theorem specHousesOk_G {β:Type} {l:List Ho} (hl:l.length≤1000000000) (K:Bool→Option β):spec_HousesOk.G sl1 l K=K (okH l):=by
 unfold spec_HousesOk.G
 refine(specHousesOk_l l hl _ _ l.length 0 sl1.n (by omega) (by rw [rounds_n]; omega)).trans ?_
 rw [List.drop_zero]
 show(bif okH l then _ else _)=_
 cases okH l <;> rfl
theorem implHousesOk_l {β:Type} (l:List Ho) (hl:l.length≤1000000000) (kx:Option β) (kr:Bool→Option β) (d:Nat):∀ (i n:Nat),i+d=l.length→d<n→impl_HousesOk.l2 sl1 n kx kr l l (l.length:Int) (i:Int)=bif okFrom (idAt l i) (l.drop i)then kx else kr false:=by
 induction d with
 | zero =>
  intro i n hi hn
  obtain⟨n,rfl⟩:∃ m,n=m+1:=⟨n-1,by omega⟩
  rw [impl_HousesOk.t2,List.drop_of_length_le (by omega)]; exact cF (ltF (by omega)) rfl
 | succ d ih =>
  intro i n hi hn
  obtain⟨n,rfl⟩:∃ m,n=m+1:=⟨n-1,by omega⟩
  have h1:i<l.length:=by omega
  have next:=ih (i+1) n (by omega) (by omega)
  rw [idAt_succ l i h1] at next
  rw [impl_HousesOk.t2,List.drop_eq_getElem_cons h1,okFrom_cons]
  unfold impl_HousesOk.b2
  rw [w_succ (by omega),getN l i h1]
  refine cT (ltT (by omega)) (cT (irT (by omega) (by omega)) ((implHouse_G l[i] _).trans ?_))
  cases hv:vH l[i]
  ·exact cT rfl rfl
  ·refine cF rfl ?_
   rw [Bool.true_and]
   by_cases h0:i=0
   ·subst h0
    refine cF (ltF (by omega)) (next.trans ?_)
    rw [show idAt l 0=0 from rfl,decide_eq_true (show(0:Int)<l[0].1 from by have:=vH_pos hv; omega),Bool.true_and]
   ·have ei : idAt l i = l[i - 1].1 := by unfold idAt; rw [if_neg h0, getH (by omega)]
    rw [wE (a:=(i:Int)-1) (by omega) (by omega),show((i:Int)-1)=((i-1:Nat):Int) by omega,getN l (i-1) (by omega),ei]
    refine cT (ltT (by omega)) (cT (irT (by omega) (by omega)) ?_)
    by_cases c:l[i-1].1<l[i].1
    ·refine cF (leF c) (next.trans ?_)
     rw [decide_eq_true c,Bool.true_and]
    ·refine cT (leT (by omega)) ?_
     rw [decide_eq_false c]; rfl
theorem implHousesOk_G {β:Type} {l:List Ho} (hl:l.length≤1000000000) (K:Bool→Option β):impl_HousesOk.G sl1 l K=K (okH l):=by
 unfold impl_HousesOk.G
 refine(implHousesOk_l l hl _ _ l.length 0 sl1.n (by omega) (by rw [rounds_n]; omega)).trans ?_
 rw [List.drop_zero]
 show(bif okH l then _ else _)=_
 cases okH l <;> rfl
theorem okFrom_iff (l:List Ho):∀ p:Int,okFrom p l=true↔(∀ x∈l,vH x=true)∧(∀ x∈l,p<x.1)∧l.Pairwise (fun x y=>x.1<y.1):=by
 induction l with
 | nil => intro p; simp [okFrom]
 | cons x r ih =>
  intro p
  simp only [okFrom,Bool.and_eq_true,decide_eq_true_eq,ih,List.mem_cons,List.pairwise_cons]
  constructor
  ·rintro ⟨h1, h2, h3, h4, h5⟩
   refine⟨?_,?_,h4,h5⟩
   ·rintro y (rfl | hy)
    ·exact h1
    ·exact h3 y hy
   ·rintro y (rfl | hy)
    ·exact h2
    ·have:=h4 y hy; omega
  ·rintro ⟨h1, h2, h3, h4⟩
   exact⟨h1 x (.inl rfl),h2 x (.inl rfl),fun y hy=>h1 y (.inr hy),h3,h4⟩
theorem okFrom_len (l:List Ho):∀ p:Int,p≤12→okFrom p l=true→(l.length:Int)≤12-p:=by
 induction l with
 | nil => intro p hp _; simp; omega
 | cons x r ih =>
  intro p hp h
  simp only [okFrom,Bool.and_eq_true,decide_eq_true_eq] at h
  have hx:=vH_pos h.1
  have:=ih x.1 (by omega) h.2.2
  simp only [List.length_cons]
  omega
theorem okH_len {l:List Ho} (h:okH l=true):l.length≤12:=by
 have:=okFrom_len l 0 (by omega) h
 omega
theorem okH_ids {l:List Ho} (h:okH l=true):l.Pairwise (fun x y=>x.1≠y.1):=(((okFrom_iff l 0).1 h).2.2).imp (fun h=>by omega)
def scH (nm:Int) (x:Ho):Int:=Int.tmod (37*nm+61*x.1+13*(nm*x.1)+7) 101*x.2.2.1
theorem sc_in {nm:Int} (n0:0≤nm) (n1:nm≤99) {x:Ho} (h:vH x=true):0≤nm*x.1∧nm*x.1≤1188:=by
 have hp:=vH_pos h
 exact⟨Int.mul_nonneg n0 (by omega),Int.le_trans (Int.mul_le_mul n1 hp.2.1 (by omega) (by omega)) (by omega)⟩
theorem sc_mod (a w:Int) (h0:0≤a) (w0:1≤w) (w1:w≤9):0≤Int.tmod a 101*w∧Int.tmod a 101*w≤909:=by
 have m:=tmod_in h0 (show(0:Int)<101 by omega)
 exact⟨Int.mul_nonneg m.1 (by omega),by
  have:=Int.mul_le_mul (show Int.tmod a 101≤100 by omega) w1 (by omega) (by omega)
  omega⟩
theorem implScore_G {β:Type} {nm:Int} (n0:0≤nm) (n1:nm≤99) {x:Ho} (h:vH x=true) (K:Int→Option β):impl_House_score.G sl1 x.1 x.2.1 x.2.2.1 nm K=K (scH nm x):=by
 have hp:=vH_pos h
 have hq:=sc_in n0 n1 h
 unfold impl_House_score.G scH
 rw [wE (a:=13*nm) (by omega) (by omega),Int.mul_assoc 13 nm x.1]
 generalize nm*x.1=q at hq
 rw [wE (a:=37*nm) (by omega) (by omega),wE (a:=61*x.1) (by omega) (by omega),wE (a:=37*nm+61*x.1) (by omega) (by omega),wE (a:=13*q) (by omega) (by omega),wE (a:=37*nm+61*x.1+13*q) (by omega) (by omega),wE (a:=37*nm+61*x.1+13*q+7) (by omega) (by omega)]
 have:=sc_mod (37*nm+61*x.1+13*q+7) x.2.2.1 (by omega) (by omega) (by omega)
 rw [wE (by omega) (by omega)]
theorem specScore_G {β:Type} {nm:Int} (n0:0≤nm) (n1:nm≤99) {x:Ho} (h:vH x=true) (K:Int→Option β):spec_l31Score.G sl1 nm x.1 x.2.1 x.2.2.1 K=K (scH nm x):=by
 have hp:=vH_pos h
 have hq:=sc_in n0 n1 h
 unfold spec_l31Score.G scH
 generalize nm*x.1=q at hq
 rw [wE (a:=nm*37) (by omega) (by omega),wE (a:=x.1*61) (by omega) (by omega),wE (a:=nm*37+x.1*61) (by omega) (by omega),wE (a:=q) (by omega) (by omega),wE (a:=q*13) (by omega) (by omega),wE (a:=nm*37+x.1*61+q*13) (by omega) (by omega),wE (a:=nm*37+x.1*61+q*13+7) (by omega) (by omega)]
 rw [show nm*37+x.1*61+q*13+7=37*nm+61*x.1+13*q+7 by omega]
 have:=sc_mod (37*nm+61*x.1+13*q+7) x.2.2.1 (by omega) (by omega) (by omega)
 rw [wE (by omega) (by omega)]
def Ah (nm:Int) (x y:Ho):Prop:=scH nm y<scH nm x∨(scH nm y=scH nm x∧x.1<y.1)
theorem Ah_irrefl {nm:Int} {x:Ho}:¬ Ah nm x x:=by unfold Ah; omega
theorem Ah_trans {nm:Int} {x y z:Ho} (h:Ah nm x y) (h2:Ah nm y z):Ah nm x z:=by unfold Ah at *; omega
def ahB (nm:Int) (x y:Ho):Bool:=decide (scH nm y<scH nm x)||(decide (scH nm y=scH nm x)&&decide (x.1<y.1))
theorem ahB_iff {nm:Int} {x y:Ho}:ahB nm x y=true↔Ah nm x y:=by simp [ahB,Ah]
def cmpI (a b:Int):Int:=if a<b then -1 else if b<a then 1 else 0
theorem cmp_G {β:Type} (a b:Int) (K:Int→Option β):cmp_Compare_int.G sl1 a b K=K (cmpI a b):=by
 unfold cmp_Compare_int.G cmp_isNaN_int.G cmpI
 rw [neF rfl,neF rfl]
 refine cF rfl (cF rfl ?_)
 by_cases h:a<b
 ·rw [if_pos h]; exact cT (ltT h) rfl
 ·rw [if_neg h]
  refine cF (ltF (by omega)) ?_
  by_cases h':b<a
  ·rw [if_pos h']; exact cT (ltT h') rfl
  ·rw [if_neg h']; exact cF (ltF (by omega)) rfl
theorem or_G {β:Type} (a b:Int) (K:Int→Option β):cmp_Or_int.G sl1 [a,b] K=K (if a=0 then b else a):=by
 unfold cmp_Or_int.G
 obtain⟨n,hn⟩:∃ n,sl1.n=n+1+1+1:=⟨4294967293,rfl⟩
 rw [hn,cmp_Or_int.t3]
 unfold cmp_Or_int.b3
 refine cT (by rfl) (cT (by rfl) ?_)
 by_cases ha:a=0
 ·rw [if_pos ha]
  refine cF (neF ha) ?_
  rw [wE (a:=(0:Int)+1) (by omega) (by omega),cmp_Or_int.t3]
  unfold cmp_Or_int.b3
  refine cT (by rfl) (cT (by rfl) ?_)
  by_cases hb:b=0
  ·refine cF (neF hb) ?_
   rw [wE (a:=(0:Int)+1+1) (by omega) (by omega),cmp_Or_int.t3,hb]
   exact cF (by rfl) rfl
  ·exact cT (neT hb) rfl
 ·rw [if_neg ha]
  exact cT (neT ha) rfl
theorem rank1_G {β:Type} {nm:Int} (n0:0≤nm) (n1:nm≤99) {x y:Ho} (hx:vH x=true) (hy:vH y=true) (K:Int→Int→Option β):
  ∃ c,sl1.lt c 0=ahB nm x y∧impl_ranks_1.G sl1 nm x.1 x.2.1 x.2.2.1 y.1 y.2.1 y.2.2.1 K=K nm c:=by
 refine⟨if cmpI (scH nm y) (scH nm x)=0 then cmpI x.1 y.1 else cmpI (scH nm y) (scH nm x),?_,?_⟩
 ·unfold cmpI
  show decide (_<(0:Int))=_
  unfold ahB
  rw [Bool.eq_iff_iff,Bool.or_eq_true,Bool.and_eq_true,decide_eq_true_iff,decide_eq_true_iff,decide_eq_true_iff,decide_eq_true_iff]
  repeat' split
  all_goals omega
 ·unfold impl_ranks_1.G
  exact(implScore_G n0 n1 hy _).trans ((implScore_G n0 n1 hx _).trans ((cmp_G _ _ _).trans ((cmp_G _ _ _).trans (or_G _ _ _))))
def insR (nm:Int):List Ho→Ho→List Ho
 | [], x => [x]
 | y :: r, x => bif ahB nm x y then y :: insR nm r x else x :: y :: r
def insH (nm:Int) (l:List Ho) (x:Ho):List Ho:=(insR nm l.reverse x).reverse
def rankL (nm:Int) (l:List Ho):List Ho:=l.foldl (insH nm) []
theorem insR_perm (nm:Int) (x:Ho):∀ l:List Ho,(insR nm l x).Perm (x::l)
 | [] => List.Perm.refl _
 | y :: r => by
  unfold insR
  cases ahB nm x y
  ·exact List.Perm.refl _
  ·exact((insR_perm nm x r).cons y).trans (List.Perm.swap x y r)
theorem insH_perm (nm:Int) (l:List Ho) (x:Ho):(insH nm l x).Perm (l ++ [x]):=by
 unfold insH
 exact(List.reverse_perm _).trans ((insR_perm nm x l.reverse).trans (((List.reverse_perm l).cons x).trans (List.perm_append_comm (l₁:=[x]) (l₂:=l))))
theorem ins_l {β:Type} {nm:Int} (n0:0≤nm) (n1:nm≤99) (b i:Int) (kx:List Ho→Int→Int→Int→Int→Option β) (kr:Option β) (x:Ho) (hx:vH x=true):∀ (R T:List Ho) (n:Nat),R.length<n→R.length+T.length≤1000→(∀ y∈R,vH y=true)→
  slices_insertionSortCmpFunc_impl_House.l4 sl1 n kx kr (R.reverse++x::T) nm 0 b i (R.length:Int)=kx ((insR nm R x).reverse++T) nm 0 b i
 | [], T, n, hn, hl, hv => by
  obtain⟨n,rfl⟩:∃ m,n=m+1:=⟨n-1,by omega⟩
  rw [slices_insertionSortCmpFunc_impl_House.t4]
  exact cF (ltF (Int.le_refl _)) rfl
 | y :: r, T, n, hn, hl, hv => by
  obtain⟨n,rfl⟩:∃ m,n=m+1:=⟨n-1,by omega⟩
  have hlr:(y::r).length=r.length+1:=rfl
  have hy:=hv y List.mem_cons_self
  have next:=ins_l n0 n1 b i kx kr x hx r (y::T) n (by omega) (by simp only [List.length_cons] at hl ⊢; omega) (fun z hz=>hv z (List.mem_cons_of_mem _ hz))
  have eL:(y::r).reverse++x::T=r.reverse++y::x::T:=by rw [List.reverse_cons,List.append_assoc]; rfl
  have hlen:(r.reverse++y::x::T).length=r.length+(T.length+2):=by rw [List.length_append,List.length_reverse]; rfl
  have gx:(r.reverse++y::x::T).getD (r.length+1) noH=x:=by
   rw [List.getD_eq_getElem?_getD,List.getElem?_append_right (by rw [List.length_reverse]; omega),List.length_reverse,show r.length+1-r.length=1 by omega]; rfl
  have gy:(r.reverse++y::x::T).getD r.length noH=y:=by
   rw [List.getD_eq_getElem?_getD,List.getElem?_append_right (by rw [List.length_reverse]; omega),List.length_reverse,Nat.sub_self]; rfl
  have s1:(r.reverse++y::x::T).set (r.length+1) y=r.reverse++y::y::T:=by
   rw [List.set_append_right _ _ (by rw [List.length_reverse]; omega),List.length_reverse,show r.length+1-r.length=1 by omega]; rfl
  have s2:(r.reverse++y::y::T).set r.length x=r.reverse++x::y::T:=by
   rw [List.set_append_right _ _ (by rw [List.length_reverse]; omega),List.length_reverse,Nat.sub_self]; rfl
  rw [eL,hlr,slices_insertionSortCmpFunc_impl_House.t4]
  unfold slices_insertionSortCmpFunc_impl_House.b4
  rw [wE (a:=((r.length+1:Nat):Int)-1) (by omega) (by omega),show((r.length+1:Nat):Int)-1=(r.length:Int) by omega,Int.toNat_natCast,Int.toNat_natCast]
  show(bif _ then(bif _ then(bif _ then impl_ranks_1.G sl1 nm ((r.reverse++y::x::T).getD (r.length+1) noH).1 ((r.reverse++y::x::T).getD (r.length+1) noH).2.1 ((r.reverse++y::x::T).getD (r.length+1) noH).2.2.1 ((r.reverse++y::x::T).getD r.length noH).1 ((r.reverse++y::x::T).getD r.length noH).2.1 ((r.reverse++y::x::T).getD r.length noH).2.2.1 (fun y1 y2=>bif sl1.lt y2 0 then(bif _ then(bif _ then(bif _ then(bif sl1.ir (r.length:Int) ((r.reverse++y::x::T).set (r.length+1) ((r.reverse++y::x::T).getD r.length noH)).length then slices_insertionSortCmpFunc_impl_House.l4 sl1 n kx kr (((r.reverse++y::x::T).set (r.length+1) ((r.reverse++y::x::T).getD r.length noH)).set r.length ((r.reverse++y::x::T).getD (r.length+1) noH)) y1 0 b i (r.length:Int)else none)else none)else none)else none)else kx (r.reverse++y::x::T) y1 0 b i)else none)else none)else kx (r.reverse++y::x::T) nm 0 b i)=_
  rw [gx,gy,s1,s2]
  obtain⟨c,hc,ec⟩:=rank1_G n0 n1 hx hy (fun y1 y2=>bif sl1.lt y2 0 then(bif sl1.ir (r.length:Int) (r.reverse++y::x::T).length then(bif sl1.ir ((r.length+1:Nat):Int) (r.reverse++y::x::T).length then(bif sl1.ir ((r.length+1:Nat):Int) (r.reverse++y::x::T).length then(bif sl1.ir (r.length:Int) (r.reverse++y::y::T).length then slices_insertionSortCmpFunc_impl_House.l4 sl1 n kx kr (r.reverse++x::y::T) y1 0 b i (r.length:Int)else none)else none)else none)else none)else kx (r.reverse++y::x::T) y1 0 b i)
  refine cT (ltT (by omega)) (cT (irT (by omega) (by omega)) (cT (irT (by omega) (by omega)) (ec.trans ?_)))
  rw [hc]
  unfold insR
  cases ahB nm x y
  ·refine cF rfl ?_
   show _=kx ((x::y::r).reverse++T) nm 0 b i
   rw [List.reverse_cons,List.reverse_cons,List.append_assoc,List.append_assoc]; rfl
  ·have hlen2 : (r.reverse ++ y :: y :: T).length = r.length + (T.length + 2) := by rw [List.length_append, List.length_reverse]; rfl
   refine cT rfl (cT (irT (by omega) (by omega)) (cT (irT (by omega) (by omega)) (cT (irT (by omega) (by omega)) (cT (irT (by omega) (by omega)) (next.trans ?_)))))
   show _=kx ((y::insR nm r x).reverse++T) nm 0 b i
   rw [List.reverse_cons,List.append_assoc]; rfl
theorem insR_len (nm:Int) (x:Ho) (l:List Ho):(insR nm l x).length=l.length+1:=(insR_perm nm x l).length_eq
theorem insH_len (nm:Int) (l:List Ho) (x:Ho):(insH nm l x).length=l.length+1:=by unfold insH; rw [List.length_reverse,insR_len,List.length_reverse]
theorem outer_l {β:Type} {nm:Int} (n0:0≤nm) (n1:nm≤99) (len:Nat) (hlen:len≤1000) (kx:List Ho→Int→Option β) (kr:Option β):∀ (T P:List Ho) (n:Nat),T.length<n→P.length+T.length=len→(∀ y∈P++T,vH y=true)→
  slices_insertionSortCmpFunc_impl_House.l1 sl1 n kx kr (P++T) nm 0 (len:Int) (P.length:Int)=kx (T.foldl (insH nm) P) nm
 | [], P, n, hn, hl, hv => by
  obtain⟨n,rfl⟩:∃ m,n=m+1:=⟨n-1,by omega⟩
  simp only [List.length_nil] at hl
  rw [slices_insertionSortCmpFunc_impl_House.t1,List.append_nil]
  exact cF (ltF (by omega)) rfl
 | x :: T, P, n, hn, hl, hv => by
  obtain⟨n,rfl⟩:∃ m,n=m+1:=⟨n-1,by omega⟩
  simp only [List.length_cons] at hl hn
  have hin:=insH_len nm P x
  have hmem:∀ y∈insH nm P x++T,vH y=true:=fun y hy=>hv y (by
   rcases List.mem_append.1 hy with h | h
   ·have := (insH_perm nm P x).mem_iff.1 h
    rcases List.mem_append.1 this with h | h
    ·exact List.mem_append.2 (.inl h)
    ·exact List.mem_append.2 (.inr (by rw [List.mem_singleton.1 h]; exact List.mem_cons_self))
   ·exact List.mem_append.2 (.inr (List.mem_cons_of_mem _ h)))
  have next:=outer_l n0 n1 len hlen kx kr T (insH nm P x) n (by omega) (by omega) hmem
  rw [hin] at next
  rw [slices_insertionSortCmpFunc_impl_House.t1]
  unfold slices_insertionSortCmpFunc_impl_House.b1
  have e:=ins_l (β:=β) n0 n1 (len:Int) (P.length:Int) (fun y1 y2 y3 y4 y5=>slices_insertionSortCmpFunc_impl_House.l1 sl1 n kx kr y1 y2 y3 y4 (sl1.w (y5+1))) none x (hv x (List.mem_append.2 (.inr List.mem_cons_self))) P.reverse T sl1.n (by rw [List.length_reverse,rounds_n]; omega) (by rw [List.length_reverse]; omega) (fun y hy=>hv y (List.mem_append.2 (.inl (List.mem_reverse.1 hy))))
  rw [List.reverse_reverse,List.length_reverse,w_succ (by omega)] at e
  exact cT (ltT (by omega)) (e.trans next)
theorem sort_G {β:Type} {nm:Int} (n0:0≤nm) (n1:nm≤99) {l:List Ho} (hl:l.length≤12) (hv:∀ y∈l,vH y=true) (K:List Ho→Int→Option β):slices_insertionSortCmpFunc_impl_House.G sl1 l nm 0 (l.length:Int) K=K (rankL nm l) nm:=by
 unfold slices_insertionSortCmpFunc_impl_House.G
 rw [wE (a:=(0:Int)+1) (by omega) (by omega)]
 match l,hl,hv with
 | [], hl, hv =>
  obtain⟨n,hn⟩:∃ n,sl1.n=n+1:=⟨4294967295,rfl⟩
  rw [hn,slices_insertionSortCmpFunc_impl_House.t1]
  exact cF (ltF (by simp)) rfl
 | x :: T, hl, hv =>
  exact outer_l n0 n1 (x::T).length (by omega) (fun y1 y2=>K y1 y2) none T [x] sl1.n (by rw [rounds_n]; simp only [List.length_cons] at hl; omega) (by simp only [List.length_cons,List.length_nil]; omega) hv
theorem pdq_G {β:Type} {nm:Int} (n0:0≤nm) (n1:nm≤99) {l:List Ho} (hl:l.length≤12) (hv:∀ y∈l,vH y=true) (c:Int) (K:List Ho→Int→Option β):slices_pdqsortCmpFunc_impl_House.G sl1 l nm 0 (l.length:Int) c K=K (rankL nm l) nm:=by
 unfold slices_pdqsortCmpFunc_impl_House.G
 obtain⟨n,hn⟩:∃ n,sl1.n=n+1:=⟨4294967295,rfl⟩
 rw [hn,slices_pdqsortCmpFunc_impl_House.t2]
 unfold slices_pdqsortCmpFunc_impl_House.b2
 exact cT (by rw [wE (by omega) (by omega)]; exact leT (by omega)) (sort_G n0 n1 hl hv _)
theorem ranks_G {β:Type} {nm:Int} (n0:0≤nm) (n1:nm≤99) {l:List Ho} (h:okH l=true) (K:List Ho→Option β):impl_ranks.G sl1 nm l K=K (rankL nm l):=by
 have hl:=okH_len h
 have hv:=((okFrom_iff l 0).1 h).1
 unfold impl_ranks.G slices_Clone_Simpl_House_impl_House.G slices_SortFunc_Simpl_House_impl_House.G math_bits_Len.G
 have hw:sl1.wr .u64 (l.length:Int)=(l.length:Int):=by
  show IntKind.u64.wrap (l.length:Int)=_
  simp [IntKind.wrap,IntKind.bits,IntKind.signed]
  omega
 refine cT (fwT (by omega)) (cT ?_ (pdq_G n0 n1 hl hv _ _))
 rw [hw]
 exact andT (leT (by omega)) (leT (by omega))
theorem insR_sorted {nm:Int} {x:Ho}:∀ {R:List Ho},R.Pairwise (fun a b=>Ah nm b a)→(∀ y∈R,y.1≠x.1)→(insR nm R x).Pairwise (fun a b=>Ah nm b a)
 | [], _, _ => List.pairwise_singleton _ _
 | y :: r, hs, hd => by
  rw [List.pairwise_cons] at hs
  unfold insR
  cases c:ahB nm x y
  ·have hyx : Ah nm y x := by
    have h1:¬ Ah nm x y:=fun h=>by rw [ahB_iff.2 h] at c; cases c
    have h2:=hd y List.mem_cons_self
    unfold Ah at *; omega
   refine List.pairwise_cons.2 ⟨fun z hz=>?_,List.pairwise_cons.2 ⟨hs.1,hs.2⟩⟩
   rcases List.mem_cons.1 hz with rfl | hz
   ·exact hyx
   ·exact Ah_trans (hs.1 z hz) hyx
  ·refine List.pairwise_cons.2 ⟨fun z hz => ?_, insR_sorted hs.2 fun z hz => hd z (List.mem_cons_of_mem _ hz)⟩
   rcases List.mem_cons.1 ((insR_perm nm x r).mem_iff.1 hz) with rfl | hz
   ·exact ahB_iff.1 c
   ·exact hs.1 z hz
theorem fold_perm (nm:Int):∀ T P:List Ho,(T.foldl (insH nm) P).Perm (P++T)
 | [], P => by rw [List.append_nil]; exact List.Perm.refl _
 | x :: T, P => by
  refine(fold_perm nm T (insH nm P x)).trans ?_
  have:=(insH_perm nm P x).append_right T
  rw [List.append_assoc] at this
  exact this
theorem rank_perm (nm:Int) (l:List Ho):(rankL nm l).Perm l:=fold_perm nm l []
theorem fold_sorted {nm:Int}:∀ {T P:List Ho},P.Pairwise (Ah nm)→(P++T).Pairwise (fun x y=>x.1≠y.1)→(T.foldl (insH nm) P).Pairwise (Ah nm)
 | [], P, hs, _ => hs
 | x :: T, P, hs, hd => by
  refine fold_sorted (T:=T) (P:=insH nm P x) ?_ ?_
  ·unfold insH
   rw [List.pairwise_reverse]
   refine insR_sorted (List.pairwise_reverse.2 hs) fun y hy=>?_
   exact(List.pairwise_append.1 hd).2.2 y (List.mem_reverse.1 hy) x List.mem_cons_self
  ·have := (insH_perm nm P x).append_right T
   rw [List.append_assoc] at this
   exact(this.pairwise_iff (fun h=>Ne.symm h)).2 hd
theorem rank_len (nm:Int) (l:List Ho):(rankL nm l).length=l.length:=(rank_perm nm l).length_eq
theorem rank_ids {nm:Int} {l:List Ho} (h:okH l=true):(rankL nm l).Pairwise (fun x y=>x.1≠y.1):=
 ((rank_perm nm l).pairwise_iff (fun h=>Ne.symm h)).2 (okH_ids h)
theorem rank_strict {nm:Int} {l:List Ho} (h:okH l=true):(rankL nm l).Pairwise (Ah nm):=fold_sorted List.Pairwise.nil (okH_ids h)
theorem rank_vH {nm:Int} {l:List Ho} (h:okH l=true):∀ x∈rankL nm l,vH x=true:=fun x hx=>((okFrom_iff l 0).1 h).1 x ((rank_perm nm l).mem_iff.1 hx)
def gH (l:List Ho) (j:Nat):Ho:=l.getD j noH
def dnH (d:List Bool) (j:Nat):Bool:=d.getD j false
theorem gH_get {l:List Ho} {j:Nat} (h:j<l.length):gH l j=l[j]:=getH h
theorem gH_mem {l:List Ho} {j:Nat} (h:j<l.length):gH l j∈l:=by rw [gH_get h]; exact List.getElem_mem h
theorem dnH_set (d:List Bool) (b j:Nat) (hb:b<d.length):dnH (d.set b true) j=if j=b then true else dnH d j:=by
 unfold dnH
 rw [List.getD_eq_getElem?_getD,List.getD_eq_getElem?_getD,List.getElem?_set]
 by_cases h:b=j
 ·subst h; simp [hb]
 ·rw [if_neg h,if_neg (Ne.symm h)]
theorem gH_ids {l:List Ho} (h:okH l=true) {i j:Nat} (hij:i<j) (hj:j<l.length):(gH l i).1<(gH l j).1:=by
 rw [gH_get (by omega),gH_get hj]
 exact(List.pairwise_iff_getElem.1 ((okFrom_iff l 0).1 h).2.2) i j (by omega) hj hij
theorem gH_vH {l:List Ho} (h:okH l=true) {j:Nat} (hj:j<l.length):vH (gH l j)=true:=((okFrom_iff l 0).1 h).1 _ (gH_mem hj)
def InvB (nm:Int) (l:List Ho) (d:List Bool) (best:Int) (i:Nat):Prop:=
 (best = -1∧∀ j,j<i→dnH d j=true)∨(∃ b:Nat,best=(b:Int)∧b<i∧dnH d b=false∧∀ j,j<i→dnH d j=false→j=b∨Ah nm (gH l b) (gH l j))
theorem specRanks_in (nm:Int) (l:List Ho) (h:okH l=true) (n0:0≤nm) (n1:nm≤99) (d:List Bool) (hd:d.length=l.length) (hex:∃ j,j<l.length∧dnH d j=false) (e:Nat):
  ∀ (i:Nat) (best:Int),i+e=l.length→InvB nm l d best i→∃ b:Nat,b<l.length∧dnH d b=false∧(∀ j,j<l.length→dnH d j=false→j=b∨Ah nm (gH l b) (gH l j))∧
   ∀ (β:Type) (out:List Int) (n:Nat) (kx:List Int→List Bool→Int→List Ho→Int→Option β) (kr:Option β),e<n→spec_l31Ranks.l6 sl1 n kx kr out d nm l best (i:Int)=kx out d nm l (b:Int):=by
 have hl:=okH_len h
 induction e with
 | zero =>
  intro i best hi hb
  rcases hb with ⟨_,hb⟩ | ⟨b,rfl,hlt,hdb,hall⟩
  ·obtain ⟨j, hj, hj2⟩ := hex
   rw [hb j (by omega)] at hj2
   cases hj2
  ·refine ⟨b, by omega, hdb, fun j hj hdj => hall j (by omega) hdj, fun β out n kx kr hn => ?_⟩
   obtain⟨n,rfl⟩:∃ m,n=m+1:=⟨n-1,by omega⟩
   rw [spec_l31Ranks.t6]; exact cF (ltF (by omega)) rfl
 | succ e ih =>
  intro i best hi hb
  have hlt:i<l.length:=by omega
  by_cases hdi:dnH d i=true
  ·have hb' : InvB nm l d best (i + 1) := by
    rcases hb with ⟨h1,h2⟩ | ⟨b,h1,h2,h3,h4⟩
    ·refine .inl ⟨h1, fun j hj => ?_⟩
     by_cases e:j=i
     ·subst e; exact hdi
     ·exact h2 j (by omega)
    ·refine .inr ⟨b, h1, by omega, h3, fun j hj hdj => ?_⟩
     by_cases e:j=i
     ·subst e; rw [hdi] at hdj; cases hdj
     ·exact h4 j (by omega) hdj
   obtain⟨b,q1,q2,q3,q4⟩:=ih (i+1) best (by omega) hb'
   refine⟨b,q1,q2,q3,fun β out n kx kr hn=>?_⟩
   obtain⟨n,rfl⟩:∃ m,n=m+1:=⟨n-1,by omega⟩
   rw [spec_l31Ranks.t6]
   unfold spec_l31Ranks.b6
   rw [w_succ (by omega),Int.toNat_natCast]
   refine cT (ltT (by omega)) (cT (irT (by omega) (by omega)) (cF ?_ (q4 β out n kx kr (by omega))))
   rw [show List.getD d i false=true from hdi]; rfl
  ·have hdi' : dnH d i = false := Bool.eq_false_iff.mpr hdi
   have hnd:(!(List.getD d i false))=true:=by rw [show List.getD d i false=false from hdi']; rfl
   rcases hb with ⟨rfl,h2⟩ | ⟨b,rfl,h2,h3,h4⟩
   ·obtain ⟨b, q1, q2, q3, q4⟩ := ih (i + 1) (i : Int) (by omega) (.inr ⟨i, rfl, by omega, hdi', fun j hj hdj => by
     by_cases e:j=i
     ·exact .inl e
     ·rw [h2 j (by omega)] at hdj; cases hdj⟩)
    refine⟨b,q1,q2,q3,fun β out n kx kr hn=>?_⟩
    obtain⟨n,rfl⟩:∃ m,n=m+1:=⟨n-1,by omega⟩
    rw [spec_l31Ranks.t6]
    unfold spec_l31Ranks.b6
    rw [w_succ (by omega),Int.toNat_natCast]
    exact cT (ltT (by omega)) (cT (irT (by omega) (by omega)) (cT hnd (cT (ltT (by omega)) (q4 β out n kx kr (by omega)))))
   ·have s1 := fun {γ : Type} (K : Int → Option γ) => specScore_G n0 n1 (gH_vH h hlt) K
    have s2:=fun {γ:Type} (K:Int→Option γ)=>specScore_G n0 n1 (gH_vH h (show b<l.length by omega)) K
    have hin:InvB nm l d (if scH nm (gH l b)<scH nm (gH l i)then(i:Int)else(b:Int)) (i+1):=by
     by_cases c:scH nm (gH l b)<scH nm (gH l i)
     ·rw [if_pos c]
      have hab:Ah nm (gH l i) (gH l b):=.inl c
      refine .inr ⟨i,rfl,by omega,hdi',fun j hj hdj=>?_⟩
      by_cases e:j=i
      ·exact .inl e
      ·rcases h4 j (by omega) hdj with rfl | h5
       ·exact .inr hab
       ·exact .inr (Ah_trans hab h5)
     ·rw [if_neg c]
      refine .inr ⟨b,rfl,by omega,h3,fun j hj hdj=>?_⟩
      by_cases e:j=i
      ·subst e
       refine .inr ?_
       have:=gH_ids h h2 hlt
       unfold Ah
       omega
      ·exact h4 j (by omega) hdj
    obtain⟨b',q1,q2,q3,q4⟩:=ih (i+1) _ (by omega) hin
    refine⟨b',q1,q2,q3,fun β out n kx kr hn=>?_⟩
    obtain⟨n,rfl⟩:∃ m,n=m+1:=⟨n-1,by omega⟩
    rw [spec_l31Ranks.t6]
    unfold spec_l31Ranks.b6
    rw [w_succ (by omega),Int.toNat_natCast,Int.toNat_natCast]
    refine cT (ltT (by omega)) (cT (irT (by omega) (by omega)) (cT hnd (cF (ltF (by omega)) (cT (irT (by omega) (by omega)) ((s1 _).trans (cT (irT (by omega) (by omega)) ((s2 _).trans ?_)))))))
    have q4:=q4 β out n kx kr (by omega)
    by_cases c:scH nm (gH l b)<scH nm (gH l i)
    ·rw [if_pos c] at q4; exact cT (ltT c) q4
    ·rw [if_neg c] at q4; exact cF (ltF (by omega)) q4
theorem specRanks_out (nm:Int) (l:List Ho) (h:okH l=true) (n0:0≤nm) (n1:nm≤99) {β:Type} (kx:List Int→Option β) (kr:Option β) (e:Nat):
  ∀ (m n : Nat) (d : List Bool), m + e = l.length → e < n → d.length = l.length → (∀ j, j < l.length → (dnH d j = true ↔ gH l j ∈ (rankL nm l).take m)) → spec_l31Ranks.l3 sl1 n kx kr (((rankL nm l).take m).map (·.1)) d nm l = kx ((rankL nm l).map (·.1)) := by
 have hl:=okH_len h
 have hR:=rank_len nm l
 induction e with
 | zero =>
  intro m n d hm hn hd hj
  obtain⟨n,rfl⟩:∃ m,n=m+1:=⟨n-1,by omega⟩
  rw [spec_l31Ranks.t3]
  have hm':m=(rankL nm l).length:=by omega
  subst hm'
  rw [List.take_length]
  exact cF (ltF (by rw [List.length_map]; omega)) rfl
 | succ e ih =>
  intro m n d hm hn hd hj
  obtain⟨n,rfl⟩:∃ m,n=m+1:=⟨n-1,by omega⟩
  have hlen : (((rankL nm l).take m).map (·.1)).length = m := by
   rw [List.length_map,List.length_take]
   omega
  have hmR:m<(rankL nm l).length:=by omega
  have hst:=rank_strict (nm:=nm) h
  rw [List.pairwise_iff_getElem] at hst
  have hin:∀ q (hq:q<(rankL nm l).length),(rankL nm l)[q]∈(rankL nm l).take m→q<m:=by
   intro q hq hmem
   obtain⟨p,hp,he⟩:=List.mem_iff_getElem.1 hmem
   rw [List.length_take] at hp
   rw [List.getElem_take] at he
   rcases Nat.lt_trichotomy p q with hlt | rfl | hlt
   ·have h2 := hst p q (by omega) hq hlt
    rw [he] at h2
    exact absurd h2 Ah_irrefl
   ·omega
   ·have h2 := hst q p hq (by omega) hlt
    rw [he] at h2
    exact absurd h2 Ah_irrefl
  have hof:∀ x∈rankL nm l,∃ j,j<l.length∧gH l j=x:=by
   intro x hx
   obtain⟨j,hj,he⟩:=List.mem_iff_getElem.1 ((rank_perm nm l).mem_iff.1 hx)
   exact⟨j,hj,by rw [gH_get hj]; exact he⟩
  obtain⟨j0,hj0,e0⟩:=hof _ (List.getElem_mem hmR)
  have hd0:dnH d j0=false:=by
   rw [Bool.eq_false_iff,Ne,hj j0 hj0,e0]
   intro hmem
   exact absurd (hin m hmR hmem) (Nat.lt_irrefl _)
  obtain⟨b,hb,hdb,hall,el⟩:=specRanks_in nm l h n0 n1 d hd ⟨j0,hj0,hd0⟩ l.length 0 (-1) (by omega) (.inl ⟨rfl,fun j hj=>absurd hj (Nat.not_lt_zero _)⟩)
  have hbm:gH l b=(rankL nm l)[m]:=by
   rcases hall j0 hj0 hd0 with rfl | hA
   ·exact e0
   ·rw [e0] at hA
    obtain⟨q,hq,he⟩:=List.mem_iff_getElem.1 ((rank_perm nm l).mem_iff.2 (gH_mem hb))
    have hqm:¬ q<m:=by
     intro hlt
     have:dnH d b=true:=(hj b hb).2 (by
      rw [←he]
      exact List.mem_iff_getElem.2 ⟨q,by rw [List.length_take]; omega,List.getElem_take⟩)
     rw [this] at hdb
     cases hdb
    rcases Nat.lt_or_ge m q with hlt | hge
    ·have h2 := hst m q hmR hq hlt
     rw [he] at h2
     exact absurd (Ah_trans hA h2) Ah_irrefl
    ·obtain rfl : q = m := by omega
     exact he.symm
  have htake:((rankL nm l).take (m+1))=(rankL nm l).take m ++ [gH l b]:=by
   rw [List.take_succ_eq_append_getElem hmR,hbm]
  have hnext : ((rankL nm l).take m).map (·.1) ++ [(gH l b).1] = ((rankL nm l).take (m + 1)).map (·.1) := by
   rw [htake,List.map_append]
   rfl
  have next:=ih (m+1) n (d.set b true) (by omega) (by omega) (by rw [List.length_set]; exact hd) (fun j hj'=>by
   rw [dnH_set d b j (by omega),htake,List.mem_append]
   by_cases ejb:j=b
   ·subst ejb
    simp
   ·rw [if_neg ejb, hj j hj']
    constructor
    ·exact fun hh=>.inl hh
    ·rintro (hh | hh)
     ·exact hh
     ·exfalso
      have e2:gH l j=gH l b:=by simpa using hh
      rcases Nat.lt_trichotomy j b with hlt | rfl | hlt
      ·have:=gH_ids h hlt hb; rw [e2] at this; omega
      ·exact ejb rfl
      ·have:=gH_ids h hlt hj'; rw [e2] at this; omega)
  rw [←hnext] at next
  rw [spec_l31Ranks.t3]
  unfold spec_l31Ranks.b3
  refine cT (ltT (by omega)) ((el _ _ sl1.n _ _ (by rw [rounds_n]; omega)).trans (cT (irT (by omega) (by omega)) (cT (irT (by omega) (by omega)) (cT (fwT (by rw [List.length_append,hlen,List.length_singleton]; omega)) ?_))))
  rw [Int.toNat_natCast]
  exact next
theorem specRanks_G {β : Type} {nm : Int} {l : List Ho} (h : okH l = true) (n0 : 0 ≤ nm) (n1 : nm ≤ 99) (K : List Int → Option β) : spec_l31Ranks.G sl1 nm l K = K ((rankL nm l).map (·.1)) := by
 have hl:=okH_len h
 unfold spec_l31Ranks.G
 rw [Int.toNat_natCast]
 refine cT (andT (andT (leT (by omega)) (leT (by omega))) (fwT (by omega))) ?_
 refine specRanks_out nm l h n0 n1 (fun y1=>K y1) none l.length 0 sl1.n _ (by omega) (by rw [rounds_n]; omega) (by simp) (fun j hj=>?_)
 constructor
 ·intro hd
  exfalso
  unfold dnH at hd
  simp [hj] at hd
 ·intro hd
  simp at hd
def rdI (l:List Int) (k:Int):Int:=l.getD k.toNat 0
def rackL:List Ho→Int→Int
 | [], _ => 0
 | x :: r, id => if x.1 = id then x.2.1 else rackL r id
theorem specRack_l {β:Type} (l:List Ho) (id:Int) (hl:l.length≤1000000000) (kx:Option β) (kr:Int→Option β) (h0:kx=kr 0) (d:Nat):∀ i n:Nat,i+d=l.length→d<n→spec_l31Rack.l2 sl1 n kx kr l id (i:Int)=kr (rackL (l.drop i) id):=by
 induction d with
 | zero =>
  intro i n hi hn
  obtain⟨n,rfl⟩:∃ m,n=m+1:=⟨n-1,by omega⟩
  rw [spec_l31Rack.t2,List.drop_of_length_le (by omega)]
  exact cF (ltF (by omega)) h0
 | succ d ih =>
  intro i n hi hn
  obtain⟨n,rfl⟩:∃ m,n=m+1:=⟨n-1,by omega⟩
  have hlt:i<l.length:=by omega
  rw [spec_l31Rack.t2,List.drop_eq_getElem_cons hlt,rackL]
  unfold spec_l31Rack.b2
  rw [w_succ (by omega),getN l i hlt]
  refine cT (ltT (by omega)) (cT (irT (by omega) (by omega)) ?_)
  by_cases c:l[i].1=id
  ·rw [if_pos c]; exact cT (eqT c) (cT (irT (by omega) (by omega)) rfl)
  ·rw [if_neg c]; exact cF (eqF c) (ih (i+1) n (by omega) (by omega))
theorem specRack_G {β:Type} {l:List Ho} (hl:l.length≤1000000000) (id:Int) (K:Int→Option β):spec_l31Rack.G sl1 l id K=K (rackL l id):=
 specRack_l l id hl (K 0) (fun y1=>K y1) rfl l.length 0 sl1.n (by omega) (by rw [rounds_n]; omega)
theorem implRack_l {β:Type} (l:List Ho) (id:Int) (hl:l.length≤1000000000) (kx:Option β) (kr:Int→Option β) (h0:kx=kr 0) (d:Nat):∀ i n:Nat,i+d=l.length→d<n→impl_HouseRack.l4 sl1 n kx kr id l (l.length:Int) (i:Int)=kr (rackL (l.drop i) id):=by
 induction d with
 | zero =>
  intro i n hi hn
  obtain⟨n,rfl⟩:∃ m,n=m+1:=⟨n-1,by omega⟩
  rw [impl_HouseRack.t4,List.drop_of_length_le (by omega)]
  exact cF (ltF (by omega)) h0
 | succ d ih =>
  intro i n hi hn
  obtain⟨n,rfl⟩:∃ m,n=m+1:=⟨n-1,by omega⟩
  have hlt:i<l.length:=by omega
  rw [impl_HouseRack.t4,List.drop_eq_getElem_cons hlt,rackL]
  unfold impl_HouseRack.b4
  rw [w_succ (by omega),getN l i hlt]
  refine cT (ltT (by omega)) (cT (irT (by omega) (by omega)) ?_)
  by_cases c:l[i].1=id
  ·rw [if_pos c]; exact cT (eqT c) rfl
  ·rw [if_neg c]; exact cF (eqF c) (ih (i+1) n (by omega) (by omega))
theorem implRack_G {β:Type} {l:List Ho} (h:okH l=true) (id:Int) (K:Int→Option β):impl_HouseRack.G sl1 l id K=K (rackL l id):=by
 have hl:=okH_len h
 unfold impl_HouseRack.G
 refine(implHousesOk_G (by omega) _).trans ?_
 rw [h]
 exact cF rfl (implRack_l l id (by omega) (K 0) (fun y2=>K y2) rfl l.length 0 sl1.n (by omega) (by rw [rounds_n]; omega))
theorem rackL_mem (l:List Ho) (h:l.Pairwise (fun x y=>x.1≠y.1)):∀ x∈l,rackL l x.1=x.2.1:=by
 induction l with
 | nil => intro x hx; cases hx
 | cons y r ih =>
  intro x hx
  rw [List.pairwise_cons] at h
  rw [rackL]
  rcases List.mem_cons.1 hx with rfl | hx
  ·rw [if_pos rfl]
  ·rw [if_neg (h.1 x hx),ih h.2 x hx]
def placeGo:List Ho→List Int→List Int→List Int
 | [], _, out => out
 | x :: xs, rk, out => if out.length < 8 then (if rdI rk x.2.1 < 3 then placeGo xs (rk.set x.2.1.toNat (sl1.w (rdI rk x.2.1 + 1))) (out ++ [x.1]) else placeGo xs rk out) else placeGo xs rk out
theorem placeGo_cons (x:Ho) (xs:List Ho) (rk out:List Int):placeGo (x::xs) rk out=if out.length<8 then(if rdI rk x.2.1<3 then placeGo xs (rk.set x.2.1.toNat (sl1.w (rdI rk x.2.1+1))) (out ++ [x.1])else placeGo xs rk out)else placeGo xs rk out:=rfl
def placeEnd (o:List Int):List Int×Bool:=if o.length<8 then([],false)else(o,true)
theorem placeGo_full:∀ (R:List Ho) (rk out:List Int),8≤out.length→placeGo R rk out=out
 | [], _, _, _ => rfl
 | x :: xs, rk, out, h => by rw [placeGo_cons, if_neg (by omega)]; exact placeGo_full xs rk out h
theorem specPlace_l {β:Type} (l:List Ho) (h:okH l=true) (R:List Ho) (hR:∀ x∈R,x∈l) (hRl:R.length≤12) (kx:List Int→Option β) (kr:Option β) (d:Nat):∀ (i n:Nat) (rk out:List Int),i+d=R.length→d<n→rk.length=5→out.length≤i→
  spec_PlaceOf.l7 sl1 n kx kr out (R.map (·.1)) rk l (i : Int) = kx (placeGo (R.drop i) rk out) := by
 have hl:=okH_len h
 induction d with
 | zero =>
  intro i n rk out hi hn hrk ho
  obtain⟨n,rfl⟩:∃ m,n=m+1:=⟨n-1,by omega⟩
  rw [spec_PlaceOf.t7,List.drop_of_length_le (by omega)]
  exact cF (ltF (by rw [List.length_map]; omega)) rfl
 | succ d ih =>
  intro i n rk out hi hn hrk ho
  obtain⟨n,rfl⟩:∃ m,n=m+1:=⟨n-1,by omega⟩
  have hlt:i<R.length:=by omega
  rw [spec_PlaceOf.t7]
  unfold spec_PlaceOf.b7
  refine cT (ltT (by rw [List.length_map]; omega)) ?_
  by_cases c8:out.length<8
  ·have hrd : List.getD (R.map (·.1)) (Int.toNat (i : Int)) 0 = R[i].1 := by
    rw [Int.toNat_natCast]; simp [hlt]
   have hx:=hR _ (List.getElem_mem hlt)
   have hv:=vH_pos (((okFrom_iff l 0).1 h).1 _ hx)
   have hrack:rackL l R[i].1=R[i].2.1:=rackL_mem l (okH_ids h) _ hx
   rw [List.drop_eq_getElem_cons hlt,placeGo_cons,if_pos c8,w_succ (by omega),hrd]
   refine cT (ltT (by omega)) (cT (irT (by omega) (by rw [List.length_map]; omega)) ((specRack_G (by omega) _ _).trans ?_))
   rw [hrack]
   refine cT (irT (by omega) (by omega)) ?_
   by_cases c3:rdI rk R[i].2.1<3
   ·rw [if_pos c3]
    refine cT (ltT c3) (cT (irT (by omega) (by omega)) (cT (irT (by omega) (by omega)) (cT (irT (by omega) (by rw [List.length_map]; omega)) (cT (fwT (by rw [List.length_append,List.length_singleton]; omega)) ?_))))
    exact ih (i+1) n _ _ (by omega) (by omega) (by rw [List.length_set]; exact hrk) (by rw [List.length_append,List.length_singleton]; omega)
   ·rw [if_neg c3]
    exact cF (ltF (by unfold rdI at c3; omega)) (ih (i+1) n _ _ (by omega) (by omega) hrk (by omega))
  ·rw [placeGo_full _ _ _ (by omega)]
   exact cF (ltF (by omega)) rfl
theorem implPlace_l {β:Type} (R:List Ho) (hR:∀ x∈R,vH x=true) (hRl:R.length≤12) (kx:List Int→Option β) (kr:Option β) (d:Nat):∀ (i n:Nat) (rk out:List Int),i+d=R.length→d<n→rk.length=5→out.length≤i→
  impl_PlaceOf.l6 sl1 n kx kr rk out R (R.length:Int) (i:Int)=kx (placeGo (R.drop i) rk out):=by
 induction d with
 | zero =>
  intro i n rk out hi hn hrk ho
  obtain⟨n,rfl⟩:∃ m,n=m+1:=⟨n-1,by omega⟩
  rw [impl_PlaceOf.t6,List.drop_of_length_le (by omega)]
  exact cF (ltF (by omega)) rfl
 | succ d ih =>
  intro i n rk out hi hn hrk ho
  obtain⟨n,rfl⟩:∃ m,n=m+1:=⟨n-1,by omega⟩
  have hlt:i<R.length:=by omega
  have hv:=vH_pos (hR _ (List.getElem_mem hlt))
  rw [impl_PlaceOf.t6,List.drop_eq_getElem_cons hlt,placeGo_cons]
  unfold impl_PlaceOf.b6
  rw [w_succ (by omega),getN R i hlt]
  refine cT (ltT (by omega)) (cT (irT (by omega) (by omega)) ?_)
  by_cases c8:out.length<8
  ·rw [if_pos c8]
   refine cT (ltT (by omega)) (cT (irT (by omega) (by omega)) ?_)
   by_cases c3:rdI rk R[i].2.1<3
   ·rw [if_pos c3]
    refine cT (ltT c3) (cT (fwT (by rw [List.length_append,List.length_singleton]; omega)) (cT (irT (by omega) (by omega)) (cT (irT (by omega) (by omega)) ?_)))
    exact ih (i+1) n _ _ (by omega) (by omega) (by rw [List.length_set]; exact hrk) (by rw [List.length_append,List.length_singleton]; omega)
   ·rw [if_neg c3]
    exact cF (ltF (by unfold rdI at c3; omega)) (ih (i+1) n _ _ (by omega) (by omega) hrk (by omega))
  ·rw [if_neg c8]
   exact cF (ltF (by omega)) (ih (i+1) n _ _ (by omega) (by omega) hrk (by omega))
def okP (nm:Int) (l:List Ho):Bool:=inV nm 0 99&&okH l
def placeF (nm:Int) (l:List Ho):List Int×Bool:=if okP nm l=true then placeEnd (placeGo (rankL nm l) [0,0,0,0,0] [])else([],false)
theorem specPlace_G {β:Type} (nm:Int) {l:List Ho} (hl:l.length≤1000000000) (K:List Int→Bool→Option β):spec_PlaceOf.G sl1 nm l K=K (placeF nm l).1 (placeF nm l).2:=by
 unfold spec_PlaceOf.G placeF okP
 refine(spec_in _ _ _ _).trans ?_
 cases hn:inV nm 0 99
 ·exact cT rfl rfl
 obtain⟨n0,n1⟩:=inV_iff.1 hn
 refine cF rfl ((specHousesOk_G hl _).trans ?_)
 cases h:okH l
 ·exact cT rfl rfl
 have hl2:=okH_len h
 refine cF rfl ((specRanks_G h n0 n1 _).trans (cT (by rfl) ((specPlace_l l h (rankL nm l) (fun x hx=>(rank_perm nm l).mem_iff.1 hx) (by rw [rank_len]; omega) _ _ (rankL nm l).length 0 sl1.n [0,0,0,0,0] [] (by omega) (by rw [rank_len,rounds_n]; omega) (by simp) (Nat.zero_le _)).trans ?_)))
 rw [List.drop_zero]
 show(bif sl1.lt ((placeGo (rankL nm l) [0,0,0,0,0] []).length:Int) 8 then _ else _)=K (placeEnd (placeGo (rankL nm l) [0,0,0,0,0] [])).1 (placeEnd (placeGo (rankL nm l) [0,0,0,0,0] [])).2
 generalize placeGo (rankL nm l) [0,0,0,0,0] []=o
 unfold placeEnd
 by_cases c:o.length<8
 ·rw [if_pos c]; exact cT (ltT (by omega)) rfl
 ·rw [if_neg c]; exact cF (ltF (by omega)) rfl
theorem implPlace_G {β:Type} (nm:Int) {l:List Ho} (hl:l.length≤1000000000) (K:List Int→Bool→Option β):impl_PlaceOf.G sl1 nm l K=K (placeF nm l).1 (placeF nm l).2:=by
 unfold impl_PlaceOf.G placeF okP impl_nameOk.G
 refine(impl_in _ _ _ _).trans ?_
 cases hn:inV nm 0 99
 ·exact cT rfl rfl
 obtain⟨n0,n1⟩:=inV_iff.1 hn
 refine cF rfl ((implHousesOk_G hl _).trans ?_)
 cases h:okH l
 ·exact cT rfl rfl
 have hl2:=okH_len h
 refine cF rfl (cT (by rfl) ((ranks_G n0 n1 h _).trans ((implPlace_l (rankL nm l) (rank_vH h) (by rw [rank_len]; omega) _ _ (rankL nm l).length 0 sl1.n [0,0,0,0,0] [] (by omega) (by rw [rank_len,rounds_n]; omega) (by simp) (by simp)).trans ?_)))
 rw [List.drop_zero]
 show(bif sl1.lt ((placeGo (rankL nm l) [0,0,0,0,0] []).length:Int) 8 then _ else _)=K (placeEnd (placeGo (rankL nm l) [0,0,0,0,0] [])).1 (placeEnd (placeGo (rankL nm l) [0,0,0,0,0] [])).2
 generalize placeGo (rankL nm l) [0,0,0,0,0] []=o
 unfold placeEnd
 by_cases c:o.length<8
 ·rw [if_pos c]; exact cT (ltT (by omega)) rfl
 ·rw [if_neg c]; exact cF (ltF (by omega)) rfl
def chosen:List Ho→List Int→Nat→List Ho
 | [], _, _ => []
 | x :: xs, rk, n => if n < 8 then (if rdI rk x.2.1 < 3 then x :: chosen xs (rk.set x.2.1.toNat (sl1.w (rdI rk x.2.1 + 1))) (n + 1) else chosen xs rk n) else chosen xs rk n
theorem chosen_cons (x:Ho) (xs:List Ho) (rk:List Int) (n:Nat):chosen (x::xs) rk n=if n<8 then(if rdI rk x.2.1<3 then x::chosen xs (rk.set x.2.1.toNat (sl1.w (rdI rk x.2.1+1))) (n+1)else chosen xs rk n)else chosen xs rk n:=rfl
theorem placeGo_chosen : ∀ (R : List Ho) (rk out : List Int), placeGo R rk out = out ++ (chosen R rk out.length).map (·.1)
 | [], rk, out => by simp [placeGo, chosen]
 | x :: xs, rk, out => by
  rw [placeGo_cons,chosen_cons]
  by_cases c:out.length<8
  ·rw [if_pos c, if_pos c]
   by_cases c3:rdI rk x.2.1<3
   ·rw [if_pos c3, if_pos c3, placeGo_chosen xs]
    simp
   ·rw [if_neg c3,if_neg c3,placeGo_chosen xs]
  ·rw [if_neg c,if_neg c,placeGo_chosen xs]
theorem chosen_sub:∀ (R:List Ho) (rk:List Int) (n:Nat),(chosen R rk n).Sublist R
 | [], rk, n => List.Sublist.slnil
 | x :: xs, rk, n => by
  rw [chosen_cons]
  by_cases c:n<8
  ·rw [if_pos c]
   by_cases c3:rdI rk x.2.1<3
   ·rw [if_pos c3]; exact(chosen_sub xs _ _).cons_cons x
   ·rw [if_neg c3]; exact(chosen_sub xs _ _).cons x
  ·rw [if_neg c]; exact(chosen_sub xs _ _).cons x
theorem chosen_len:∀ (R:List Ho) (rk:List Int) (n:Nat),n≤8→n+(chosen R rk n).length≤8
 | [], rk, n, h => by simpa [chosen] using h
 | x :: xs, rk, n, h => by
  rw [chosen_cons]
  by_cases c:n<8
  ·rw [if_pos c]
   by_cases c3:rdI rk x.2.1<3
   ·rw [if_pos c3]
    have:=chosen_len xs (rk.set x.2.1.toNat (sl1.w (rdI rk x.2.1+1))) (n+1) (by omega)
    simp only [List.length_cons]
    omega
   ·rw [if_neg c3]; exact chosen_len xs rk n h
  ·rw [if_neg c]; exact chosen_len xs rk n h
theorem rdI_set (rk:List Int) (i j:Int) (v:Int) (hi:0≤i) (hi5:i<(rk.length:Int)) (hj:0≤j):rdI (rk.set i.toNat v) j=if i=j then v else rdI rk j:=by
 unfold rdI
 rw [List.getD_eq_getElem?_getD,List.getD_eq_getElem?_getD,List.getElem?_set]
 by_cases h:i=j
 ·subst h
  rw [if_pos rfl,if_pos rfl,if_pos (by omega)]
  rfl
 ·rw [if_neg h,if_neg (by omega)]
def cntR:List Ho→Int→Int
 | [], _ => 0
 | x :: r, k => (if x.2.1 = k then 1 else 0) + cntR r k
theorem cntR_nn:∀ (P:List Ho) (k:Int),0≤cntR P k
 | [], k => by simp [cntR]
 | x :: r, k => by
  have:=cntR_nn r k
  rw [cntR]
  split <;> omega
theorem chosen_cnt (k:Int) (hk:0≤k):∀ (R:List Ho) (rk:List Int) (n:Nat),(∀ x∈R,1≤x.2.1∧x.2.1≤4)→rk.length=5→0≤rdI rk k→rdI rk k≤3→rdI rk k+cntR (chosen R rk n) k≤3
 | [], rk, n, _, _, _, h => by simp [chosen, cntR]; exact h
 | x :: xs, rk, n, hx, h5, h0, h => by
  have hx1:=hx x List.mem_cons_self
  have hxs:∀ y∈xs,1≤y.2.1∧y.2.1≤4:=fun y hy=>hx y (List.mem_cons_of_mem _ hy)
  rw [chosen_cons]
  by_cases c:n<8
  ·rw [if_pos c]
   by_cases c3:rdI rk x.2.1<3
   ·rw [if_pos c3, cntR]
    have hs:=rdI_set rk x.2.1 k (sl1.w (rdI rk x.2.1+1)) (by omega) (by omega) hk
    by_cases e:x.2.1=k
    ·subst e
     rw [if_pos rfl] at hs
     rw [if_pos rfl]
     have hw:sl1.w (rdI rk x.2.1+1)=rdI rk x.2.1+1:=wE (by omega) (by omega)
     rw [hw] at hs ⊢
     have:=chosen_cnt x.2.1 hk xs (rk.set x.2.1.toNat (rdI rk x.2.1+1)) (n+1) hxs (by rw [List.length_set]; exact h5) (by rw [hs]; omega) (by rw [hs]; omega)
     rw [hs] at this
     omega
    ·rw [if_neg e] at hs
     rw [if_neg e]
     have:=chosen_cnt k hk xs (rk.set x.2.1.toNat (sl1.w (rdI rk x.2.1+1))) (n+1) hxs (by rw [List.length_set]; exact h5) (by rw [hs]; omega) (by rw [hs]; omega)
     rw [hs] at this
     omega
   ·rw [if_neg c3]; exact chosen_cnt k hk xs rk n hxs h5 h0 h
  ·rw [if_neg c]; exact chosen_cnt k hk xs rk n hxs h5 h0 h
def chs (nm:Int) (l:List Ho):List Ho:=chosen (rankL nm l) [0,0,0,0,0] 0
theorem chs_cnt {nm:Int} {l:List Ho} (h:okH l=true) (k:Int) (h1:1≤k) (h4:k≤4):cntR (chs nm l) k≤3:=by
 have hz:rdI [0,0,0,0,0] k=0:=by
  have:k=1∨k=2∨k=3∨k=4:=by omega
  rcases this with rfl | rfl | rfl | rfl <;> rfl
 have:=chosen_cnt k (by omega) (rankL nm l) [0,0,0,0,0] 0 (fun x hx=>by have:=vH_pos (rank_vH h x hx); omega) rfl (by omega) (by omega)
 rw [hz] at this
 unfold chs
 omega
theorem placeF_true {nm : Int} {l : List Ho} (h : (placeF nm l).2 = true) : okP nm l = true ∧ okH l = true ∧ placeF nm l = ((chs nm l).map (·.1), true) ∧ (chs nm l).length = 8 := by
 unfold placeF at h ⊢
 by_cases c:okP nm l=true
 ·rw [if_pos c] at h ⊢
  have c2:okH l=true:=by
   unfold okP at c
   rw [Bool.and_eq_true] at c
   exact c.2
  have hle:=chosen_len (rankL nm l) [0,0,0,0,0] 0 (by omega)
  have e : placeGo (rankL nm l) [0, 0, 0, 0, 0] [] = (chs nm l).map (·.1) := by
   rw [placeGo_chosen]
   rfl
  rw [e] at h ⊢
  unfold placeEnd at h ⊢
  by_cases c8 : ((chs nm l).map (·.1)).length < 8
  ·rw [if_pos c8] at h; cases h
  ·rw [if_neg c8]
   rw [List.length_map] at c8
   refine⟨c,c2,rfl,?_⟩
   unfold chs at *
   omega
 ·rw [if_neg c] at h; cases h
theorem placeF_len (nm:Int) (l:List Ho):(placeF nm l).1.length≤8:=by
 by_cases h:(placeF nm l).2=true
 ·obtain ⟨_, _, h3, h4⟩ := placeF_true h
  rw [h3]
  simp [h4]
 ·unfold placeF at h ⊢
  split at h
  ·rename_i c
   rw [if_pos c]
   unfold placeEnd at h ⊢
   split at h
   ·rename_i c2; rw [if_pos c2]; simp
   ·exact absurd rfl h
  ·rename_i c
   rw [if_neg c]
   simp
theorem lkInts_l {β:Type} (l:List Int) (hl:l.length≤1000000) (kx:Option β) (kr:Bool→Option β) (d:Nat):∀ (i n:Nat),i+d=l.length→d<n→laws_lkInts.l4 sl1 n kx kr l l (i:Int)=kx:=by
 induction d with
 | zero =>
  intro i n hi hn
  obtain⟨n,rfl⟩:∃ m,n=m+1:=⟨n-1,by omega⟩
  rw [laws_lkInts.t4]; exact cF (ltF (by omega)) rfl
 | succ d ih =>
  intro i n hi hn
  obtain⟨n,rfl⟩:∃ m,n=m+1:=⟨n-1,by omega⟩
  rw [laws_lkInts.t4]
  unfold laws_lkInts.b4
  refine cT (ltT (by omega)) (cT (irT (by omega) (by omega)) (cT (irT (by omega) (by omega)) (cF (neF rfl) ?_)))
  rw [w_succ (by omega)]
  exact ih (i+1) n (by omega) (by omega)
theorem lkInts_same {β:Type} (l:List Int) (hl:l.length≤1000000) (K:Bool→Option β):laws_lkInts.G sl1 l l K=K true:=by
 unfold laws_lkInts.G
 exact cF (neF rfl) (lkInts_l l hl _ _ l.length 0 sl1.n (by omega) (by rw [rounds_n]; omega))
theorem racks_l {b:List Int} (hb:Src b) (d:Nat):∀ (i:Nat) (hs:List Ho) (p:Int),i+d=hs.length→hs.length≤20→0≤p→p+d≤100000→
  ∃ (r:List Ho) (q:Int),r.length≤20∧∀ (β:Type) (n:Nat) (kx:List Int→Int→List Ho→Option β) (kr:Option β),d<n→spec_l92Houses.l12 sl1 n kx kr b p hs (i:Int)=kx b q r:=by
 induction d with
 | zero =>
  intro i hs p hi hh hp hp2
  refine⟨hs,p,hh,fun β n kx kr hn=>?_⟩
  obtain⟨n,rfl⟩:∃ m,n=m+1:=⟨n-1,by omega⟩
  rw [spec_l92Houses.t12]; exact cF (ltF (by omega)) rfl
 | succ d ih =>
  intro i hs p hi hh hp hp2
  obtain⟨v,v0,v1,e⟩:=pick_S hb (p:=p) 2
  obtain⟨r,q,h3,h4⟩:=ih (i+1) (hs.set i ((hs.getD i noH).1,(sl1.w (1+v),(hs.getD i noH).2.2))) (p+1) (by rw [List.length_set]; omega) (by rw [List.length_set]; exact hh) (by omega) (by omega)
  refine⟨r,q,h3,fun β n kx kr hn=>?_⟩
  obtain⟨n,rfl⟩:∃ m,n=m+1:=⟨n-1,by omega⟩
  rw [spec_l92Houses.t12]
  unfold spec_l92Houses.b12
  rw [w_succ (by omega),Int.toNat_natCast]
  exact cT (ltT (by omega)) ((e _ _).trans (cT (irT (by omega) (by omega)) (h4 β n kx kr (by omega))))
theorem houses_l {b:List Int} (hb:Src b) (d:Nat):∀ (i:Nat) (hs:List Ho) (p:Int),i+d=13→hs.length≤i→0≤p→p+2*d≤10000→
  ∃ (r:List Ho) (q:Int),r.length≤13∧0≤q∧q≤10000∧∀ (β:Type) (n:Nat) (kx:List Int→Int→List Ho→Option β) (kr:Option β),d<n→spec_l92Houses.l3 sl1 n kx kr b p hs (i:Int)=kx b q r:=by
 induction d with
 | zero =>
  intro i hs p hi hh hp hp2
  refine⟨hs,p,by omega,hp,by omega,fun β n kx kr hn=>?_⟩
  obtain⟨n,rfl⟩:∃ m,n=m+1:=⟨n-1,by omega⟩
  rw [spec_l92Houses.t3]; exact cF (leF (by omega)) rfl
 | succ d ih =>
  intro i hs p hi hh hp hp2
  obtain⟨v,v0,v1,e⟩:=pick_S hb (p:=p) 8
  by_cases c0:0<v
  ·obtain ⟨v2, a0, a1, e2⟩ := pick_S hb (p := p + 1) 9
   obtain⟨r,q,h4,h5,h6,h7⟩:=ih (i+1) (hs ++ [((i:Int),(sl1.w (1+Int.tmod (i:Int) 4),(sl1.w (1+v2),())))]) (p+1+1) (by omega) (by rw [List.length_append,List.length_singleton]; omega) (by omega) (by omega)
   refine⟨r,q,h4,h5,h6,fun β n kx kr hn=>?_⟩
   obtain⟨n,rfl⟩:∃ m,n=m+1:=⟨n-1,by omega⟩
   rw [spec_l92Houses.t3]
   unfold spec_l92Houses.b3
   rw [w_succ (by omega)]
   exact cT (leT (by omega)) ((e _ _).trans (cT (ltT c0) ((e2 _ _).trans (cT (fwT (by rw [List.length_append,List.length_singleton]; omega)) (h7 β n kx kr (by omega))))))
  ·obtain ⟨r, q, h4, h5, h6, h7⟩ := ih (i + 1) hs (p + 1) (by omega) (by omega) (by omega) (by omega)
   refine⟨r,q,h4,h5,h6,fun β n kx kr hn=>?_⟩
   obtain⟨n,rfl⟩:∃ m,n=m+1:=⟨n-1,by omega⟩
   rw [spec_l92Houses.t3]
   unfold spec_l92Houses.b3
   rw [w_succ (by omega)]
   exact cT (leT (by omega)) ((e _ _).trans (cF (ltF (by omega)) (h7 β n kx kr (by omega))))
theorem drawPlace {l:List Int} (hl:∀ x∈l,0≤x∧x≤255):∃ (nm:Int) (hs:List Ho),hs.length≤20∧∀ (β:Type) (K:List Ho→Int→Option β),spec_DrawPlaceOf.G sl1 l K=K hs nm:=by
 obtain⟨b,hb,ho⟩:=open_G hl
 obtain⟨v1,a1,b1,e1⟩:=pick_S hb (p:=0) 100
 obtain⟨v2,a2,b2,e2⟩:=pick_S hb (p:=0+1) 24
 obtain⟨r,q,h13,q0,q1,e3⟩:=houses_l hb 12 1 [] (0+1+1) (by omega) (by simp) (by omega) (by omega)
 obtain⟨v,v0,v1',e⟩:=pick_S hb (p:=q) 30
 have start:∀ (hs:List Ho),(∃ q':Int,∀ (β:Type) (K:List Int→Int→List Ho→Option β),spec_l92Houses.G sl1 b (0+1+1) K=K b q' hs)→hs.length≤20→∃ (nm:Int) (hs:List Ho),hs.length≤20∧∀ (β:Type) (K:List Ho→Int→Option β),spec_DrawPlaceOf.G sl1 l K=K hs nm:=fun hs ⟨q',h⟩ h20=>by
  refine⟨sl1.w (v1+sl1.w (sl1.w (Int.tdiv v2 23)*100)),hs,h20,fun β K=>?_⟩
  unfold spec_DrawPlaceOf.G
  exact(ho _ _).trans ((e1 _ _).trans ((e2 _ _).trans (h _ _)))
 have go:∀ (β:Type) (K:List Int→Int→List Ho→Option β) (r':Option β),(bif sl1.eq v 0 then(spec_l6Rd_pick.G sl1 b (q+1) 14 (fun y7 y8 y9=>bif sl1.fw (r ++ [(y9,(1,(1,())))]).length then K y7 y8 (r ++ [(y9,(1,(1,())))])else none))else(bif sl1.eq v 1 then spec_l92Houses.l12 sl1 sl1.n (fun y10 y11 y12=>K y10 y11 y12) none b (q+1) r 0 else K b (q+1) r))=r'→spec_l92Houses.G sl1 b (0+1+1) K=r':=fun β K r' h=>by
  unfold spec_l92Houses.G
  exact(e3 β sl1.n _ _ (by rw [rounds_n]; omega)).trans ((e _ _).trans h)
 by_cases c0:v=0
 ·obtain ⟨v2, h2, h3, e2⟩ := pick_S hb (p := q + 1) 14
  exact start (r ++ [(v2,(1,(1,())))]) ⟨q+1+1,fun β K=>go β K _ (cT (eqT c0) ((e2 _ _).trans (cT (fwT (by rw [List.length_append,List.length_singleton]; omega)) rfl)))⟩ (by rw [List.length_append,List.length_singleton]; omega)
 ·by_cases c1 : v = 1
  ·obtain ⟨r', q', h3, h4⟩ := racks_l hb r.length 0 r (q + 1) (by omega) (by omega) (by omega) (by omega)
   exact start r' ⟨q',fun β K=>go β K _ (cF (eqF c0) (cT (eqT c1) (h4 β sl1.n _ _ (by rw [rounds_n]; omega))))⟩ h3
  ·exact start r ⟨q+1,fun β K=>go β K _ (cF (eqF c0) (cF (eqF c1) rfl))⟩ (by omega)
theorem index_l {β:Type} (l:List Int) (x:Int) (hl:l.length≤1000000) (hx:∀ y∈l,y≠x) (kx:Option β) (kr:Int→Option β) (d:Nat):∀ (i n:Nat),i+d=l.length→d<n→slices_Index_Sint_int.l2 sl1 n kx kr l x (l.length:Int) (i:Int)=kx:=by
 induction d with
 | zero =>
  intro i n hi hn
  obtain⟨n,rfl⟩:∃ m,n=m+1:=⟨n-1,by omega⟩
  rw [slices_Index_Sint_int.t2]; exact cF (ltF (by omega)) rfl
 | succ d ih =>
  intro i n hi hn
  obtain⟨n,rfl⟩:∃ m,n=m+1:=⟨n-1,by omega⟩
  rw [slices_Index_Sint_int.t2]
  unfold slices_Index_Sint_int.b2
  rw [w_succ (by omega),getN l i (by omega)]
  exact cT (ltT (by omega)) (cT (irT (by omega) (by omega)) (cF (eqF (Ne.symm (hx _ (List.getElem_mem (by omega))))) (ih (i+1) n (by omega) (by omega))))
theorem contains_not {β:Type} {l:List Int} {x:Int} (hl:l.length≤1000000) (hx:∀ y∈l,y≠x) (K:Bool→Option β):slices_Contains_Sint_int.G sl1 l x K=K false:=by
 unfold slices_Contains_Sint_int.G slices_Index_Sint_int.G
 exact index_l l x hl hx _ _ l.length 0 sl1.n (by omega) (by rw [rounds_n]; omega)
theorem placeOk_l {β:Type} (l:List Int) (hl:l.length≤1000) (h1:∀ x∈l,1≤x∧x≤12) (h2:l.Pairwise (fun x y=>x≠y)) (kx:List Int→Option β) (kr:Bool→Option β) (d:Nat):∀ (i n:Nat),i+d=l.length→d<n→impl_placeOk.l2 sl1 n kx kr l l (l.length:Int) (i:Int)=kx l:=by
 induction d with
 | zero =>
  intro i n hi hn
  obtain⟨n,rfl⟩:∃ m,n=m+1:=⟨n-1,by omega⟩
  rw [impl_placeOk.t2]; exact cF (ltF (by omega)) rfl
 | succ d ih =>
  intro i n hi hn
  obtain⟨n,rfl⟩:∃ m,n=m+1:=⟨n-1,by omega⟩
  have hlt:i<l.length:=by omega
  rw [impl_placeOk.t2]
  unfold impl_placeOk.b2
  rw [w_succ (by omega),getN l i hlt]
  refine cT (ltT (by omega)) (cT (irT (by omega) (by omega)) ((impl_in _ _ _ _).trans ?_))
  rw [inV_iff.2 (h1 _ (List.getElem_mem hlt))]
  refine cF rfl (cT (andT (andT (andT (leT (by omega)) (leT (by omega))) (leT (by omega))) (leT (by omega))) ?_)
  rw [Int.toNat_natCast]
  refine(contains_not (l:=cutL l (Int.toNat 0) i) (by unfold cutL; rw [List.length_drop,List.length_take]; omega) (fun y hy=>?_) _).trans (cF rfl (ih (i+1) n (by omega) (by omega)))
  have hy':y∈l.take i:=List.mem_of_mem_drop hy
  obtain⟨j,hj,rfl⟩:=List.mem_iff_getElem.1 hy'
  rw [List.length_take] at hj
  rw [List.getElem_take]
  exact(List.pairwise_iff_getElem.1 h2) j i (by omega) hlt (by omega)
theorem placeOk_G {β:Type} {l:List Int} (h8:l.length=8) (h1:∀ x∈l,1≤x∧x≤12) (h2:l.Pairwise (fun x y=>x≠y)) (K:Bool→Option β):impl_placeOk.G sl1 l K=K true:=by
 unfold impl_placeOk.G
 refine(placeOk_l l (by omega) h1 h2 _ _ l.length 0 sl1.n (by omega) (by rw [rounds_n]; omega)).trans ?_
 rw [eqT (by omega)]
theorem chs_ids {nm : Int} {l : List Ho} (h : okH l = true) : (∀ x ∈ (chs nm l).map (·.1), 1 ≤ x ∧ x ≤ 12) ∧ ((chs nm l).map (·.1)).Pairwise (fun x y => x ≠ y) := by
 have hs:=chosen_sub (rankL nm l) [0,0,0,0,0] 0
 refine⟨fun x hx=>?_,?_⟩
 ·obtain ⟨y, hy, rfl⟩ := List.mem_map.1 hx
  have:=vH_pos (rank_vH h y (hs.subset hy))
  omega
 ·rw [List.pairwise_map]
  exact(rank_ids h).sublist hs
def bitsL:Nat→List (List Bool)
 | 0 => [[]]
 | n + 1 => (bitsL n).flatMap fun l => [false :: l, true :: l]
theorem bitsL_mem:∀ (l:List Bool) (n:Nat),l.length=n→l∈bitsL n
 | [], 0, _ => List.mem_singleton.2 rfl
 | b :: l, n + 1, h => by
  unfold bitsL
  refine List.mem_flatMap.2 ⟨l,bitsL_mem l n (by simpa using h),?_⟩
  cases b
  ·exact List.mem_cons_self
  ·exact List.mem_cons_of_mem _ List.mem_cons_self
def trues:List Bool→Nat
 | [] => 0
 | b :: l => (bif b then 1 else 0) + trues l
noncomputable def bearsB (l:List Bool):Bool:=match impl_CodeBears.G sl1 2 l (fun y=>some y) with
 | some true => true
 | _ => false
theorem bears_0:((bitsL 6).all fun l=>bif Nat.ble 5 (trues (false::false::l))then bearsB (false::false::l)else true)=true:=by kernel_rfl
theorem bears_1:((bitsL 6).all fun l=>bif Nat.ble 5 (trues (false::true::l))then bearsB (false::true::l)else true)=true:=by kernel_rfl
theorem bears_2:((bitsL 6).all fun l=>bif Nat.ble 5 (trues (true::false::l))then bearsB (true::false::l)else true)=true:=by kernel_rfl
theorem bears_3:((bitsL 6).all fun l=>bif Nat.ble 5 (trues (true::true::l))then bearsB (true::true::l)else true)=true:=by kernel_rfl
theorem bears_nat {β:Type} (l:List Bool) (K:Bool→Option β):impl_CodeBears.G sl1 2 l K=(impl_CodeBears.G sl1 2 l (fun y=>some y)).bind K:=by
 have h:∀ {γ:Type} (K:Bool→Option γ),impl_CodeBears.G sl0 2 l K=(impl_CodeBears.G sl0 2 l (fun x=>some ((),(x,())))).bind (fun y=>K y.2.1):=fun K=>impl_CodeBears.ok.nat ((),((2:Int),(l,()))) (fun y=>K y.2.1)
 rw [sl_eq] at h
 rw [h K,h (fun y=>some y),Option.bind_assoc]; rfl
theorem bears_few {β:Type} {l:List Bool} (h8:l.length=8) (h5:5≤trues l) (K:Bool→Option β):impl_CodeBears.G sl1 2 l K=K true:=by
 have hb:bearsB l=true:=by
  match l,h8 with
  | a :: b :: r, h8 =>
   have hm:=bitsL_mem r 6 (by simpa using h8)
   have h5':=Nat.ble_eq_true_of_le h5
   cases a <;> cases b
   ·have:=List.all_eq_true.1 bears_0 r hm; rw [h5'] at this; exact this
   ·have:=List.all_eq_true.1 bears_1 r hm; rw [h5'] at this; exact this
   ·have:=List.all_eq_true.1 bears_2 r hm; rw [h5'] at this; exact this
   ·have:=List.all_eq_true.1 bears_3 r hm; rw [h5'] at this; exact this
 rw [bears_nat]
 unfold bearsB at hb
 split at hb
 ·rename_i e; rw [e]; rfl
 ·cases hb
end Go.Proofs.Ytijjhpmladkjdaa.E
end
section
namespace Go.Proofs.Ytijjhpmladkjdaa.E
open Go Go.RowKit
set_option maxRecDepth 100000
def offR (hs:List Ho) (rack:Int) (p:List Int):List Bool:=p.map fun id=>!sl1.eq (rackL hs id) rack
theorem flags_l {β:Type} {hs:List Ho} (h:okH hs=true) (rack:Int) (p:List Int) (hp:p.length≤1000) (kx:List Ho→Int→List Bool→Option β) (kr:Option β) (d:Nat):∀ (i n:Nat),i+d=p.length→d<n→impl_flags.l3 sl1 n kx kr hs rack (offR hs rack (p.take i)) p (p.length:Int) (i:Int)=kx hs rack (offR hs rack p):=by
 induction d with
 | zero =>
  intro i n hi hn
  obtain⟨n,rfl⟩:∃ m,n=m+1:=⟨n-1,by omega⟩
  rw [impl_flags.t3,List.take_of_length_le (by omega)]; exact cF (ltF (by omega)) rfl
 | succ d ih =>
  intro i n hi hn
  obtain⟨n,rfl⟩:∃ m,n=m+1:=⟨n-1,by omega⟩
  have hlt:i<p.length:=by omega
  have next:=ih (i+1) n (by omega) (by omega)
  have e:offR hs rack (p.take (i+1))=offR hs rack (p.take i) ++ [!sl1.eq (rackL hs p[i]) rack]:=by
   unfold offR
   rw [List.take_succ_eq_append_getElem hlt,List.map_append]; rfl
  have hlen:(offR hs rack (p.take i)).length=i:=by unfold offR; rw [List.length_map,List.length_take]; omega
  rw [e] at next
  rw [impl_flags.t3]
  unfold impl_flags.b3 impl_PlaceRack_1.G
  rw [w_succ (by omega),getN p i hlt]
  exact cT (ltT (by omega)) (cT (irT (by omega) (by omega)) ((implRack_G h _ _).trans (cT (fwT (by rw [List.length_append,hlen,List.length_singleton]; omega)) next)))
theorem placeRack_G {β:Type} {hs:List Ho} (h:okH hs=true) {p:List Int} (h8:p.length=8) (h1:∀ x∈p,1≤x∧x≤12) (h2:p.Pairwise (fun x y=>x≠y)) (rack:Int) (K:List Bool→Option β):impl_PlaceRack.G sl1 hs p rack K=K (offR hs rack p):=by
 have hl:=okH_len h
 unfold impl_PlaceRack.G
 refine(implHousesOk_G (by omega) _).trans ?_
 rw [h]
 refine cF rfl ((placeOk_G h8 h1 h2 _).trans (cF rfl ?_))
 unfold impl_flags.G
 refine cT (andT (andT (leT (by omega)) (leT (by omega))) (fwT (by omega))) ?_
 exact flags_l h rack p (by omega) _ _ p.length 0 sl1.n (by omega) (by rw [rounds_n]; omega)
theorem many_l {β:Type} (l:List Bool) (hl:l.length≤1000) (kx:Int→Option β) (kr:Option β) (d:Nat):∀ (i n m:Nat),i+d=l.length→d<n→m≤i→laws_lkMany.l3 sl1 n kx kr l (m:Int) (i:Int)=kx ((m+trues (l.drop i):Nat):Int):=by
 induction d with
 | zero =>
  intro i n m hi hn hm
  obtain⟨n,rfl⟩:∃ m,n=m+1:=⟨n-1,by omega⟩
  rw [laws_lkMany.t3,List.drop_of_length_le (by omega)]; exact cF (ltF (by omega)) rfl
 | succ d ih =>
  intro i n m hi hn hm
  obtain⟨n,rfl⟩:∃ m,n=m+1:=⟨n-1,by omega⟩
  have hlt:i<l.length:=by omega
  rw [laws_lkMany.t3,List.drop_eq_getElem_cons hlt,trues]
  unfold laws_lkMany.b3
  rw [w_succ (by omega),w_succ (by omega),getN l i hlt]
  refine cT (ltT (by omega)) (cT (irT (by omega) (by omega)) ?_)
  cases l[i]
  ·refine cF rfl ((ih (i + 1) n m (by omega) (by omega) (by omega)).trans ?_)
   rw [cond_false,Nat.zero_add]
  ·refine cT rfl ((ih (i + 1) n (m + 1) (by omega) (by omega) (by omega)).trans ?_)
   rw [cond_true,Nat.add_assoc]
theorem many_G {β:Type} {l:List Bool} (hl:l.length≤1000) (K:Int→Option β):laws_lkMany.G sl1 l K=K (trues l:Int):=by
 unfold laws_lkMany.G
 refine(many_l l hl (fun y1=>K y1) none l.length 0 sl1.n 0 (by omega) (by rw [rounds_n]; omega) (by omega)).trans ?_
 rw [List.drop_zero,Nat.zero_add]
theorem trues_off {hs : List Ho} (rack : Int) : ∀ (P : List Ho), (∀ x ∈ P, rackL hs x.1 = x.2.1) → (trues (offR hs rack (P.map (·.1))) : Int) + cntR P rack = P.length
 | [], _ => rfl
 | x :: P, h => by
  have ih:=trues_off rack P (fun y hy=>h y (List.mem_cons_of_mem _ hy))
  have e : offR hs rack ((x :: P).map (·.1)) = (!sl1.eq x.2.1 rack) :: offR hs rack (P.map (·.1)) := by
   unfold offR
   rw [List.map_cons,List.map_cons,h x List.mem_cons_self]
  rw [e,trues,cntR,List.length_cons]
  by_cases c:x.2.1=rack
  ·rw [neF c,if_pos c,cond_false]; omega
  ·rw [neT c,if_neg c,cond_true]; omega
end Go.Proofs.Ytijjhpmladkjdaa.E
namespace Go.Proofs.Ytijjhpmladkjdaa.Pure.FnPlaceRackLost
open Go Go.Proofs.Ytijjhpmladkjdaa.E
theorem pure {β:Type} (l m:List Int) (hl:∀ x∈l,0≤x∧x≤255) (_:∀ x∈m,0≤x∧x≤255) (K:Bool→Option β):laws_FnPlaceRackLost.G sl1 l m K=K true:=by
 obtain⟨nm,hs,h20,hd⟩:=drawPlace hl
 have hpl:=placeF_len nm hs
 unfold laws_FnPlaceRackLost.G
 by_cases h:1048576<(l.length:Int)
 ·exact cT (ltT h) rfl
 refine cF (ltF (by omega)) ?_
 by_cases h':1048576<(m.length:Int)
 ·exact cT (ltT h') rfl
 have same:=fun {γ:Type} (K:Bool→Option γ)=>lkInts_same (β:=γ) (placeF nm hs).1 (by omega) K
 refine cF (ltF (by omega)) ((hd _ _).trans ((specPlace_G nm (by omega) _).trans ((implPlace_G nm (by omega) _).trans (cF (bne_self_eq_false _) ((same _).trans (cF rfl ?_))))))
 cases ok:(placeF nm hs).2
 ·exact cT rfl (cT rfl (same _))
 obtain⟨h1,h2,h3,h4⟩:=placeF_true ok
 obtain⟨i1,i2⟩:=chs_ids (nm:=nm) h2
 have e : (placeF nm hs).1 = (chs nm hs).map (·.1) := by rw [h3]
 have h8 : ((chs nm hs).map (·.1)).length = 8 := by rw [List.length_map]; exact h4
 obtain⟨k,k0,k4,ek⟩:∃ k:Int,1≤k∧k≤4∧sl1.w (1+Int.tmod (m.length:Int) 4)=k:=⟨1+((m.length%4:Nat):Int),by omega,by omega,by rw [Int.tmod_eq_emod_of_nonneg (by omega),wE (by omega) (by omega)]; omega⟩
 have hmem:∀ x∈chs nm hs,rackL hs x.1=x.2.1:=fun x hx=>rackL_mem hs (okH_ids h2) x ((rank_perm nm hs).mem_iff.1 ((chosen_sub _ _ _).subset hx))
 have hc:=chs_cnt (nm:=nm) h2 k k0 k4
 have ht:=trues_off k (chs nm hs) hmem
 have hn:=cntR_nn (chs nm hs) k
 have hol : (offR hs k ((chs nm hs).map (·.1))).length = 8 := by unfold offR; rw [List.length_map]; exact h8
 rw [ek,e]
 refine cF rfl ((placeRack_G h2 h8 i1 i2 k _).trans ((many_G (by omega) _).trans ?_))
 rw [wE (by omega) (by omega)]
 exact cT (leT (by omega)) (bears_few hol (by omega) _)
end Go.Proofs.Ytijjhpmladkjdaa.Pure.FnPlaceRackLost
end
section
namespace Go.Proofs.Ytijjhpmladkjdaa.Head
theorem strip (r : List (List Char)) : stripLifts liftWords ("cut".toList :: r) = ([], "cut".toList :: r) := by
 unfold liftWords
 repeat (rw [stripLifts,if_neg (by decide +kernel)])
 rw [stripLifts]
theorem words_of {ws : List (List Char)} (h : ws.head? = some "cut".toList) : ∃ r, ws = "cut".toList :: r := by
 cases ws with
 | nil => cases h
 | cons c r => exact ⟨r, by rw [Option.some.inj h]⟩
theorem lifts_of (P : Program) (l : List Char) (hl : P.initOrder.toList = l) (h : (behindMainWord (wordsSigns l)).head? = some "cut".toList) : P.headLifts = [] := by
 obtain⟨r,hr⟩:=words_of h
 unfold Program.headLifts
 rw [hl,hr,strip]
 dsimp only
 split <;> rfl
theorem e1 : ("cut".toList == "gc".toList) = false := by decide +kernel
theorem e2 : ("cut".toList == "spec".toList) = false := by decide +kernel
theorem e3 : ("cut".toList == "carried".toList) = false := by decide +kernel
theorem e4 : (some "cut".toList == some "carried".toList) = false := by decide +kernel
theorem make_of (P : Program) (l : List Char) (hl : P.initOrder.toList = l) (h : (behindMainWord (wordsSigns l)).head? = some "cut".toList) : P.make = some .cut := by
 obtain⟨r,hr⟩:=words_of h
 unfold Program.make
 rw [hl,hr]
 dsimp only
 rw [e1,e2]
 simp
theorem final_of (P : Program) (l : List Char) (hl : P.initOrder.toList = l) (h : (behindMainWord (wordsSigns l)).head? = some "cut".toList) : P.liftsFinal = false := by
 obtain⟨r,hr⟩:=words_of h
 unfold Program.liftsFinal
 rw [hl,hr,lifts_of P l hl h]
 dsimp only [List.head?_cons]
 rw [e4]
 rfl
theorem enter_of (P : Program) (l : List Char) (hl : P.initOrder.toList = l) (h : (behindMainWord (wordsSigns l)).head? = some "cut".toList) (later : P.laysLater = false) (reflect : P.bearsReflect = false) (door : P.doorFits [] = true) : P.mayEnter = true := by
 obtain⟨r,hr⟩:=words_of h
 unfold Program.mayEnter
 rw [hl,hr]
 dsimp only
 rw [strip]
 dsimp only
 rw [later,reflect,door,e1,e2,e3]
 simp
def signs:List Char:=List.map Char.ofNat [104,97,114,110,101,115,115,32,98,54,54,98,57,54,100,102,48,98,49,51,50,102,54,52,54,56,101,51,100,101,49,97,57,52,49,97,101,101,100,54,48,99,52,53,53,102,97,50,51,101,97,98,52,101,50,49,48,97,50,54,99,100,98,49,48,55,101,101,55,53,97,56,32,99,117,116,32,97,116,32,108,111,111,112,46,101,120,97,109,112,108,101,47,107,101,101,108,115,111,110,47,108,97,119,115,46,70,110,84,101,120,116,83,116,114,105,99,116,32,108,111,111,112,46,101,120,97,109,112,108,101,47,107,101,101,108,115,111,110,47,108,97,119,115,46,70,110,80,114,111,103,79,102,32,108,111,111,112,46,101,120,97,109,112,108,101,47,107,101,101,108,115,111,110,47,108,97,119,115,46,70,110,80,108,97,99,101,76,101,115,115,32,108,111,111,112,46,101,120,97,109,112,108,101,47,107,101,101,108,115,111,110,47,108,97,119,115,46,70,110,80,108,97,99,101,82,97,99,107,76,111,115,116]
theorem order:Try.prog.initOrder=String.ofList signs:=by kernel_rfl
theorem toL:Try.prog.initOrder.toList=signs:=by rw [order]; exact String.toList_ofList
theorem words : (behindMainWord (wordsSigns signs)).head? = some "cut".toList := by kernel_rfl
theorem make:Try.prog.make=some .cut:=make_of _ _ toL words
theorem final:Try.prog.liftsFinal=false:=final_of _ _ toL words
theorem enter:Try.prog.mayEnter=true:=enter_of _ _ toL words (by as_aux_lemma=>kernel_rfl) (by as_aux_lemma=>kernel_rfl) (by as_aux_lemma=>kernel_rfl)
end Go.Proofs.Ytijjhpmladkjdaa.Head
end
section
namespace Go.Proofs.Ytijjhpmladkjdaa.fnPlaceRackLost
open Go.ChangeShapes Go.WideShapes Go.ChangeAt Go.RowKit
open Go.ChangeMaps (open_string shut_string)
theorem own:ownKnob Try.prog.godebug=none:=by kernel_rfl
theorem laidOut:laidOutB Try.prog=true:=by kernel_rfl
set_option maxRecDepth 100000 in
theorem lifted (os:Os) (started:os.Started) (H:Type) (enc:TypeId×Value→H):
  ReturnsInHanded {} Try.checked os 6 .any (Rows.fnPlaceRackLostSpec.pre6 enc Try.prog Try.f6 Rows.fnPlaceRackLostRow.domain false) (Rows.fnPlaceRackLostSpec.post enc Try.prog Try.f6 false true false false):=by
 refine returnsInHanded_of_change_sized (C:=Try.checked) own started (by kernel_rfl) Try.func6
  (ChangeSpec.witness6 (enc:=enc) (C:=Try.checked) false ⟨#[],#[.slice none 0 0,.slice none 0 0],[]⟩ 8 (by kernel_rfl) (by kernel_rfl) (by kernel_rfl) (by kernel_rfl)) ?_
 intro W base args ds gs before hval0 hW hcnd hsz0 _
 have hval:∀ (j:Nat) t v,Try.f6.params[j]? = some t→args[j]? = some v→Value.okWide Try.prog W .any base t v:=hval0
 have hW':=hW
 obtain⟨p,q,hA0,hV,rfl,hfz,hnd⟩:=hW
 have hA:DataW.TrodAll enc Try.prog W 0 (fun _=>true) true Try.f6.params.toList args.toList ds p:=hA0
 rw [Try.params6] at hA hval
 obtain⟨v0,vs0,d0,ds0,p0,q0,hargs0,rfl,rfl,h0,r0⟩:=trodAll_cons hA
 obtain⟨v1,vs1,d1,ds1,p1,q1,hargs1,rfl,rfl,h1,r1⟩:=trodAll_cons r0
 obtain⟨rfl,rfl,rfl⟩:=trodAll_nil r1
 obtain rfl:args = #[v0,v1]:=by cases args; simp_all
 obtain⟨rfl,rfl⟩:=trodVars_none hV
 obtain⟨a0,len0,cap0,rfl⟩:=okWide_slice Try.underlying22 (hval 0 22 v0 rfl rfl)
 obtain⟨a1,len1,cap1,rfl⟩:=okWide_slice Try.underlying22 (hval 1 22 v1 rfl rfl)
 have k0:=h0
 have lt0:∀ x∈p0,x.block<W.heap.size:=by obtain⟨m,hm⟩:=k0; exact DataW.trod_lt m _ _ _ hm
 obtain⟨z0,w0,b0⟩:∃ zs,E.IsRowK .u8 W a0 len0 cap0 zs∧(∀ x∈zs,(Lit.int .u8 x).wf=true):=by
  obtain⟨fuel,hf⟩:=h0
  rcases open_ints Try.underlying22 Try.underlying5 (by kernel_rfl) hf with ⟨hcs,_⟩ | ⟨x,l,c,zs,hcs,_,hl,hm,hz,_,hcell,hwz⟩
  ·simp [Value.cells] at hcs
   obtain⟨rfl,rfl,rfl⟩:=hcs
   exact⟨[],.inl ⟨rfl,rfl,rfl,rfl⟩,by simp⟩
  ·simp [Value.cells] at hcs
   obtain⟨rfl,rfl,rfl⟩:=hcs
   exact⟨zs,.inr ⟨_,rfl,hl,by simpa using hz,hcell⟩,hwz⟩
 have k1:=h1
 have lt1:∀ x∈p1,x.block<W.heap.size:=by obtain⟨m,hm⟩:=k1; exact DataW.trod_lt m _ _ _ hm
 obtain⟨z1,w1,b1⟩:∃ zs,E.IsRowK .u8 W a1 len1 cap1 zs∧(∀ x∈zs,(Lit.int .u8 x).wf=true):=by
  obtain⟨fuel,hf⟩:=h1
  rcases open_ints Try.underlying22 Try.underlying5 (by kernel_rfl) hf with ⟨hcs,_⟩ | ⟨x,l,c,zs,hcs,_,hl,hm,hz,_,hcell,hwz⟩
  ·simp [Value.cells] at hcs
   obtain⟨rfl,rfl,rfl⟩:=hcs
   exact⟨[],.inl ⟨rfl,rfl,rfl,rfl⟩,by simp⟩
  ·simp [Value.cells] at hcs
   obtain⟨rfl,rfl,rfl⟩:=hcs
   exact⟨zs,.inr ⟨_,rfl,hl,by simpa using hz,hcell⟩,hwz⟩
 clear hA0 hval0 hsz0
 have hp:=Pure.FnPlaceRackLost.pure (z0.take len0) (z1.take len1) (fun x hx=>E.byte_wf (b0 x (List.mem_of_mem_take hx))) (fun x hx=>E.byte_wf (b1 x (List.mem_of_mem_take hx))) (fun b=>some ((),(b,())))
 rw [←E.sl_eq] at hp
 refine(E.law_bytes2 E.laws_FnPlaceRackLost.ok w0 w1 hp).mono fun e W' ⟨he,bel⟩=>?_
 subst he
 exact⟨_,rfl,_,_,_,[],_,[],hW',trodAll_mk1 (shut_bool Try.underlying4 _),(trodAll_cons_mk (Below.trod laidOut (by kernel_rfl) (of_decide_eq_true (by kernel_rfl)) k0 bel lt0) (trodAll_cons_mk (Below.trod laidOut (by kernel_rfl) (of_decide_eq_true (by kernel_rfl)) k1 bel lt1) trodAll_mk0)),rfl,bel.frame _,fun h=>by cases h⟩
theorem closed:joinedFacts Try.prog 6 Try.f6 Rows.fnPlaceRackLostSpec Rows.fnPlaceRackLostRow=true:=by
 unfold joinedFacts
 rw [Head.make,Head.final,Head.enter]
 kernel_rfl
theorem over:Rows.fnPlaceRackLostRow.holds Try.pinned (OpenSpec.ofChange Rows.fnPlaceRackLostSpec):=
 OpenClaim.holds_of_wide 6 Try.f6 rfl rfl rfl rfl rfl rfl rfl ⟨rfl,rfl,rfl,rfl,rfl⟩ rfl rfl rfl rfl rfl (by kernel_rfl) Try.func6 closed
  (of_decide_eq_true (by kernel_rfl)) (by unfold Func.isWrapper; first | (rw [if_pos (by decide +kernel)]; kernel_rfl) | (rw [if_neg (by decide +kernel)]; exact⟨rfl,rfl⟩))
  (fun os started H enc _=>lifted os started H enc)
theorem proved:Rows.FnPlaceRackLostSaid:=over
#print axioms proved
end Go.Proofs.Ytijjhpmladkjdaa.fnPlaceRackLost
end
