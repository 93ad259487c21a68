/- Part 1 of the proof of the statement FnExactRotMend; the last part states it. No condition. -/
import Derived.Test.YtnbighmbgmjbkaaGreatRows
import Derived.WalkKit
import Derived.ProofKit
import Derived.OpenShut
import Derived.ShutString
import Derived.ChangeOld
import Derived.Below
import Derived.SizedLaws
import Derived.Test.YtnbighmbgmjbkaaGreatMGM2
import Derived.Test.YtnbighmbgmjbkaaGreatMGM4
import Derived.Test.YtnbighmbgmjbkaaGreatMGM5
import Derived.Test.YtnbighmbgmjbkaaGreatMGM34
set_option linter.unusedVariables false
set_option linter.unusedSimpArgs false
section
namespace Go.Proofs.YtnbighmbgmjbkaaGreat.E
open Go Go.RowKit
set_option maxRecDepth 100000
namespace laws_eqDisk
def sin:Sig:=⟨[],[.agg [.val I false,.val I false,.val I false],.agg [.val I false,.val I false,.val I false]]⟩
def sout:Sig:=⟨[],[.one (.val .bool false)]⟩
noncomputable def G {β:Type}(S:Sl)(a0:Int)(a1:Int)(a2:Int)(a3:Int)(a4:Int)(a5:Int)(K:Bool→Option β):Option β:=bif(!S.eq a0 a3)then(K false)else(bif(!S.eq a1 a4)then(K false)else(bif(!S.eq a2 a5)then(K false)else(K true)))
noncomputable def o:Orac:=⟨166,sin,sout,fun s K=>G sl0 s.2.1.1 s.2.1.2.1 s.2.1.2.2.1 s.2.2.1.1 s.2.2.1.2.1 s.2.2.1.2.2.1 (fun x0=>K ((),(x0,())))⟩
noncomputable def C:Ctx:=⟨tyT,[],[],20,0⟩
theorem ctx:CtxOk Tryz.prog C:=⟨tyOk,all0⟩
theorem eG (β:Type)(s:sin.den)(K:sout.den→Option β):evalFn C Tryz.f166 sin sout s K=o.F s K:=by kernel_rfl
theorem ok:OracOk Tryz.prog o:=fn_ok mixed Tryz.func166 (by kernel_rfl) ctx (c:=bodyC Tryz.f166) (by kernel_rfl) (all0) (by kernel_rfl) (by kernel_rfl) (by kernel_rfl) (Nat.le_of_ble_eq_true (by kernel_rfl)) eG (by kernel_rfl) (Nat.le_of_ble_eq_true (by kernel_rfl))
end laws_eqDisk
namespace laws_eqDiskS
def sin:Sig:=⟨[],[.one (.val (.sl (.pair I (.pair I (.pair I .unit)))) false),.one (.val (.sl (.pair I (.pair I (.pair I .unit)))) false)]⟩
def sout:Sig:=⟨[],[.one (.val .bool false)]⟩
def h4:SS:=⟨[0,1,5],⟨[],[.one (.val (.sl (.pair I (.pair I (.pair I .unit)))) false),.one (.val (.sl (.pair I (.pair I (.pair I .unit)))) false),.one (.val I false)]⟩⟩
def x4:SS:=⟨[],⟨[],[]⟩⟩
def y4:SS:=⟨[4],⟨[],[.one (.val .bool false)]⟩⟩
noncomputable def b4 {β:Type}(S:Sl)(L:(List (Int×(Int×(Int×Unit))))→(List (Int×(Int×(Int×Unit))))→Int→Option β)(kx:Option β)(kr:Bool→Option β)(s0:(List (Int×(Int×(Int×Unit)))))(s1:(List (Int×(Int×(Int×Unit)))))(s2:Int):Option β:=bif(S.lt s2 (s0.length:Int))then(bif(S.ir s2 s0.length)then(bif(S.ir s2 s1.length)then(laws_eqDisk.G S ((List.getD s0 (Int.toNat s2) (0,(0,(0,())))).1) ((List.getD s0 (Int.toNat s2) (0,(0,(0,())))).2.1) ((List.getD s0 (Int.toNat s2) (0,(0,(0,())))).2.2.1) ((List.getD s1 (Int.toNat s2) (0,(0,(0,())))).1) ((List.getD s1 (Int.toNat s2) (0,(0,(0,())))).2.1) ((List.getD s1 (Int.toNat s2) (0,(0,(0,())))).2.2.1) (fun y1=>bif(!y1)then(kr false)else(L s0 s1 (S.w (s2+1)))))else(none))else(none))else(kx)
noncomputable def r4 {β:Type}(S:Sl)(n:Nat)(kx:x4.sig.den→Option β)(kr:y4.sig.den→Option β)(s:h4.sig.den):Option β:=rounds (fun L kx kr s=>b4 S (fun x0 x1 x2=>L ((),(x0,(x1,(x2,()))))) (kx ((),())) (fun x0=>kr ((),(x0,()))) s.2.1 s.2.2.1 s.2.2.2.1) kx kr n s
noncomputable def l4 {β:Type}(S:Sl)(n:Nat)(kx:Option β)(kr:Bool→Option β)(s0:(List (Int×(Int×(Int×Unit)))))(s1:(List (Int×(Int×(Int×Unit)))))(s2:Int):Option β:=r4 S n (fun s=>kx) (fun s=>kr s.2.1) ((),(s0,(s1,(s2,()))))
theorem t4 {β:Type}(S:Sl)(n:Nat)(kx:Option β)(kr:Bool→Option β)(s0:(List (Int×(Int×(Int×Unit)))))(s1:(List (Int×(Int×(Int×Unit)))))(s2:Int):l4 S (n+1) kx kr s0 s1 s2=b4 S (l4 S n kx kr) kx kr s0 s1 s2:=by kernel_rfl
noncomputable def G {β:Type}(S:Sl)(a0:(List (Int×(Int×(Int×Unit)))))(a1:(List (Int×(Int×(Int×Unit)))))(K:Bool→Option β):Option β:=bif(!S.eq (a0.length:Int) (a1.length:Int))then(K false)else(l4 S S.n (K true) (fun y1=>K y1) a0 a1 0)
noncomputable def o:Orac:=⟨75,sin,sout,fun s K=>G sl0 s.2.1 s.2.2.1 (fun x0=>K ((),(x0,())))⟩
noncomputable def C:Ctx:=⟨tyT,[laws_eqDisk.o],[⟨4,0,h4,x4,y4,fun s kx kr=>r4 sl0 sl0.n kx kr s⟩],27,0⟩
theorem ctx:CtxOk Tryz.prog C:=⟨tyOk,all1 laws_eqDisk.ok (all0)⟩
theorem e4 (β:Type)(L:h4.sig.den→Option β)(kx:x4.sig.den→Option β)(kr:y4.sig.den→Option β)(s:h4.sig.den):evalBody C (nthC (loopsOf (bodyC Tryz.f75)) 0) 0 h4 x4 y4 L kx kr s=b4 sl0 (fun x0 x1 x2=>L ((),(x0,(x1,(x2,()))))) (kx ((),())) (fun x0=>kr ((),(x0,()))) s.2.1 s.2.2.1 s.2.2.2.1:=by kernel_rfl
theorem g4:LS Tryz.prog C ⟨4,0,h4,x4,y4,fun s kx kr=>r4 sl0 sl0.n kx kr s⟩ (loopsOf (bodyC Tryz.f75)):=LS.at (i:=0) (by kernel_rfl) (loop_good mixed ctx (ctx_nat ctx) (N:=sl0.n) (fun _ _ _ _=>rfl) e4 (all1 (LS.none (by kernel_rfl)) (all0)))
theorem eG (β:Type)(s:sin.den)(K:sout.den→Option β):evalFn C Tryz.f75 sin sout s K=o.F s K:=by kernel_rfl
theorem ok:OracOk Tryz.prog o:=fn_ok mixed Tryz.func75 (by kernel_rfl) ctx (c:=bodyC Tryz.f75) (by kernel_rfl) (all1 g4 (all0)) (by kernel_rfl) (by kernel_rfl) (by kernel_rfl) (Nat.le_of_ble_eq_true (by kernel_rfl)) eG (by kernel_rfl) (Nat.le_of_ble_eq_true (by kernel_rfl))
end laws_eqDiskS
namespace laws_heldDiskS
def sin:Sig:=⟨[],[.one (.val (.sl (.pair I (.pair I (.pair I .unit)))) false),.one (.val I false)]⟩
def sout:Sig:=⟨[],[.one (.val I false)]⟩
def h2:SS:=⟨[0,1,5],⟨[],[.one (.val (.sl (.pair I (.pair I (.pair I .unit)))) false),.one (.val I false),.one (.val I false)]⟩⟩
def x2:SS:=⟨[1],⟨[],[.one (.val I false)]⟩⟩
def y2:SS:=⟨[4],⟨[],[.one (.val I false)]⟩⟩
noncomputable def b2 {β:Type}(S:Sl)(L:(List (Int×(Int×(Int×Unit))))→Int→Int→Option β)(kx:Int→Option β)(kr:Int→Option β)(s0:(List (Int×(Int×(Int×Unit)))))(s1:Int)(s2:Int):Option β:=bif(S.lt s2 (s0.length:Int))then(bif(S.ir s2 s0.length)then(bif(!S.eq ((List.getD s0 (Int.toNat s2) (0,(0,(0,())))).1) s1)then(kr (-1))else(bif(S.ir s2 s0.length)then(bif(!S.eq ((List.getD s0 (Int.toNat s2) (0,(0,(0,())))).2.1) (S.w (s1+1)))then(kr (-1))else(bif(S.ir s2 s0.length)then(bif(!S.eq ((List.getD s0 (Int.toNat s2) (0,(0,(0,())))).2.2.1) (S.w ((S.w (s1+1))+1)))then(kr (-1))else(L s0 (S.w ((S.w ((S.w (s1+1))+1))+1)) (S.w (s2+1))))else(none)))else(none)))else(none))else(kx s1)
noncomputable def r2 {β:Type}(S:Sl)(n:Nat)(kx:x2.sig.den→Option β)(kr:y2.sig.den→Option β)(s:h2.sig.den):Option β:=rounds (fun L kx kr s=>b2 S (fun x0 x1 x2=>L ((),(x0,(x1,(x2,()))))) (fun x0=>kx ((),(x0,()))) (fun x0=>kr ((),(x0,()))) s.2.1 s.2.2.1 s.2.2.2.1) kx kr n s
noncomputable def l2 {β:Type}(S:Sl)(n:Nat)(kx:Int→Option β)(kr:Int→Option β)(s0:(List (Int×(Int×(Int×Unit)))))(s1:Int)(s2:Int):Option β:=r2 S n (fun s=>kx s.2.1) (fun s=>kr s.2.1) ((),(s0,(s1,(s2,()))))
theorem t2 {β:Type}(S:Sl)(n:Nat)(kx:Int→Option β)(kr:Int→Option β)(s0:(List (Int×(Int×(Int×Unit)))))(s1:Int)(s2:Int):l2 S (n+1) kx kr s0 s1 s2=b2 S (l2 S n kx kr) kx kr s0 s1 s2:=by kernel_rfl
noncomputable def G {β:Type}(S:Sl)(a0:(List (Int×(Int×(Int×Unit)))))(a1:Int)(K:Int→Option β):Option β:=l2 S S.n (fun y1=>K y1) (fun y2=>K y2) a0 a1 0
noncomputable def o:Orac:=⟨77,sin,sout,fun s K=>G sl0 s.2.1 s.2.2.1 (fun x0=>K ((),(x0,())))⟩
noncomputable def C:Ctx:=⟨tyT,[],[⟨2,0,h2,x2,y2,fun s kx kr=>r2 sl0 sl0.n kx kr s⟩],40,0⟩
theorem ctx:CtxOk Tryz.prog C:=⟨tyOk,all0⟩
theorem e2 (β:Type)(L:h2.sig.den→Option β)(kx:x2.sig.den→Option β)(kr:y2.sig.den→Option β)(s:h2.sig.den):evalBody C (nthC (loopsOf (bodyC Tryz.f77)) 0) 0 h2 x2 y2 L kx kr s=b2 sl0 (fun x0 x1 x2=>L ((),(x0,(x1,(x2,()))))) (fun x0=>kx ((),(x0,()))) (fun x0=>kr ((),(x0,()))) s.2.1 s.2.2.1 s.2.2.2.1:=by kernel_rfl
theorem g2:LS Tryz.prog C ⟨2,0,h2,x2,y2,fun s kx kr=>r2 sl0 sl0.n kx kr s⟩ (loopsOf (bodyC Tryz.f77)):=LS.at (i:=0) (by kernel_rfl) (loop_good mixed ctx (ctx_nat ctx) (N:=sl0.n) (fun _ _ _ _=>rfl) e2 (all1 (LS.none (by kernel_rfl)) (all0)))
theorem eG (β:Type)(s:sin.den)(K:sout.den→Option β):evalFn C Tryz.f77 sin sout s K=o.F s K:=by kernel_rfl
theorem ok:OracOk Tryz.prog o:=fn_ok mixed Tryz.func77 (by kernel_rfl) ctx (c:=bodyC Tryz.f77) (by kernel_rfl) (all1 g2 (all0)) (by kernel_rfl) (by kernel_rfl) (by kernel_rfl) (Nat.le_of_ble_eq_true (by kernel_rfl)) eG (by kernel_rfl) (Nat.le_of_ble_eq_true (by kernel_rfl))
end laws_heldDiskS
namespace laws_markDiskS_
def sin:Sig:=⟨[.buf (.pair I (.pair I (.pair I .unit))) false],[.one (.ref (.own 0)),.one (.val I false)]⟩
def sout:Sig:=⟨[.buf (.pair I (.pair I (.pair I .unit))) false],[.one (.val I false)]⟩
def h2:SS:=⟨[0,1,5],⟨[.buf (.pair I (.pair I (.pair I .unit))) false],[.one (.ref (.own 0)),.one (.val I false),.one (.val I false)]⟩⟩
def x2:SS:=⟨[1],⟨[.buf (.pair I (.pair I (.pair I .unit))) false],[.one (.val I false)]⟩⟩
def y2:SS:=⟨[],⟨[],[]⟩⟩
noncomputable def b2 {β:Type}(S:Sl)(L:(List (Int×(Int×(Int×Unit))))→Int→Int→Option β)(kx:(List (Int×(Int×(Int×Unit))))→Int→Option β)(kr:Option β)(s0:(List (Int×(Int×(Int×Unit)))))(s1:Int)(s2:Int):Option β:=bif(S.lt s2 (s0.length:Int))then(bif(S.ir s2 s0.length)then(bif(S.ir s2 (List.set s0 (Int.toNat s2) (s1,(List.getD s0 (Int.toNat s2) (0,(0,(0,())))).2)).length)then(bif(S.ir s2 (List.set (List.set s0 (Int.toNat s2) (s1,(List.getD s0 (Int.toNat s2) (0,(0,(0,())))).2)) (Int.toNat s2) ((List.getD (List.set s0 (Int.toNat s2) (s1,(List.getD s0 (Int.toNat s2) (0,(0,(0,())))).2)) (Int.toNat s2) (0,(0,(0,())))).1,((S.w (s1+1)),(List.getD (List.set s0 (Int.toNat s2) (s1,(List.getD s0 (Int.toNat s2) (0,(0,(0,())))).2)) (Int.toNat s2) (0,(0,(0,())))).2.2))).length)then(L (List.set (List.set (List.set s0 (Int.toNat s2) (s1,(List.getD s0 (Int.toNat s2) (0,(0,(0,())))).2)) (Int.toNat s2) ((List.getD (List.set s0 (Int.toNat s2) (s1,(List.getD s0 (Int.toNat s2) (0,(0,(0,())))).2)) (Int.toNat s2) (0,(0,(0,())))).1,((S.w (s1+1)),(List.getD (List.set s0 (Int.toNat s2) (s1,(List.getD s0 (Int.toNat s2) (0,(0,(0,())))).2)) (Int.toNat s2) (0,(0,(0,())))).2.2))) (Int.toNat s2) ((List.getD (List.set (List.set s0 (Int.toNat s2) (s1,(List.getD s0 (Int.toNat s2) (0,(0,(0,())))).2)) (Int.toNat s2) ((List.getD (List.set s0 (Int.toNat s2) (s1,(List.getD s0 (Int.toNat s2) (0,(0,(0,())))).2)) (Int.toNat s2) (0,(0,(0,())))).1,((S.w (s1+1)),(List.getD (List.set s0 (Int.toNat s2) (s1,(List.getD s0 (Int.toNat s2) (0,(0,(0,())))).2)) (Int.toNat s2) (0,(0,(0,())))).2.2))) (Int.toNat s2) (0,(0,(0,())))).1,((List.getD (List.set (List.set s0 (Int.toNat s2) (s1,(List.getD s0 (Int.toNat s2) (0,(0,(0,())))).2)) (Int.toNat s2) ((List.getD (List.set s0 (Int.toNat s2) (s1,(List.getD s0 (Int.toNat s2) (0,(0,(0,())))).2)) (Int.toNat s2) (0,(0,(0,())))).1,((S.w (s1+1)),(List.getD (List.set s0 (Int.toNat s2) (s1,(List.getD s0 (Int.toNat s2) (0,(0,(0,())))).2)) (Int.toNat s2) (0,(0,(0,())))).2.2))) (Int.toNat s2) (0,(0,(0,())))).2.1,((S.w ((S.w (s1+1))+1)),(List.getD (List.set (List.set s0 (Int.toNat s2) (s1,(List.getD s0 (Int.toNat s2) (0,(0,(0,())))).2)) (Int.toNat s2) ((List.getD (List.set s0 (Int.toNat s2) (s1,(List.getD s0 (Int.toNat s2) (0,(0,(0,())))).2)) (Int.toNat s2) (0,(0,(0,())))).1,((S.w (s1+1)),(List.getD (List.set s0 (Int.toNat s2) (s1,(List.getD s0 (Int.toNat s2) (0,(0,(0,())))).2)) (Int.toNat s2) (0,(0,(0,())))).2.2))) (Int.toNat s2) (0,(0,(0,())))).2.2.2)))) (S.w ((S.w ((S.w (s1+1))+1))+1)) (S.w (s2+1)))else(none))else(none))else(none))else(kx s0 s1)
noncomputable def r2 {β:Type}(S:Sl)(n:Nat)(kx:x2.sig.den→Option β)(kr:y2.sig.den→Option β)(s:h2.sig.den):Option β:=rounds (fun L kx kr s=>b2 S (fun x0 x1 x2=>L ((x0,()),(x1,(x2,())))) (fun x0 x1=>kx ((x0,()),(x1,()))) (kr ((),())) s.1.1 s.2.1 s.2.2.1) kx kr n s
noncomputable def l2 {β:Type}(S:Sl)(n:Nat)(kx:(List (Int×(Int×(Int×Unit))))→Int→Option β)(kr:Option β)(s0:(List (Int×(Int×(Int×Unit)))))(s1:Int)(s2:Int):Option β:=r2 S n (fun s=>kx s.1.1 s.2.1) (fun s=>kr) ((s0,()),(s1,(s2,())))
theorem t2 {β:Type}(S:Sl)(n:Nat)(kx:(List (Int×(Int×(Int×Unit))))→Int→Option β)(kr:Option β)(s0:(List (Int×(Int×(Int×Unit)))))(s1:Int)(s2:Int):l2 S (n+1) kx kr s0 s1 s2=b2 S (l2 S n kx kr) kx kr s0 s1 s2:=by kernel_rfl
noncomputable def G {β:Type}(S:Sl)(a0:(List (Int×(Int×(Int×Unit)))))(a1:Int)(K:(List (Int×(Int×(Int×Unit))))→Int→Option β):Option β:=l2 S S.n (fun y1 y2=>K y1 y2) none a0 a1 0
noncomputable def o:Orac:=⟨76,sin,sout,fun s K=>G sl0 s.1.1 s.2.1 (fun x0 x1=>K ((x0,()),(x1,())))⟩
noncomputable def C:Ctx:=⟨tyT,[],[⟨2,0,h2,x2,y2,fun s kx kr=>r2 sl0 sl0.n kx kr s⟩],34,1⟩
theorem ctx:CtxOk Tryz.prog C:=⟨tyOk,all0⟩
theorem e2 (β:Type)(L:h2.sig.den→Option β)(kx:x2.sig.den→Option β)(kr:y2.sig.den→Option β)(s:h2.sig.den):evalBody C (nthC (loopsOf (bodyC Tryz.f76)) 0) 0 h2 x2 y2 L kx kr s=b2 sl0 (fun x0 x1 x2=>L ((x0,()),(x1,(x2,())))) (fun x0 x1=>kx ((x0,()),(x1,()))) (kr ((),())) s.1.1 s.2.1 s.2.2.1:=by kernel_rfl
theorem g2:LS Tryz.prog C ⟨2,0,h2,x2,y2,fun s kx kr=>r2 sl0 sl0.n kx kr s⟩ (loopsOf (bodyC Tryz.f76)):=LS.at (i:=0) (by kernel_rfl) (loop_good mixed ctx (ctx_nat ctx) (N:=sl0.n) (fun _ _ _ _=>rfl) e2 (all1 (LS.none (by kernel_rfl)) (all0)))
theorem eG (β:Type)(s:sin.den)(K:sout.den→Option β):evalFn C Tryz.f76 sin sout s K=o.F s K:=by kernel_rfl
theorem ok:OracOk Tryz.prog o:=fn_ok mixed Tryz.func76 (by kernel_rfl) ctx (c:=bodyC Tryz.f76) (by kernel_rfl) (all1 g2 (all0)) (by kernel_rfl) (by kernel_rfl) (by kernel_rfl) (Nat.le_of_ble_eq_true (by kernel_rfl)) eG (by kernel_rfl) (Nat.le_of_ble_eq_true (by kernel_rfl))
end laws_markDiskS_
namespace laws_szDiskS
def sin:Sig:=⟨[],[.one (.val (.sl (.pair I (.pair I (.pair I .unit)))) false),.one (.val I false)]⟩
def sout:Sig:=⟨[],[.one (.val I false)]⟩
noncomputable def G {β:Type}(S:Sl)(a0:(List (Int×(Int×(Int×Unit)))))(a1:Int)(K:Int→Option β):Option β:=bif(S.lt (S.w (a1-(a0.length:Int))) 0)then(K (-1))else(K (S.w (a1-(a0.length:Int))))
noncomputable def o:Orac:=⟨71,sin,sout,fun s K=>G sl0 s.2.1 s.2.2.1 (fun x0=>K ((),(x0,())))⟩
noncomputable def C:Ctx:=⟨tyT,[],[],12,0⟩
theorem ctx:CtxOk Tryz.prog C:=⟨tyOk,all0⟩
theorem eG (β:Type)(s:sin.den)(K:sout.den→Option β):evalFn C Tryz.f71 sin sout s K=o.F s K:=by kernel_rfl
theorem ok:OracOk Tryz.prog o:=fn_ok mixed Tryz.func71 (by kernel_rfl) ctx (c:=bodyC Tryz.f71) (by kernel_rfl) (all0) (by kernel_rfl) (by kernel_rfl) (by kernel_rfl) (Nat.le_of_ble_eq_true (by kernel_rfl)) eG (by kernel_rfl) (Nat.le_of_ble_eq_true (by kernel_rfl))
end laws_szDiskS
namespace laws_toDisk
def sin:Sig:=⟨[],[.agg [.val I false,.val I false,.val I false]]⟩
def sout:Sig:=⟨[],[.agg [.val I false,.val I false,.val I false]]⟩
noncomputable def G {β:Type}(S:Sl)(a0:Int)(a1:Int)(a2:Int)(K:Int→Int→Int→Option β):Option β:=K a0 a1 a2
noncomputable def o:Orac:=⟨161,sin,sout,fun s K=>G sl0 s.2.1.1 s.2.1.2.1 s.2.1.2.2.1 (fun x0 x1 x2=>K ((),((x0,(x1,(x2,()))),())))⟩
noncomputable def C:Ctx:=⟨tyT,[],[],14,0⟩
theorem ctx:CtxOk Tryz.prog C:=⟨tyOk,all0⟩
theorem eG (β:Type)(s:sin.den)(K:sout.den→Option β):evalFn C Tryz.f161 sin sout s K=o.F s K:=by kernel_rfl
theorem ok:OracOk Tryz.prog o:=fn_ok mixed Tryz.func161 (by kernel_rfl) ctx (c:=bodyC Tryz.f161) (by kernel_rfl) (all0) (by kernel_rfl) (by kernel_rfl) (by kernel_rfl) (Nat.le_of_ble_eq_true (by kernel_rfl)) eG (by kernel_rfl) (Nat.le_of_ble_eq_true (by kernel_rfl))
end laws_toDisk
namespace laws_toDiskS
def sin:Sig:=⟨[],[.one (.val (.sl (.pair I (.pair I (.pair I .unit)))) false)]⟩
def sout:Sig:=⟨[.buf (.pair I (.pair I (.pair I .unit))) false],[.one (.ref (.own 0))]⟩
def h3:SS:=⟨[0,3,4],⟨[.buf (.pair I (.pair I (.pair I .unit))) false],[.one (.val (.sl (.pair I (.pair I (.pair I .unit)))) false),.one (.ref (.own 0)),.one (.val I false)]⟩⟩
def x3:SS:=⟨[3],⟨[.buf (.pair I (.pair I (.pair I .unit))) false],[.one (.ref (.own 0))]⟩⟩
def y3:SS:=⟨[],⟨[],[]⟩⟩
noncomputable def b3 {β:Type}(S:Sl)(L:(List (Int×(Int×(Int×Unit))))→(List (Int×(Int×(Int×Unit))))→Int→Option β)(kx:(List (Int×(Int×(Int×Unit))))→Option β)(kr:Option β)(s0:(List (Int×(Int×(Int×Unit)))))(s1:(List (Int×(Int×(Int×Unit)))))(s2:Int):Option β:=bif(S.lt s2 (s1.length:Int))then(bif(S.ir s2 s1.length)then(laws_toDisk.G S ((List.getD s1 (Int.toNat s2) (0,(0,(0,())))).1) ((List.getD s1 (Int.toNat s2) (0,(0,(0,())))).2.1) ((List.getD s1 (Int.toNat s2) (0,(0,(0,())))).2.2.1) (fun y1 y2 y3=>bif(S.ir s2 s0.length)then(L (List.set s0 (Int.toNat s2) (y1,(y2,(y3,())))) s1 (S.w (s2+1)))else(none)))else(none))else(kx s0)
noncomputable def r3 {β:Type}(S:Sl)(n:Nat)(kx:x3.sig.den→Option β)(kr:y3.sig.den→Option β)(s:h3.sig.den):Option β:=rounds (fun L kx kr s=>b3 S (fun x0 x1 x2=>L ((x0,()),(x1,(x2,())))) (fun x0=>kx ((x0,()),())) (kr ((),())) s.1.1 s.2.1 s.2.2.1) kx kr n s
noncomputable def l3 {β:Type}(S:Sl)(n:Nat)(kx:(List (Int×(Int×(Int×Unit))))→Option β)(kr:Option β)(s0:(List (Int×(Int×(Int×Unit)))))(s1:(List (Int×(Int×(Int×Unit)))))(s2:Int):Option β:=r3 S n (fun s=>kx s.1.1) (fun s=>kr) ((s0,()),(s1,(s2,())))
theorem t3 {β:Type}(S:Sl)(n:Nat)(kx:(List (Int×(Int×(Int×Unit))))→Option β)(kr:Option β)(s0:(List (Int×(Int×(Int×Unit)))))(s1:(List (Int×(Int×(Int×Unit)))))(s2:Int):l3 S (n+1) kx kr s0 s1 s2=b3 S (l3 S n kx kr) kx kr s0 s1 s2:=by kernel_rfl
noncomputable def G {β:Type}(S:Sl)(a0:(List (Int×(Int×(Int×Unit)))))(K:(List (Int×(Int×(Int×Unit))))→Option β):Option β:=bif((S.le 0 (a0.length:Int))&&(S.le (a0.length:Int) (a0.length:Int))&&S.fw (Int.toNat (a0.length:Int)))then(l3 S S.n (fun y1=>K y1) none (List.replicate (Int.toNat (a0.length:Int)) ((0,(0,(0,()))):(Int×(Int×(Int×Unit))))) a0 0)else(none)
noncomputable def o:Orac:=⟨73,sin,sout,fun s K=>G sl0 s.2.1 (fun x0=>K ((x0,()),()))⟩
noncomputable def C:Ctx:=⟨tyT,[laws_toDisk.o],[⟨3,0,h3,x3,y3,fun s kx kr=>r3 sl0 sl0.n kx kr s⟩],23,0⟩
theorem ctx:CtxOk Tryz.prog C:=⟨tyOk,all1 laws_toDisk.ok (all0)⟩
theorem e3 (β:Type)(L:h3.sig.den→Option β)(kx:x3.sig.den→Option β)(kr:y3.sig.den→Option β)(s:h3.sig.den):evalBody C (nthC (loopsOf (bodyC Tryz.f73)) 0) 0 h3 x3 y3 L kx kr s=b3 sl0 (fun x0 x1 x2=>L ((x0,()),(x1,(x2,())))) (fun x0=>kx ((x0,()),())) (kr ((),())) s.1.1 s.2.1 s.2.2.1:=by kernel_rfl
theorem g3:LS Tryz.prog C ⟨3,0,h3,x3,y3,fun s kx kr=>r3 sl0 sl0.n kx kr s⟩ (loopsOf (bodyC Tryz.f73)):=LS.at (i:=0) (by kernel_rfl) (loop_good mixed ctx (ctx_nat ctx) (N:=sl0.n) (fun _ _ _ _=>rfl) e3 (all1 (LS.none (by kernel_rfl)) (all0)))
theorem eG (β:Type)(s:sin.den)(K:sout.den→Option β):evalFn C Tryz.f73 sin sout s K=o.F s K:=by kernel_rfl
theorem ok:OracOk Tryz.prog o:=fn_ok mixed Tryz.func73 (by kernel_rfl) ctx (c:=bodyC Tryz.f73) (by kernel_rfl) (all1 g3 (all0)) (by kernel_rfl) (by kernel_rfl) (by kernel_rfl) (Nat.le_of_ble_eq_true (by kernel_rfl)) eG (by kernel_rfl) (Nat.le_of_ble_eq_true (by kernel_rfl))
end laws_toDiskS
namespace laws_FnExactRotMend
def sin:Sig:=⟨[],[.one (.val I false),.one (.val (.sl (.pair I (.pair I (.pair I .unit)))) false)]⟩
def sout:Sig:=⟨[],[.one (.val .bool false)]⟩
noncomputable def G {β:Type}(S:Sl)(a0:Int)(a1:(List (Int×(Int×(Int×Unit)))))(K:Bool→Option β):Option β:=laws_szDiskS.G S a1 1048576 (fun y1=>bif(S.lt y1 0)then(K true)else(laws_toDiskS.G S a1 (fun y2=>spec_RotMend.G S a0 y2 (fun y3 y4 y5=>laws_toDiskS.G S a1 (fun y6=>impl_RotMend.G S a0 y6 (fun y7 y8 y9=>laws_eqDiskS.G S y7 y3 (fun y10=>bif(!y10)then(K false)else(bif(!S.eq y8 y4)then(K false)else(bif(y9 != y5)then(K false)else(laws_toDiskS.G S a1 (fun y11=>laws_eqDiskS.G S y6 y11 (fun y12=>bif(!y12)then(K false)else(laws_markDiskS_.G S y6 1 (fun y13 y14=>bif(S.lt y14 0)then(K false)else(laws_eqDiskS.G S y7 y3 (fun y15=>bif(!y15)then(K false)else(bif(!S.eq y8 y4)then(K false)else(bif(y9 != y5)then(K false)else(laws_markDiskS_.G S y7 1 (fun y16 y17=>laws_heldDiskS.G S y16 1 (fun y18=>bif(S.lt y18 0)then(K false)else(bif(!S.eq y18 y17)then(K false)else(laws_toDiskS.G S a1 (fun y19=>impl_RotMend.G S a0 y19 (fun y20 y21 y22=>laws_eqDiskS.G S y20 y3 (fun y23=>bif(!y23)then(K false)else(bif(!S.eq y21 y4)then(K false)else(bif(y22 != y5)then(K false)else(laws_heldDiskS.G S y16 1 (fun y24=>bif(S.lt y24 0)then(K false)else(bif(!S.eq y24 y17)then(K false)else(K true))))))))))))))))))))))))))))))))
noncomputable def o:Orac:=⟨18,sin,sout,fun s K=>G sl0 s.2.1 s.2.2.1 (fun x0=>K ((),(x0,())))⟩
noncomputable def C:Ctx:=⟨tyT,[impl_RotMend.o,laws_eqDiskS.o,laws_heldDiskS.o,laws_markDiskS_.o,laws_szDiskS.o,laws_toDiskS.o,spec_RotMend.o],[],122,0⟩
theorem ctx:CtxOk Tryz.prog C:=⟨tyOk,all1 impl_RotMend.ok (all1 laws_eqDiskS.ok (all1 laws_heldDiskS.ok (all1 laws_markDiskS_.ok (all1 laws_szDiskS.ok (all1 laws_toDiskS.ok (all1 spec_RotMend.ok (all0)))))))⟩
noncomputable def Cg (g0:{β:Type}→(Int)→((List (Int×(Int×(Int×Unit)))))→((List (Int×(Int×(Int×Unit))))→Int→Bool→Option β)→Option β)(g1:{β:Type}→((List (Int×(Int×(Int×Unit)))))→((List (Int×(Int×(Int×Unit)))))→(Bool→Option β)→Option β)(g2:{β:Type}→((List (Int×(Int×(Int×Unit)))))→(Int)→(Int→Option β)→Option β)(g3:{β:Type}→((List (Int×(Int×(Int×Unit)))))→(Int)→((List (Int×(Int×(Int×Unit))))→Int→Option β)→Option β)(g4:{β:Type}→((List (Int×(Int×(Int×Unit)))))→(Int)→(Int→Option β)→Option β)(g5:{β:Type}→((List (Int×(Int×(Int×Unit)))))→((List (Int×(Int×(Int×Unit))))→Option β)→Option β)(g6:{β:Type}→(Int)→((List (Int×(Int×(Int×Unit)))))→((List (Int×(Int×(Int×Unit))))→Int→Bool→Option β)→Option β):Ctx:=⟨tyT,[⟨74,impl_RotMend.sin,impl_RotMend.sout,fun s K=>g0 s.2.1 s.2.2.1 (fun x0 x1 x2=>K ((x0,()),(x1,(x2,()))))⟩,⟨75,laws_eqDiskS.sin,laws_eqDiskS.sout,fun s K=>g1 s.2.1 s.2.2.1 (fun x0=>K ((),(x0,())))⟩,⟨77,laws_heldDiskS.sin,laws_heldDiskS.sout,fun s K=>g2 s.2.1 s.2.2.1 (fun x0=>K ((),(x0,())))⟩,⟨76,laws_markDiskS_.sin,laws_markDiskS_.sout,fun s K=>g3 s.1.1 s.2.1 (fun x0 x1=>K ((x0,()),(x1,())))⟩,⟨71,laws_szDiskS.sin,laws_szDiskS.sout,fun s K=>g4 s.2.1 s.2.2.1 (fun x0=>K ((),(x0,())))⟩,⟨73,laws_toDiskS.sin,laws_toDiskS.sout,fun s K=>g5 s.2.1 (fun x0=>K ((x0,()),()))⟩,⟨72,spec_RotMend.sin,spec_RotMend.sout,fun s K=>g6 s.2.1 s.2.2.1 (fun x0 x1 x2=>K ((x0,()),(x1,(x2,()))))⟩],[],122,0⟩
noncomputable def bc {α:Type}(b:Bool) (x y:α):α:=Bool.rec (motive:=fun _=>α) y x b
noncomputable def Gg (g0:{β:Type}→(Int)→((List (Int×(Int×(Int×Unit)))))→((List (Int×(Int×(Int×Unit))))→Int→Bool→Option β)→Option β)(g1:{β:Type}→((List (Int×(Int×(Int×Unit)))))→((List (Int×(Int×(Int×Unit)))))→(Bool→Option β)→Option β)(g2:{β:Type}→((List (Int×(Int×(Int×Unit)))))→(Int)→(Int→Option β)→Option β)(g3:{β:Type}→((List (Int×(Int×(Int×Unit)))))→(Int)→((List (Int×(Int×(Int×Unit))))→Int→Option β)→Option β)(g4:{β:Type}→((List (Int×(Int×(Int×Unit)))))→(Int)→(Int→Option β)→Option β)(g5:{β:Type}→((List (Int×(Int×(Int×Unit)))))→((List (Int×(Int×(Int×Unit))))→Option β)→Option β)(g6:{β:Type}→(Int)→((List (Int×(Int×(Int×Unit)))))→((List (Int×(Int×(Int×Unit))))→Int→Bool→Option β)→Option β) {β:Type}(S:Sl)(a0:Int)(a1:(List (Int×(Int×(Int×Unit)))))(K:Bool→Option β):Option β:=g4 a1 1048576 (fun y1=>bc ((S.lt y1 0)) (K true) (g5 a1 (fun y2=>g6 a0 y2 (fun y3 y4 y5=>g5 a1 (fun y6=>g0 a0 y6 (fun y7 y8 y9=>g1 y7 y3 (fun y10=>bc ((!y10)) (K false) (bc ((!S.eq y8 y4)) (K false) (bc ((y9 != y5)) (K false) (g5 a1 (fun y11=>g1 y6 y11 (fun y12=>bc ((!y12)) (K false) (g3 y6 1 (fun y13 y14=>bc ((S.lt y14 0)) (K false) (g1 y7 y3 (fun y15=>bc ((!y15)) (K false) (bc ((!S.eq y8 y4)) (K false) (bc ((y9 != y5)) (K false) (g3 y7 1 (fun y16 y17=>g2 y16 1 (fun y18=>bc ((S.lt y18 0)) (K false) (bc ((!S.eq y18 y17)) (K false) (g5 a1 (fun y19=>g0 a0 y19 (fun y20 y21 y22=>g1 y20 y3 (fun y23=>bc ((!y23)) (K false) (bc ((!S.eq y21 y4)) (K false) (bc ((y22 != y5)) (K false) (g2 y16 1 (fun y24=>bc ((S.lt y24 0)) (K false) (bc ((!S.eq y24 y17)) (K false) (K true))))))))))))))))))))))))))))))))
theorem eGg (g0:{β:Type}→(Int)→((List (Int×(Int×(Int×Unit)))))→((List (Int×(Int×(Int×Unit))))→Int→Bool→Option β)→Option β)(g1:{β:Type}→((List (Int×(Int×(Int×Unit)))))→((List (Int×(Int×(Int×Unit)))))→(Bool→Option β)→Option β)(g2:{β:Type}→((List (Int×(Int×(Int×Unit)))))→(Int)→(Int→Option β)→Option β)(g3:{β:Type}→((List (Int×(Int×(Int×Unit)))))→(Int)→((List (Int×(Int×(Int×Unit))))→Int→Option β)→Option β)(g4:{β:Type}→((List (Int×(Int×(Int×Unit)))))→(Int)→(Int→Option β)→Option β)(g5:{β:Type}→((List (Int×(Int×(Int×Unit)))))→((List (Int×(Int×(Int×Unit))))→Option β)→Option β)(g6:{β:Type}→(Int)→((List (Int×(Int×(Int×Unit)))))→((List (Int×(Int×(Int×Unit))))→Int→Bool→Option β)→Option β) (β:Type)(s:sin.den)(K:sout.den→Option β):evalFn (Cg g0 g1 g2 g3 g4 g5 g6) Tryz.f18 sin sout s K=Gg g0 g1 g2 g3 g4 g5 g6 sl0 s.2.1 s.2.2.1 (fun x0=>K ((),(x0,()))):=by kernel_rfl
theorem eG (β:Type)(s:sin.den)(K:sout.den→Option β):evalFn C Tryz.f18 sin sout s K=o.F s K:=by
 have h:=eGg (impl_RotMend.G sl0) (laws_eqDiskS.G sl0) (laws_heldDiskS.G sl0) (laws_markDiskS_.G sl0) (laws_szDiskS.G sl0) (laws_toDiskS.G sl0) (spec_RotMend.G sl0) β s K
 have hc:Cg (impl_RotMend.G sl0) (laws_eqDiskS.G sl0) (laws_heldDiskS.G sl0) (laws_markDiskS_.G sl0) (laws_szDiskS.G sl0) (laws_toDiskS.G sl0) (spec_RotMend.G sl0)=C:=by kernel_rfl
 rw [hc] at h
 exact h.trans (by kernel_rfl)
theorem ok:OracOk Tryz.prog o:=fn_ok mixed Tryz.func18 (by kernel_rfl) ctx (c:=bodyC Tryz.f18) (by kernel_rfl) (all0) (by kernel_rfl) (by kernel_rfl) (by kernel_rfl) (Nat.le_of_ble_eq_true (by kernel_rfl)) eG (by kernel_rfl) (Nat.le_of_ble_eq_true (by kernel_rfl))
end laws_FnExactRotMend
theorem szDisk_or {l:List Dk'} (hl:l.length≤9223372036854775807):
  ∃ y:Int,(∀ (β:Type) (K:Int→Option β),laws_szDiskS.G sl1 l 1048576 K=K y)∧(y<0∨0≤y∧l.length≤1048576):=by
 by_cases c:(1048576:Int)<(l.length:Int)
 ·refine ⟨-1, fun β K => ?_, .inl (by omega)⟩
  unfold laws_szDiskS.G
  rw [wE (by omega) (by omega)]
  exact cT (ltT (by omega)) rfl
 ·refine ⟨1048576 - (l.length : Int), fun β K => ?_, .inr ⟨by omega, by omega⟩⟩
  unfold laws_szDiskS.G
  rw [wE (by omega) (by omega)]
  exact cF (ltF (by omega)) rfl
theorem toDisk_l {β:Type} (kx:List Dk'→Option β) (kr:Option β) (l:List Dk') (hl:l.length≤1048576) (d:Nat):∀ (i n:Nat),i+d=l.length→d<n→laws_toDiskS.l3 sl1 n kx kr (l.take i++List.replicate d (0,(0,(0,())))) l (i:Int)=kx l:=by
 induction d with
 | zero =>
  intro i n hi hn
  obtain⟨n,rfl⟩:∃ m,n=m+1:=⟨n-1,by omega⟩
  rw [laws_toDiskS.t3,List.replicate_zero,List.append_nil,List.take_of_length_le (by omega)]; exact cF (ltF (by omega)) rfl
 | succ d ih =>
  intro i n hi hn
  obtain⟨n,rfl⟩:∃ m,n=m+1:=⟨n-1,by omega⟩
  have h1:i<l.length:=by omega
  have e:=ih (i+1) n (by omega) (by omega)
  have ht:(l.take i).length=i:=by rw [List.length_take]; omega
  rw [List.take_succ_eq_append_getElem h1] at e
  rw [laws_toDiskS.t3,List.replicate_succ]
  unfold laws_toDiskS.b3 laws_toDisk.G
  rw [getN l i h1]
  dsimp only
  rw [mid_set _ _ _ _ _ ht,w_succ (by omega)]
  exact cT (ltT (by omega)) (cT (irT (by omega) (by omega)) (cT (irT (by omega) (by rw [mid_len,ht]; omega)) e))
theorem toDisk_G {β:Type} {l:List Dk'} (hl:l.length≤1048576) (K:List Dk'→Option β):laws_toDiskS.G sl1 l K=K l:=by
 unfold laws_toDiskS.G
 rw [Int.toNat_natCast]
 exact cT (andT (andT (leT (by omega)) (leT (by omega))) (fwT (by omega))) (toDisk_l K none l hl l.length 0 sl1.n (by omega) (by rw [rounds_n]; omega))
theorem eqDisk_l {β:Type} (kx:Option β) (kr:Bool→Option β) (l:List Dk') (hl:l.length≤1048576) (d:Nat):∀ (i n:Nat),i+d=l.length→d<n→laws_eqDiskS.l4 sl1 n kx kr l l (i:Int)=kx:=by
 induction d with
 | zero =>
  intro i n hi hn
  obtain⟨n,rfl⟩:∃ m,n=m+1:=⟨n-1,by omega⟩
  rw [laws_eqDiskS.t4]; exact cF (ltF (by omega)) rfl
 | succ d ih =>
  intro i n hi hn
  obtain⟨n,rfl⟩:∃ m,n=m+1:=⟨n-1,by omega⟩
  rw [laws_eqDiskS.t4]
  unfold laws_eqDiskS.b4 laws_eqDisk.G
  rw [w_succ (by omega)]
  exact cT (ltT (by omega)) (cT (irT (by omega) (by omega)) (cT (irT (by omega) (by omega)) (cF (neF rfl) (cF (neF rfl) (cF (neF rfl) (cF rfl (ih (i+1) n (by omega) (by omega))))))))
theorem eqDisk_G {β:Type} {l:List Dk'} (hl:l.length≤1048576) (K:Bool→Option β):laws_eqDiskS.G sl1 l l K=K true:=by
 unfold laws_eqDiskS.G
 exact cF (neF rfl) (eqDisk_l _ _ l hl l.length 0 sl1.n (by omega) (by rw [rounds_n]; omega))
def cntD:Int→Nat→List Dk'
 | _, 0 => []
 | k, n + 1 => (k, (k + 1, (k + 2, ()))) :: cntD (k + 3) n
theorem at_get {α:Type} (d x:α) (A B:List α):List.getD (A++x::B) (Int.toNat (A.length:Int)) d=x:=mid_get d x A B _ rfl
theorem at_set {α:Type} (x y:α) (A B:List α):List.set (A++x::B) (Int.toNat (A.length:Int)) y=A++y::B:=by rw [mid_set x y A B _ rfl,List.append_assoc]; rfl
theorem markDisk_l {β:Type} (kx:List Dk'→Int→Option β) (kr:Option β) (m:Nat) (hm:m≤1048576):∀ (B A:List Dk') (k:Int) (n:Nat),A.length+B.length=m→B.length<n→0≤k→k+3*(B.length:Int)≤1000000000→
  laws_markDiskS_.l2 sl1 n kx kr (A++B) k (A.length:Int)=kx (A++cntD k B.length) (k+3*(B.length:Int))
 | [], A, k, n, hl, hn, h0, h1 => by
  obtain⟨n,rfl⟩:∃ m,n=m+1:=⟨n-1,by omega⟩
  rw [laws_markDiskS_.t2,List.append_nil]
  refine cF (ltF (Int.le_refl _)) ?_
  show kx A k=_
  rw [show cntD k ([]:List Dk').length = [] from rfl,List.append_nil,show k+3*(([]:List Dk').length:Int)=k by simp]
 | (x, (y, (z, u))) :: B, A, k, n, hl, hn, h0, h1 => by
  rw [List.length_cons] at hl hn h1
  obtain⟨n,rfl⟩:∃ m,n=m+1:=⟨n-1,by omega⟩
  have e:=markDisk_l kx kr m hm B (A ++ [(k,(k+1,(k+2,())))]) (k+3) n (by simp; omega) (by omega) (by omega) (by omega)
  rw [List.length_append,List.length_singleton,List.append_assoc,List.append_assoc] at e
  have w1:sl1.w (k+1)=k+1:=wE (by omega) (by omega)
  have w2:sl1.w (k+1+1)=k+2:=by rw [wE (by omega) (by omega)]; omega
  have w3:sl1.w (k+2+1)=k+3:=by rw [wE (by omega) (by omega)]; omega
  rw [laws_markDiskS_.t2]
  unfold laws_markDiskS_.b2
  simp only [at_get,at_set,w1,w2,w3,w_succ (show A.length≤9000000000 by omega)]
  refine cT (ltT (by rw [mid_len]; omega)) (cT (irT (by omega) (by rw [mid_len]; omega)) (cT (irT (by omega) (by rw [mid_len]; omega)) (cT (irT (by omega) (by rw [mid_len]; omega)) (e.trans ?_))))
  rw [List.length_cons,cntD,show k+3*((B.length+1:Nat):Int)=k+3+3*(B.length:Int) by omega]; rfl
theorem markDisk_G {β:Type} {l:List Dk'} (hl:l.length≤1048576) {k:Int} (h0:0≤k) (h1:k≤100000000) (K:List Dk'→Int→Option β):laws_markDiskS_.G sl1 l k K=K (cntD k l.length) (k+3*(l.length:Int)):=
 markDisk_l K none l.length hl l [] k sl1.n (by simp) (by rw [rounds_n]; omega) h0 (by omega)
theorem heldDisk_l {β:Type} (kx:Int→Option β) (kr:Int→Option β) (m:Nat) (hm:m≤1048576) (d:Nat):∀ (A:List Dk') (k:Int) (n:Nat),A.length+d=m→d<n→0≤k→k+3*(d:Int)≤1000000000→
  laws_heldDiskS.l2 sl1 n kx kr (A++cntD k d) k (A.length:Int)=kx (k+3*(d:Int)):=by
 induction d with
 | zero =>
  intro A k n hl hn h0 h1
  obtain⟨n,rfl⟩:∃ m,n=m+1:=⟨n-1,by omega⟩
  rw [laws_heldDiskS.t2,show cntD k 0 = [] from rfl,List.append_nil]
  refine cF (ltF (Int.le_refl _)) ?_
  rw [show k+3*((0:Nat):Int)=k by omega]
 | succ d ih =>
  intro A k n hl hn h0 h1
  obtain⟨n,rfl⟩:∃ m,n=m+1:=⟨n-1,by omega⟩
  have e:=ih (A ++ [(k,(k+1,(k+2,())))]) (k+3) n (by simp; omega) (by omega) (by omega) (by omega)
  rw [List.length_append,List.length_singleton,List.append_assoc] at e
  have w1:sl1.w (k+1)=k+1:=wE (by omega) (by omega)
  have w2:sl1.w (k+1+1)=k+2:=by rw [wE (by omega) (by omega)]; omega
  have w3:sl1.w (k+2+1)=k+3:=by rw [wE (by omega) (by omega)]; omega
  rw [laws_heldDiskS.t2,cntD]
  unfold laws_heldDiskS.b2
  simp only [at_get,w1,w2,w3,w_succ (show A.length≤9000000000 by omega)]
  refine cT (ltT (by rw [mid_len]; omega)) (cT (irT (by omega) (by rw [mid_len]; omega)) (cF (neF rfl) (cT (irT (by omega) (by rw [mid_len]; omega)) (cF (neF rfl) (cT (irT (by omega) (by rw [mid_len]; omega)) (cF (neF rfl) (e.trans ?_)))))))
  rw [show k+3*((d+1:Nat):Int)=k+3+3*(d:Int) by omega]
theorem heldDisk_G {β:Type} {m:Nat} (hl:m≤1048576) {k:Int} (h0:0≤k) (h1:k≤100000000) (K:Int→Option β):laws_heldDiskS.G sl1 (cntD k m) k K=K (k+3*(m:Int)):=
 heldDisk_l K (fun y=>K y) m hl m [] k sl1.n (by simp) (by rw [rounds_n]; omega) h0 (by omega)
theorem markDisk_E {l:List Dk'} (hl:l.length≤1048576):∃ (a:List Dk') (k:Int),0≤k∧(∀ (β:Type) (K:List Dk'→Int→Option β),laws_markDiskS_.G sl1 l 1 K=K a k)∧∀ (β:Type) (K:Int→Option β),laws_heldDiskS.G sl1 a 1 K=K k:=
 ⟨cntD 1 l.length,1+3*(l.length:Int),by omega,fun β K=>markDisk_G hl (by omega) (by omega) K,fun β K=>heldDisk_G hl (by omega) (by omega) K⟩
end Go.Proofs.YtnbighmbgmjbkaaGreat.E
end
section
namespace Go.Proofs.YtnbighmbgmjbkaaGreat.Pure.FnExactRotMend
open Go Go.Proofs.YtnbighmbgmjbkaaGreat.E
theorem pure (kind:Int) (l:List Dk') (hl:l.length≤9223372036854775807) {β:Type} (K:Bool→Option β):laws_FnExactRotMend.G sl1 kind l K=K true:=by
 obtain⟨y,hy,h⟩:=szDisk_or hl
 unfold laws_FnExactRotMend.G
 refine(hy _ _).trans ?_
 rcases h with h | ⟨h,l1⟩
 ·exact cT (ltT h) rfl
 obtain⟨r,m,ok,m1,es,ei⟩:=rotM_E kind l1
 obtain⟨a,k,hk,hm,hh⟩:=markDisk_E l1
 obtain⟨a',k',hk',hm',hh'⟩:=markDisk_E m1
 have eq1:=fun {γ:Type} (K:Bool→Option γ)=>eqDisk_G (β:=γ) m1 K
 refine cF (ltF h) ((toDisk_G l1 _).trans ((es _ _).trans ((toDisk_G l1 _).trans ((ei _ _).trans ?_))))
 refine(eq1 _).trans (cF rfl (cF (neF rfl) (cF (bne_self_eq_false _) ((toDisk_G l1 _).trans ((eqDisk_G l1 _).trans (cF rfl ?_))))))
 refine(hm _ _).trans (cF (ltF hk) ((eq1 _).trans (cF rfl (cF (neF rfl) (cF (bne_self_eq_false _) ?_)))))
 refine(hm' _ _).trans ((hh' _ _).trans (cF (ltF hk') (cF (neF rfl) ?_)))
 refine(toDisk_G l1 _).trans ((ei _ _).trans ((eq1 _).trans (cF rfl (cF (neF rfl) (cF (bne_self_eq_false _) ?_)))))
 exact(hh' _ _).trans (cF (ltF hk') (cF (neF rfl) rfl))
end Go.Proofs.YtnbighmbgmjbkaaGreat.Pure.FnExactRotMend
end
section
namespace Go.Proofs.YtnbighmbgmjbkaaGreat.fnExactRotMend
open Go.ChangeShapes Go.WideShapes Go.ChangeAt Go.RowKit
open Go.ChangeMaps (open_string shut_string)
theorem own:ownKnob Tryz.prog.godebug=none:=by kernel_rfl
theorem laidOut:laidOutB Tryz.prog=true:=by kernel_rfl
set_option maxRecDepth 100000 in
theorem lifted (os:Os) (started:os.Started) (H:Type) (enc:TypeId×Value→H):
  ReturnsInHanded {} Tryz.checked os 18 .any (Rows.fnExactRotMendSpec.pre6 enc Tryz.prog Tryz.f18 Rows.fnExactRotMendRow.domain false) (Rows.fnExactRotMendSpec.post enc Tryz.prog Tryz.f18 false true false false):=by
 refine returnsInHanded_of_change_sized (C:=Tryz.checked) own started (by kernel_rfl) Tryz.func18
  (ChangeSpec.witness6 (enc:=enc) (C:=Tryz.checked) false ⟨#[],#[.int .i64 0,.slice none 0 0],[]⟩ 8 (by kernel_rfl) (by kernel_rfl) (by kernel_rfl) (by kernel_rfl)) ?_
 intro W base args ds gs before hval0 hW hcnd hsz0 _
 have hval:∀ (j:Nat) t v,Tryz.f18.params[j]? = some t→args[j]? = some v→Value.okWide Tryz.prog W .any base t v:=hval0
 have hW':=hW
 obtain⟨p,q,hA0,hV,rfl,hfz,hnd⟩:=hW
 have hA:DataW.TrodAll enc Tryz.prog W 0 (fun _=>true) true Tryz.f18.params.toList args.toList ds p:=hA0
 rw [Tryz.params18] at hA hval
 obtain⟨v0,vs0,d0,ds0,p0,q0,hargs0,rfl,rfl,h0,r0⟩:=trodAll_cons hA
 obtain⟨v1,vs1,d1,ds1,p1,q1,hargs1,rfl,rfl,h1,r1⟩:=trodAll_cons r0
 obtain⟨rfl,rfl,rfl⟩:=trodAll_nil r1
 obtain rfl:args = #[v0,v1]:=by cases args; simp_all
 obtain⟨rfl,rfl⟩:=trodVars_none hV
 have k0:=h0
 have lt0:∀ x∈p0,x.block<W.heap.size:=by obtain⟨m,hm⟩:=k0; exact DataW.trod_lt m _ _ _ hm
 obtain⟨x0,R0,Q0⟩:=E.arg_int Tryz.underlying3 (hval 0 3 v0 rfl rfl) h0
 have k1:=h1
 have lt1:∀ x∈p1,x.block<W.heap.size:=by obtain⟨m,hm⟩:=k1; exact DataW.trod_lt m _ _ _ hm
 obtain⟨x1,R1,Q1⟩:=E.arg_slice Tryz.underlying82 (hval 1 82 v1 rfl rfl) h1 (E.Rd_slice Tryz.underlying82 (by kernel_rfl) (by decide) (E.Rd_struct Tryz.underlying149 (by kernel_rfl) (E.RdF_cons rfl (E.Rd_int Tryz.underlying3 (by kernel_rfl)) (E.RdF_cons rfl (E.Rd_int Tryz.underlying3 (by kernel_rfl)) (E.RdF_cons rfl (E.Rd_int Tryz.underlying3 (by kernel_rfl)) E.RdF_nil)))))
 clear hA0 hval0 hsz0
 have hp:=Pure.FnExactRotMend.pure x0 x1 Q1.1 (fun b=>some ((),(b,())))
 rw [←E.sl_eq] at hp
 refine(E.law_any E.laws_FnExactRotMend.ok (s:=(x0,(x1,()))) hp (args:=[v0,v1]) ⟨v0,_,rfl,R0,⟨v1,_,rfl,R1,rfl⟩⟩).mono fun e W' ⟨he,bel⟩=>?_
 subst he
 exact⟨_,rfl,_,_,_,[],_,[],hW',trodAll_mk1 (shut_bool Tryz.underlying4 _),(trodAll_cons_mk (Below.trod laidOut (by kernel_rfl) (of_decide_eq_true (by kernel_rfl)) k0 bel lt0) (trodAll_cons_mk (Below.trod laidOut (by kernel_rfl) (of_decide_eq_true (by kernel_rfl)) k1 bel lt1) trodAll_mk0)),rfl,bel.frame _,fun h=>by cases h⟩
theorem closed:joinedFacts Tryz.prog 18 Tryz.f18 Rows.fnExactRotMendSpec Rows.fnExactRotMendRow=true:=by
 unfold joinedFacts
 rw [Head.make,Head.final,Head.enter]
 kernel_rfl
theorem over:Rows.fnExactRotMendRow.holds Tryz.pinned (OpenSpec.ofChange Rows.fnExactRotMendSpec):=
 OpenClaim.holds_of_wide 18 Tryz.f18 rfl rfl rfl rfl rfl rfl rfl ⟨rfl,rfl,rfl,rfl,rfl⟩ rfl rfl rfl rfl rfl (by kernel_rfl) Tryz.func18 closed
  (of_decide_eq_true (by kernel_rfl)) (by unfold Func.isWrapper; first | (rw [if_pos (by decide +kernel)]; kernel_rfl) | (rw [if_neg (by decide +kernel)]; exact⟨rfl,rfl⟩))
  (fun os started H enc _=>lifted os started H enc)
theorem proved:Rows.FnExactRotMendSaid:=over
#print axioms proved
end Go.Proofs.YtnbighmbgmjbkaaGreat.fnExactRotMend
end
