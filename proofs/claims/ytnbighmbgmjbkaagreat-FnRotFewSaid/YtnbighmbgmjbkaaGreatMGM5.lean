/- What the functions of several statements compute, step by step. No condition. -/
import Derived.Test.YtnbighmbgmjbkaaGreatMGM2
import Derived.Test.YtnbighmbgmjbkaaGreatMGM3
import Derived.Test.YtnbighmbgmjbkaaGreatMGM4
set_option linter.unusedVariables false
set_option linter.unusedSimpArgs false
section
namespace Go.Proofs.YtnbighmbgmjbkaaGreat.E
open Go Go.RowKit
set_option maxRecDepth 100000
namespace laws_toBoolS
def sin:Sig:=⟨[],[.one (.val (.sl .bool) false)]⟩
def sout:Sig:=⟨[.buf .bool false],[.one (.ref (.own 0))]⟩
def h3:SS:=⟨[0,3,4],⟨[.buf .bool false],[.one (.val (.sl .bool) false),.one (.ref (.own 0)),.one (.val I false)]⟩⟩
def x3:SS:=⟨[3],⟨[.buf .bool false],[.one (.ref (.own 0))]⟩⟩
def y3:SS:=⟨[],⟨[],[]⟩⟩
noncomputable def b3 {β:Type}(S:Sl)(L:(List Bool)→(List Bool)→Int→Option β)(kx:(List Bool)→Option β)(kr:Option β)(s0:(List Bool))(s1:(List Bool))(s2:Int):Option β:=bif(S.lt s2 (s1.length:Int))then(bif(S.ir s2 s1.length)then(bif(S.ir s2 s0.length)then(L (List.set s0 (Int.toNat s2) (List.getD s1 (Int.toNat s2) false)) s1 (S.w (s2+1)))else(none))else(none))else(kx s0)
noncomputable def r3 {β:Type}(S:Sl)(n:Nat)(kx:x3.sig.den→Option β)(kr:y3.sig.den→Option β)(s:h3.sig.den):Option β:=rounds (fun L kx kr s=>b3 S (fun x0 x1 x2=>L ((x0,()),(x1,(x2,())))) (fun x0=>kx ((x0,()),())) (kr ((),())) s.1.1 s.2.1 s.2.2.1) kx kr n s
noncomputable def l3 {β:Type}(S:Sl)(n:Nat)(kx:(List Bool)→Option β)(kr:Option β)(s0:(List Bool))(s1:(List Bool))(s2:Int):Option β:=r3 S n (fun s=>kx s.1.1) (fun s=>kr) ((s0,()),(s1,(s2,())))
theorem t3 {β:Type}(S:Sl)(n:Nat)(kx:(List Bool)→Option β)(kr:Option β)(s0:(List Bool))(s1:(List Bool))(s2:Int):l3 S (n+1) kx kr s0 s1 s2=b3 S (l3 S n kx kr) kx kr s0 s1 s2:=by kernel_rfl
noncomputable def G {β:Type}(S:Sl)(a0:(List Bool))(K:(List Bool)→Option β):Option β:=bif((S.le 0 (a0.length:Int))&&(S.le (a0.length:Int) (a0.length:Int))&&S.fw (Int.toNat (a0.length:Int)))then(l3 S S.n (fun y1=>K y1) none (List.replicate (Int.toNat (a0.length:Int)) false) a0 0)else(none)
noncomputable def o:Orac:=⟨152,sin,sout,fun s K=>G sl0 s.2.1 (fun x0=>K ((x0,()),()))⟩
noncomputable def C:Ctx:=⟨tyT,[],[⟨3,0,h3,x3,y3,fun s kx kr=>r3 sl0 sl0.n kx kr s⟩],22,0⟩
theorem ctx:CtxOk Tryz.prog C:=⟨tyOk,all0⟩
theorem e3 (β:Type)(L:h3.sig.den→Option β)(kx:x3.sig.den→Option β)(kr:y3.sig.den→Option β)(s:h3.sig.den):evalBody C (nthC (loopsOf (bodyC Tryz.f152)) 0) 0 h3 x3 y3 L kx kr s=b3 sl0 (fun x0 x1 x2=>L ((x0,()),(x1,(x2,())))) (fun x0=>kx ((x0,()),())) (kr ((),())) s.1.1 s.2.1 s.2.2.1:=by kernel_rfl
theorem g3:LS Tryz.prog C ⟨3,0,h3,x3,y3,fun s kx kr=>r3 sl0 sl0.n kx kr s⟩ (loopsOf (bodyC Tryz.f152)):=LS.at (i:=0) (by kernel_rfl) (loop_good mixed ctx (ctx_nat ctx) (N:=sl0.n) (fun _ _ _ _=>rfl) e3 (all1 (LS.none (by kernel_rfl)) (all0)))
theorem eG (β:Type)(s:sin.den)(K:sout.den→Option β):evalFn C Tryz.f152 sin sout s K=o.F s K:=by kernel_rfl
theorem ok:OracOk Tryz.prog o:=fn_ok mixed Tryz.func152 (by kernel_rfl) ctx (c:=bodyC Tryz.f152) (by kernel_rfl) (all1 g3 (all0)) (by kernel_rfl) (by kernel_rfl) (by kernel_rfl) (Nat.le_of_ble_eq_true (by kernel_rfl)) eG (by kernel_rfl) (Nat.le_of_ble_eq_true (by kernel_rfl))
end laws_toBoolS
namespace laws_toIntS
def sin:Sig:=⟨[],[.one (.val (.sl I) false)]⟩
def sout:Sig:=⟨[.buf I false],[.one (.ref (.own 0))]⟩
def h3:SS:=⟨[0,3,4],⟨[.buf I false],[.one (.val (.sl I) false),.one (.ref (.own 0)),.one (.val I false)]⟩⟩
def x3:SS:=⟨[3],⟨[.buf I false],[.one (.ref (.own 0))]⟩⟩
def y3:SS:=⟨[],⟨[],[]⟩⟩
noncomputable def b3 {β:Type}(S:Sl)(L:(List Int)→(List Int)→Int→Option β)(kx:(List Int)→Option β)(kr:Option β)(s0:(List Int))(s1:(List Int))(s2:Int):Option β:=bif(S.lt s2 (s1.length:Int))then(bif(S.ir s2 s1.length)then(bif(S.ir s2 s0.length)then(L (List.set s0 (Int.toNat s2) (List.getD s1 (Int.toNat s2) 0)) s1 (S.w (s2+1)))else(none))else(none))else(kx s0)
noncomputable def r3 {β:Type}(S:Sl)(n:Nat)(kx:x3.sig.den→Option β)(kr:y3.sig.den→Option β)(s:h3.sig.den):Option β:=rounds (fun L kx kr s=>b3 S (fun x0 x1 x2=>L ((x0,()),(x1,(x2,())))) (fun x0=>kx ((x0,()),())) (kr ((),())) s.1.1 s.2.1 s.2.2.1) kx kr n s
noncomputable def l3 {β:Type}(S:Sl)(n:Nat)(kx:(List Int)→Option β)(kr:Option β)(s0:(List Int))(s1:(List Int))(s2:Int):Option β:=r3 S n (fun s=>kx s.1.1) (fun s=>kr) ((s0,()),(s1,(s2,())))
theorem t3 {β:Type}(S:Sl)(n:Nat)(kx:(List Int)→Option β)(kr:Option β)(s0:(List Int))(s1:(List Int))(s2:Int):l3 S (n+1) kx kr s0 s1 s2=b3 S (l3 S n kx kr) kx kr s0 s1 s2:=by kernel_rfl
noncomputable def G {β:Type}(S:Sl)(a0:(List Int))(K:(List Int)→Option β):Option β:=bif((S.le 0 (a0.length:Int))&&(S.le (a0.length:Int) (a0.length:Int))&&S.fw (Int.toNat (a0.length:Int)))then(l3 S S.n (fun y1=>K y1) none (List.replicate (Int.toNat (a0.length:Int)) (0:Int)) a0 0)else(none)
noncomputable def o:Orac:=⟨151,sin,sout,fun s K=>G sl0 s.2.1 (fun x0=>K ((x0,()),()))⟩
noncomputable def C:Ctx:=⟨tyT,[],[⟨3,0,h3,x3,y3,fun s kx kr=>r3 sl0 sl0.n kx kr s⟩],22,0⟩
theorem ctx:CtxOk Tryz.prog C:=⟨tyOk,all0⟩
theorem e3 (β:Type)(L:h3.sig.den→Option β)(kx:x3.sig.den→Option β)(kr:y3.sig.den→Option β)(s:h3.sig.den):evalBody C (nthC (loopsOf (bodyC Tryz.f151)) 0) 0 h3 x3 y3 L kx kr s=b3 sl0 (fun x0 x1 x2=>L ((x0,()),(x1,(x2,())))) (fun x0=>kx ((x0,()),())) (kr ((),())) s.1.1 s.2.1 s.2.2.1:=by kernel_rfl
theorem g3:LS Tryz.prog C ⟨3,0,h3,x3,y3,fun s kx kr=>r3 sl0 sl0.n kx kr s⟩ (loopsOf (bodyC Tryz.f151)):=LS.at (i:=0) (by kernel_rfl) (loop_good mixed ctx (ctx_nat ctx) (N:=sl0.n) (fun _ _ _ _=>rfl) e3 (all1 (LS.none (by kernel_rfl)) (all0)))
theorem eG (β:Type)(s:sin.den)(K:sout.den→Option β):evalFn C Tryz.f151 sin sout s K=o.F s K:=by kernel_rfl
theorem ok:OracOk Tryz.prog o:=fn_ok mixed Tryz.func151 (by kernel_rfl) ctx (c:=bodyC Tryz.f151) (by kernel_rfl) (all1 g3 (all0)) (by kernel_rfl) (by kernel_rfl) (by kernel_rfl) (Nat.le_of_ble_eq_true (by kernel_rfl)) eG (by kernel_rfl) (Nat.le_of_ble_eq_true (by kernel_rfl))
end laws_toIntS
namespace laws_toStripe
def sin:Sig:=⟨[],[.agg [.val I false,.val (.sl I) false,.val (.sl I) false,.val (.sl .bool) false]]⟩
def sout:Sig:=⟨[.buf I false,.buf I false,.buf .bool false],[.agg [.val I false,.ref (.own 0),.ref (.own 1),.ref (.own 2)]]⟩
noncomputable def G {β:Type}(S:Sl)(a0:Int)(a1:(List Int))(a2:(List Int))(a3:(List Bool))(K:(List Int)→(List Int)→(List Bool)→Int→Option β):Option β:=laws_toIntS.G S a1 (fun y1=>laws_toIntS.G S a2 (fun y2=>laws_toBoolS.G S a3 (fun y3=>K y1 y2 y3 a0)))
noncomputable def o:Orac:=⟨67,sin,sout,fun s K=>G sl0 s.2.1.1 s.2.1.2.1 s.2.1.2.2.1 s.2.1.2.2.2.1 (fun x0 x1 x2 x3=>K ((x0,(x1,(x2,()))),((x3,()),())))⟩
noncomputable def C:Ctx:=⟨tyT,[laws_toBoolS.o,laws_toIntS.o],[],20,0⟩
theorem ctx:CtxOk Tryz.prog C:=⟨tyOk,all1 laws_toBoolS.ok (all1 laws_toIntS.ok (all0))⟩
theorem eG (β:Type)(s:sin.den)(K:sout.den→Option β):evalFn C Tryz.f67 sin sout s K=o.F s K:=by kernel_rfl
theorem ok:OracOk Tryz.prog o:=fn_ok mixed Tryz.func67 (by kernel_rfl) ctx (c:=bodyC Tryz.f67) (by kernel_rfl) (all0) (by kernel_rfl) (by kernel_rfl) (by kernel_rfl) (Nat.le_of_ble_eq_true (by kernel_rfl)) eG (by kernel_rfl) (Nat.le_of_ble_eq_true (by kernel_rfl))
end laws_toStripe
end Go.Proofs.YtnbighmbgmjbkaaGreat.E
end
section
namespace Go.Proofs.YtnbighmbgmjbkaaGreat.E
open Go Go.RowKit
theorem mid_get {α:Type} (d x:α) (A B:List α) (i:Nat) (h:A.length=i):List.getD (A++x::B) (Int.toNat (i:Int)) d=x:=by rw [Int.toNat_natCast]; subst h; simp
theorem mid_set {α:Type} (x y:α) (A B:List α) (i:Nat) (h:A.length=i):List.set (A++x::B) (Int.toNat (i:Int)) y=(A ++ [y])++B:=by rw [Int.toNat_natCast]; subst h; simp
theorem mid_len {α:Type} (x:α) (A B:List α):(A++x::B).length=A.length+1+B.length:=by simp; omega
end Go.Proofs.YtnbighmbgmjbkaaGreat.E
end
section
namespace Go.Proofs.YtnbighmbgmjbkaaGreat.E
open Go Go.RowKit
set_option maxRecDepth 100000
theorem szInt_G {β:Type} {l:List Int} {k:Int} (h0:0≤k) (h1:k≤1048576) (hl:l.length≤9223372036854775807) (K:Int→Option β):laws_szIntS.G sl1 l k K=K (if k<(l.length:Int)then -1 else k-(l.length:Int)):=by
 unfold laws_szIntS.G
 rw [wE (by omega) (by omega)]
 by_cases c:k<(l.length:Int)
 ·rw [if_pos c]; exact cT (ltT (by omega)) rfl
 ·rw [if_neg c]; exact cF (ltF (by omega)) rfl
theorem szBool_G {β:Type} {l:List Bool} {k:Int} (h0:0≤k) (h1:k≤1048576) (hl:l.length≤9223372036854775807) (K:Int→Option β):laws_szBoolS.G sl1 l k K=K (if k<(l.length:Int)then -1 else k-(l.length:Int)):=by
 unfold laws_szBoolS.G
 rw [wE (by omega) (by omega)]
 by_cases c:k<(l.length:Int)
 ·rw [if_pos c]; exact cT (ltT (by omega)) rfl
 ·rw [if_neg c]; exact cF (ltF (by omega)) rfl
theorem szStripe_B (kind:Int) {vals vers:List Int} {there:List Bool} (h1:vals.length≤9223372036854775807) (h2:vers.length≤9223372036854775807) (h3:there.length≤9223372036854775807):
  ∃ y:Int,(∀ (β:Type) (K:Int→Option β),laws_szStripe.G sl1 kind vals vers there 1048576 K=K y)∧(y<0∨(0≤y∧y≤1048576)∧vals.length≤1048576∧vers.length≤1048576∧there.length≤1048576):=by
 by_cases c1:(1048576:Int)<(vals.length:Int)
 ·refine ⟨-1, fun β K => ?_, .inl (by omega)⟩
  unfold laws_szStripe.G
  refine(szInt_G (by omega) (by omega) h1 _).trans ?_
  rw [if_pos c1]; exact cT rfl rfl
 by_cases c2:(1048576:Int)-(vals.length:Int)<(vers.length:Int)
 ·refine ⟨-1, fun β K => ?_, .inl (by omega)⟩
  unfold laws_szStripe.G
  refine(szInt_G (by omega) (by omega) h1 _).trans ?_
  rw [if_neg c1]
  refine cF (ltF (by omega)) ((szInt_G (by omega) (by omega) h2 _).trans ?_)
  rw [if_pos c2]; exact cT rfl rfl
 by_cases c3:(1048576:Int)-(vals.length:Int)-(vers.length:Int)<(there.length:Int)
 ·refine ⟨-1, fun β K => ?_, .inl (by omega)⟩
  unfold laws_szStripe.G
  refine(szInt_G (by omega) (by omega) h1 _).trans ?_
  rw [if_neg c1]
  refine cF (ltF (by omega)) ((szInt_G (by omega) (by omega) h2 _).trans ?_)
  rw [if_neg c2]
  refine cF (ltF (by omega)) ((szBool_G (by omega) (by omega) h3 _).trans ?_)
  rw [if_pos c3]; exact cT rfl rfl
 ·refine ⟨1048576 - (vals.length : Int) - (vers.length : Int) - (there.length : Int), fun β K => ?_, .inr ⟨⟨by omega, by omega⟩, by omega, by omega, by omega⟩⟩
  unfold laws_szStripe.G
  refine(szInt_G (by omega) (by omega) h1 _).trans ?_
  rw [if_neg c1]
  refine cF (ltF (by omega)) ((szInt_G (by omega) (by omega) h2 _).trans ?_)
  rw [if_neg c2]
  refine cF (ltF (by omega)) ((szBool_G (by omega) (by omega) h3 _).trans ?_)
  rw [if_neg c3]; exact cF (ltF (by omega)) rfl
theorem szStripe_or (kind:Int) {vals vers:List Int} {there:List Bool} (h1:vals.length≤9223372036854775807) (h2:vers.length≤9223372036854775807) (h3:there.length≤9223372036854775807):
  ∃ y:Int,(∀ (β:Type) (K:Int→Option β),laws_szStripe.G sl1 kind vals vers there 1048576 K=K y)∧(y<0∨0≤y∧vals.length≤1048576∧vers.length≤1048576∧there.length≤1048576):=by
 obtain⟨y,h,k⟩:=szStripe_B kind h1 h2 h3
 exact⟨y,h,k.imp id fun⟨a,b⟩=>⟨a.1,b⟩⟩
theorem toInt_l {β:Type} (kx:List Int→Option β) (kr:Option β) (l:List Int) (hl:l.length≤1048576) (d:Nat):∀ (i n:Nat),i+d=l.length→d<n→laws_toIntS.l3 sl1 n kx kr (l.take i++List.replicate d 0) l (i:Int)=kx l:=by
 induction d with
 | zero =>
  intro i n hi hn
  obtain⟨n,rfl⟩:∃ m,n=m+1:=⟨n-1,by omega⟩
  rw [laws_toIntS.t3,List.replicate_zero,List.append_nil,List.take_of_length_le (by omega)]; exact cF (ltF (by omega)) rfl
 | succ d ih =>
  intro i n hi hn
  obtain⟨n,rfl⟩:∃ m,n=m+1:=⟨n-1,by omega⟩
  have h1:i<l.length:=by omega
  have e:=ih (i+1) n (by omega) (by omega)
  have ht:(l.take i).length=i:=by rw [List.length_take]; omega
  rw [List.take_succ_eq_append_getElem h1] at e
  rw [laws_toIntS.t3,List.replicate_succ]
  unfold laws_toIntS.b3
  rw [getN l i h1,mid_set _ _ _ _ _ ht,w_succ (by omega)]
  exact cT (ltT (by omega)) (cT (irT (by omega) (by omega)) (cT (irT (by omega) (by rw [mid_len,ht]; omega)) e))
theorem toInt_G {β:Type} {l:List Int} (hl:l.length≤1048576) (K:List Int→Option β):laws_toIntS.G sl1 l K=K l:=by
 unfold laws_toIntS.G
 rw [Int.toNat_natCast]
 exact cT (andT (andT (leT (by omega)) (leT (by omega))) (fwT (by omega))) (toInt_l K none l hl l.length 0 sl1.n (by omega) (by rw [rounds_n]; omega))
theorem toBool_l {β:Type} (kx:List Bool→Option β) (kr:Option β) (l:List Bool) (hl:l.length≤1048576) (d:Nat):∀ (i n:Nat),i+d=l.length→d<n→laws_toBoolS.l3 sl1 n kx kr (l.take i++List.replicate d false) l (i:Int)=kx l:=by
 induction d with
 | zero =>
  intro i n hi hn
  obtain⟨n,rfl⟩:∃ m,n=m+1:=⟨n-1,by omega⟩
  rw [laws_toBoolS.t3,List.replicate_zero,List.append_nil,List.take_of_length_le (by omega)]; exact cF (ltF (by omega)) rfl
 | succ d ih =>
  intro i n hi hn
  obtain⟨n,rfl⟩:∃ m,n=m+1:=⟨n-1,by omega⟩
  have h1:i<l.length:=by omega
  have e:=ih (i+1) n (by omega) (by omega)
  have ht:(l.take i).length=i:=by rw [List.length_take]; omega
  rw [List.take_succ_eq_append_getElem h1] at e
  rw [laws_toBoolS.t3,List.replicate_succ]
  unfold laws_toBoolS.b3
  rw [getN l i h1,mid_set _ _ _ _ _ ht,w_succ (by omega)]
  exact cT (ltT (by omega)) (cT (irT (by omega) (by omega)) (cT (irT (by omega) (by rw [mid_len,ht]; omega)) e))
theorem toBool_G {β:Type} {l:List Bool} (hl:l.length≤1048576) (K:List Bool→Option β):laws_toBoolS.G sl1 l K=K l:=by
 unfold laws_toBoolS.G
 rw [Int.toNat_natCast]
 exact cT (andT (andT (leT (by omega)) (leT (by omega))) (fwT (by omega))) (toBool_l K none l hl l.length 0 sl1.n (by omega) (by rw [rounds_n]; omega))
theorem toStripe_G {β:Type} (kind:Int) {vals vers:List Int} {there:List Bool} (h1:vals.length≤1048576) (h2:vers.length≤1048576) (h3:there.length≤1048576) (K:List Int→List Int→List Bool→Int→Option β):laws_toStripe.G sl1 kind vals vers there K=K vals vers there kind:=
 (toInt_G h1 _).trans ((toInt_G h2 _).trans (toBool_G h3 _))
theorem eqInt_l {β:Type} (kx:Option β) (kr:Bool→Option β) (l:List Int) (hl:l.length≤1048576) (d:Nat):∀ (i n:Nat),i+d=l.length→d<n→laws_eqIntS.l4 sl1 n kx kr l l (i:Int)=kx:=by
 induction d with
 | zero =>
  intro i n hi hn
  obtain⟨n,rfl⟩:∃ m,n=m+1:=⟨n-1,by omega⟩
  rw [laws_eqIntS.t4]; exact cF (ltF (by omega)) rfl
 | succ d ih =>
  intro i n hi hn
  obtain⟨n,rfl⟩:∃ m,n=m+1:=⟨n-1,by omega⟩
  rw [laws_eqIntS.t4]
  unfold laws_eqIntS.b4
  rw [w_succ (by omega)]
  exact cT (ltT (by omega)) (cT (irT (by omega) (by omega)) (cT (irT (by omega) (by omega)) (cF (neF rfl) (ih (i+1) n (by omega) (by omega)))))
theorem eqInt_G {β:Type} {l:List Int} (hl:l.length≤1048576) (K:Bool→Option β):laws_eqIntS.G sl1 l l K=K true:=by
 unfold laws_eqIntS.G
 exact cF (neF rfl) (eqInt_l _ _ l hl l.length 0 sl1.n (by omega) (by rw [rounds_n]; omega))
theorem eqBool_l {β:Type} (kx:Option β) (kr:Bool→Option β) (l:List Bool) (hl:l.length≤1048576) (d:Nat):∀ (i n:Nat),i+d=l.length→d<n→laws_eqBoolS.l4 sl1 n kx kr l l (i:Int)=kx:=by
 induction d with
 | zero =>
  intro i n hi hn
  obtain⟨n,rfl⟩:∃ m,n=m+1:=⟨n-1,by omega⟩
  rw [laws_eqBoolS.t4]; exact cF (ltF (by omega)) rfl
 | succ d ih =>
  intro i n hi hn
  obtain⟨n,rfl⟩:∃ m,n=m+1:=⟨n-1,by omega⟩
  rw [laws_eqBoolS.t4]
  unfold laws_eqBoolS.b4
  rw [w_succ (by omega)]
  exact cT (ltT (by omega)) (cT (irT (by omega) (by omega)) (cT (irT (by omega) (by omega)) (cF (bne_self_eq_false _) (ih (i+1) n (by omega) (by omega)))))
theorem eqBool_G {β:Type} {l:List Bool} (hl:l.length≤1048576) (K:Bool→Option β):laws_eqBoolS.G sl1 l l K=K true:=by
 unfold laws_eqBoolS.G
 exact cF (neF rfl) (eqBool_l _ _ l hl l.length 0 sl1.n (by omega) (by rw [rounds_n]; omega))
theorem eqStripe_G {β:Type} (kind:Int) {vals vers:List Int} {there:List Bool} (h1:vals.length≤1048576) (h2:vers.length≤1048576) (h3:there.length≤1048576) (K:Bool→Option β):laws_eqStripe.G sl1 kind vals vers there kind vals vers there K=K true:=by
 unfold laws_eqStripe.G
 exact cF (neF rfl) ((eqInt_G h1 _).trans (cF rfl ((eqInt_G h2 _).trans (cF rfl ((eqBool_G h3 _).trans (cF rfl rfl))))))
def cnt:Int→Nat→List Int
 | _, 0 => []
 | k, n + 1 => k :: cnt (k + 1) n
def cntB:Int→Nat→List Bool
 | _, 0 => []
 | k, n + 1 => sl1.eq (Int.tmod k 3) 0 :: cntB (k + 1) n
theorem markInt_l {β:Type} (kx:List Int→Int→Option β) (kr:Option β) (m:Nat) (hm:m≤1048576):∀ (B A:List Int) (k:Int) (n:Nat),A.length+B.length=m→B.length<n→0≤k→k+(B.length:Int)≤1000000000→
  laws_markIntS_.l2 sl1 n kx kr (A++B) k (A.length:Int)=kx (A++cnt k B.length) (k+(B.length:Int))
 | [], A, k, n, hl, hn, h0, h1 => by
  obtain⟨n,rfl⟩:∃ m,n=m+1:=⟨n-1,by omega⟩
  rw [laws_markIntS_.t2,List.append_nil]
  refine cF (ltF (Int.le_refl _)) ?_
  show kx A k=_
  rw [show cnt k ([]:List Int).length = [] from rfl,List.append_nil,show k+(([]:List Int).length:Int)=k by simp]
 | x :: B, A, k, n, hl, hn, h0, h1 => by
  rw [List.length_cons] at hl hn h1
  obtain⟨n,rfl⟩:∃ m,n=m+1:=⟨n-1,by omega⟩
  have e:=markInt_l kx kr m hm B (A ++ [k]) (k+1) n (by simp; omega) (by omega) (by omega) (by omega)
  rw [List.length_append,List.length_singleton] at e
  rw [laws_markIntS_.t2]
  unfold laws_markIntS_.b2
  rw [mid_set _ _ _ _ _ rfl,w_succ (by omega),wE (by omega) (by omega)]
  refine cT (ltT (by rw [mid_len]; omega)) (cT (irT (by omega) (by rw [mid_len]; omega)) (e.trans ?_))
  rw [List.length_cons,cnt,List.append_assoc,show k+((B.length+1:Nat):Int)=k+1+(B.length:Int) by omega]; rfl
theorem markInt_G {β:Type} {l:List Int} (hl:l.length≤1048576) {k:Int} (h0:0≤k) (h1:k≤100000000) (K:List Int→Int→Option β):laws_markIntS_.G sl1 l k K=K (cnt k l.length) (k+(l.length:Int)):=
 markInt_l K none l.length hl l [] k sl1.n (by simp) (by rw [rounds_n]; omega) h0 (by omega)
theorem markBool_l {β:Type} (kx:List Bool→Int→Option β) (kr:Option β) (m:Nat) (hm:m≤1048576):∀ (B A:List Bool) (k:Int) (n:Nat),A.length+B.length=m→B.length<n→0≤k→k+(B.length:Int)≤1000000000→
  laws_markBoolS_.l2 sl1 n kx kr (A++B) k (A.length:Int)=kx (A++cntB k B.length) (k+(B.length:Int))
 | [], A, k, n, hl, hn, h0, h1 => by
  obtain⟨n,rfl⟩:∃ m,n=m+1:=⟨n-1,by omega⟩
  rw [laws_markBoolS_.t2,List.append_nil]
  refine cF (ltF (Int.le_refl _)) ?_
  show kx A k=_
  rw [show cntB k ([]:List Bool).length = [] from rfl,List.append_nil,show k+(([]:List Bool).length:Int)=k by simp]
 | x :: B, A, k, n, hl, hn, h0, h1 => by
  rw [List.length_cons] at hl hn h1
  obtain⟨n,rfl⟩:∃ m,n=m+1:=⟨n-1,by omega⟩
  have e:=markBool_l kx kr m hm B (A ++ [sl1.eq (Int.tmod k 3) 0]) (k+1) n (by simp; omega) (by omega) (by omega) (by omega)
  rw [List.length_append,List.length_singleton] at e
  rw [laws_markBoolS_.t2]
  unfold laws_markBoolS_.b2
  rw [mid_set _ _ _ _ _ rfl,w_succ (by omega),wE (by omega) (by omega)]
  refine cT (ltT (by rw [mid_len]; omega)) (cT (irT (by omega) (by rw [mid_len]; omega)) (e.trans ?_))
  rw [List.length_cons,cntB,List.append_assoc,show k+((B.length+1:Nat):Int)=k+1+(B.length:Int) by omega]; rfl
theorem markBool_G {β:Type} {l:List Bool} (hl:l.length≤1048576) {k:Int} (h0:0≤k) (h1:k≤100000000) (K:List Bool→Int→Option β):laws_markBoolS_.G sl1 l k K=K (cntB k l.length) (k+(l.length:Int)):=
 markBool_l K none l.length hl l [] k sl1.n (by simp) (by rw [rounds_n]; omega) h0 (by omega)
theorem heldInt_l {β:Type} (kx:Int→Option β) (kr:Int→Option β) (m:Nat) (hm:m≤1048576) (d:Nat):∀ (A:List Int) (k:Int) (n:Nat),A.length+d=m→d<n→0≤k→k+(d:Int)≤1000000000→
  laws_heldIntS.l2 sl1 n kx kr (A++cnt k d) k (A.length:Int)=kx (k+(d:Int)):=by
 induction d with
 | zero =>
  intro A k n hl hn h0 h1
  obtain⟨n,rfl⟩:∃ m,n=m+1:=⟨n-1,by omega⟩
  rw [laws_heldIntS.t2,show cnt k 0 = [] from rfl,List.append_nil]
  refine cF (ltF (Int.le_refl _)) ?_
  rw [show k+((0:Nat):Int)=k by omega]
 | succ d ih =>
  intro A k n hl hn h0 h1
  obtain⟨n,rfl⟩:∃ m,n=m+1:=⟨n-1,by omega⟩
  have e:=ih (A ++ [k]) (k+1) n (by simp; omega) (by omega) (by omega) (by omega)
  rw [List.length_append,List.length_singleton,List.append_assoc] at e
  rw [laws_heldIntS.t2,cnt]
  unfold laws_heldIntS.b2
  rw [mid_get _ _ _ _ _ rfl,w_succ (by omega),wE (by omega) (by omega)]
  refine cT (ltT (by rw [mid_len]; omega)) (cT (irT (by omega) (by rw [mid_len]; omega)) (cF (neF rfl) (e.trans ?_)))
  rw [show k+((d+1:Nat):Int)=k+1+(d:Int) by omega]
theorem heldInt_G {β:Type} {m:Nat} (hl:m≤1048576) {k:Int} (h0:0≤k) (h1:k≤100000000) (K:Int→Option β):laws_heldIntS.G sl1 (cnt k m) k K=K (k+(m:Int)):=
 heldInt_l K (fun y=>K y) m hl m [] k sl1.n (by simp) (by rw [rounds_n]; omega) h0 (by omega)
theorem heldBool_l {β:Type} (kx:Int→Option β) (kr:Int→Option β) (m:Nat) (hm:m≤1048576) (d:Nat):∀ (A:List Bool) (k:Int) (n:Nat),A.length+d=m→d<n→0≤k→k+(d:Int)≤1000000000→
  laws_heldBoolS.l2 sl1 n kx kr (A++cntB k d) k (A.length:Int)=kx (k+(d:Int)):=by
 induction d with
 | zero =>
  intro A k n hl hn h0 h1
  obtain⟨n,rfl⟩:∃ m,n=m+1:=⟨n-1,by omega⟩
  rw [laws_heldBoolS.t2,show cntB k 0 = [] from rfl,List.append_nil]
  refine cF (ltF (Int.le_refl _)) ?_
  rw [show k+((0:Nat):Int)=k by omega]
 | succ d ih =>
  intro A k n hl hn h0 h1
  obtain⟨n,rfl⟩:∃ m,n=m+1:=⟨n-1,by omega⟩
  have e:=ih (A ++ [sl1.eq (Int.tmod k 3) 0]) (k+1) n (by simp; omega) (by omega) (by omega) (by omega)
  rw [List.length_append,List.length_singleton,List.append_assoc] at e
  rw [laws_heldBoolS.t2,cntB]
  unfold laws_heldBoolS.b2
  rw [mid_get _ _ _ _ _ rfl,w_succ (by omega),wE (a:=k+1) (by omega) (by omega)]
  refine cT (ltT (by rw [mid_len]; omega)) (cT (irT (by omega) (by rw [mid_len]; omega)) (cF (bne_self_eq_false _) (e.trans ?_)))
  rw [show k+((d+1:Nat):Int)=k+1+(d:Int) by omega]
theorem heldBool_G {β:Type} {m:Nat} (hl:m≤1048576) {k:Int} (h0:0≤k) (h1:k≤100000000) (K:Int→Option β):laws_heldBoolS.G sl1 (cntB k m) k K=K (k+(m:Int)):=
 heldBool_l K (fun y=>K y) m hl m [] k sl1.n (by simp) (by rw [rounds_n]; omega) h0 (by omega)
theorem markStripe_B (kind:Int) {vals vers:List Int} {there:List Bool} (h1:vals.length≤1048576) (h2:vers.length≤1048576) (h3:there.length≤1048576):∃ (a b:List Int) (c:List Bool) (k:Int),(0≤k∧k≤10000000)∧(∀ (β:Type) (K:List Int→List Int→List Bool→Int→Option β),laws_markStripe_.G sl1 vals vers there kind 1 K=K a b c k)∧
  ∀ (β:Type) (K:Int→Option β),laws_heldStripe.G sl1 kind a b c 1 K=K k:=by
 refine⟨cnt 1 vals.length,cnt (1+(vals.length:Int)) vers.length,cntB (1+(vals.length:Int)+(vers.length:Int)) there.length,1+(vals.length:Int)+(vers.length:Int)+(there.length:Int),⟨by omega,by omega⟩,fun β K=>?_,fun β K=>?_⟩
 ·exact(markInt_G h1 (by omega) (by omega) _).trans ((markInt_G h2 (by omega) (by omega) _).trans (markBool_G h3 (by omega) (by omega) _))
 ·exact(heldInt_G h1 (by omega) (by omega) _).trans (cF (ltF (by omega)) ((heldInt_G h2 (by omega) (by omega) _).trans (cF (ltF (by omega)) ((heldBool_G h3 (by omega) (by omega) _).trans (cF (ltF (by omega)) rfl)))))
theorem markStripe_E (kind:Int) {vals vers:List Int} {there:List Bool} (h1:vals.length≤1048576) (h2:vers.length≤1048576) (h3:there.length≤1048576):∃ (a b:List Int) (c:List Bool) (k:Int),0≤k∧(∀ (β:Type) (K:List Int→List Int→List Bool→Int→Option β),laws_markStripe_.G sl1 vals vers there kind 1 K=K a b c k)∧
  ∀ (β:Type) (K:Int→Option β),laws_heldStripe.G sl1 kind a b c 1 K=K k:=by
 obtain⟨a,b,c,k,hk,h⟩:=markStripe_B kind h1 h2 h3
 exact⟨a,b,c,k,hk.1,h⟩
namespace impl_RotRead
def sin:Sig:=⟨[],[.one (.val I false),.one (.val (.sl (.pair I (.pair I (.pair I .unit)))) false)]⟩
def sout:Sig:=⟨[.buf I false,.buf I false,.buf .bool false],[.agg [.val I false,.ref (.own 0),.ref (.own 1),.ref (.own 2)],.one (.val .bool false)]⟩
def h5:SS:=⟨[4,6,23,24,25],⟨[.box [.val I false,.ref .e0,.ref .e0,.ref .e0],.box [.val I false,.ref (.own 2),.ref (.own 3),.ref (.own 4)],.buf I false,.buf I false,.buf .bool false],[.one (.ref (.ptr 0)),.one (.ref (.ptr 1)),.one (.val (.sl (.pair I (.pair I (.pair I .unit)))) false),.one (.val I false),.one (.val I false)]⟩⟩
def x5:SS:=⟨[4,6],⟨[.box [.val I false,.ref .e0,.ref .e0,.ref .e0],.box [.val I false,.ref (.own 2),.ref (.own 3),.ref (.own 4)],.buf I false,.buf I false,.buf .bool false],[.one (.ref (.ptr 0)),.one (.ref (.ptr 1))]⟩⟩
def y5:SS:=⟨[],⟨[],[]⟩⟩
noncomputable def b5 {β:Type}(S:Sl)(L:Int→Int→(List Int)→(List Int)→(List Bool)→(List (Int×(Int×(Int×Unit))))→Int→Int→Option β)(kx:Int→Int→(List Int)→(List Int)→(List Bool)→Option β)(kr:Option β)(s0:Int)(s1:Int)(s2:(List Int))(s3:(List Int))(s4:(List Bool))(s5:(List (Int×(Int×(Int×Unit)))))(s6:Int)(s7:Int):Option β:=bif(S.lt s7 s6)then(bif(S.ir s7 s5.length)then(impl_Disk_intact.G S ((List.getD s5 (Int.toNat s7) (0,(0,(0,())))).1) ((List.getD s5 (Int.toNat s7) (0,(0,(0,())))).2.1) ((List.getD s5 (Int.toNat s7) (0,(0,(0,())))).2.2.1) s7 (fun y1=>bif y1 then(impl_Stripe_put.G S s2 s3 s4 s1 s7 ((List.getD s5 (Int.toNat s7) (0,(0,(0,())))).1) ((List.getD s5 (Int.toNat s7) (0,(0,(0,())))).2.1) (fun y2 y3 y4=>L s0 s1 y2 y3 y4 s5 s6 (S.w (s7+1))))else(L s0 s1 s2 s3 s4 s5 s6 (S.w (s7+1)))))else(none))else(kx s0 s1 s2 s3 s4)
noncomputable def r5 {β:Type}(S:Sl)(n:Nat)(kx:x5.sig.den→Option β)(kr:y5.sig.den→Option β)(s:h5.sig.den):Option β:=rounds (fun L kx kr s=>b5 S (fun x0 x1 x2 x3 x4 x5 x6 x7=>L (((x0,()),((x1,()),(x2,(x3,(x4,()))))),(x5,(x6,(x7,()))))) (fun x0 x1 x2 x3 x4=>kx (((x0,()),((x1,()),(x2,(x3,(x4,()))))),())) (kr ((),())) s.1.1.1 s.1.2.1.1 s.1.2.2.1 s.1.2.2.2.1 s.1.2.2.2.2.1 s.2.1 s.2.2.1 s.2.2.2.1) kx kr n s
noncomputable def l5 {β:Type}(S:Sl)(n:Nat)(kx:Int→Int→(List Int)→(List Int)→(List Bool)→Option β)(kr:Option β)(s0:Int)(s1:Int)(s2:(List Int))(s3:(List Int))(s4:(List Bool))(s5:(List (Int×(Int×(Int×Unit)))))(s6:Int)(s7:Int):Option β:=r5 S n (fun s=>kx s.1.1.1 s.1.2.1.1 s.1.2.2.1 s.1.2.2.2.1 s.1.2.2.2.2.1) (fun s=>kr) (((s0,()),((s1,()),(s2,(s3,(s4,()))))),(s5,(s6,(s7,()))))
theorem t5 {β:Type}(S:Sl)(n:Nat)(kx:Int→Int→(List Int)→(List Int)→(List Bool)→Option β)(kr:Option β)(s0:Int)(s1:Int)(s2:(List Int))(s3:(List Int))(s4:(List Bool))(s5:(List (Int×(Int×(Int×Unit)))))(s6:Int)(s7:Int):l5 S (n+1) kx kr s0 s1 s2 s3 s4 s5 s6 s7=b5 S (l5 S n kx kr) kx kr s0 s1 s2 s3 s4 s5 s6 s7:=by kernel_rfl
noncomputable def G {β:Type}(S:Sl)(a0:Int)(a1:(List (Int×(Int×(Int×Unit)))))(K:(List Int)→(List Int)→(List Bool)→Int→Bool→Option β):Option β:=impl_kindOk.G S a0 (fun y1=>bif(!y1)then(K [] [] [] 0 false)else(bif(!S.eq (a1.length:Int) 8)then(K [] [] [] 0 false)else(bif((S.le 0 8)&&(S.le 8 8)&&S.fw (Int.toNat 8))then(bif((S.le 0 8)&&(S.le 8 8)&&S.fw (Int.toNat 8))then(bif((S.le 0 8)&&(S.le 8 8)&&S.fw (Int.toNat 8))then(l5 S S.n (fun y2 y3 y4 y5 y6=>impl_StripeOk.G S y3 y4 y5 y6 (fun y7=>bif(!y7)then(K [] [] [] 0 false)else(K y4 y5 y6 y3 true))) none 0 a0 (List.replicate (Int.toNat 8) (0:Int)) (List.replicate (Int.toNat 8) (0:Int)) (List.replicate (Int.toNat 8) false) a1 (a1.length:Int) 0)else(none))else(none))else(none))))
noncomputable def o:Orac:=⟨162,sin,sout,fun s K=>G sl0 s.2.1 s.2.2.1 (fun x0 x1 x2 x3 x4=>K ((x0,(x1,(x2,()))),((x3,()),(x4,()))))⟩
noncomputable def C:Ctx:=⟨tyT,[impl_Disk_intact.o,impl_StripeOk.o,impl_Stripe_put.o,impl_kindOk.o],[⟨5,0,h5,x5,y5,fun s kx kr=>r5 sl0 sl0.n kx kr s⟩],46,0⟩
theorem ctx:CtxOk Tryz.prog C:=⟨tyOk,all1 impl_Disk_intact.ok (all1 impl_StripeOk.ok (all1 impl_Stripe_put.ok (all1 impl_kindOk.ok (all0))))⟩
theorem e5 (β:Type)(L:h5.sig.den→Option β)(kx:x5.sig.den→Option β)(kr:y5.sig.den→Option β)(s:h5.sig.den):evalBody C (nthC (loopsOf (bodyC Tryz.f162)) 0) 0 h5 x5 y5 L kx kr s=b5 sl0 (fun x0 x1 x2 x3 x4 x5 x6 x7=>L (((x0,()),((x1,()),(x2,(x3,(x4,()))))),(x5,(x6,(x7,()))))) (fun x0 x1 x2 x3 x4=>kx (((x0,()),((x1,()),(x2,(x3,(x4,()))))),())) (kr ((),())) s.1.1.1 s.1.2.1.1 s.1.2.2.1 s.1.2.2.2.1 s.1.2.2.2.2.1 s.2.1 s.2.2.1 s.2.2.2.1:=by kernel_rfl
theorem g5:LS Tryz.prog C ⟨5,0,h5,x5,y5,fun s kx kr=>r5 sl0 sl0.n kx kr s⟩ (loopsOf (bodyC Tryz.f162)):=LS.at (i:=0) (by kernel_rfl) (loop_good mixed ctx (ctx_nat ctx) (N:=sl0.n) (fun _ _ _ _=>rfl) e5 (all1 (LS.none (by kernel_rfl)) (all0)))
theorem eG (β:Type)(s:sin.den)(K:sout.den→Option β):evalFn C Tryz.f162 sin sout s K=o.F s K:=by kernel_rfl
theorem ok:OracOk Tryz.prog o:=fn_ok mixed Tryz.func162 (by kernel_rfl) ctx (c:=bodyC Tryz.f162) (by kernel_rfl) (all1 g5 (all0)) (by kernel_rfl) (by kernel_rfl) (by kernel_rfl) (Nat.le_of_ble_eq_true (by kernel_rfl)) eG (by kernel_rfl) (Nat.le_of_ble_eq_true (by kernel_rfl))
end impl_RotRead
namespace slices_Clip_Simpl_Disk_impl_Disk_
def sin:Sig:=⟨[.buf (.pair I (.pair I (.pair I .unit))) false],[.one (.ref (.own 0))]⟩
def sout:Sig:=⟨[.dead,.buf (.pair I (.pair I (.pair I .unit))) false],[.one (.ref (.own 1))]⟩
noncomputable def G {β:Type}(S:Sl)(a0:(List (Int×(Int×(Int×Unit)))))(K:(List (Int×(Int×(Int×Unit))))→Option β):Option β:=bif((S.le 0 (a0.length:Int))&&(S.le (a0.length:Int) (a0.length:Int))&&(S.le (a0.length:Int) (a0.length:Int)))then(K (List.take (Int.toNat (a0.length:Int)) a0))else(none)
noncomputable def o:Orac:=⟨163,sin,sout,fun s K=>G sl0 s.1.1 (fun x0=>K ((x0,()),()))⟩
noncomputable def C:Ctx:=⟨tyT,[],[],9,1⟩
theorem ctx:CtxOk Tryz.prog C:=⟨tyOk,all0⟩
theorem eG (β:Type)(s:sin.den)(K:sout.den→Option β):evalFn C Tryz.f163 sin sout s K=o.F s K:=by kernel_rfl
theorem ok:OracOk Tryz.prog o:=fn_ok mixed Tryz.func163 (by kernel_rfl) ctx (c:=bodyC Tryz.f163) (by kernel_rfl) (all0) (by kernel_rfl) (by kernel_rfl) (by kernel_rfl) (Nat.le_of_ble_eq_true (by kernel_rfl)) eG (by kernel_rfl) (Nat.le_of_ble_eq_true (by kernel_rfl))
end slices_Clip_Simpl_Disk_impl_Disk_
namespace slices_Clone_Simpl_Disk_impl_Disk
def sin:Sig:=⟨[],[.one (.val (.sl (.pair I (.pair I (.pair I .unit)))) false)]⟩
def sout:Sig:=⟨[.buf (.pair I (.pair I (.pair I .unit))) false],[.one (.ref (.own 0))]⟩
noncomputable def G {β:Type}(S:Sl)(a0:(List (Int×(Int×(Int×Unit)))))(K:(List (Int×(Int×(Int×Unit))))→Option β):Option β:=bif S.fw a0.length then K a0 else none
noncomputable def o:Orac:=⟨164,sin,sout,fun s K=>G sl0 s.2.1 (fun x=>K ((x,()),()))⟩
noncomputable def C:Ctx:=⟨tyT,[],[],8,0⟩
theorem ctx:CtxOk Tryz.prog C:=⟨tyOk,all0⟩
theorem h1 (l:List (Ty.den (.pair I (.pair I (.pair I .unit))))):evalFnV C Tryz.f164 sin sout ((),(l,())) [.one (.rk (.pair I (.pair I (.pair I .unit))) false l)] some=bif fewer l.length then some ((l,()),())else none:=by kernel_rfl
theorem h2:evalFnV C Tryz.f164 sin sout ((),(([]:List (Ty.den (.pair I (.pair I (.pair I .unit))))),())) [.one (.rk (.pair I (.pair I (.pair I .unit))) true [])] some=some ((([]:List (Ty.den (.pair I (.pair I (.pair I .unit))))),()),()):=by kernel_rfl
theorem ok:OracOk Tryz.prog o:=clone_ok (t:=(.pair I (.pair I (.pair I .unit)))) mixed Tryz.func164 (by kernel_rfl) ctx (c:=bodyC Tryz.f164) (by kernel_rfl) (all0) (by kernel_rfl) (by kernel_rfl) (by kernel_rfl) (Nat.le_of_ble_eq_true (by kernel_rfl)) h1 h2
end slices_Clone_Simpl_Disk_impl_Disk
namespace impl_RotMend
def sin:Sig:=⟨[],[.one (.val I false),.one (.val (.sl (.pair I (.pair I (.pair I .unit)))) false)]⟩
def sout:Sig:=⟨[.buf (.pair I (.pair I (.pair I .unit))) false],[.one (.ref (.own 0)),.one (.val I false),.one (.val .bool false)]⟩
def h6:SS:=⟨[1,7,9,23,24,25],⟨[.box [.val I false,.ref (.own 1),.ref (.own 2),.val (.sl .bool) false],.buf I false,.buf I false],[.one (.val (.sl (.pair I (.pair I (.pair I .unit)))) false),.one (.ref (.ptr 0)),.one (.val I false),.one (.val (.sl .bool) false),.one (.val I false),.one (.val I false)]⟩⟩
def x6:SS:=⟨[7,9],⟨[.box [.val I false,.ref (.own 1),.ref (.own 2),.val (.sl .bool) false],.buf I false,.buf I false],[.one (.ref (.ptr 0)),.one (.val I false)]⟩⟩
def y6:SS:=⟨[4,5,6],⟨[.buf (.pair I (.pair I (.pair I .unit))) false],[.one (.ref (.own 0)),.one (.val I false),.one (.val .bool false)]⟩⟩
noncomputable def b6 {β:Type}(S:Sl)(L:Int→(List Bool)→(List Int)→(List Int)→(List (Int×(Int×(Int×Unit))))→Int→(List Bool)→Int→Int→Option β)(kx:Int→(List Bool)→(List Int)→(List Int)→Int→Option β)(kr:(List (Int×(Int×(Int×Unit))))→Int→Bool→Option β)(s0:Int)(s1:(List Bool))(s2:(List Int))(s3:(List Int))(s4:(List (Int×(Int×(Int×Unit)))))(s5:Int)(s6:(List Bool))(s7:Int)(s8:Int):Option β:=bif(S.lt s8 s7)then(bif(S.ir s8 s6.length)then(bif(List.getD s6 (Int.toNat s8) false)then(L s0 s1 s2 s3 s4 s5 s6 s7 (S.w (s8+1)))else(impl_Stripe_mended.G S s0 s2 s3 s1 s8 (fun y1 y2 y3 y4 y5=>bif(!y5)then(slices_Clone_Simpl_Disk_impl_Disk.G S s4 (fun y6=>slices_Clip_Simpl_Disk_impl_Disk_.G S y6 (fun y7=>kr y7 0 false)))else(L y4 y3 y1 y2 s4 (S.w (s5+1)) s6 s7 (S.w (s8+1))))))else(none))else(kx s0 s1 s2 s3 s5)
noncomputable def r6 {β:Type}(S:Sl)(n:Nat)(kx:x6.sig.den→Option β)(kr:y6.sig.den→Option β)(s:h6.sig.den):Option β:=rounds (fun L kx kr s=>b6 S (fun x0 x1 x2 x3 x4 x5 x6 x7 x8=>L (((x0,(x1,())),(x2,(x3,()))),(x4,(x5,(x6,(x7,(x8,()))))))) (fun x0 x1 x2 x3 x4=>kx (((x0,(x1,())),(x2,(x3,()))),(x4,()))) (fun x0 x1 x2=>kr ((x0,()),(x1,(x2,())))) s.1.1.1 s.1.1.2.1 s.1.2.1 s.1.2.2.1 s.2.1 s.2.2.1 s.2.2.2.1 s.2.2.2.2.1 s.2.2.2.2.2.1) kx kr n s
noncomputable def l6 {β:Type}(S:Sl)(n:Nat)(kx:Int→(List Bool)→(List Int)→(List Int)→Int→Option β)(kr:(List (Int×(Int×(Int×Unit))))→Int→Bool→Option β)(s0:Int)(s1:(List Bool))(s2:(List Int))(s3:(List Int))(s4:(List (Int×(Int×(Int×Unit)))))(s5:Int)(s6:(List Bool))(s7:Int)(s8:Int):Option β:=r6 S n (fun s=>kx s.1.1.1 s.1.1.2.1 s.1.2.1 s.1.2.2.1 s.2.1) (fun s=>kr s.1.1 s.2.1 s.2.2.1) (((s0,(s1,())),(s2,(s3,()))),(s4,(s5,(s6,(s7,(s8,()))))))
theorem t6 {β:Type}(S:Sl)(n:Nat)(kx:Int→(List Bool)→(List Int)→(List Int)→Int→Option β)(kr:(List (Int×(Int×(Int×Unit))))→Int→Bool→Option β)(s0:Int)(s1:(List Bool))(s2:(List Int))(s3:(List Int))(s4:(List (Int×(Int×(Int×Unit)))))(s5:Int)(s6:(List Bool))(s7:Int)(s8:Int):l6 S (n+1) kx kr s0 s1 s2 s3 s4 s5 s6 s7 s8=b6 S (l6 S n kx kr) kx kr s0 s1 s2 s3 s4 s5 s6 s7 s8:=by kernel_rfl
noncomputable def G {β:Type}(S:Sl)(a0:Int)(a1:(List (Int×(Int×(Int×Unit)))))(K:(List (Int×(Int×(Int×Unit))))→Int→Bool→Option β):Option β:=impl_RotRead.G S a0 a1 (fun y1 y2 y3 y4 y5=>bif(!y5)then(K [] 0 false)else(l6 S S.n (fun y6 y7 y8 y9 y10=>impl_blocks.G S y6 y8 y9 y7 (fun y11=>K y11 y10 true)) (fun y12 y13 y14=>K y12 y13 y14) y4 y3 y1 y2 a1 0 y3 (y3.length:Int) 0))
noncomputable def o:Orac:=⟨74,sin,sout,fun s K=>G sl0 s.2.1 s.2.2.1 (fun x0 x1 x2=>K ((x0,()),(x1,(x2,()))))⟩
noncomputable def C:Ctx:=⟨tyT,[impl_RotRead.o,impl_Stripe_mended.o,impl_blocks.o,slices_Clip_Simpl_Disk_impl_Disk_.o,slices_Clone_Simpl_Disk_impl_Disk.o],[⟨6,0,h6,x6,y6,fun s kx kr=>r6 sl0 sl0.n kx kr s⟩],49,0⟩
theorem ctx:CtxOk Tryz.prog C:=⟨tyOk,all1 impl_RotRead.ok (all1 impl_Stripe_mended.ok (all1 impl_blocks.ok (all1 slices_Clip_Simpl_Disk_impl_Disk_.ok (all1 slices_Clone_Simpl_Disk_impl_Disk.ok (all0)))))⟩
theorem e6 (β:Type)(L:h6.sig.den→Option β)(kx:x6.sig.den→Option β)(kr:y6.sig.den→Option β)(s:h6.sig.den):evalBody C (nthC (loopsOf (bodyC Tryz.f74)) 0) 0 h6 x6 y6 L kx kr s=b6 sl0 (fun x0 x1 x2 x3 x4 x5 x6 x7 x8=>L (((x0,(x1,())),(x2,(x3,()))),(x4,(x5,(x6,(x7,(x8,()))))))) (fun x0 x1 x2 x3 x4=>kx (((x0,(x1,())),(x2,(x3,()))),(x4,()))) (fun x0 x1 x2=>kr ((x0,()),(x1,(x2,())))) s.1.1.1 s.1.1.2.1 s.1.2.1 s.1.2.2.1 s.2.1 s.2.2.1 s.2.2.2.1 s.2.2.2.2.1 s.2.2.2.2.2.1:=by kernel_rfl
theorem g6:LS Tryz.prog C ⟨6,0,h6,x6,y6,fun s kx kr=>r6 sl0 sl0.n kx kr s⟩ (loopsOf (bodyC Tryz.f74)):=LS.at (i:=0) (by kernel_rfl) (loop_good mixed ctx (ctx_nat ctx) (N:=sl0.n) (fun _ _ _ _=>rfl) e6 (all1 (LS.none (by kernel_rfl)) (all0)))
theorem eG (β:Type)(s:sin.den)(K:sout.den→Option β):evalFn C Tryz.f74 sin sout s K=o.F s K:=by kernel_rfl
theorem ok:OracOk Tryz.prog o:=fn_ok mixed Tryz.func74 (by kernel_rfl) ctx (c:=bodyC Tryz.f74) (by kernel_rfl) (all1 g6 (all0)) (by kernel_rfl) (by kernel_rfl) (by kernel_rfl) (Nat.le_of_ble_eq_true (by kernel_rfl)) eG (by kernel_rfl) (Nat.le_of_ble_eq_true (by kernel_rfl))
end impl_RotMend
namespace spec_RotRead
def sin:Sig:=⟨[],[.one (.val I false),.one (.val (.sl (.pair I (.pair I (.pair I .unit)))) false)]⟩
def sout:Sig:=⟨[.buf I false,.buf I false,.buf .bool false],[.agg [.val I false,.ref (.own 0),.ref (.own 1),.ref (.own 2)],.one (.val .bool false)]⟩
def h5:SS:=⟨[1,4,6,7],⟨[.box [.val I false,.ref .e0,.ref .e0,.ref .e0],.box [.val I false,.ref (.own 2),.ref (.own 3),.ref (.own 4)],.buf I false,.buf I false,.buf .bool false],[.one (.val (.sl (.pair I (.pair I (.pair I .unit)))) false),.one (.ref (.ptr 0)),.one (.ref (.ptr 1)),.one (.val I false)]⟩⟩
def x5:SS:=⟨[4,6],⟨[.box [.val I false,.ref .e0,.ref .e0,.ref .e0],.box [.val I false,.ref (.own 2),.ref (.own 3),.ref (.own 4)],.buf I false,.buf I false,.buf .bool false],[.one (.ref (.ptr 0)),.one (.ref (.ptr 1))]⟩⟩
def y5:SS:=⟨[],⟨[],[]⟩⟩
noncomputable def b5 {β:Type}(S:Sl)(L:Int→Int→(List Int)→(List Int)→(List Bool)→(List (Int×(Int×(Int×Unit))))→Int→Option β)(kx:Int→Int→(List Int)→(List Int)→(List Bool)→Option β)(kr:Option β)(s0:Int)(s1:Int)(s2:(List Int))(s3:(List Int))(s4:(List Bool))(s5:(List (Int×(Int×(Int×Unit)))))(s6:Int):Option β:=bif(S.lt s6 (s5.length:Int))then(bif(S.ir s6 s5.length)then(spec_l41Good.G S ((List.getD s5 (Int.toNat s6) (0,(0,(0,())))).1) ((List.getD s5 (Int.toNat s6) (0,(0,(0,())))).2.1) ((List.getD s5 (Int.toNat s6) (0,(0,(0,())))).2.2.1) s6 (fun y1=>bif(!y1)then(bif(S.fw (s2 ++ [0]).length)then(bif(S.fw (s3 ++ [0]).length)then(bif(S.fw (s4 ++ [y1]).length)then(L s0 s1 (s2 ++ [0]) (s3 ++ [0]) (s4 ++ [y1]) s5 (S.w (s6+1)))else(none))else(none))else(none))else(bif(S.fw (s2 ++ [(List.getD s5 (Int.toNat s6) (0,(0,(0,())))).1]).length)then(bif(S.fw (s3 ++ [(List.getD s5 (Int.toNat s6) (0,(0,(0,())))).2.1]).length)then(bif(S.fw (s4 ++ [y1]).length)then(L s0 s1 (s2 ++ [(List.getD s5 (Int.toNat s6) (0,(0,(0,())))).1]) (s3 ++ [(List.getD s5 (Int.toNat s6) (0,(0,(0,())))).2.1]) (s4 ++ [y1]) s5 (S.w (s6+1)))else(none))else(none))else(none))))else(none))else(kx s0 s1 s2 s3 s4)
noncomputable def r5 {β:Type}(S:Sl)(n:Nat)(kx:x5.sig.den→Option β)(kr:y5.sig.den→Option β)(s:h5.sig.den):Option β:=rounds (fun L kx kr s=>b5 S (fun x0 x1 x2 x3 x4 x5 x6=>L (((x0,()),((x1,()),(x2,(x3,(x4,()))))),(x5,(x6,())))) (fun x0 x1 x2 x3 x4=>kx (((x0,()),((x1,()),(x2,(x3,(x4,()))))),())) (kr ((),())) s.1.1.1 s.1.2.1.1 s.1.2.2.1 s.1.2.2.2.1 s.1.2.2.2.2.1 s.2.1 s.2.2.1) kx kr n s
noncomputable def l5 {β:Type}(S:Sl)(n:Nat)(kx:Int→Int→(List Int)→(List Int)→(List Bool)→Option β)(kr:Option β)(s0:Int)(s1:Int)(s2:(List Int))(s3:(List Int))(s4:(List Bool))(s5:(List (Int×(Int×(Int×Unit)))))(s6:Int):Option β:=r5 S n (fun s=>kx s.1.1.1 s.1.2.1.1 s.1.2.2.1 s.1.2.2.2.1 s.1.2.2.2.2.1) (fun s=>kr) (((s0,()),((s1,()),(s2,(s3,(s4,()))))),(s5,(s6,())))
theorem t5 {β:Type}(S:Sl)(n:Nat)(kx:Int→Int→(List Int)→(List Int)→(List Bool)→Option β)(kr:Option β)(s0:Int)(s1:Int)(s2:(List Int))(s3:(List Int))(s4:(List Bool))(s5:(List (Int×(Int×(Int×Unit)))))(s6:Int):l5 S (n+1) kx kr s0 s1 s2 s3 s4 s5 s6=b5 S (l5 S n kx kr) kx kr s0 s1 s2 s3 s4 s5 s6:=by kernel_rfl
noncomputable def G {β:Type}(S:Sl)(a0:Int)(a1:(List (Int×(Int×(Int×Unit)))))(K:(List Int)→(List Int)→(List Bool)→Int→Bool→Option β):Option β:=spec_l4Kind.G S a0 (fun y1=>bif(!y1)then(K [] [] [] 0 false)else(bif(!S.eq (a1.length:Int) 8)then(K [] [] [] 0 false)else(l5 S S.n (fun y2 y3 y4 y5 y6=>spec_StripeOk.G S y3 y4 y5 y6 (fun y7=>bif(!y7)then(K [] [] [] 0 false)else(K y4 y5 y6 y3 true))) none 0 a0 [] [] [] a1 0)))
noncomputable def o:Orac:=⟨159,sin,sout,fun s K=>G sl0 s.2.1 s.2.2.1 (fun x0 x1 x2 x3 x4=>K ((x0,(x1,(x2,()))),((x3,()),(x4,()))))⟩
noncomputable def C:Ctx:=⟨tyT,[spec_StripeOk.o,spec_l41Good.o,spec_l4Kind.o],[⟨5,0,h5,x5,y5,fun s kx kr=>r5 sl0 sl0.n kx kr s⟩],62,0⟩
theorem ctx:CtxOk Tryz.prog C:=⟨tyOk,all1 spec_StripeOk.ok (all1 spec_l41Good.ok (all1 spec_l4Kind.ok (all0)))⟩
theorem e5 (β:Type)(L:h5.sig.den→Option β)(kx:x5.sig.den→Option β)(kr:y5.sig.den→Option β)(s:h5.sig.den):evalBody C (nthC (loopsOf (bodyC Tryz.f159)) 0) 0 h5 x5 y5 L kx kr s=b5 sl0 (fun x0 x1 x2 x3 x4 x5 x6=>L (((x0,()),((x1,()),(x2,(x3,(x4,()))))),(x5,(x6,())))) (fun x0 x1 x2 x3 x4=>kx (((x0,()),((x1,()),(x2,(x3,(x4,()))))),())) (kr ((),())) s.1.1.1 s.1.2.1.1 s.1.2.2.1 s.1.2.2.2.1 s.1.2.2.2.2.1 s.2.1 s.2.2.1:=by kernel_rfl
theorem g5:LS Tryz.prog C ⟨5,0,h5,x5,y5,fun s kx kr=>r5 sl0 sl0.n kx kr s⟩ (loopsOf (bodyC Tryz.f159)):=LS.at (i:=0) (by kernel_rfl) (loop_good mixed ctx (ctx_nat ctx) (N:=sl0.n) (fun _ _ _ _=>rfl) e5 (all1 (LS.none (by kernel_rfl)) (all0)))
theorem eG (β:Type)(s:sin.den)(K:sout.den→Option β):evalFn C Tryz.f159 sin sout s K=o.F s K:=by kernel_rfl
theorem ok:OracOk Tryz.prog o:=fn_ok mixed Tryz.func159 (by kernel_rfl) ctx (c:=bodyC Tryz.f159) (by kernel_rfl) (all1 g5 (all0)) (by kernel_rfl) (by kernel_rfl) (by kernel_rfl) (Nat.le_of_ble_eq_true (by kernel_rfl)) eG (by kernel_rfl) (Nat.le_of_ble_eq_true (by kernel_rfl))
end spec_RotRead
namespace spec_RotMend
def sin:Sig:=⟨[],[.one (.val I false),.one (.val (.sl (.pair I (.pair I (.pair I .unit)))) false)]⟩
def sout:Sig:=⟨[.buf (.pair I (.pair I (.pair I .unit))) false],[.one (.ref (.own 0)),.one (.val I false),.one (.val .bool false)]⟩
def h7:SS:=⟨[1,7,9,10,11],⟨[.box [.val I false,.val (.sl I) false,.val (.sl I) false,.val (.sl .bool) false],.box [.val I false,.val (.sl I) false,.val (.sl I) false,.val (.sl .bool) false]],[.one (.val (.sl (.pair I (.pair I (.pair I .unit)))) false),.one (.ref (.ptr 0)),.one (.val I false),.one (.ref (.ptr 1)),.one (.val I false)]⟩⟩
def x7:SS:=⟨[9,10],⟨[.box [.val I false,.val (.sl I) false,.val (.sl I) false,.val (.sl .bool) false]],[.one (.val I false),.one (.ref (.ptr 0))]⟩⟩
def y7:SS:=⟨[4,5,6],⟨[.buf (.pair I (.pair I (.pair I .unit))) false],[.one (.ref (.own 0)),.one (.val I false),.one (.val .bool false)]⟩⟩
noncomputable def b7 {β:Type}(S:Sl)(L:Int→(List Int)→(List Int)→(List Bool)→Int→(List Int)→(List Int)→(List Bool)→(List (Int×(Int×(Int×Unit))))→Int→Int→Option β)(kx:Int→(List Int)→(List Int)→(List Bool)→Int→Option β)(kr:(List (Int×(Int×(Int×Unit))))→Int→Bool→Option β)(s0:Int)(s1:(List Int))(s2:(List Int))(s3:(List Bool))(s4:Int)(s5:(List Int))(s6:(List Int))(s7:(List Bool))(s8:(List (Int×(Int×(Int×Unit)))))(s9:Int)(s10:Int):Option β:=bif(S.lt s10 8)then(bif(S.ir s10 s3.length)then(bif(List.getD s3 (Int.toNat s10) false)then(L s0 s1 s2 s3 s4 s5 s6 s7 s8 s9 (S.w (s10+1)))else(spec_l21Mend.G S s4 s5 s6 s7 s10 (fun y1 y2 y3 y4 y5=>bif(!y5)then(bif(S.fw ([]++s8).length)then(kr ([]++s8) 0 false)else(none))else(L s0 s1 s2 s3 y4 y1 y2 y3 s8 (S.w (s9+1)) (S.w (s10+1))))))else(none))else(kx s4 s5 s6 s7 s9)
noncomputable def r7 {β:Type}(S:Sl)(n:Nat)(kx:x7.sig.den→Option β)(kr:y7.sig.den→Option β)(s:h7.sig.den):Option β:=rounds (fun L kx kr s=>b7 S (fun x0 x1 x2 x3 x4 x5 x6 x7 x8 x9 x10=>L (((x0,(x1,(x2,(x3,())))),((x4,(x5,(x6,(x7,())))),())),(x8,(x9,(x10,()))))) (fun x0 x1 x2 x3 x4=>kx (((x0,(x1,(x2,(x3,())))),()),(x4,()))) (fun x0 x1 x2=>kr ((x0,()),(x1,(x2,())))) s.1.1.1 s.1.1.2.1 s.1.1.2.2.1 s.1.1.2.2.2.1 s.1.2.1.1 s.1.2.1.2.1 s.1.2.1.2.2.1 s.1.2.1.2.2.2.1 s.2.1 s.2.2.1 s.2.2.2.1) kx kr n s
noncomputable def l7 {β:Type}(S:Sl)(n:Nat)(kx:Int→(List Int)→(List Int)→(List Bool)→Int→Option β)(kr:(List (Int×(Int×(Int×Unit))))→Int→Bool→Option β)(s0:Int)(s1:(List Int))(s2:(List Int))(s3:(List Bool))(s4:Int)(s5:(List Int))(s6:(List Int))(s7:(List Bool))(s8:(List (Int×(Int×(Int×Unit)))))(s9:Int)(s10:Int):Option β:=r7 S n (fun s=>kx s.1.1.1 s.1.1.2.1 s.1.1.2.2.1 s.1.1.2.2.2.1 s.2.1) (fun s=>kr s.1.1 s.2.1 s.2.2.1) (((s0,(s1,(s2,(s3,())))),((s4,(s5,(s6,(s7,())))),())),(s8,(s9,(s10,()))))
theorem t7 {β:Type}(S:Sl)(n:Nat)(kx:Int→(List Int)→(List Int)→(List Bool)→Int→Option β)(kr:(List (Int×(Int×(Int×Unit))))→Int→Bool→Option β)(s0:Int)(s1:(List Int))(s2:(List Int))(s3:(List Bool))(s4:Int)(s5:(List Int))(s6:(List Int))(s7:(List Bool))(s8:(List (Int×(Int×(Int×Unit)))))(s9:Int)(s10:Int):l7 S (n+1) kx kr s0 s1 s2 s3 s4 s5 s6 s7 s8 s9 s10=b7 S (l7 S n kx kr) kx kr s0 s1 s2 s3 s4 s5 s6 s7 s8 s9 s10:=by kernel_rfl
noncomputable def G {β:Type}(S:Sl)(a0:Int)(a1:(List (Int×(Int×(Int×Unit)))))(K:(List (Int×(Int×(Int×Unit))))→Int→Bool→Option β):Option β:=spec_RotRead.G S a0 a1 (fun y1 y2 y3 y4 y5=>bif(!y5)then(K [] 0 false)else(l7 S S.n (fun y6 y7 y8 y9 y10=>spec_RotWrite.G S y6 y7 y8 y9 (fun y11=>K y11 y10 true)) (fun y12 y13 y14=>K y12 y13 y14) y4 y1 y2 y3 y4 y1 y2 y3 a1 0 0))
noncomputable def o:Orac:=⟨72,sin,sout,fun s K=>G sl0 s.2.1 s.2.2.1 (fun x0 x1 x2=>K ((x0,()),(x1,(x2,()))))⟩
noncomputable def C:Ctx:=⟨tyT,[spec_RotRead.o,spec_RotWrite.o,spec_l21Mend.o],[⟨7,0,h7,x7,y7,fun s kx kr=>r7 sl0 sl0.n kx kr s⟩],50,0⟩
theorem ctx:CtxOk Tryz.prog C:=⟨tyOk,all1 spec_RotRead.ok (all1 spec_RotWrite.ok (all1 spec_l21Mend.ok (all0)))⟩
theorem e7 (β:Type)(L:h7.sig.den→Option β)(kx:x7.sig.den→Option β)(kr:y7.sig.den→Option β)(s:h7.sig.den):evalBody C (nthC (loopsOf (bodyC Tryz.f72)) 0) 0 h7 x7 y7 L kx kr s=b7 sl0 (fun x0 x1 x2 x3 x4 x5 x6 x7 x8 x9 x10=>L (((x0,(x1,(x2,(x3,())))),((x4,(x5,(x6,(x7,())))),())),(x8,(x9,(x10,()))))) (fun x0 x1 x2 x3 x4=>kx (((x0,(x1,(x2,(x3,())))),()),(x4,()))) (fun x0 x1 x2=>kr ((x0,()),(x1,(x2,())))) s.1.1.1 s.1.1.2.1 s.1.1.2.2.1 s.1.1.2.2.2.1 s.1.2.1.1 s.1.2.1.2.1 s.1.2.1.2.2.1 s.1.2.1.2.2.2.1 s.2.1 s.2.2.1 s.2.2.2.1:=by kernel_rfl
theorem g7:LS Tryz.prog C ⟨7,0,h7,x7,y7,fun s kx kr=>r7 sl0 sl0.n kx kr s⟩ (loopsOf (bodyC Tryz.f72)):=LS.at (i:=0) (by kernel_rfl) (loop_good mixed ctx (ctx_nat ctx) (N:=sl0.n) (fun _ _ _ _=>rfl) e7 (all1 (LS.none (by kernel_rfl)) (all0)))
theorem eG (β:Type)(s:sin.den)(K:sout.den→Option β):evalFn C Tryz.f72 sin sout s K=o.F s K:=by kernel_rfl
theorem ok:OracOk Tryz.prog o:=fn_ok mixed Tryz.func72 (by kernel_rfl) ctx (c:=bodyC Tryz.f72) (by kernel_rfl) (all1 g7 (all0)) (by kernel_rfl) (by kernel_rfl) (by kernel_rfl) (Nat.le_of_ble_eq_true (by kernel_rfl)) eG (by kernel_rfl) (Nat.le_of_ble_eq_true (by kernel_rfl))
end spec_RotMend
end Go.Proofs.YtnbighmbgmjbkaaGreat.E
end
