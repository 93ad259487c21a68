/- What the functions of several statements compute, step by step. No condition. -/
import Derived.Test.YtnbighmbgmjbkaaGreatMGM3
import Derived.Test.YtnbighmbgmjbkaaGreatMGM4
import Derived.Test.YtnbighmbgmjbkaaGreatMGM5
import Derived.Test.YtnbighmbgmjbkaaGreatMGM6
import Derived.Test.YtnbighmbgmjbkaaGreatMGM7
import Derived.Test.YtnbighmbgmjbkaaGreatMGM8
import Derived.Test.YtnbighmbgmjbkaaGreatMGM9
import Derived.Test.YtnbighmbgmjbkaaGreatMGM10
import Derived.Test.YtnbighmbgmjbkaaGreatMGM11
import Derived.Test.YtnbighmbgmjbkaaGreatMGM12
import Derived.Test.YtnbighmbgmjbkaaGreatMGM13
import Derived.Test.YtnbighmbgmjbkaaGreatMGM14
import Derived.Test.YtnbighmbgmjbkaaGreatMGM15
import Derived.Test.YtnbighmbgmjbkaaGreatMGM16
import Derived.Test.YtnbighmbgmjbkaaGreatMGM17
import Derived.Test.YtnbighmbgmjbkaaGreatMGM18
import Derived.Test.YtnbighmbgmjbkaaGreatMGM19
import Derived.Test.YtnbighmbgmjbkaaGreatMGM20
import Derived.Test.YtnbighmbgmjbkaaGreatMGM21
import Derived.Test.YtnbighmbgmjbkaaGreatMGM22
set_option linter.unusedVariables false
set_option linter.unusedSimpArgs false
section
namespace Go.Proofs.YtnbighmbgmjbkaaGreat.E
open Go Go.RowKit
set_option maxRecDepth 100000
theorem tab_1:tabAll 1 8 0 []=true:=tabAll_join (tabAll_join (tabAll_join tab1_n tab1_2) (tabAll_join tab1_1 tab1_12)) (tabAll_join (tabAll_join tab1_0 tab1_02) (tabAll_join tab1_01 tab1_012))
theorem tab_2:tabAll 2 8 0 []=true:=tabAll_join (tabAll_join (tabAll_join tab2_n tab2_2) (tabAll_join tab2_1 tab2_12)) (tabAll_join (tabAll_join tab2_0 tab2_02) (tabAll_join tab2_01 tab2_012))
theorem tab_k {kind:Int} (hk:kind=1∨kind=2) (f:Nat→Bool):tabOk kind ((List.range 8).filter f)=true:=by
 rw [List.range_eq_range']
 rcases hk with rfl | rfl
 ·exact tabAll_spec 8 0 [] tab_1 f
 ·exact tabAll_spec 8 0 [] tab_2 f
theorem okAll_1:okAll 1 8 0 []=true:=(okAll_step (by kernel_rfl) (by kernel_rfl) (okAll_step (by kernel_rfl) (by kernel_rfl) (okAll_step (by kernel_rfl) (by kernel_rfl) okA1_n okA1_2) (okAll_step (by kernel_rfl) (by kernel_rfl) okA1_1 okA1_12)) (okAll_step (by kernel_rfl) (by kernel_rfl) (okAll_step (by kernel_rfl) (by kernel_rfl) okA1_0 okA1_02) (okAll_step (by kernel_rfl) (by kernel_rfl) okA1_01 okA1_012)))
theorem okAll_2:okAll 2 8 0 []=true:=(okAll_step (by kernel_rfl) (by kernel_rfl) (okAll_step (by kernel_rfl) (by kernel_rfl) (okAll_step (by kernel_rfl) (by kernel_rfl) okA2_n okA2_2) (okAll_step (by kernel_rfl) (by kernel_rfl) okA2_1 okA2_12)) (okAll_step (by kernel_rfl) (by kernel_rfl) (okAll_step (by kernel_rfl) (by kernel_rfl) okA2_0 okA2_02) (okAll_step (by kernel_rfl) (by kernel_rfl) okA2_01 okA2_012)))
theorem okAll_k {kind:Int} (hk:kind=1∨kind=2):okAll kind 8 0 []=true:=by
 rcases hk with rfl | rfl
 ·exact okAll_1
 ·exact okAll_2
def sumF:List Int→List Int→Int→Int
 | b :: s, g :: t, n => sumF s t (Int.tmod (n + b * g) 31)
 | _, _, n => n
noncomputable def fitF (kind:Int) (vals:List Int) (there:List Bool):Nat→Nat→List Nat→Bool
 | 0, _, _ => true
 | d + 1, i, I => match there.getD i false with
  | false => fitF kind vals there d (i + 1) I
  | true => match hasF kind I i with
   | some true => sumF (byF kind I i).1 (I.map fun (a : Nat) => vals.getD a 0) 0 == vals.getD i 0 && fitF kind vals there d (i + 1) I
   | _ => fitF kind vals there d (i + 1) (I ++ [i])
theorem sum_l {β:Type} (kx:List (List Int)→List Int→Int→List Int→List Bool→Int→Int→Option β) (kr:Option β) (rows:List (List Int)) (got:List Int) (kind:Int) (vals:List Int) (there:List Bool) (at_:Int) (by_:List Int)
  (hb:∀ x∈by_,0≤x∧x≤30) (hg:∀ x∈got,0≤x∧x≤30) (hl:by_.length=got.length) (hs:got.length≤8) (d:Nat):∀ (v:Int) (j n:Nat),j+d=by_.length→d<n→0≤v∧v≤30→
  spec_l4Fits.l12 sl1 n kx kr rows got kind vals there at_ by_ v (j:Int)=kx rows got kind vals there at_ (sumF (by_.drop j) (got.drop j) v):=by
 induction d with
 | zero =>
  intro v j n hj hn hv
  obtain⟨n,rfl⟩:∃ m,n=m+1:=⟨n-1,by omega⟩
  rw [spec_l4Fits.t12,List.drop_of_length_le (by omega)]; exact(cF (ltF (by omega)) rfl)
 | succ d ih =>
  intro v j n hj hn hv
  obtain⟨n,rfl⟩:∃ m,n=m+1:=⟨n-1,by omega⟩
  have j1:j<by_.length:=by omega
  have j2:j<got.length:=by omega
  have m:=mod31 hv (hb _ (List.getElem_mem j1)) (hg _ (List.getElem_mem j2))
  have e:=ih (Int.tmod (v+by_[j]*got[j]) 31) (j+1) n (by omega) (by omega) m.2
  rw [spec_l4Fits.t12]
  unfold spec_l4Fits.b12
  refine cT (ltT (by omega)) (cT (irT (by omega) (by omega)) (cT (irT (by omega) (by omega)) ?_))
  rw [getN by_ j j1,getN got j j2,w_succ (by omega),m.1,List.drop_eq_getElem_cons j1,List.drop_eq_getElem_cons j2,sumF]
  exact e
theorem getD_in {l:List Int} {P:Int→Prop} (h:∀ x∈l,P x) {i:Nat} (hi:i<l.length):P (l.getD i 0):=by
 rw [List.getD_eq_getElem?_getD,List.getElem?_eq_getElem hi]; exact h _ (List.getElem_mem hi)
theorem getC {α:Type} (d:α) (l:List α) (i:Nat):List.getD l (Int.toNat (i:Int)) d=l.getD i d:=by rw [Int.toNat_natCast]
theorem fits_l {β:Type} {kind:Int} {vals:List Int} {there:List Bool} (hk:kind=1∨kind=2) (hv:vals.length=8) (hf:∀ x∈vals,0≤x∧x≤30) (ht:there.length=8) (K:Bool→Option β) (d:Nat):∀ (i n:Nat) (I:List Nat),i+d=8→d<n→okAll kind d i I=true→(∀ x∈I,x<8)→I.length≤4→
  spec_l4Fits.l4 sl1 n (K true) (fun y1=>K y1) (rowsF kind I) (I.map fun(a:Nat)=>vals.getD a 0) kind vals there (i:Int)=K (fitF kind vals there d i I):=by
 induction d with
 | zero =>
  intro i n I hd hn ho hI hI4
  obtain⟨n,rfl⟩:∃ m,n=m+1:=⟨n-1,by omega⟩
  rw [spec_l4Fits.t4]; exact cF (ltF (by omega)) rfl
 | succ d ih =>
  intro i n I hd hn ho hI hI4
  obtain⟨n,rfl⟩:∃ m,n=m+1:=⟨n-1,by omega⟩
  unfold okAll at ho
  rw [Bool.and_eq_true] at ho
  obtain⟨ho1,ho2⟩:=ho
  have next:=ih (i+1) n I (by omega) (by omega) ho1 hI hI4
  rw [spec_l4Fits.t4]
  unfold spec_l4Fits.b4
  refine cT (ltT (by omega)) (cT (irT (by omega) (by omega)) ?_)
  rw [getC false,w_succ (by omega)]
  unfold fitF
  cases ct:there.getD i false
  ·exact cT rfl next
  ·refine cF rfl ((row_G hk (by omega) _).trans ((has_nat _ _ _).trans ?_))
   change (hasF kind I i).bind _=_
   split at ho2
   ·rename_i hh
    rw [hh]
    rw [Option.bind_some]
    refine cT rfl ((by_nat _ _ _).trans ?_)
    change (byO kind I i).bind _=_
    cases hB:byO kind I i with
    | none => rw [hB] at ho2; cases ho2
    | some b =>
     rw [hB] at ho2
     obtain⟨r,b⟩:=b
     simp only [okBy,Bool.and_eq_true,List.all_eq_true] at ho2
     obtain⟨_,hb2,hb3,_⟩:=ho2
     have hb2:r.length=I.length:=Nat.eq_of_beq_eq_true hb2
     have hbf:byF kind I i=(r,b):=by unfold byF; rw [hB]; rfl
     rw [hbf]
     have hg:∀ x∈(I.map fun(a:Nat)=>vals.getD a 0),0≤x∧x≤30:=fun x hx=>by
      obtain⟨a,ha,rfl⟩:=List.mem_map.1 hx
      exact getD_in hf (by have:=hI a ha; omega)
     rw [Option.bind_some]
     refine(sum_l _ _ _ _ _ _ _ _ r (fun x hx=>inV_iff.1 (hb3 x hx)) hg (by rw [List.length_map]; exact hb2) (by rw [List.length_map]; omega) r.length 0 0 sl1.n (by omega) (by rw [rounds_n]; omega) (by omega)).trans ?_
     rw [List.drop_zero,List.drop_zero]
     refine cT (irT (by omega) (by omega)) ?_
     rw [getC (0:Int)]
     generalize sumF r (I.map fun(a:Nat)=>vals.getD a 0) 0=q
     dsimp only
     by_cases cs:q=vals.getD i 0
     ·rw [show (q == vals.getD i 0) = true from beq_iff_eq.2 cs, Bool.true_and]
      refine cF (neF cs) ?_
      rw [w_succ (by omega)]
      exact next
     ·rw [show (q == vals.getD i 0) = false from beq_eq_false_iff_ne.2 cs, Bool.false_and]
      exact cT (neT cs) rfl
   ·rename_i hh
    rw [Bool.and_eq_true] at ho2
    have h3:I.length≤3:=Nat.le_of_ble_eq_true ho2.1
    rw [hh]
    rw [Option.bind_some]
    have e1:rowsF kind I ++ [rowS kind (i:Int)]=rowsF kind (I ++ [i]):=by unfold rowsF; rw [List.map_append]; rfl
    have e2:(I.map fun(a:Nat)=>vals.getD a 0) ++ [vals.getD i 0]=(I ++ [i]).map fun(a:Nat)=>vals.getD a 0:=by rw [List.map_append]; rfl
    refine cF rfl (cT (fwT (by simp [rowsF]; omega)) (cT (irT (by omega) (by omega)) (cT (fwT (by simp; omega)) ?_)))
    rw [getC (0:Int),e1,e2]
    refine ih (i+1) n (I ++ [i]) (by omega) (by omega) ho2.2 (fun x hx=>?_) (by rw [List.length_append,List.length_singleton]; omega)
    rcases List.mem_append.1 hx with h | h
    ·exact hI x h
    ·rw [List.mem_singleton.1 h]; omega
   ·cases ho2
noncomputable def fitsV (kind:Int) (vals:List Int) (there:List Bool):Bool:=fitF kind vals there 8 0 []
theorem fits_G {β:Type} {kind:Int} {vals:List Int} {there:List Bool} (hk:kind=1∨kind=2) (hv:vals.length=8) (hf:∀ x∈vals,0≤x∧x≤30) (ht:there.length=8) (K:Bool→Option β):spec_l4Fits.G sl1 kind vals there K=K (fitsV kind vals there):=
 fits_l hk hv hf ht K 8 0 sl1.n [] (by omega) (by rw [rounds_n]; omega) (okAll_k hk) (by intro x hx; cases hx) (by simp)
noncomputable def okF (kind:Int) (vals vers:List Int) (there:List Bool):Nat→Nat→Bool
 | 0, _ => true
 | d + 1, i => (match there.getD i false with
  | true => inV (vers.getD i 0) 1 99 && fitsV kind vals (ofV vers there (vers.getD i 0))
  | false => vals.getD i 0 == 0 && vers.getD i 0 == 0) && okF kind vals vers there d (i + 1)
theorem ok_l {β:Type} {kind:Int} {vals vers:List Int} {there:List Bool} (hk:kind=1∨kind=2) (h1:vals.length=8) (hf:∀ x∈vals,0≤x∧x≤30) (h2:vers.length=8) (h3:there.length=8) (K:Bool→Option β) (d:Nat):∀ (i n:Nat),i+d=8→d<n→
  spec_StripeOk.l4 sl1 n (K true) (fun y3=>K y3) kind vals vers there (i:Int)=K (okF kind vals vers there d i):=by
 induction d with
 | zero =>
  intro i n hd hn
  obtain⟨n,rfl⟩:∃ m,n=m+1:=⟨n-1,by omega⟩
  rw [spec_StripeOk.t4]; exact cF (ltF (by omega)) rfl
 | succ d ih =>
  intro i n hd hn
  obtain⟨n,rfl⟩:∃ m,n=m+1:=⟨n-1,by omega⟩
  have next:=ih (i+1) n (by omega) (by omega)
  rw [spec_StripeOk.t4]
  unfold spec_StripeOk.b4
  refine cT (ltT (by omega)) (cT (irT (by omega) (by omega)) ?_)
  rw [getC false,getC (0:Int),getC (0:Int),w_succ (by omega)]
  unfold okF
  cases ct:there.getD i false
  ·refine cT rfl (cT (irT (by omega) (by omega)) ?_)
   dsimp only
   by_cases c0:vals.getD i 0=0
   ·refine cF (neF c0) (cT (irT (by omega) (by omega)) ?_)
    rw [show(vals.getD i 0==0)=true from beq_iff_eq.2 c0,Bool.true_and]
    by_cases c1:vers.getD i 0=0
    ·rw [show (vers.getD i 0 == 0) = true from beq_iff_eq.2 c1, Bool.true_and]
     exact cF (neF c1) (cT (irT (by omega) (by omega)) (cF rfl next))
    ·rw [show (vers.getD i 0 == 0) = false from beq_eq_false_iff_ne.2 c1, Bool.false_and]
     exact cT (neT c1) rfl
   ·rw [show (vals.getD i 0 == 0) = false from beq_eq_false_iff_ne.2 c0, Bool.false_and, Bool.false_and]
    exact cT (neT c0) rfl
  ·refine cF rfl (cT (irT (by omega) (by omega)) (cT rfl (cT (irT (by omega) (by omega)) ((spec_in _ _ _ _).trans ?_))))
   dsimp only
   cases cv:inV (vers.getD i 0) 1 99
   ·exact cT rfl rfl
   ·rw [Bool.true_and]
    refine cF rfl (cT (irT (by omega) (by omega)) ((of_G kind vals vers there _ (by omega) (by omega) _).trans ((fits_G hk h1 hf (ofV_len h2 h3) _).trans ?_)))
    cases cf:fitsV kind vals (ofV vers there (vers.getD i 0))
    ·exact cT rfl rfl
    ·rw [Bool.true_and]; exact cF rfl next
noncomputable def stripeV (kind:Int) (vals vers:List Int) (there:List Bool):Bool:=inV kind 1 2&&(valsV vals there&&(decide (vers.length=8)&&okF kind vals vers there 8 0))
theorem kindV {k:Int} (h:inV k 1 2=true):k=1∨k=2:=by rw [inV_iff] at h; omega
theorem valsV_iff {l:List Int} {th:List Bool}:valsV l th=true↔(∀ x∈l,0≤x∧x≤30)∧l.length=8∧th.length=8:=by
 unfold valsV fldL
 simp [List.all_eq_true,inV_iff]
theorem stripeOk_G {β:Type} (kind:Int) (vals vers:List Int) (there:List Bool) (hl:vals.length≤1000000000) (K:Bool→Option β):spec_StripeOk.G sl1 kind vals vers there K=K (stripeV kind vals vers there):=by
 unfold spec_StripeOk.G stripeV
 refine(spec_kind _ _).trans ?_
 cases ck:inV kind 1 2
 ·exact cT rfl rfl
 rw [Bool.true_and]
 refine cF rfl ((vals_G vals there hl _).trans ?_)
 cases cv:valsV vals there
 ·exact cT rfl rfl
 rw [Bool.true_and]
 obtain⟨hf,h1,h2⟩:=valsV_iff.1 cv
 refine cF rfl ?_
 by_cases c8:vers.length=8
 ·rw [decide_eq_true c8, Bool.true_and]
  exact cF (neF (by omega)) (ok_l (kindV ck) h1 hf c8 h2 K 8 0 sl1.n (by omega) (by rw [rounds_n]; omega))
 ·rw [decide_eq_false c8, Bool.false_and]
  exact cT (neT (by omega)) rfl
theorem stripeV_k {kind:Int} {vals vers:List Int} {there:List Bool} (h:stripeV kind vals vers there=true):(kind=1∨kind=2)∧(∀ x∈vals,0≤x∧x≤30)∧vals.length=8∧vers.length=8∧there.length=8∧okF kind vals vers there 8 0=true:=by
 unfold stripeV at h
 simp only [Bool.and_eq_true,decide_eq_true_eq] at h
 obtain⟨h1,h2,h3,h4⟩:=h
 obtain⟨a,b,c⟩:=valsV_iff.1 h2
 exact⟨kindV h1,a,b,h3,c,h4⟩
noncomputable def writeF (kind:Int) (data:List Int) (which:List Bool) (v:Int):Nat→Nat→List Int→List Int→List Bool→List Int×List Int×List Bool
 | 0, _, a, b, c => (a, b, c)
 | d + 1, i, a, b, c => match which.getD i false with
  | true => writeF kind data which v d (i + 1) (a.set i ((allV kind data).getD i 0)) (b.set i v) (c.set i true)
  | false => writeF kind data which v d (i + 1) a b c
theorem write_l {β:Type} {kind:Int} {vals vers:List Int} {there:List Bool} (hk:kind=1∨kind=2) (h2:vers.length=8) {data:List Int} (hd:vecV data=true) {which:List Bool} (hw:which.length=8) (x4:Int) (htop:0≤topV vers 0∧topV vers 0≤1000000)
  (kx:Int→Int→List Int→List Int→List Bool→Option β) (kr:Option β) (d:Nat):∀ (i n:Nat) (a b:List Int) (c:List Bool),i+d=8→d<n→a.length=8→b.length=8→c.length=8→
  spec_StripeWrite.l7 sl1 n kx kr kind vals vers there x4 kind a b c data which (i:Int)=kx x4 kind (writeF kind data which (topV vers 0+1) d i a b c).1 (writeF kind data which (topV vers 0+1) d i a b c).2.1 (writeF kind data which (topV vers 0+1) d i a b c).2.2:=by
 induction d with
 | zero =>
  intro i n a b c hd hn ha hb hc
  obtain⟨n,rfl⟩:∃ m,n=m+1:=⟨n-1,by omega⟩
  rw [spec_StripeWrite.t7]; exact cF (ltF (by omega)) rfl
 | succ d ih =>
  intro i n a b c hdd hn ha hb hc
  obtain⟨n,rfl⟩:∃ m,n=m+1:=⟨n-1,by omega⟩
  rw [spec_StripeWrite.t7]
  unfold spec_StripeWrite.b7 writeF
  refine cT (ltT (by omega)) (cT (irT (by omega) (by omega)) ?_)
  rw [getC false,w_succ (by omega)]
  cases cw:which.getD i false
  ·exact cF rfl (ih (i+1) n a b c (by omega) (by omega) ha hb hc)
  ·refine cT rfl ((top_G kind vals vers there (by omega) _).trans ((put_G hk ha hb hc hd (by omega) _ _).trans ?_))
   rw [wE (by omega) (by omega)]
   exact ih (i+1) n _ _ _ (by omega) (by omega) (by rw [List.length_set]; exact ha) (by rw [List.length_set]; exact hb) (by rw [List.length_set]; exact hc)
noncomputable def invC (kind:Int) (b:Nat) (M:List (List Int)) (l:Nat):Int:=
 (rowS kind (b:Int)).getD 0 0*(M.getD 0 []).getD l 0+(rowS kind (b:Int)).getD 1 0*(M.getD 1 []).getD l 0+(rowS kind (b:Int)).getD 2 0*(M.getD 2 []).getD l 0+(rowS kind (b:Int)).getD 3 0*(M.getD 3 []).getD l 0
noncomputable def invAt (kind:Int) (b:Nat) (M:List (List Int)) (x0 x1 x2 x3:Int):Bool:=
 (invC kind b M 0%31==x0&&invC kind b M 1%31==x1)&&(invC kind b M 2%31==x2&&invC kind b M 3%31==x3)
noncomputable def invChk (kind:Int) (M:List (List Int)):List Nat→Bool
 | [b0, b1, b2, b3] => (invAt kind b0 M 1 0 0 0 && invAt kind b1 M 0 1 0 0) && (invAt kind b2 M 0 0 1 0 && invAt kind b3 M 0 0 0 1)
 | _ => false
noncomputable def cov (kind:Int) (I:List Nat):List (List Nat×List (List Int))→Bool
 | [] => false
 | e :: t => (I.all (fun a => e.1.any (Nat.beq a)) && invChk kind e.2 e.1) || cov kind I t
noncomputable def covAll (kind:Int) (T:List (List Nat×List (List Int))):Nat→Nat→List Nat→Bool
 | 0, _, I => cov kind I T
 | d + 1, i, I => covAll kind T d (i + 1) I && (Nat.ble 4 I.length || match covAll kind T d (i + 1) (I ++ [i]) with
  | true => true
  | false => match hasF kind I i with
   | some true => true
   | _ => false)
theorem covAll_1:covAll 1 invT1 8 0 []=true:=by kernel_rfl
theorem covAll_2:covAll 2 invT2 8 0 []=true:=by kernel_rfl
theorem covAll_k {kind:Int} (hk:kind=1∨kind=2):∃ T,covAll kind T 8 0 []=true:=by
 rcases hk with rfl | rfl
 ·exact⟨_,covAll_1⟩
 ·exact⟨_,covAll_2⟩
theorem Cg.tmod (a:Int):Cg (Int.tmod a 31) a:=⟨-(Int.tdiv a 31),by have:=Int.mul_tdiv_add_tmod a 31; omega⟩
theorem Cg.of {a b:Int} (h:a%31=b):Cg a b:=⟨a / 31,by omega⟩
theorem Cg.same {a b:Int} (h:Cg a b) (ha:0≤a∧a≤30) (hb:0≤b∧b≤30):a=b:=by obtain⟨k,h⟩:=h; omega
theorem dotM_El (u v:List Int):0≤dotM u v∧dotM u v≤30:=by unfold dotM; omega
def numAt (M:List (List Int)) (v0 v1 v2 v3:Int) (c:Nat):Int:=((M.getD c []).getD 0 0*v0+(M.getD c []).getD 1 0*v1+(M.getD c []).getD 2 0*v2+(M.getD c []).getD 3 0*v3)%31
def numOf (M:List (List Int)) (v0 v1 v2 v3:Int):List Int:=[numAt M v0 v1 v2 v3 0,numAt M v0 v1 v2 v3 1,numAt M v0 v1 v2 v3 2,numAt M v0 v1 v2 v3 3]
theorem numOf_V4 (M:List (List Int)) (v0 v1 v2 v3:Int):V4 (numOf M v0 v1 v2 v3):=⟨_,_,_,_,rfl,by unfold El numAt; omega,by unfold El numAt; omega,by unfold El numAt; omega,by unfold El numAt; omega⟩
theorem lin4 (r0 r1 r2 r3 v0 v1 v2 v3 a0 a1 a2 a3 b0 b1 b2 b3 c0 c1 c2 c3 d0 d1 d2 d3:Int):r0*(a0*v0+a1*v1+a2*v2+a3*v3)+r1*(b0*v0+b1*v1+b2*v2+b3*v3)+r2*(c0*v0+c1*v1+c2*v2+c3*v3)+r3*(d0*v0+d1*v1+d2*v2+d3*v3) =
  (r0*a0+r1*b0+r2*c0+r3*d0)*v0+(r0*a1+r1*b1+r2*c1+r3*d1)*v1+(r0*a2+r1*b2+r2*c2+r3*d2)*v2+(r0*a3+r1*b3+r2*c3+r3*d3)*v3:=by
 simp only [Int.mul_add,Int.add_mul,Int.mul_assoc]
 omega
theorem invAt_dot {kind:Int} {b:Nat} {M:List (List Int)} {x0 x1 x2 x3:Int} (h:invAt kind b M x0 x1 x2 x3=true) (v0 v1 v2 v3:Int):Cg (dotM (rowS kind (b:Int)) (numOf M v0 v1 v2 v3)) (x0*v0+x1*v1+x2*v2+x3*v3):=by
 unfold invAt at h
 simp only [Bool.and_eq_true,beq_iff_eq] at h
 obtain⟨⟨h0,h1⟩,h2,h3⟩:=h
 have t:∀ (r a:Int),Cg (r*(a%31)) (r*a):=fun r a=>Cg.mul (Cg.refl _) (Cg.mod _)
 refine(Cg.mod _).trans ((Cg.add (Cg.add (Cg.add (t _ _) (t _ _)) (t _ _)) (t _ _)).trans ?_)
 rw [lin4]
 exact Cg.add (Cg.add (Cg.add (Cg.mul (Cg.of h0) (Cg.refl _)) (Cg.mul (Cg.of h1) (Cg.refl _))) (Cg.mul (Cg.of h2) (Cg.refl _))) (Cg.mul (Cg.of h3) (Cg.refl _))
theorem cov_num {kind:Int} {vals:List Int} (hf:∀ a:Nat,a<8→0≤vals.getD a 0∧vals.getD a 0≤30) {I:List Nat} (hI:∀ a∈I,a<8):∀ (T:List (List Nat×List (List Int))),cov kind I T=true→∃ d,V4 d∧∀ a∈I,vals.getD a 0=dotM (rowS kind (a:Int)) d
 | [], h => by cases h
 | e :: t, h => by
  rw [cov,Bool.or_eq_true,Bool.and_eq_true] at h
  rcases h with ⟨h1,h2⟩ | h
  ·obtain ⟨B, M⟩ := e
   dsimp only at h1 h2
   unfold invChk at h2
   split at h2
   ·rename_i b0 b1 b2 b3
    simp only [Bool.and_eq_true] at h2
    obtain⟨⟨k0,k1⟩,k2,k3⟩:=h2
    refine⟨numOf M (vals.getD b0 0) (vals.getD b1 0) (vals.getD b2 0) (vals.getD b3 0),numOf_V4 _ _ _ _ _,fun a ha=>?_⟩
    have hm:=List.all_eq_true.1 h1 a ha
    simp only [List.any_cons,List.any_nil,Bool.or_false,Bool.or_eq_true,Nat.beq_eq] at hm
    have e0:=invAt_dot k0 (vals.getD b0 0) (vals.getD b1 0) (vals.getD b2 0) (vals.getD b3 0)
    have e1:=invAt_dot k1 (vals.getD b0 0) (vals.getD b1 0) (vals.getD b2 0) (vals.getD b3 0)
    have e2:=invAt_dot k2 (vals.getD b0 0) (vals.getD b1 0) (vals.getD b2 0) (vals.getD b3 0)
    have e3:=invAt_dot k3 (vals.getD b0 0) (vals.getD b1 0) (vals.getD b2 0) (vals.getD b3 0)
    simp only [Int.one_mul,Int.zero_mul,Int.add_zero,Int.zero_add] at e0 e1 e2 e3
    have hv:=hf a (hI a ha)
    rcases hm with rfl | rfl | rfl | rfl
    ·exact(e0.same (dotM_El _ _) hv).symm
    ·exact(e1.same (dotM_El _ _) hv).symm
    ·exact(e2.same (dotM_El _ _) hv).symm
    ·exact(e3.same (dotM_El _ _) hv).symm
   ·cases h2
  ·exact cov_num hf hI t h
def mixG:List Int→List Int→Int
 | b :: s, g :: t => b * g + mixG s t
 | _, _ => 0
theorem sumF_cg:∀ (s t:List Int) (n:Int),Cg (sumF s t n) (n+mixG s t)
 | [], t, n => by unfold sumF mixG; exact ⟨0, by omega⟩
 | b :: s, [], n => by unfold sumF mixG; exact ⟨0, by omega⟩
 | b :: s, g :: t, n => by
  rw [sumF,mixG]
  refine(sumF_cg s t _).trans ?_
  rw [←Int.add_assoc]
  exact Cg.add (Cg.tmod _) (Cg.refl _)
theorem sumF_El:∀ (s t:List Int) (n:Int),(∀ x∈s,0≤x∧x≤30)→(∀ x∈t,0≤x∧x≤30)→0≤n∧n≤30→0≤sumF s t n∧sumF s t n≤30
 | [], t, n, _, _, hn => by unfold sumF; exact hn
 | b :: s, [], n, _, _, hn => by unfold sumF; exact hn
 | b :: s, g :: t, n, hs, ht, hn => by
  rw [sumF]
  exact sumF_El s t _ (fun x hx=>hs x (List.mem_cons_of_mem _ hx)) (fun x hx=>ht x (List.mem_cons_of_mem _ hx)) (mod31 hn (hs b List.mem_cons_self) (ht g List.mem_cons_self)).2
theorem mix_step (b r0 r1 r2 r3 m0 m1 m2 m3 d0 d1 d2 d3:Int):b*(r0*d0+r1*d1+r2*d2+r3*d3)+(m0*d0+m1*d1+m2*d2+m3*d3)=(b*r0+m0)*d0+(b*r1+m1)*d1+(b*r2+m2)*d2+(b*r3+m3)*d3:=by
 simp only [Int.mul_add,Int.add_mul,Int.mul_assoc]
 omega
theorem mix_dot {kind:Int} {vals d:List Int}:∀ (I:List Nat) (r:List Int),(∀ a∈I,vals.getD a 0=dotM (rowS kind (a:Int)) d)→
  Cg (mixG r (I.map fun(a:Nat)=>vals.getD a 0)) (mixF kind 0 I r*d.getD 0 0+mixF kind 1 I r*d.getD 1 0+mixF kind 2 I r*d.getD 2 0+mixF kind 3 I r*d.getD 3 0)
 | [], [], _ => ⟨0, by simp [mixG, mixF]⟩
 | [], b :: t, _ => ⟨0, by simp [mixG, mixF]⟩
 | a :: s, [], _ => ⟨0, by simp [mixG, mixF]⟩
 | a :: s, b :: t, h => by
  rw [List.map_cons,mixG,mixF,mixF,mixF,mixF,←mix_step,h a List.mem_cons_self]
  exact Cg.add (Cg.mul (Cg.refl _) (Cg.mod _)) (mix_dot s t fun x hx=>h x (List.mem_cons_of_mem _ hx))
theorem made {kind:Int} {vals d:List Int} {I:List Nat} {i:Nat} {r:List Int} (hI:∀ a∈I,vals.getD a 0=dotM (rowS kind (a:Int)) d)
  (hr:∀ x∈r,0≤x∧x≤30) (hv:∀ a∈I,0≤vals.getD a 0∧vals.getD a 0≤30)
  (h:([0,1,2,3].all fun c=>Int.tmod (mixF kind c I r) 31==(rowS kind (i:Int)).getD c 0)=true):sumF r (I.map fun(a:Nat)=>vals.getD a 0) 0=dotM (rowS kind (i:Int)) d:=by
 simp only [List.all_cons,List.all_nil,Bool.and_true,Bool.and_eq_true,beq_iff_eq] at h
 obtain⟨h0,h1,h2,h3⟩:=h
 refine Cg.same ?_ (sumF_El _ _ _ hr (fun x hx=>?_) (by omega)) (dotM_El _ _)
 ·refine (sumF_cg _ _ _).trans ?_
  rw [Int.zero_add]
  refine(mix_dot I r hI).trans (Cg.symm ((Cg.mod _).trans ?_))
  rw [←h0,←h1,←h2,←h3]
  exact Cg.add (Cg.add (Cg.add (Cg.mul (Cg.tmod _) (Cg.refl _)) (Cg.mul (Cg.tmod _) (Cg.refl _))) (Cg.mul (Cg.tmod _) (Cg.refl _))) (Cg.mul (Cg.tmod _) (Cg.refl _))
 ·obtain ⟨a, ha, rfl⟩ := List.mem_map.1 hx
  exact hv a ha
theorem okBy_spec {kind:Int} {I:List Nat} {i:Nat} (h:okBy kind I i (byO kind I i)=true):(∀ x∈(byF kind I i).1,0≤x∧x≤30)∧([0,1,2,3].all fun c=>Int.tmod (mixF kind c I (byF kind I i).1) 31==(rowS kind (i:Int)).getD c 0)=true:=by
 unfold byF
 cases hB:byO kind I i with
 | none => rw [hB] at h; cases h
 | some b =>
  rw [hB] at h
  obtain⟨r,b⟩:=b
  simp only [okBy,Bool.and_eq_true,List.all_eq_true] at h
  exact⟨fun x hx=>inV_iff.1 (h.2.2.1 x hx),List.all_eq_true.2 h.2.2.2⟩
def Gives (kind:Int) (vals:List Int) (there:List Bool) (i:Nat) (I:List Nat) (d:List Int):Prop:=(∀ a∈I,vals.getD a 0=dotM (rowS kind (a:Int)) d)∧∀ a:Nat,i≤a→a<8→there.getD a false=true→vals.getD a 0=dotM (rowS kind (a:Int)) d
theorem fit_iff {kind:Int} {vals:List Int} {there:List Bool} {T:List (List Nat×List (List Int))} (hf:∀ a:Nat,a<8→0≤vals.getD a 0∧vals.getD a 0≤30) (n:Nat):∀ (i:Nat) (I:List Nat),i+n=8→okAll kind n i I=true→covAll kind T n i I=true→(∀ a∈I,a<8)→
  (fitF kind vals there n i I=true↔∃ d,V4 d∧Gives kind vals there i I d):=by
 induction n with
 | zero =>
  intro i I hi ho hc hI
  refine iff_of_true rfl ?_
  obtain⟨d,h1,h2⟩:=cov_num hf hI T hc
  exact⟨d,h1,h2,fun a h3 h4=>by omega⟩
 | succ n ih =>
  intro i I hi ho hc hI
  unfold okAll at ho
  unfold covAll at hc
  rw [Bool.and_eq_true] at ho hc
  obtain⟨ho1,ho2⟩:=ho
  obtain⟨hc1,hc2⟩:=hc
  have next:=ih (i+1) I (by omega) ho1 hc1 hI
  have drop:∀ d,Gives kind vals there i I d→Gives kind vals there (i+1) I d:=fun d h=>⟨h.1,fun a h1 h2 h3=>h.2 a (by omega) h2 h3⟩
  unfold fitF
  cases ct:there.getD i false
  ·dsimp only
   refine next.trans ⟨fun⟨d,h1,h2⟩=>⟨d,h1,h2.1,fun a h3 h4 h5=>?_⟩,fun⟨d,h1,h2⟩=>⟨d,h1,drop d h2⟩⟩
   rcases Nat.lt_or_eq_of_le h3 with h | rfl
   ·exact h2.2 a h h4 h5
   ·rw [ct] at h5; cases h5
  ·dsimp only
   split at ho2
   ·rename_i hh
    rw [hh]
    dsimp only
    obtain⟨b1,b2⟩:=okBy_spec ho2
    have mk:∀ d,(∀ a∈I,vals.getD a 0=dotM (rowS kind (a:Int)) d)→sumF (byF kind I i).1 (I.map fun(a:Nat)=>vals.getD a 0) 0=dotM (rowS kind (i:Int)) d:=fun d h=>made h b1 (fun a ha=>hf a (hI a ha)) b2
    rw [Bool.and_eq_true,beq_iff_eq,next]
    constructor
    ·rintro ⟨h1, d, h2, h3⟩
     refine⟨d,h2,h3.1,fun a h4 h5 h6=>?_⟩
     rcases Nat.lt_or_eq_of_le h4 with h | rfl
     ·exact h3.2 a h h5 h6
     ·rw [←h1,mk d h3.1]
    ·rintro ⟨d, h2, h3⟩
     exact⟨by rw [mk d h3.1,h3.2 i (Nat.le_refl _) (by omega) ct],d,h2,drop d h3⟩
   ·rename_i hh
    rw [hh] at hc2 ⊢
    dsimp only
    rw [Bool.and_eq_true] at ho2
    have h3:I.length≤3:=Nat.le_of_ble_eq_true ho2.1
    have hc3:covAll kind T n (i+1) (I ++ [i])=true:=by
     rw [Bool.or_eq_true] at hc2
     rcases hc2 with h | h
     ·have:=Nat.le_of_ble_eq_true h; omega
     ·split at h
      ·rename_i h'; exact h'
      ·cases h
    rw [ih (i+1) (I ++ [i]) (by omega) ho2.2 hc3 (fun x hx=>by
     rcases List.mem_append.1 hx with h | h
     ·exact hI x h
     ·rw [List.mem_singleton.1 h]; omega)]
    constructor
    ·rintro ⟨d, h1, h2⟩
     refine⟨d,h1,fun a ha=>h2.1 a (List.mem_append_left _ ha),fun a h4 h5 h6=>?_⟩
     rcases Nat.lt_or_eq_of_le h4 with h | rfl
     ·exact h2.2 a h h5 h6
     ·exact h2.1 _ (List.mem_append_right _ List.mem_cons_self)
    ·rintro ⟨d, h1, h2⟩
     refine⟨d,h1,fun a ha=>?_,(drop d h2).2⟩
     rcases List.mem_append.1 ha with h | h
     ·exact h2.1 a h
     ·rw [List.mem_singleton.1 h]; exact h2.2 i (Nat.le_refl _) (by omega) ct
   ·cases ho2
theorem fitsV_iff {kind:Int} (hk:kind=1∨kind=2) {vals:List Int} (hv:vals.length=8) (hf:∀ x∈vals,0≤x∧x≤30) {there:List Bool}:fitsV kind vals there=true↔∃ d,V4 d∧∀ a:Nat,a<8→there.getD a false=true→vals.getD a 0=dotM (rowS kind (a:Int)) d:=by
 obtain⟨T,hT⟩:=covAll_k hk
 refine(fit_iff (fun a ha=>getD_in hf (by omega)) 8 0 [] (by omega) (okAll_k hk) hT (by intro a ha; cases ha)).trans ?_
 exact⟨fun⟨d,h1,h2⟩=>⟨d,h1,fun a h3 h4=>h2.2 a (Nat.zero_le _) h3 h4⟩,fun⟨d,h1,h2⟩=>⟨d,h1,fun a ha=>by (cases ha),fun a _ h3 h4=>h2 a h3 h4⟩⟩
def thereL (there:List Bool) (i d:Nat):List Nat:=(List.range' i d).filter fun a=>there.getD a false
theorem shI_app (a b:List Nat):shI (a++b)=shI a++shI b:=List.map_append
theorem shI_len (a:List Nat):(shI a).length=a.length:=List.length_map _
theorem flag_l {β:Type} (kx:List Int→Option β) (kr:Option β) (there:List Bool) (hl:there.length≤1000) (d:Nat):∀ (i n:Nat) (acc:List Nat),i+d=there.length→acc.length≤i→d<n→
  impl_flagged.l3 sl1 n kx kr (shI acc) there (there.length:Int) (i:Int)=kx (shI (acc++thereL there i d)):=by
 induction d with
 | zero =>
  intro i n acc hi ha hn
  obtain⟨n,rfl⟩:∃ m,n=m+1:=⟨n-1,by omega⟩
  rw [impl_flagged.t3,show thereL there i 0 = [] from rfl,List.append_nil]; exact cF (ltF (by omega)) rfl
 | succ d ih =>
  intro i n acc hi ha hn
  obtain⟨n,rfl⟩:∃ m,n=m+1:=⟨n-1,by omega⟩
  rw [impl_flagged.t3]
  unfold impl_flagged.b3
  refine cT (ltT (by omega)) (cT (irT (by omega) (by omega)) ?_)
  rw [getC false,w_succ (by omega)]
  cases ct:there.getD i false
  ·have e : thereL there i (d + 1) = thereL there (i + 1) d := by unfold thereL; rw [List.range'_succ, List.filter_cons_of_neg (by rw [ct]; exact Bool.false_ne_true)]
   rw [e]
   exact cF rfl (ih (i+1) n acc (by omega) (by omega) (by omega))
  ·have e : thereL there i (d + 1) = i :: thereL there (i + 1) d := by unfold thereL; rw [List.range'_succ]; exact List.filter_cons_of_pos (p := fun a => there.getD a false) ct
   have hn:=ih (i+1) n (acc ++ [i]) (by omega) (by rw [List.length_append,List.length_singleton]; omega) (by omega)
   rw [List.append_assoc,shI_app acc [i]] at hn
   rw [e]
   exact cT rfl (cT (fwT (by rw [List.length_append,shI_len,List.length_singleton]; omega)) hn)
theorem flag_G {β:Type} {there:List Bool} (h:there.length=8) (K:List Int→Option β):impl_flagged.G sl1 there K=K (shI (thereL there 0 8)):=by
 unfold impl_flagged.G
 refine cT (by rfl) ?_
 exact flag_l (fun y1=>K y1) none there (by omega) 8 0 sl1.n [] (by omega) (by simp) (by rw [rounds_n]; omega)
theorem thereL_mem {there:List Bool} {a:Nat}:a∈thereL there 0 8↔a<8∧there.getD a false=true:=by
 unfold thereL
 rw [List.mem_filter,←List.range_eq_range',List.mem_range]
theorem thereL_len (there:List Bool):(thereL there 0 8).length≤8:=by
 have:=List.length_filter_le (fun a=>there.getD a false) (List.range' 0 8)
 rw [List.length_range'] at this
 exact this
def idxF (p:Nat→Bool):List Nat→Nat→Option Nat
 | [], _ => none
 | a :: r, i => bif p a then some i else idxF p r (i + 1)
theorem idxF_none {p:Nat→Bool}:∀ {l:List Nat} {i:Nat},idxF p l i=none→l.filter (fun a=>!p a)=l
 | [], _, _ => rfl
 | a :: r, i, h => by
  rw [idxF] at h
  cases c:p a
  ·rw [c] at h
   rw [List.filter_cons_of_pos (by rw [c]; rfl),idxF_none (i:=i+1) h]
  ·rw [c] at h; cases h
theorem idxF_some {p:Nat→Bool}:∀ {l:List Nat} {i j:Nat},idxF p l i=some j→∃ k,j=i+k∧k<l.length∧l.filter (fun a=>!p a)=l.take k++(l.drop (k+1)).filter (fun a=>!p a)
 | [], _, _, h => by cases h
 | a :: r, i, j, h => by
  rw [idxF] at h
  cases c:p a
  ·rw [c] at h
   obtain⟨k,h1,h2,h3⟩:=idxF_some (i:=i+1) (j:=j) h
   refine⟨k+1,by omega,by simp; omega,?_⟩
   rw [List.filter_cons_of_pos (by rw [c]; rfl),h3,List.take_succ_cons,List.drop_succ_cons]; rfl
  ·rw [c] at h
   have h:some i=some j:=h
   rw [Option.some.injEq] at h
   refine⟨0,by omega,by simp,?_⟩
   rw [List.filter_cons_of_neg (by rw [c]; exact Bool.false_ne_true)]; rfl
def notV (vers:List Int) (v:Int) (a:Nat):Bool:=!(vers.getD a 0==v)
theorem notV_G {β:Type} (kind:Int) (vals vers:List Int) (there:List Bool) (v:Int) {a:Nat} (ha:a<vers.length) (K:Int→List Int→List Int→List Bool→Int→Bool→Option β):impl_Stripe_of_1.G sl1 kind vals vers there v (a:Int) K=K kind vals vers there v (notV vers v a):=by
 unfold impl_Stripe_of_1.G
 refine cT (irT (by omega) (by omega)) ?_
 rw [getC (0:Int)]; rfl
theorem shI_get {sh:List Nat} {i:Nat} (h:i<sh.length):List.getD (shI sh) (Int.toNat (i:Int)) 0=((sh[i]:Nat):Int):=by
 rw [getN (shI sh) i (by rw [shI_len]; exact h)]
 exact List.getElem_map _
theorem idx_l {β:Type} (kind:Int) (vals vers:List Int) (there:List Bool) (v:Int) (sh:List Nat) (hs:∀ a∈sh,a<vers.length) (h8:sh.length≤1000) (kx:List Int→Int→List Int→List Int→List Bool→Int→Option β) (kr:List Int→Int→List Int→List Int→List Bool→Int→Int→Option β) (d:Nat):∀ (i n:Nat),i+d=sh.length→d<n→
  slices_IndexFunc_Sint_int.l2 sl1 n kx kr (shI sh) kind vals vers there v ((shI sh).length:Int) (i:Int)=match idxF (notV vers v) (sh.drop i) i with
   | none => kx (shI sh) kind vals vers there v
   | some j => kr (shI sh) kind vals vers there v (j : Int) := by
 induction d with
 | zero =>
  intro i n hi hn
  obtain⟨n,rfl⟩:∃ m,n=m+1:=⟨n-1,by omega⟩
  rw [slices_IndexFunc_Sint_int.t2,List.drop_of_length_le (by omega)]; exact cF (ltF (by rw [shI_len]; omega)) rfl
 | succ d ih =>
  intro i n hi hn
  obtain⟨n,rfl⟩:∃ m,n=m+1:=⟨n-1,by omega⟩
  have h1:i<sh.length:=by omega
  rw [slices_IndexFunc_Sint_int.t2,List.drop_eq_getElem_cons h1,idxF]
  unfold slices_IndexFunc_Sint_int.b2
  rw [shI_get h1,w_succ (by omega)]
  refine cT (ltT (by rw [shI_len]; omega)) (cT (irT (by omega) (by rw [shI_len]; omega)) ((notV_G _ _ _ _ _ (hs _ (List.getElem_mem h1)) _).trans ?_))
  cases notV vers v sh[i]
  ·exact ih (i+1) n (by omega) (by omega)
  ·rfl
theorem shI_set (sh:List Nat) (i a:Nat):(shI sh).set i (a:Int)=shI (sh.set i a):=by unfold shI; rw [List.map_set]
theorem del_l (kind:Int) (vals vers:List Int) (there:List Bool) (v:Int) (m:Nat) (hm:m≤1000) (d:Nat):∀ (i j n:Nat) (l:List Nat),(∀ a∈l,a<vers.length)→l.length=m→j+d=m→i≤j→d<n→
  ∃ l' i',l'.length=m∧i'≤m∧l'.take i'=l.take i++(l.drop j).filter (fun a=>!notV vers v a)∧∀ (β:Type) (kx:List Int→Int→List Int→List Int→List Bool→Int→Int→Option β) (kr:Option β),
   slices_DeleteFunc_Sint_int.l5 sl1 n kx kr (shI l) kind vals vers there v (i:Int) (j:Int)=kx (shI l') kind vals vers there v ((i':Nat):Int):=by
 induction d with
 | zero =>
  intro i j n l hv hl hj hij hn
  obtain⟨n,rfl⟩:∃ m,n=m+1:=⟨n-1,by omega⟩
  refine⟨l,i,hl,by omega,?_,fun β kx kr=>?_⟩
  ·rw [List.drop_of_length_le (by omega)]; simp
  ·rw [slices_DeleteFunc_Sint_int.t5]; exact cF (ltF (by rw [shI_len]; omega)) rfl
 | succ d ih =>
  intro i j n l hv hl hj hij hn
  obtain⟨n,rfl⟩:∃ m,n=m+1:=⟨n-1,by omega⟩
  have h1:j<l.length:=by omega
  cases c:notV vers v l[j]
  ·obtain ⟨l', i', k1, k2, k3, k4⟩ := ih (i + 1) (j + 1) n (l.set i l[j]) (fun a ha => by
    rcases List.mem_or_eq_of_mem_set ha with h | rfl
    ·exact hv a h
    ·exact hv _ (List.getElem_mem h1)) (by rw [List.length_set]; exact hl) (by omega) (by omega) (by omega)
   refine⟨l',i',k1,k2,?_,fun β kx kr=>?_⟩
   ·rw [k3,List.drop_set_of_lt (by omega),List.drop_eq_getElem_cons h1,List.filter_cons_of_pos (by rw [c]; rfl),List.take_succ_eq_append_getElem (by rw [List.length_set]; omega),List.take_set_of_le (Nat.le_refl _),List.getElem_set_self,List.append_assoc]; rfl
   ·rw [slices_DeleteFunc_Sint_int.t5]
    unfold slices_DeleteFunc_Sint_int.b5
    rw [shI_get h1,w_succ (by omega),w_succ (by omega),Int.toNat_natCast,shI_set]
    refine cT (ltT (by rw [shI_len]; omega)) (cT (irT (by omega) (by rw [shI_len]; omega)) ((notV_G _ _ _ _ _ (hv _ (List.getElem_mem h1)) _).trans ?_))
    rw [c]
    exact cT rfl (cT (irT (by omega) (by rw [shI_len]; omega)) (k4 β kx kr))
  ·obtain ⟨l', i', k1, k2, k3, k4⟩ := ih i (j + 1) n l hv hl (by omega) (by omega) (by omega)
   refine⟨l',i',k1,k2,?_,fun β kx kr=>?_⟩
   ·rw [k3,List.drop_eq_getElem_cons h1,List.filter_cons_of_neg (by rw [c]; exact Bool.false_ne_true)]
   ·rw [slices_DeleteFunc_Sint_int.t5]
    unfold slices_DeleteFunc_Sint_int.b5
    rw [shI_get h1,w_succ (i:=j) (by omega)]
    refine cT (ltT (by rw [shI_len]; omega)) (cT (irT (by omega) (by rw [shI_len]; omega)) ((notV_G _ _ _ _ _ (hv _ (List.getElem_mem h1)) _).trans ?_))
    rw [c]
    exact cF rfl (k4 β kx kr)
theorem shI_take (sh:List Nat) (i:Nat):(shI sh).take i=shI (sh.take i):=by unfold shI; rw [List.map_take]
theorem clr_take {α:Type} (d:α) (l:List α) (i j:Nat) (h:i≤l.length):(clr d l i j).take i=l.take i:=by
 unfold clr
 rw [List.append_assoc,List.take_append_of_le_length (by rw [List.length_take]; omega),List.take_take,Nat.min_self]
theorem clr_len {α:Type} (d:α) (l:List α) (i j:Nat) (h:i≤j) (hj:j≤l.length):(clr d l i j).length=l.length:=by
 unfold clr
 simp only [List.length_append,List.length_take,List.length_replicate,List.length_drop]; omega
theorem del_G {β:Type} (kind:Int) (vals vers:List Int) (there:List Bool) (v:Int) (sh:List Nat) (hs:∀ a∈sh,a<vers.length) (h8:sh.length≤1000) (K:Int→List Int→List Int→List Bool→Int→List Int→Option β):
  slices_DeleteFunc_Sint_int.G sl1 (shI sh) kind vals vers there v K=K kind vals vers there v (shI (sh.filter fun a=>!notV vers v a)):=by
 unfold slices_DeleteFunc_Sint_int.G slices_IndexFunc_Sint_int.G
 refine(idx_l kind vals vers there v sh hs h8 _ _ sh.length 0 sl1.n (by omega) (by rw [rounds_n]; omega)).trans ?_
 rw [List.drop_zero]
 cases hi:idxF (notV vers v) sh 0 with
 | none =>
  rw [idxF_none hi]
  exact cT rfl rfl
 | some j =>
  obtain⟨k,h1,h2,h3⟩:=idxF_some hi
  obtain rfl:j=k:=by omega
  obtain⟨l',i',k1,k2,k3,k4⟩:=del_l kind vals vers there v sh.length h8 (sh.length-(j+1)) j (j+1) sl1.n sh hs rfl (by omega) (by omega) (by rw [rounds_n]; omega)
  refine cF (eqF (by omega)) ?_
  rw [w_succ (by omega)]
  refine(k4 _ _ _).trans ?_
  have hc:(clr (0:Int) (shI l') i' l'.length).length=l'.length:=by rw [clr_len _ _ _ _ (by omega) (by rw [shI_len]; omega),shI_len]
  rw [shI_len,Int.toNat_natCast,Int.toNat_natCast,hc]
  refine cT (andT (andT (andT (leT (by omega)) (leT (by omega))) (leT (by omega))) (leT (by omega))) (cT (andT (andT (leT (by omega)) (leT (by omega))) (leT (by omega))) ?_)
  rw [clr_take _ _ _ _ (by rw [shI_len]; omega),shI_take,k3,←h3]
def ofL (vers:List Int) (there:List Bool) (v:Int):List Nat:=(List.range 8).filter fun a=>!notV vers v a&&there.getD a false
theorem ofI_G {β:Type} (kind:Int) (vals:List Int) {vers:List Int} {there:List Bool} (h2:vers.length=8) (h3:there.length=8) (v:Int) (K:List Int→Option β):impl_Stripe_of.G sl1 kind vals vers there v K=K (shI (ofL vers there v)):=by
 unfold impl_Stripe_of.G
 refine(flag_G h3 _).trans ((del_G kind vals vers there v (thereL there 0 8) (fun a ha=>by have:=(thereL_mem.1 ha).1; omega) (by have:=thereL_len there; omega) _).trans ?_)
 unfold ofL thereL
 rw [List.filter_filter,List.range_eq_range']
theorem vers_l {β:Type} (kx:List Int→Option β) (kr:Option β) (kind:Int) (vals vers:List Int) (there:List Bool) (sh:List Nat) (hs:∀ a∈sh,a<vers.length) (h8:sh.length≤1000) (d:Nat):∀ (i n:Nat) (acc:List Int),i+d=sh.length→acc.length=i→d<n→
  impl_Stripe_versions.l3 sl1 n kx kr kind vals vers there acc (shI sh) ((shI sh).length:Int) (i:Int)=kx (acc++(sh.drop i).map fun a=>vers.getD a 0):=by
 induction d with
 | zero =>
  intro i n acc hi ha hn
  obtain⟨n,rfl⟩:∃ m,n=m+1:=⟨n-1,by omega⟩
  rw [impl_Stripe_versions.t3,List.drop_of_length_le (by omega),List.map_nil,List.append_nil]; exact cF (ltF (by rw [shI_len]; omega)) rfl
 | succ d ih =>
  intro i n acc hi ha hn
  obtain⟨n,rfl⟩:∃ m,n=m+1:=⟨n-1,by omega⟩
  have h1:i<sh.length:=by omega
  have hn:=ih (i+1) n (acc ++ [vers.getD sh[i] 0]) (by omega) (by rw [List.length_append,List.length_singleton]; omega) (by omega)
  rw [List.append_assoc] at hn
  have hi:=hs _ (List.getElem_mem h1)
  rw [impl_Stripe_versions.t3,List.drop_eq_getElem_cons h1,List.map_cons]
  unfold impl_Stripe_versions.b3
  rw [shI_get h1,w_succ (by omega),Int.toNat_natCast]
  exact cT (ltT (by rw [shI_len]; omega)) (cT (irT (by omega) (by rw [shI_len]; omega)) (cT (irT (by omega) (by omega)) (cT (fwT (by rw [List.length_append,List.length_singleton]; omega)) hn)))
def insD (x:Int):List Int→List Int
 | [] => [x]
 | p :: r => bif sl1.lt x p then p :: insD x r else x :: p :: r
theorem insD_len (x:Int):∀ r,(insD x r).length=r.length+1
 | [] => rfl
 | p :: r => by
  rw [insD]
  cases sl1.lt x p
  ·rfl
  ·show(insD x r).length+1=_; rw [insD_len x r]; rfl
theorem insD_mem {x y:Int}:∀ {r:List Int},y∈insD x r↔y=x∨y∈r
 | [] => by simp [insD]
 | p :: r => by
  rw [insD]
  cases sl1.lt x p
  ·simp
  ·simp only [cond_true, List.mem_cons, insD_mem (r := r)]
   constructor
   ·rintro (h | h | h)
    ·exact .inr (.inl h)
    ·exact .inl h
    ·exact .inr (.inr h)
   ·rintro (h | h | h)
    ·exact .inr (.inl h)
    ·exact .inl h
    ·exact .inr (.inr h)
theorem insD_desc {x:Int}:∀ {r:List Int},r.Pairwise (fun a b=>b≤a)→(insD x r).Pairwise (fun a b=>b≤a)
 | [], _ => by simp [insD]
 | p :: r, h => by
  obtain⟨h1,h2⟩:=List.pairwise_cons.1 h
  rw [insD]
  by_cases c:x<p
  ·rw [ltT c]
   refine List.pairwise_cons.2 ⟨fun y hy=>?_,insD_desc h2⟩
   rcases insD_mem.1 hy with rfl | hy
   ·omega
   ·exact h1 y hy
  ·rw [ltF (by omega)]
   refine List.pairwise_cons.2 ⟨fun y hy=>?_,h⟩
   rcases List.mem_cons.1 hy with rfl | hy
   ·omega
   ·have:=h1 y hy; omega
theorem getD_mid {α:Type} (d x:α) (A B:List α) (i:Nat) (h:A.length=i):(A++x::B).getD i d=x:=by subst h; simp
theorem set_mid {α:Type} (x y:α) (A B:List α) (i:Nat) (h:A.length=i):(A++x::B).set i y=A++y::B:=by subst h; simp
theorem less_G {β:Type} (a b:Int) (K:Bool→Option β):cmp_Less_int.G sl1 a b K=K (sl1.lt a b):=by
 unfold cmp_Less_int.G cmp_isNaN_int.G
 exact cF (neF rfl) rfl
theorem ins_l {β:Type} (kx:List Int→Int→Int→Int→Option β) (kr:Option β) (b i x:Int):∀ (r T:List Int) (n:Nat),r.length≤1000→r.length<n→
  slices_insertionSortOrdered_int_.l4 sl1 n kx kr (r.reverse++x::T) 0 b i (r.length:Int)=kx ((insD x r).reverse++T) 0 b i
 | [], T, n, hl, hn => by
  obtain⟨n,rfl⟩:∃ m,n=m+1:=⟨n-1,by omega⟩
  rw [slices_insertionSortOrdered_int_.t4]; exact cF (ltF (by simp)) rfl
 | p :: r, T, n, hl, hn => by
  obtain⟨n,rfl⟩:∃ m,n=m+1:=⟨n-1,by omega⟩
  rw [List.length_cons] at hl hn
  rw [slices_insertionSortOrdered_int_.t4]
  unfold slices_insertionSortOrdered_int_.b4
  have e0:(p::r).reverse++x::T=r.reverse++p::x::T:=by simp
  have e1:r.reverse++p::x::T=(r.reverse ++ [p])++x::T:=by simp
  have w1:sl1.w (((p::r).length:Nat)-1:Int)=(r.length:Int):=by rw [List.length_cons,wE (by omega) (by omega)]; omega
  have g1:(r.reverse++p::x::T).getD (p::r).length 0=x:=by rw [e1]; exact getD_mid _ _ _ _ _ (by simp)
  have g2:(r.reverse++p::x::T).getD r.length 0=p:=getD_mid _ _ _ _ _ (by simp)
  have s1:(r.reverse++p::x::T).set (p::r).length p=r.reverse++p::p::T:=by rw [e1,set_mid _ _ _ _ _ (by simp)]; simp
  have s2:(r.reverse++p::p::T).set r.length x=r.reverse++x::p::T:=set_mid _ _ _ _ _ (by simp)
  have hL:(r.reverse++p::x::T).length=r.length+2+T.length:=by simp; omega
  have hc:(p::r).length=r.length+1:=rfl
  rw [w1,e0,Int.toNat_natCast,Int.toNat_natCast,g1,g2,s1,s2]
  refine cT (ltT (by omega)) (cT (irT (by omega) (by omega)) (cT (irT (by omega) (by omega)) ((less_G _ _ _).trans ?_)))
  rw [insD]
  cases c:sl1.lt x p
  ·refine cF rfl ?_
   simp
  ·refine cT rfl (cT (irT (by omega) (by omega)) (cT (irT (by omega) (by omega)) (cT (irT (by omega) (by omega)) (cT (irT (by omega) (by simp; omega)) ((ins_l kx kr b i x r (p :: T) n (by omega) (by omega)).trans ?_)))))
   simp
theorem sort_l {β:Type} (kx:List Int→Option β) (kr:Option β) (m:Nat) (hm:m≤1000):∀ (T r:List Int) (n:Nat),r.length+T.length=m→T.length<n→
  slices_insertionSortOrdered_int_.l1 sl1 n kx kr (r.reverse++T) 0 (m:Int) (r.length:Int)=kx (T.foldl (fun r x=>insD x r) r).reverse
 | [], r, n, hl, hn => by
  obtain⟨n,rfl⟩:∃ m,n=m+1:=⟨n-1,by omega⟩
  rw [slices_insertionSortOrdered_int_.t1,List.append_nil]; exact cF (ltF (by simp at hl; omega)) rfl
 | x :: T, r, n, hl, hn => by
  obtain⟨n,rfl⟩:∃ m,n=m+1:=⟨n-1,by omega⟩
  rw [List.length_cons] at hl hn
  rw [slices_insertionSortOrdered_int_.t1]
  unfold slices_insertionSortOrdered_int_.b1
  refine cT (ltT (by omega)) ((ins_l _ none (m:Int) (r.length:Int) x r T sl1.n (by omega) (by rw [rounds_n]; omega)).trans ?_)
  rw [w_succ (by omega),←insD_len x r]
  exact sort_l kx kr m hm T (insD x r) n (by rw [insD_len]; omega) (by omega)
def descL (l:List Int):List Int:=l.foldl (fun r x=>insD x r) []
theorem sort_G {β:Type} {l:List Int} (hl:l.length≤8) (K:List Int→Option β):slices_Sort_Sint_int_.G sl1 l K=K (descL l).reverse:=by
 have hw:sl1.wr .u64 (l.length:Int)=(l.length:Int):=by
  show IntKind.wrap .u64 _=_
  rw [IntKind.wrap_u64]; omega
 unfold slices_Sort_Sint_int_.G math_bits_Len.G
 rw [hw]
 refine cT (andT (leT (by omega)) (leT (by omega))) ?_
 unfold slices_pdqsortOrdered_int_.G
 dsimp only
 rw [n5,slices_pdqsortOrdered_int_.t2]
 unfold slices_pdqsortOrdered_int_.b2
 refine cT (leT (by rw [wE (by omega) (by omega)]; omega)) ?_
 unfold slices_insertionSortOrdered_int_.G descL
 match l,hl with
 | [], _ =>
  rw [n5,slices_insertionSortOrdered_int_.t1]
  exact cF rfl rfl
 | x :: T, hl => exact sort_l (fun y1 => K y1) none (x :: T).length (by omega) T [x] sl1.n (by simp; omega) (by rw [rounds_n]; simp at hl; omega)
theorem rev_G {β:Type} {l:List Int} (hl:l.length≤8) (K:List Int→Option β):slices_Reverse_Sint_int_.G sl1 l K=K l.reverse:=by
 match l,hl with
 | [], _ => refine keq ?_; kernel_rfl
 | [a], _ => refine keq ?_; kernel_rfl
 | [a, b], _ => refine keq ?_; kernel_rfl
 | [a, b, c], _ => refine keq ?_; kernel_rfl
 | [a, b, c, d], _ => refine keq ?_; kernel_rfl
 | [a, b, c, d, e], _ => refine keq ?_; kernel_rfl
 | [a, b, c, d, e, f], _ => refine keq ?_; kernel_rfl
 | [a, b, c, d, e, f, g], _ => refine keq ?_; kernel_rfl
 | [a, b, c, d, e, f, g, h], _ => refine keq ?_; kernel_rfl
 | _ :: _ :: _ :: _ :: _ :: _ :: _ :: _ :: _ :: _, hl => simp at hl
theorem descL_mem {y:Int} {l:List Int}:y∈descL l↔y∈l:=by
 have h:∀ (l r:List Int),y∈l.foldl (fun r x=>insD x r) r↔y∈l∨y∈r:=by
  intro l
  induction l with
  | nil => intro r; simp
  | cons x l ih =>
   intro r
   rw [List.foldl_cons,ih,insD_mem,List.mem_cons]
   constructor
   ·rintro (h | h | h)
    ·exact .inl (.inr h)
    ·exact .inl (.inl h)
    ·exact .inr h
   ·rintro ((h | h) | h)
    ·exact .inr (.inl h)
    ·exact .inl h
    ·exact .inr (.inr h)
 exact(h l []).trans (by simp)
theorem descL_desc (l:List Int):(descL l).Pairwise (fun a b=>b≤a):=by
 have h:∀ (l r:List Int),r.Pairwise (fun a b=>b≤a)→(l.foldl (fun r x=>insD x r) r).Pairwise (fun a b=>b≤a):=by
  intro l
  induction l with
  | nil => intro r h; exact h
  | cons x l ih => intro r h; exact ih _ (insD_desc h)
 exact h l [] List.Pairwise.nil
theorem descL_len (l:List Int):(descL l).length=l.length:=by
 have h:∀ (l r:List Int),(l.foldl (fun r x=>insD x r) r).length=l.length+r.length:=by
  intro l
  induction l with
  | nil => intro r; simp
  | cons x l ih => intro r; rw [List.foldl_cons, ih, insD_len, List.length_cons]; omega
 exact h l []
theorem compact_mem {zs:List Int} {v:Int}:v∈Lib.compact zs↔v∈zs:=by
 unfold Lib.compact Lib.compactUpTo
 rw [List.mem_map]
 constructor
 ·rintro ⟨j, hj, rfl⟩
  have hj:=List.mem_range.1 (List.mem_filter.1 hj).1
  rw [List.getElem!_toArray,getElem!_pos zs j hj]
  exact List.getElem_mem hj
 ·intro h
  obtain⟨j,hj,rfl⟩:=List.getElem_of_mem h
  clear h
  induction j with
  | zero => exact ⟨0, List.mem_filter.2 ⟨List.mem_range.2 hj, by simp [Lib.keeps]⟩, by rw [List.getElem!_toArray, getElem!_pos zs 0 hj]⟩
  | succ j ih =>
   by_cases c:zs[j+1]=zs[j]
   ·rw [c]; exact ih (by omega)
   ·refine ⟨j + 1, List.mem_filter.2 ⟨List.mem_range.2 hj, ?_⟩, by rw [List.getElem!_toArray, getElem!_pos zs (j + 1) hj]⟩
    have h1:zs.toArray[j+1]! = zs[j+1]:=by rw [List.getElem!_toArray,getElem!_pos zs (j+1) hj]
    have h2:zs.toArray[j]! = zs[j]:=by rw [List.getElem!_toArray,getElem!_pos zs j (by omega)]
    unfold Lib.keeps
    rw [Nat.add_sub_cancel,h1,h2]
    exact decide_eq_true (.inr c)
theorem compact_desc {zs:List Int} (h:zs.Pairwise (fun a b=>b≤a)):(Lib.compact zs).Pairwise (fun a b=>b<a):=by
 unfold Lib.compact Lib.compactUpTo
 rw [List.pairwise_map,List.pairwise_filter]
 refine List.Pairwise.imp_of_mem ?_ List.pairwise_lt_range
 intro i j hi hj hij _ hk
 have hi:=List.mem_range.1 hi
 have hj:=List.mem_range.1 hj
 have hp:=List.pairwise_iff_getElem.1 h
 rw [List.getElem!_toArray,List.getElem!_toArray,getElem!_pos zs i hi,getElem!_pos zs j hj]
 unfold Lib.keeps at hk
 have hk:=of_decide_eq_true hk
 rw [List.getElem!_toArray,List.getElem!_toArray,getElem!_pos zs j hj,getElem!_pos zs (j-1) (by omega)] at hk
 rcases hk with rfl | hk
 ·omega
 ·have h1 := hp (j - 1) j (by omega) hj (by omega)
  have h2:zs[j-1]≤zs[i]:=by
   rcases Nat.lt_or_ge i (j-1) with h3 | h3
   ·exact hp i (j-1) hi (by omega) h3
   ·have : i = j - 1 := by omega
    subst this; exact Int.le_refl _
  omega
def versL (vers:List Int) (there:List Bool):List Int:=Lib.compact (descL ((thereL there 0 8).map fun a=>vers.getD a 0))
theorem versL_mem {vers:List Int} {there:List Bool} {v:Int}:v∈versL vers there↔∃ a,a<8∧there.getD a false=true∧vers.getD a 0=v:=by
 unfold versL
 rw [compact_mem,descL_mem,List.mem_map]
 constructor
 ·rintro ⟨a,h,rfl⟩; exact⟨a,(thereL_mem.1 h).1,(thereL_mem.1 h).2,rfl⟩
 ·rintro ⟨a,h1,h2,rfl⟩; exact⟨a,thereL_mem.2 ⟨h1,h2⟩,rfl⟩
theorem versL_desc (vers:List Int) (there:List Bool):(versL vers there).Pairwise (fun a b=>b<a):=compact_desc (descL_desc _)
theorem versL_len (vers:List Int) (there:List Bool):(versL vers there).length≤8:=by
 refine Nat.le_trans (Lib.compact_length_le _) ?_
 rw [descL_len,List.length_map]
 exact thereL_len there
theorem versions_G {β:Type} (kind:Int) (vals:List Int) {vers:List Int} {there:List Bool} (h2:vers.length=8) (h3:there.length=8) (K:List Int→Option β):impl_Stripe_versions.G sl1 kind vals vers there K=K (versL vers there):=by
 have h8:=thereL_len there
 unfold impl_Stripe_versions.G
 refine(flag_G h3 _).trans ((vers_l _ none kind vals vers there (thereL there 0 8) (fun a ha=>by have:=(thereL_mem.1 ha).1; omega) (by omega) (thereL there 0 8).length 0 sl1.n [] (by omega) rfl (by rw [rounds_n]; omega)).trans ?_)
 rw [List.drop_zero,List.nil_append]
 refine(sort_G (by rw [List.length_map]; exact h8) _).trans ((rev_G (by rw [List.length_reverse,descL_len,List.length_map]; exact h8) _).trans ?_)
 rw [List.reverse_reverse]
 unfold slices_Compact_Sint_int.G
 exact cT (fwT (by rw [descL_len,List.length_map]; omega)) rfl
theorem ofV_at {vers:List Int} {there:List Bool} (h2:vers.length=8) (h3:there.length=8) (v:Int) {a:Nat} (ha:a<8):(ofV vers there v).getD a false=(there.getD a false&&(vers.getD a 0==v)):=by
 have h4:a<there.length:=by omega
 have h5:a<vers.length:=by omega
 unfold ofV
 rw [List.getD_eq_getElem?_getD,List.getElem?_zipWith,List.getElem?_eq_getElem h4,List.getElem?_eq_getElem h5,List.getD_eq_getElem?_getD,List.getD_eq_getElem?_getD,List.getElem?_eq_getElem h4,List.getElem?_eq_getElem h5]
 rfl
theorem ofL_mem {vers:List Int} {there:List Bool} (h2:vers.length=8) (h3:there.length=8) {v:Int} {a:Nat}:a∈ofL vers there v↔a<8∧(ofV vers there v).getD a false=true:=by
 unfold ofL notV
 rw [List.mem_filter,List.mem_range]
 refine and_congr_right fun ha=>?_
 rw [ofV_at h2 h3 v ha,Bool.not_not,Bool.and_comm]
theorem fitsI_V {kind:Int} (hk:kind=1∨kind=2) {vals vers:List Int} {there:List Bool} (h1:vals.length=8) (hf:∀ x∈vals,0≤x∧x≤30) (h2:vers.length=8) (h3:there.length=8) (v:Int) {β:Type} (K:Bool→Option β):
  impl_fits.G sl1 kind vals (shI (ofL vers there v)) K=K (fitsV kind vals (ofV vers there v)):=by
 have hm:∀ a∈ofL vers there v,a<8:=fun a ha=>((ofL_mem h2 h3).1 ha).1
 have h8:(ofL vers there v).length≤8:=by
  have:=List.length_filter_le (fun a=>!notV vers v a&&there.getD a false) (List.range 8)
  rw [List.length_range] at this
  exact this
 obtain⟨b,k1,k2⟩:=fitsI_of hk hm h8 (tab_k hk _) (vals:=vals) ⟨h1,hf⟩
 rw [k1]
 congr 1
 rw [Bool.eq_iff_iff,k2,fitsV_iff hk h1 hf]
 exact⟨fun⟨d,d1,d2⟩=>⟨d,d1,fun a a1 a2=>d2 a ((ofL_mem h2 h3).2 ⟨a1,a2⟩)⟩,fun⟨d,d1,d2⟩=>⟨d,d1,fun a ha=>d2 a ((ofL_mem h2 h3).1 ha).1 ((ofL_mem h2 h3).1 ha).2⟩⟩
noncomputable def okI (vals vers:List Int) (there:List Bool):Nat→Nat→Bool
 | 0, _ => true
 | d + 1, i => (match there.getD i false with
  | true => inV (vals.getD i 0) 0 30 && inV (vers.getD i 0) 1 99
  | false => vals.getD i 0 == 0 && vers.getD i 0 == 0) && okI vals vers there d (i + 1)
theorem okI_l {β:Type} (kind:Int) {vals vers:List Int} {there:List Bool} (h1:vals.length=8) (h2:vers.length=8) (h3:there.length=8) (kx:Int→List Int→List Int→List Bool→Option β) (kr:Bool→Option β) (d:Nat):∀ (i n:Nat),i+d=8→d<n→
  impl_StripeOk.l4 sl1 n kx kr kind vals vers there there (there.length:Int) (i:Int)=bif okI vals vers there d i then kx kind vals vers there else kr false:=by
 induction d with
 | zero =>
  intro i n hd hn
  obtain⟨n,rfl⟩:∃ m,n=m+1:=⟨n-1,by omega⟩
  rw [impl_StripeOk.t4]; exact cF (ltF (by omega)) rfl
 | succ d ih =>
  intro i n hd hn
  obtain⟨n,rfl⟩:∃ m,n=m+1:=⟨n-1,by omega⟩
  have next:=ih (i+1) n (by omega) (by omega)
  rw [impl_StripeOk.t4]
  unfold impl_StripeOk.b4
  refine cT (ltT (by omega)) (cT (irT (by omega) (by omega)) ?_)
  rw [getC false,getC (0:Int),getC (0:Int),w_succ (by omega)]
  unfold okI
  cases ct:there.getD i false
  ·dsimp only
   refine cF rfl (cT rfl (cT (irT (by omega) (by omega)) ?_))
   by_cases c0:vals.getD i 0=0
   ·refine cF (neF c0) (cT (irT (by omega) (by omega)) ?_)
    rw [show(vals.getD i 0==0)=true from beq_iff_eq.2 c0,Bool.true_and]
    by_cases c1:vers.getD i 0=0
    ·rw [show (vers.getD i 0 == 0) = true from beq_iff_eq.2 c1, Bool.true_and]
     exact cF (neF c1) next
    ·rw [show (vers.getD i 0 == 0) = false from beq_eq_false_iff_ne.2 c1, Bool.false_and]
     exact cT (neT c1) rfl
   ·rw [show (vals.getD i 0 == 0) = false from beq_eq_false_iff_ne.2 c0, Bool.false_and, Bool.false_and]
    exact cT (neT c0) rfl
  ·dsimp only
   refine cT rfl (cT (irT (by omega) (by omega)) ((impl_field _ _).trans ?_))
   cases cv:inV (vals.getD i 0) 0 30
   ·exact cT rfl rfl
   ·rw [Bool.true_and]
    refine cF rfl (cT (irT (by omega) (by omega)) ?_)
    unfold impl_versOk.G
    refine(impl_in _ _ _ _).trans ?_
    cases cw:inV (vers.getD i 0) 1 99
    ·exact cT rfl rfl
    ·rw [Bool.true_and]
     exact cF rfl (cF rfl next)
theorem okI_iff {vals vers:List Int} {there:List Bool} (d:Nat):∀ (i:Nat),okI vals vers there d i=true↔∀ a,i≤a→a<i+d→(there.getD a false=true→(0≤vals.getD a 0∧vals.getD a 0≤30)∧(1≤vers.getD a 0∧vers.getD a 0≤99))∧(there.getD a false=false→vals.getD a 0=0∧vers.getD a 0=0):=by
 induction d with
 | zero => intro i; exact iff_of_true rfl fun a h1 h2 => by omega
 | succ d ih =>
  intro i
  unfold okI
  rw [Bool.and_eq_true,ih (i+1)]
  have here:(match there.getD i false with
   | true => inV (vals.getD i 0) 0 30 && inV (vers.getD i 0) 1 99
   | false => vals.getD i 0 == 0 && vers.getD i 0 == 0) = true ↔ (there.getD i false = true → (0 ≤ vals.getD i 0 ∧ vals.getD i 0 ≤ 30) ∧ (1 ≤ vers.getD i 0 ∧ vers.getD i 0 ≤ 99)) ∧ (there.getD i false = false → vals.getD i 0 = 0 ∧ vers.getD i 0 = 0) := by
   cases there.getD i false
   ·simp
   ·simp [inV_iff]
  refine(and_congr here Iff.rfl).trans ?_
  constructor
  ·rintro ⟨h1, h2⟩ a ha hb
   rcases Nat.lt_or_eq_of_le ha with h | rfl
   ·exact h2 a h (by omega)
   ·exact h1
  ·intro h
   exact⟨h i (Nat.le_refl _) (by omega),fun a h1 h2=>h a (by omega) (by omega)⟩
theorem okF_iff {kind:Int} {vals vers:List Int} {there:List Bool} (d:Nat):∀ (i:Nat),okF kind vals vers there d i=true↔∀ a,i≤a→a<i+d→(there.getD a false=true→(1≤vers.getD a 0∧vers.getD a 0≤99)∧fitsV kind vals (ofV vers there (vers.getD a 0))=true)∧(there.getD a false=false→vals.getD a 0=0∧vers.getD a 0=0):=by
 induction d with
 | zero => intro i; exact iff_of_true rfl fun a h1 h2 => by omega
 | succ d ih =>
  intro i
  unfold okF
  rw [Bool.and_eq_true,ih (i+1)]
  have here:(match there.getD i false with
   | true => inV (vers.getD i 0) 1 99 && fitsV kind vals (ofV vers there (vers.getD i 0))
   | false => vals.getD i 0 == 0 && vers.getD i 0 == 0) = true ↔ (there.getD i false = true → (1 ≤ vers.getD i 0 ∧ vers.getD i 0 ≤ 99) ∧ fitsV kind vals (ofV vers there (vers.getD i 0)) = true) ∧ (there.getD i false = false → vals.getD i 0 = 0 ∧ vers.getD i 0 = 0) := by
   cases there.getD i false
   ·simp
   ·simp [inV_iff]
  refine(and_congr here Iff.rfl).trans ?_
  constructor
  ·rintro ⟨h1, h2⟩ a ha hb
   rcases Nat.lt_or_eq_of_le ha with h | rfl
   ·exact h2 a h (by omega)
   ·exact h1
  ·intro h
   exact⟨h i (Nat.le_refl _) (by omega),fun a h1 h2=>h a (by omega) (by omega)⟩
theorem some_l {β:Type} {kind:Int} (hk:kind=1∨kind=2) {vals vers:List Int} {there:List Bool} (h1:vals.length=8) (hf:∀ x∈vals,0≤x∧x≤30) (h2:vers.length=8) (h3:there.length=8) (l:List Int) (hl:l.length≤1000)
  (K:Bool→Option β) (d:Nat):∀ (i n:Nat),i+d=l.length→d<n→
  slices_IndexFunc_Sint_int_.l2 sl1 n (fun y1 y2 y3 y4 y5=>K (sl1.le 0 (-1))) (fun y1 y2 y3 y4 y5 y6=>K (sl1.le 0 y6)) l kind vals vers there (l.length:Int) (i:Int)=K ((l.drop i).any fun v=>!fitsV kind vals (ofV vers there v)):=by
 induction d with
 | zero =>
  intro i n hi hn
  obtain⟨n,rfl⟩:∃ m,n=m+1:=⟨n-1,by omega⟩
  rw [slices_IndexFunc_Sint_int_.t2,List.drop_of_length_le (by omega)]; exact cF (ltF (by omega)) rfl
 | succ d ih =>
  intro i n hi hn
  obtain⟨n,rfl⟩:∃ m,n=m+1:=⟨n-1,by omega⟩
  have hi1:i<l.length:=by omega
  rw [slices_IndexFunc_Sint_int_.t2,List.drop_eq_getElem_cons hi1,List.any_cons]
  unfold slices_IndexFunc_Sint_int_.b2 impl_StripeOk_1.G
  rw [getN l i hi1,w_succ (by omega)]
  refine cT (ltT (by omega)) (cT (irT (by omega) (by omega)) ((ofI_G kind vals h2 h3 _ _).trans ((fitsI_V hk h1 hf h2 h3 _ _).trans ?_)))
  cases fitsV kind vals (ofV vers there l[i])
  ·exact cT rfl (by dsimp only; rw [leT (by omega:(0:Int)≤(i:Int))]; rfl)
  ·exact cF rfl (ih (i+1) n (by omega) (by omega))
theorem stripeI_G {β:Type} (kind:Int) (vals vers:List Int) (there:List Bool) (K:Bool→Option β):impl_StripeOk.G sl1 kind vals vers there K=K (stripeV kind vals vers there):=by
 unfold impl_StripeOk.G impl_kindOk.G stripeV
 refine(impl_in _ _ _ _).trans ?_
 cases ck:inV kind 1 2
 ·exact cT rfl rfl
 have hk:=kindV ck
 rw [Bool.true_and]
 refine cF rfl ?_
 unfold impl_Stripe_shaped.G
 by_cases h1:vals.length=8
 ·refine cT (eqT (by omega)) ?_
  by_cases h2:vers.length=8
  ·refine cT (eqT (by omega)) ?_
   by_cases h3:there.length=8
   ·rw [eqT (by omega)]
    refine cF rfl ((okI_l kind h1 h2 h3 _ _ 8 0 sl1.n (by omega) (by rw [rounds_n]; omega)).trans ?_)
    cases co:okI vals vers there 8 0
    ·show K false = _
     congr 1
     rw [eq_comm,Bool.eq_false_iff]
     intro h
     simp only [Bool.and_eq_true,decide_eq_true_eq] at h
     obtain⟨a1,a2,a3⟩:=h
     obtain⟨b1,b2,b3⟩:=valsV_iff.1 a1
     rw [Bool.eq_false_iff] at co
     refine co ((okI_iff 8 0).2 fun a h0 h8=>?_)
     have:=(okF_iff 8 0).1 a3 a h0 h8
     exact⟨fun ht=>⟨getD_in b1 (by omega),(this.1 ht).1⟩,this.2⟩
    ·have ho := (okI_iff 8 0).1 co
     have hf:∀ x∈vals,0≤x∧x≤30:=fun x hx=>by
      obtain⟨a,ha,rfl⟩:=List.getElem_of_mem hx
      have e:vals.getD a 0=vals[a]:=by rw [List.getD_eq_getElem?_getD,List.getElem?_eq_getElem ha]; rfl
      have:=ho a (Nat.zero_le _) (by omega)
      rw [e] at this
      cases ct:there.getD a false
      ·have:=(this.2 ct).1; omega
      ·exact(this.1 ct).1
     show impl_Stripe_versions.G sl1 kind vals vers there _=_
     refine(versions_G kind vals h2 h3 _).trans ?_
     unfold slices_ContainsFunc_Sint_int.G slices_IndexFunc_Sint_int_.G
     refine(some_l hk h1 hf h2 h3 (versL vers there) (by have:=versL_len vers there; omega) (fun b=>K (!b)) (versL vers there).length 0 sl1.n (by omega) (by have:=versL_len vers there; rw [rounds_n]; omega)).trans ?_
     rw [List.drop_zero]
     congr 1
     rw [show valsV vals there=true from valsV_iff.2 ⟨hf,h1,h3⟩,decide_eq_true h2,Bool.true_and,Bool.true_and,Bool.eq_iff_iff,Bool.not_eq_true',List.any_eq_false,okF_iff 8 0]
     constructor
     ·intro h a h0 h8
      refine⟨fun ht=>⟨((ho a h0 h8).1 ht).2,?_⟩,(ho a h0 h8).2⟩
      have:=h _ (versL_mem.2 ⟨a,by omega,ht,rfl⟩)
      simpa using this
     ·intro h v hv
      obtain⟨a,ha,ht,rfl⟩:=versL_mem.1 hv
      have:=((h a (Nat.zero_le _) (by omega)).1 ht).2
      rw [this]; exact Bool.false_ne_true
   ·rw [eqF (by omega)]
    refine cT rfl ?_
    congr 1
    unfold valsV
    rw [decide_eq_false h3,Bool.and_false,Bool.and_false,Bool.false_and]
  ·refine cF (eqF (by omega)) (cT rfl ?_)
   congr 1
   rw [decide_eq_false h2,Bool.false_and,Bool.and_false]
 ·refine cF (eqF (by omega)) (cT rfl ?_)
  congr 1
  unfold valsV
  rw [decide_eq_false h1,Bool.false_and,Bool.and_false,Bool.false_and]
def combs:Nat→List Nat→List (List Nat)
 | 0, _ => [[]]
 | _ + 1, [] => []
 | m + 1, a :: r => (combs m r).map (a :: ·) ++ combs (m + 1) r
def ok1:List (List (List Nat)):=[[[1,4],[1,2,3,6],[1,2,3,7],[1,2,5,6],[1,2,5,7],[1,2,6,7],[1,3,5,6],[1,3,5,7],[1,3,6,7],[1,5,6,7],[2,3,4,6],[2,3,4,7],[2,3,6,7],[2,4,5,6],[2,4,5,7],[2,4,6,7],[2,5,6,7],[3,4,5,6],[3,4,5,7],[3,4,6,7],[3,5,6,7],[4,5,6,7]],
 [[0,4],[0,2,3,6],[0,2,3,7],[0,2,5,6],[0,2,5,7],[0,2,6,7],[0,3,5,6],[0,3,5,7],[0,3,6,7],[0,5,6,7],[2,3,4,6],[2,3,4,7],[2,3,6,7],[2,4,5,6],[2,4,5,7],[2,4,6,7],[2,5,6,7],[3,4,5,6],[3,4,5,7],[3,4,6,7],[3,5,6,7],[4,5,6,7]],
 [[3,5],[0,1,3,6],[0,1,3,7],[0,1,5,6],[0,1,5,7],[0,1,6,7],[0,3,4,6],[0,3,4,7],[0,3,6,7],[0,4,5,6],[0,4,5,7],[0,4,6,7],[0,5,6,7],[1,3,4,6],[1,3,4,7],[1,3,6,7],[1,4,5,6],[1,4,5,7],[1,4,6,7],[1,5,6,7],[3,4,6,7],[4,5,6,7]],
 [[2,5],[0,1,2,6],[0,1,2,7],[0,1,5,6],[0,1,5,7],[0,1,6,7],[0,2,4,6],[0,2,4,7],[0,2,6,7],[0,4,5,6],[0,4,5,7],[0,4,6,7],[0,5,6,7],[1,2,4,6],[1,2,4,7],[1,2,6,7],[1,4,5,6],[1,4,5,7],[1,4,6,7],[1,5,6,7],[2,4,6,7],[4,5,6,7]],
 [[0,1],[0,2,3,6],[0,2,3,7],[0,2,5,6],[0,2,5,7],[0,2,6,7],[0,3,5,6],[0,3,5,7],[0,3,6,7],[0,5,6,7],[1,2,3,6],[1,2,3,7],[1,2,5,6],[1,2,5,7],[1,2,6,7],[1,3,5,6],[1,3,5,7],[1,3,6,7],[1,5,6,7],[2,3,6,7],[2,5,6,7],[3,5,6,7]],
 [[2,3],[0,1,2,6],[0,1,2,7],[0,1,3,6],[0,1,3,7],[0,1,6,7],[0,2,4,6],[0,2,4,7],[0,2,6,7],[0,3,4,6],[0,3,4,7],[0,3,6,7],[0,4,6,7],[1,2,4,6],[1,2,4,7],[1,2,6,7],[1,3,4,6],[1,3,4,7],[1,3,6,7],[1,4,6,7],[2,4,6,7],[3,4,6,7]],
 [[0,1,2,3],[0,1,2,5],[0,1,2,7],[0,1,3,5],[0,1,3,7],[0,1,5,7],[0,2,3,4],[0,2,3,7],[0,2,4,5],[0,2,4,7],[0,2,5,7],[0,3,4,5],[0,3,4,7],[0,3,5,7],[0,4,5,7],[1,2,3,4],[1,2,3,7],[1,2,4,5],[1,2,4,7],[1,2,5,7],[1,3,4,5],[1,3,4,7],[1,3,5,7],[1,4,5,7],[2,3,4,7],[2,4,5,7],[3,4,5,7]],
 [[0,1,2,3],[0,1,2,5],[0,1,2,6],[0,1,3,5],[0,1,3,6],[0,1,5,6],[0,2,3,4],[0,2,3,6],[0,2,4,5],[0,2,4,6],[0,2,5,6],[0,3,4,5],[0,3,4,6],[0,3,5,6],[0,4,5,6],[1,2,3,4],[1,2,3,6],[1,2,4,5],[1,2,4,6],[1,2,5,6],[1,3,4,5],[1,3,4,6],[1,3,5,6],[1,4,5,6],[2,3,4,6],[2,4,5,6],[3,4,5,6]]]
def ok2:List (List (List Nat)):=[[[1,2,3,4],[1,2,3,5],[1,2,3,6],[1,2,3,7],[1,2,4,5],[1,2,4,6],[1,2,4,7],[1,2,5,6],[1,2,5,7],[1,2,6,7],[1,3,4,5],[1,3,4,6],[1,3,4,7],[1,3,5,6],[1,3,5,7],[1,3,6,7],[1,4,5,6],[1,4,5,7],[1,4,6,7],[1,5,6,7],[2,3,4,5],[2,3,4,6],[2,3,4,7],[2,3,5,6],[2,3,5,7],[2,3,6,7],[2,4,5,6],[2,4,5,7],[2,4,6,7],[2,5,6,7],[3,4,5,6],[3,4,5,7],[3,4,6,7],[3,5,6,7],[4,5,6,7]],
 [[0,2,3,4],[0,2,3,5],[0,2,3,6],[0,2,3,7],[0,2,4,5],[0,2,4,6],[0,2,4,7],[0,2,5,6],[0,2,5,7],[0,2,6,7],[0,3,4,5],[0,3,4,6],[0,3,4,7],[0,3,5,6],[0,3,5,7],[0,3,6,7],[0,4,5,6],[0,4,5,7],[0,4,6,7],[0,5,6,7],[2,3,4,5],[2,3,4,6],[2,3,4,7],[2,3,5,6],[2,3,5,7],[2,3,6,7],[2,4,5,6],[2,4,5,7],[2,4,6,7],[2,5,6,7],[3,4,5,6],[3,4,5,7],[3,4,6,7],[3,5,6,7],[4,5,6,7]],
 [[0,1,3,4],[0,1,3,5],[0,1,3,6],[0,1,3,7],[0,1,4,5],[0,1,4,6],[0,1,4,7],[0,1,5,6],[0,1,5,7],[0,1,6,7],[0,3,4,5],[0,3,4,6],[0,3,4,7],[0,3,5,6],[0,3,5,7],[0,3,6,7],[0,4,5,6],[0,4,5,7],[0,4,6,7],[0,5,6,7],[1,3,4,5],[1,3,4,6],[1,3,4,7],[1,3,5,6],[1,3,5,7],[1,3,6,7],[1,4,5,6],[1,4,5,7],[1,4,6,7],[1,5,6,7],[3,4,5,6],[3,4,5,7],[3,4,6,7],[3,5,6,7],[4,5,6,7]],
 [[0,1,2,4],[0,1,2,5],[0,1,2,6],[0,1,2,7],[0,1,4,5],[0,1,4,6],[0,1,4,7],[0,1,5,6],[0,1,5,7],[0,1,6,7],[0,2,4,5],[0,2,4,6],[0,2,4,7],[0,2,5,6],[0,2,5,7],[0,2,6,7],[0,4,5,6],[0,4,5,7],[0,4,6,7],[0,5,6,7],[1,2,4,5],[1,2,4,6],[1,2,4,7],[1,2,5,6],[1,2,5,7],[1,2,6,7],[1,4,5,6],[1,4,5,7],[1,4,6,7],[1,5,6,7],[2,4,5,6],[2,4,5,7],[2,4,6,7],[2,5,6,7],[4,5,6,7]],
 [[0,1,2,3],[0,1,2,5],[0,1,2,6],[0,1,2,7],[0,1,3,5],[0,1,3,6],[0,1,3,7],[0,1,5,6],[0,1,5,7],[0,1,6,7],[0,2,3,5],[0,2,3,6],[0,2,3,7],[0,2,5,6],[0,2,5,7],[0,2,6,7],[0,3,5,6],[0,3,5,7],[0,3,6,7],[0,5,6,7],[1,2,3,5],[1,2,3,6],[1,2,3,7],[1,2,5,6],[1,2,5,7],[1,2,6,7],[1,3,5,6],[1,3,5,7],[1,3,6,7],[1,5,6,7],[2,3,5,6],[2,3,5,7],[2,3,6,7],[2,5,6,7],[3,5,6,7]],
 [[0,1,2,3],[0,1,2,4],[0,1,2,6],[0,1,2,7],[0,1,3,4],[0,1,3,6],[0,1,3,7],[0,1,4,6],[0,1,4,7],[0,1,6,7],[0,2,3,4],[0,2,3,6],[0,2,3,7],[0,2,4,6],[0,2,4,7],[0,2,6,7],[0,3,4,6],[0,3,4,7],[0,3,6,7],[0,4,6,7],[1,2,3,4],[1,2,3,6],[1,2,3,7],[1,2,4,6],[1,2,4,7],[1,2,6,7],[1,3,4,6],[1,3,4,7],[1,3,6,7],[1,4,6,7],[2,3,4,6],[2,3,4,7],[2,3,6,7],[2,4,6,7],[3,4,6,7]],
 [[0,1,2,3],[0,1,2,4],[0,1,2,5],[0,1,2,7],[0,1,3,4],[0,1,3,5],[0,1,3,7],[0,1,4,5],[0,1,4,7],[0,1,5,7],[0,2,3,4],[0,2,3,5],[0,2,3,7],[0,2,4,5],[0,2,4,7],[0,2,5,7],[0,3,4,5],[0,3,4,7],[0,3,5,7],[0,4,5,7],[1,2,3,4],[1,2,3,5],[1,2,3,7],[1,2,4,5],[1,2,4,7],[1,2,5,7],[1,3,4,5],[1,3,4,7],[1,3,5,7],[1,4,5,7],[2,3,4,5],[2,3,4,7],[2,3,5,7],[2,4,5,7],[3,4,5,7]],
 [[0,1,2,3],[0,1,2,4],[0,1,2,5],[0,1,2,6],[0,1,3,4],[0,1,3,5],[0,1,3,6],[0,1,4,5],[0,1,4,6],[0,1,5,6],[0,2,3,4],[0,2,3,5],[0,2,3,6],[0,2,4,5],[0,2,4,6],[0,2,5,6],[0,3,4,5],[0,3,4,6],[0,3,5,6],[0,4,5,6],[1,2,3,4],[1,2,3,5],[1,2,3,6],[1,2,4,5],[1,2,4,6],[1,2,5,6],[1,3,4,5],[1,3,4,6],[1,3,5,6],[1,4,5,6],[2,3,4,5],[2,3,4,6],[2,3,5,6],[2,4,5,6],[3,4,5,6]]]
def okT (kind:Int) (lost:Nat):List (List Nat):=(bif kind==1 then ok1 else ok2).getD lost []
def memT (kind:Int) (lost:Nat) (c:List Nat):Bool:=(okT kind lost).any fun e=>eqN e c
def skipT (kind:Int) (lost:Nat) (c:List Nat):Bool:=(List.range c.length).any fun m=>(combs m c).any fun e=>memT kind lost e
def others (lost:Nat):List Nat:=(List.range 8).filter fun a=>!(Nat.beq a lost)
def dep1:List (List Nat):=[[0,1,4],[2,3,5]]
def depT (kind:Int) (c:List Nat):Bool:=(bif kind==1 then dep1 else []).any fun e=>e.all fun a=>c.any (Nat.beq a)
noncomputable def hasC (kind:Int) (c:List Nat):Bool:=depT kind c.dropLast||(match hasF kind c.dropLast (c.getLastD 0) with
 | some true => depT kind c
 | some false => !depT kind c
 | none => false)
noncomputable def byC (kind:Int) (lost:Nat) (c:List Nat):Bool:=skipT kind lost c||(bif depT kind c then !memT kind lost c else bif memT kind lost c then okBy kind c lost (byO kind c lost)else match byO kind c lost with
 | some (_, b) => !b
 | none => false)
noncomputable def planI (kind:Int) (lost:Nat) (c:List Nat):Option (List Int×List Int×Int×Bool):=impl_planBy.G sl1 kind (lost:Int) (shI c) (fun f b l k=>some (f,b,l,k))
noncomputable def plC (kind:Int) (lost:Nat) (c:List Nat):Bool:=skipT kind lost c||(match planI kind lost c with
 | some (f, b, l, k) => bif memT kind lost c then (k && (eqZ f (shI c) && (l == (lost : Int)))) && okBy kind c lost (some (b, true)) else !k
 | none => false)
noncomputable def tabH (kind:Int) (m:Nat):Bool:=(combs m (List.range 8)).all (hasC kind)
noncomputable def tabB (kind:Int) (lost m:Nat):Bool:=(combs m (others lost)).all (byC kind lost)
noncomputable def tabI (kind:Int) (lost m:Nat):Bool:=(combs m (others lost)).all (plC kind lost)
theorem wk_1:walkT 1 8 0 [] []=true:=(walkT_step (by kernel_rfl) (walkT_step (by kernel_rfl) (walkT_step (by kernel_rfl) wk1_n wk1_2) (walkT_step (by kernel_rfl) wk1_1 wk1_12)) (walkT_step (by kernel_rfl) (walkT_step (by kernel_rfl) wk1_0 wk1_02) (walkT_step (by kernel_rfl) wk1_01 wk1_012)))
theorem wk_2:walkT 2 8 0 [] []=true:=(walkT_step (by kernel_rfl) (walkT_step (by kernel_rfl) (walkT_step (by kernel_rfl) wk2_n wk2_2) (walkT_step (by kernel_rfl) wk2_1 wk2_12)) (walkT_step (by kernel_rfl) (walkT_step (by kernel_rfl) wk2_0 wk2_02) (walkT_step (by kernel_rfl) wk2_01 wk2_012)))
theorem wk_k {kind:Int} (hk:kind=1∨kind=2):walkT kind 8 0 [] []=true:=by
 rcases hk with rfl | rfl
 ·exact wk_1
 ·exact wk_2
theorem all_cut {α:Type} {p:α→Bool} {T:List α} {n:Nat} (h1:(T.take n).all p=true) (h2:(T.drop n).all p=true):T.all p=true:=by
 rw [←List.take_append_drop n T,List.all_append,h1,h2]; rfl
theorem by_k {kind:Int} (hk:kind=1∨kind=2) {e:List Nat×List (List Int)} (he:e∈invT kind):byE kind e=true:=by
 rcases hk with rfl | rfl
 ·exact List.all_eq_true.1 (all_cut by1_0 (all_cut by1_1 (all_cut by1_2 (all_cut by1_3 (all_cut by1_4 (all_cut by1_5 by1_6)))))) e he
 ·exact List.all_eq_true.1 (all_cut by2_0 (all_cut by2_1 (all_cut by2_2 (all_cut by2_3 (all_cut by2_4 (all_cut by2_5 by2_6)))))) e he
noncomputable def smallE (e:List Nat×List (List Int)):Bool:=e.2.all fun r=>Nat.beq r.length 4&&r.all fun x=>inV x 0 30
theorem small_1:invT1.all smallE=true:=by kernel_rfl
theorem small_2:invT2.all smallE=true:=by kernel_rfl
theorem small_k {kind:Int} (hk:kind=1∨kind=2) {e:List Nat×List (List Int)} (he:e∈invT kind):smallE e=true:=by
 rcases hk with rfl | rfl
 ·exact List.all_eq_true.1 small_1 e he
 ·exact List.all_eq_true.1 small_2 e he
theorem mat_1:(invT1.all fun e=>Nat.beq e.2.length 4)=true:=by kernel_rfl
theorem mat_2:(invT2.all fun e=>Nat.beq e.2.length 4)=true:=by kernel_rfl
theorem mat_k {kind:Int} (hk:kind=1∨kind=2) {e:List Nat×List (List Int)} (he:e∈invT kind):e.2.length=4:=by
 rcases hk with rfl | rfl
 ·exact Nat.eq_of_beq_eq_true (List.all_eq_true.1 mat_1 e he)
 ·exact Nat.eq_of_beq_eq_true (List.all_eq_true.1 mat_2 e he)
noncomputable def invD (kind:Int) (B:List Nat) (M:List (List Int)) (c c':Nat):Int:=
 (M.getD c []).getD 0 0*(rowS kind ((B.getD 0 0:Nat):Int)).getD c' 0+(M.getD c []).getD 1 0*(rowS kind ((B.getD 1 0:Nat):Int)).getD c' 0+(M.getD c []).getD 2 0*(rowS kind ((B.getD 2 0:Nat):Int)).getD c' 0+(M.getD c []).getD 3 0*(rowS kind ((B.getD 3 0:Nat):Int)).getD c' 0
noncomputable def invR (kind:Int) (B:List Nat) (M:List (List Int)) (c:Nat) (x0 x1 x2 x3:Int):Bool:=
 (invD kind B M c 0%31==x0&&invD kind B M c 1%31==x1)&&(invD kind B M c 2%31==x2&&invD kind B M c 3%31==x3)
noncomputable def entOk (kind:Int) (e:List Nat×List (List Int)):Bool:=
 (Nat.beq e.1.length 4&&e.1.all fun b=>Nat.blt b 8)&&((invR kind e.1 e.2 0 1 0 0 0&&invR kind e.1 e.2 1 0 1 0 0)&&(invR kind e.1 e.2 2 0 0 1 0&&invR kind e.1 e.2 3 0 0 0 1))
theorem ent_1:invT1.all (entOk 1)=true:=by kernel_rfl
theorem ent_2:invT2.all (entOk 2)=true:=by kernel_rfl
theorem ent_k {kind:Int} (hk:kind=1∨kind=2) {e:List Nat×List (List Int)} (he:e∈invT kind):entOk kind e=true:=by
 rcases hk with rfl | rfl
 ·exact List.all_eq_true.1 ent_1 e he
 ·exact List.all_eq_true.1 ent_2 e he
theorem invR_num {kind:Int} {B:List Nat} {M:List (List Int)} {c:Nat} {x0 x1 x2 x3:Int} (h:invR kind B M c x0 x1 x2 x3=true) (d:List Int):
  Cg (numAt M (dotM (rowS kind ((B.getD 0 0:Nat):Int)) d) (dotM (rowS kind ((B.getD 1 0:Nat):Int)) d) (dotM (rowS kind ((B.getD 2 0:Nat):Int)) d) (dotM (rowS kind ((B.getD 3 0:Nat):Int)) d) c) (x0*d.getD 0 0+x1*d.getD 1 0+x2*d.getD 2 0+x3*d.getD 3 0):=by
 unfold invR at h
 simp only [Bool.and_eq_true,beq_iff_eq] at h
 obtain⟨⟨h0,h1⟩,h2,h3⟩:=h
 have t:∀ (r a:Int),Cg (r*(a%31)) (r*a):=fun r a=>Cg.mul (Cg.refl _) (Cg.mod _)
 refine(Cg.mod _).trans ((Cg.add (Cg.add (Cg.add (t _ _) (t _ _)) (t _ _)) (t _ _)).trans ?_)
 rw [lin4]
 exact Cg.add (Cg.add (Cg.add (Cg.mul (Cg.of h0) (Cg.refl _)) (Cg.mul (Cg.of h1) (Cg.refl _))) (Cg.mul (Cg.of h2) (Cg.refl _))) (Cg.mul (Cg.of h3) (Cg.refl _))
theorem num_back {kind:Int} (hk:kind=1∨kind=2) {e:List Nat×List (List Int)} (he:e∈invT kind) {d:List Int} (hd:V4 d):
  numOf e.2 (dotM (rowS kind ((e.1.getD 0 0:Nat):Int)) d) (dotM (rowS kind ((e.1.getD 1 0:Nat):Int)) d) (dotM (rowS kind ((e.1.getD 2 0:Nat):Int)) d) (dotM (rowS kind ((e.1.getD 3 0:Nat):Int)) d)=d:=by
 have h:=ent_k hk he
 unfold entOk at h
 simp only [Bool.and_eq_true] at h
 obtain⟨_,⟨k0,k1⟩,k2,k3⟩:=h
 have e0:=invR_num k0 d
 have e1:=invR_num k1 d
 have e2:=invR_num k2 d
 have e3:=invR_num k3 d
 obtain⟨a,b,c,d,rfl,ha,hb,hc,hd⟩:=hd
 simp only [Int.one_mul,Int.zero_mul,Int.add_zero,Int.zero_add] at e0 e1 e2 e3
 unfold numOf
 have s0:=e0.same (by unfold numAt; omega) ha
 have s1:=e1.same (by unfold numAt; omega) hb
 have s2:=e2.same (by unfold numAt; omega) hc
 have s3:=e3.same (by unfold numAt; omega) hd
 rw [s0,s1,s2,s3]; rfl
theorem covL_iff {kind:Int} {sh:List Nat}:covL kind sh=true↔∃ e∈invT kind,∀ b∈e.1,b∈sh:=by
 unfold covL
 rw [List.any_eq_true]
 refine exists_congr fun e=>and_congr_right fun _=>?_
 rw [List.all_eq_true]
 refine forall_congr' fun b=>imp_congr_right fun _=>?_
 rw [List.any_eq_true]
 exact⟨fun⟨x,h1,h2⟩=>Nat.eq_of_beq_eq_true h2 ▸ h1,fun h=>⟨b,h,Nat.beq_refl b⟩⟩
theorem covL_mono {kind:Int} {sh sh':List Nat} (h:∀ b∈sh,b∈sh') (hc:covL kind sh=true):covL kind sh'=true:=by
 obtain⟨e,he,hb⟩:=covL_iff.1 hc
 exact covL_iff.2 ⟨e,he,fun b hb'=>h b (hb b hb')⟩
theorem ent_mem {kind:Int} (hk:kind=1∨kind=2) {e:List Nat×List (List Int)} (he:e∈invT kind) {i:Nat} (hi:i<4):e.1.getD i 0∈e.1:=by
 have h:=ent_k hk he
 unfold entOk at h
 simp only [Bool.and_eq_true] at h
 have hl:e.1.length=4:=Nat.eq_of_beq_eq_true h.1.1
 rw [List.getD_eq_getElem?_getD,List.getElem?_eq_getElem (by omega)]
 exact List.getElem_mem _
theorem cov_uniq {kind:Int} (hk:kind=1∨kind=2) {sh:List Nat} (hc:covL kind sh=true) {d d':List Int} (hd:V4 d) (hd':V4 d') (h:∀ a∈sh,dotM (rowS kind (a:Int)) d=dotM (rowS kind (a:Int)) d'):d=d':=by
 obtain⟨e,he,hb⟩:=covL_iff.1 hc
 have m:=fun i (hi:i<4)=>h _ (hb _ (ent_mem hk he hi))
 rw [←num_back hk he hd,←num_back hk he hd',m 0 (by omega),m 1 (by omega),m 2 (by omega),m 3 (by omega)]
theorem getD_set {α:Type} (l:List α) (i j:Nat) (x d:α) (hi:i<l.length):(l.set i x).getD j d=if i=j then x else l.getD j d:=by
 rw [List.getD_eq_getElem?_getD,List.getD_eq_getElem?_getD]
 by_cases h:i=j
 ·subst h; rw [if_pos rfl,List.getElem?_set_self hi]; rfl
 ·rw [if_neg h,List.getElem?_set_ne h]
theorem stripe_iff {kind:Int} {vals vers:List Int} {there:List Bool}:stripeV kind vals vers there=true↔(kind=1∨kind=2)∧(∀ x∈vals,0≤x∧x≤30)∧vals.length=8∧vers.length=8∧there.length=8∧
  ∀ a,a<8→(there.getD a false=true→(1≤vers.getD a 0∧vers.getD a 0≤99)∧∃ d,V4 d∧∀ b,b<8→there.getD b false=true→vers.getD b 0=vers.getD a 0→vals.getD b 0=dotM (rowS kind (b:Int)) d)∧(there.getD a false=false→vals.getD a 0=0∧vers.getD a 0=0):=by
 constructor
 ·intro h
  obtain⟨hk,hf,h1,h2,h3,ho⟩:=stripeV_k h
  refine⟨hk,hf,h1,h2,h3,fun a ha=>?_⟩
  have:=(okF_iff 8 0).1 ho a (Nat.zero_le _) (by omega)
  refine⟨fun ht=>⟨(this.1 ht).1,?_⟩,this.2⟩
  obtain⟨d,d1,d2⟩:=(fitsV_iff hk h1 hf).1 (this.1 ht).2
  exact⟨d,d1,fun b hb tb vb=>d2 b hb (by rw [ofV_at h2 h3 _ hb,tb,vb]; simp)⟩
 ·rintro ⟨hk, hf, h1, h2, h3, ho⟩
  unfold stripeV
  rw [show inV kind 1 2=true from inV_iff.2 (by omega),valsV_iff.2 ⟨hf,h1,h3⟩,decide_eq_true h2,Bool.true_and,Bool.true_and,Bool.true_and]
  refine(okF_iff 8 0).2 fun a h0 h8=>?_
  have:=ho a (by omega)
  refine⟨fun ht=>⟨(this.1 ht).1,?_⟩,this.2⟩
  obtain⟨d,d1,d2⟩:=(this.1 ht).2
  refine(fitsV_iff hk h1 hf).2 ⟨d,d1,fun b hb tb=>?_⟩
  rw [ofV_at h2 h3 _ hb,Bool.and_eq_true,beq_iff_eq] at tb
  exact d2 b hb tb.1 tb.2
theorem stripe_lose {kind:Int} {vals vers:List Int} {there:List Bool} (h:stripeV kind vals vers there=true) {i:Nat} (hi:i<8):stripeV kind (vals.set i 0) (vers.set i 0) (there.set i false)=true:=by
 obtain⟨hk,hf,h1,h2,h3,ho⟩:=stripe_iff.1 h
 refine stripe_iff.2 ⟨hk,fun x hx=>?_,by rw [List.length_set]; exact h1,by rw [List.length_set]; exact h2,by rw [List.length_set]; exact h3,fun a ha=>?_⟩
 ·rcases List.mem_or_eq_of_mem_set hx with h | rfl
  ·exact hf x h
  ·omega
 ·rw [getD_set _ _ _ _ _ (by omega), getD_set _ _ _ _ _ (by omega), getD_set _ _ _ _ _ (by omega)]
  by_cases e:i=a
  ·rw [if_pos e, if_pos e, if_pos e]
   exact⟨fun h=>(by cases h),fun _=>⟨rfl,rfl⟩⟩
  ·rw [if_neg e, if_neg e, if_neg e]
   refine⟨fun ht=>⟨((ho a ha).1 ht).1,?_⟩,(ho a ha).2⟩
   obtain⟨d,d1,d2⟩:=((ho a ha).1 ht).2
   refine⟨d,d1,fun b hb=>?_⟩
   rw [getD_set _ _ _ _ _ (by omega),getD_set _ _ _ _ _ (by omega),getD_set _ _ _ _ _ (by omega)]
   by_cases e':i=b
   ·rw [if_pos e']; intro h; cases h
   ·rw [if_neg e',if_neg e',if_neg e']; exact d2 b hb
theorem dotV_sum:∀ (a b:List Int) (n:Int),dotV a b n=sumF a b n
 | [], b, n => by unfold dotV sumF; rfl
 | x :: a, [], n => by unfold dotV sumF; rfl
 | x :: a, y :: b, n => by rw [dotV, sumF]; exact dotV_sum a b _
theorem dotV_dotM {u v:List Int} (hu:V4 u) (hv:V4 v):dotV u v 0=dotM u v:=by
 rw [dotV_sum]
 refine Cg.same ?_ (sumF_El _ _ _ hu.mem hv.mem (by omega)) (dotM_El _ _)
 refine(sumF_cg _ _ _).trans (Cg.symm ((Cg.mod _).trans ?_))
 obtain⟨a,b,c,d,rfl,_⟩:=hu
 obtain⟨a',b',c',d',rfl,_⟩:=hv
 refine⟨0,?_⟩
 show a*a'+b*b'+c*c'+d*d'=0+(a*a'+(b*b'+(c*c'+(d*d'+0))))+31*0
 omega
theorem vec_V4 {d:List Int} (h:vecV d=true):V4 d:=V4.of (vecV_iff.1 h).2 (vecV_iff.1 h).1
theorem V4_vec {d:List Int} (h:V4 d):vecV d=true:=vecV_iff.2 ⟨h.mem,h.len⟩
theorem allV_at {kind:Int} (hk:kind=1∨kind=2) {data:List Int} (hd:V4 data) {a:Nat} (ha:a<8):(allV kind data).getD a 0=dotM (rowS kind (a:Int)) data:=by
 unfold allV
 rw [List.getD_eq_getElem?_getD,List.getElem?_map,List.getElem?_range ha]
 exact dotV_dotM (V4.row hk ha) hd
theorem ver_le {vers:List Int} {a:Nat} (ha:a<vers.length):vers.getD a 0≤topV vers 0:=getD_in (P:=fun x=>x≤topV vers 0) (topV_ge vers 0).2 ha
def covV (kind:Int) (vers:List Int) (there:List Bool) (v:Int):Bool:=covL kind (ofL vers there v)
def readL (kind:Int) (vers:List Int) (there:List Bool):Option Int:=(versL vers there).find? (covV kind vers there)
def downF (kind:Int) (vers:List Int) (there:List Bool):Nat→Option Int
 | 0 => none
 | n + 1 => bif covV kind vers there ((n + 1 : Nat) : Int) then some ((n + 1 : Nat) : Int) else downF kind vers there n
theorem ofL_mem' {vers:List Int} {there:List Bool} {v:Int} {a:Nat}:a∈ofL vers there v↔a<8∧there.getD a false=true∧vers.getD a 0=v:=by
 unfold ofL notV
 rw [List.mem_filter,List.mem_range,Bool.not_not,Bool.and_eq_true,beq_iff_eq]
 exact⟨fun⟨h1,h2,h3⟩=>⟨h1,h3,h2⟩,fun⟨h1,h2,h3⟩=>⟨h1,h3,h2⟩⟩
theorem cov_in {kind:Int} (hk:kind=1∨kind=2) {vers:List Int} {there:List Bool} {v:Int} (h:covV kind vers there v=true):v∈versL vers there:=by
 obtain⟨e,he,hb⟩:=covL_iff.1 h
 obtain⟨h1,h2,h3⟩:=ofL_mem'.1 (hb _ (ent_mem hk he (i:=0) (by omega)))
 exact versL_mem.2 ⟨_,h1,h2,h3⟩
theorem down_find (p:Int→Bool):∀ (n:Nat) (L:List Int),L.Pairwise (fun a b=>b<a)→(∀ v∈L,1≤v∧v≤(n:Int))→(∀ v,p v=true→v∈L)→(∀ (f:Nat→Option Int),f 0=none→(∀ m,f (m+1)=bif p ((m+1:Nat):Int)then some ((m+1:Nat):Int)else f m)→f n=L.find? p):=by
 intro n
 induction n with
 | zero =>
  intro L _ hL _ f f0 _
  cases L with
  | nil => exact f0
  | cons v r => have := hL v List.mem_cons_self; omega
 | succ n ih =>
  intro L hd hL hp f f0 fs
  rw [fs n]
  cases L with
  | nil =>
   have:p ((n+1:Nat):Int)=false:=by
    cases c:p ((n+1:Nat):Int)
    ·rfl
    ·exact absurd (hp _ c) (by simp)
   rw [this]
   exact ih [] hd (by simp) hp f f0 fs
  | cons v r =>
   obtain⟨hd1,hd2⟩:=List.pairwise_cons.1 hd
   by_cases e:v=((n+1:Nat):Int)
   ·subst e
    rw [List.find?_cons]
    cases c:p ((n+1:Nat):Int)
    ·show f n = r.find? p
     refine ih r hd2 (fun x hx=>⟨(hL x (List.mem_cons_of_mem _ hx)).1,?_⟩) (fun x hx=>?_) f f0 fs
     ·have:=hd1 x hx; omega
     ·rcases List.mem_cons.1 (hp x hx) with rfl | h
      ·rw [c] at hx; cases hx
      ·exact h
    ·rfl
   ·have hv := hL v List.mem_cons_self
    have:p ((n+1:Nat):Int)=false:=by
     cases c:p ((n+1:Nat):Int)
     ·rfl
     ·rcases List.mem_cons.1 (hp _ c) with h | h
      ·exact absurd h.symm e
      ·have:=hd1 _ h; omega
    rw [this]
    refine ih (v::r) hd (fun x hx=>⟨(hL x hx).1,?_⟩) hp f f0 fs
    rcases List.mem_cons.1 hx with rfl | h
    ·omega
    ·have:=hd1 x h; omega
theorem down_read {kind:Int} {vals vers:List Int} {there:List Bool} (h:stripeV kind vals vers there=true):downF kind vers there (topV vers 0).toNat=readL kind vers there:=by
 obtain⟨hk,hf,h1,h2,h3,ho⟩:=stripe_iff.1 h
 have t0:=(topV_ge vers 0).1
 refine down_find (covV kind vers there) _ _ (versL_desc vers there) (fun v hv=>?_) (fun v hv=>cov_in hk hv) (downF kind vers there) rfl fun m=>rfl
 obtain⟨a,ha,ta,rfl⟩:=versL_mem.1 hv
 have:=ver_le (vers:=vers) (a:=a) (by omega)
 exact⟨(((ho a ha).1 ta).1).1,by omega⟩
theorem told_of {kind:Int} {vals vers:List Int} {there:List Bool} (h:stripeV kind vals vers there=true) {v:Int} (hv:v∈versL vers there):∃ d,V4 d∧∀ a∈ofL vers there v,vals.getD a 0=dotM (rowS kind (a:Int)) d:=by
 obtain⟨hk,hf,h1,h2,h3,ho⟩:=stripe_iff.1 h
 obtain⟨a,ha,ta,rfl⟩:=versL_mem.1 hv
 obtain⟨d,d1,d2⟩:=((ho a ha).1 ta).2
 refine⟨d,d1,fun b hb=>?_⟩
 obtain⟨q1,q2,q3⟩:=ofL_mem'.1 hb
 exact d2 b q1 q2 q3
def Told1 (kind:Int) (vals vers:List Int) (there:List Bool) (v:Int) (d:List Int):Prop:=V4 d∧∀ a∈ofL vers there v,vals.getD a 0=dotM (rowS kind (a:Int)) d
def Tells (kind:Int) (vals vers:List Int) (there:List Bool) (d:List Int):Prop:=match readL kind vers there with
 | none => d = []
 | some v => Told1 kind vals vers there v d
theorem tells_uniq {kind:Int} (hk:kind=1∨kind=2) {vals vers:List Int} {there:List Bool} {d d':List Int} (h:Tells kind vals vers there d) (h':Tells kind vals vers there d'):d=d':=by
 unfold Tells at h h'
 cases hr:readL kind vers there with
 | none => rw [hr] at h h'; exact h.trans h'.symm
 | some v =>
  rw [hr] at h h'
  have hc:=List.find?_some hr
  exact cov_uniq hk hc h.1 h'.1 fun a ha=>(h.2 a ha).symm.trans (h'.2 a ha)
theorem find_ge {p:Int→Bool}:∀ {L:List Int} {v x:Int},L.Pairwise (fun a b=>b<a)→L.find? p=some v→x∈L→p x=true→x≤v
 | a :: r, v, x, hd, hf, hx, hp => by
  rw [List.find?_cons] at hf
  obtain⟨hd1,hd2⟩:=List.pairwise_cons.1 hd
  cases c:p a
  ·rw [c] at hf
   rcases List.mem_cons.1 hx with rfl | hx
   ·rw [c] at hp; cases hp
   ·exact find_ge hd2 hf hx hp
  ·rw [c] at hf
   have hf:some a=some v:=hf
   rw [Option.some.injEq] at hf
   subst hf
   rcases List.mem_cons.1 hx with rfl | hx
   ·exact Int.le_refl _
   ·have:=hd1 x hx; omega
 | [], v, x, _, hf, _, _ => by cases hf
theorem readL_ge {kind:Int} (hk:kind=1∨kind=2) {vers:List Int} {there:List Bool} {v:Int} (hc:covV kind vers there v=true):∃ w,readL kind vers there=some w∧v≤w:=by
 have hv:=cov_in hk hc
 cases hr:readL kind vers there with
 | none => exact absurd hc (List.find?_eq_none.1 hr v hv)
 | some w => exact ⟨w, rfl, find_ge (versL_desc vers there) hr hv hc⟩
noncomputable def firstL (kind:Int):List Nat→List Nat→List Nat
 | _, [] => []
 | p, a :: r => match hasF kind p a with
  | some true => firstL kind (p ++ [a]) r
  | _ => a :: firstL kind (p ++ [a]) r
def okL (kind:Int):List Nat→List Nat→Prop
 | _, [] => True
 | p, a :: r => (∃ b, hasF kind p a = some b) ∧ okL kind (p ++ [a]) r
theorem walk_leaf {kind:Int} (d:Nat):∀ (i:Nat) (sh I:List Nat),walkT kind d i sh I=true→∀ f:Nat→Bool,leafT kind (sh++(List.range' i d).filter f) (I++firstL kind sh ((List.range' i d).filter f))=true∧okL kind sh ((List.range' i d).filter f):=by
 induction d with
 | zero => intro i sh I h f; rw [List.range'_zero, List.filter_nil, List.append_nil, firstL, List.append_nil]; exact ⟨h, trivial⟩
 | succ d ih =>
  intro i sh I h f
  unfold walkT at h
  rw [Bool.and_eq_true] at h
  rw [List.range'_succ,List.filter_cons]
  cases f i with
  | false => exact ih (i + 1) sh I h.1 f
  | true =>
   have h2:=h.2
   split at h2
   ·rename_i hh
    obtain⟨q1,q2⟩:=ih (i+1) (sh ++ [i]) I h2 f
    rw [if_pos rfl,firstL,hh]
    rw [List.append_assoc] at q1
    exact⟨q1,⟨true,hh⟩,q2⟩
   ·rename_i hh
    obtain⟨q1,q2⟩:=ih (i+1) (sh ++ [i]) (I ++ [i]) h2 f
    rw [if_pos rfl,firstL,hh]
    rw [List.append_assoc,List.append_assoc] at q1
    exact⟨q1,⟨false,hh⟩,q2⟩
   ·cases h2
theorem leaf_k {kind:Int} (hk:kind=1∨kind=2) (th:List Bool):leafT kind (thereL th 0 8) (firstL kind [] (thereL th 0 8))=true∧okL kind [] (thereL th 0 8):=by
 have h:=walk_leaf 8 0 [] [] (wk_k hk) (fun a=>th.getD a false)
 exact h
theorem tidy_nat {β:Type} (m:List (List Int)) (K:List (List Int)→List (List Int)→Option β):spec_l3Tidy_.G sl1 m K=(spec_l3Tidy_.G sl1 m (fun a b=>some (a,b))).bind (fun r=>K r.1 r.2):=by
 have h:∀ {γ:Type} (K:List (List Int)→List (List Int)→Option γ),spec_l3Tidy_.G sl0 m K=(spec_l3Tidy_.G sl0 m (fun a b=>some ((a,()),(b,())))).bind (fun y=>K y.1.1 y.2.1):=fun K=>spec_l3Tidy_.ok.nat ((m,()),()) (fun y=>K y.1.1 y.2.1)
 rw [sl_eq] at h
 rw [h K,h (fun a b=>some (a,b)),Option.bind_assoc]; rfl
theorem rowsF_app (kind:Int) (a b:List Nat):rowsF kind (a++b)=rowsF kind a++rowsF kind b:=List.map_append
theorem rowsF_len (kind:Int) (a:List Nat):(rowsF kind a).length=a.length:=List.length_map _
theorem rows_l {β:Type} {kind:Int} (hk:kind=1∨kind=2) {th:List Bool} (h8:th.length=8) (kx:List (List Int)→Option β) (kr:Option β) (d:Nat):∀ (i n:Nat) (acc:List Nat),i+d=8→acc.length≤i→d<n→
  spec_l4Rows.l3 sl1 n kx kr (rowsF kind acc) kind th (i:Int)=kx (rowsF kind (acc++thereL th i d)):=by
 induction d with
 | zero =>
  intro i n acc hi ha hn
  obtain⟨n,rfl⟩:∃ m,n=m+1:=⟨n-1,by omega⟩
  rw [spec_l4Rows.t3,show thereL th i 0 = [] from rfl,List.append_nil]; exact cF (ltF (by omega)) rfl
 | succ d ih =>
  intro i n acc hi ha hn
  obtain⟨n,rfl⟩:∃ m,n=m+1:=⟨n-1,by omega⟩
  rw [spec_l4Rows.t3]
  unfold spec_l4Rows.b3
  refine cT (ltT (by omega)) (cT (irT (by omega) (by omega)) ?_)
  rw [getC false,w_succ (by omega)]
  cases ct:th.getD i false
  ·have e : thereL th i (d + 1) = thereL th (i + 1) d := by unfold thereL; rw [List.range'_succ, List.filter_cons_of_neg (by rw [ct]; exact Bool.false_ne_true)]
   rw [e]
   exact cF rfl (ih (i+1) n acc (by omega) (by omega) (by omega))
  ·have e : thereL th i (d + 1) = i :: thereL th (i + 1) d := by unfold thereL; rw [List.range'_succ]; exact List.filter_cons_of_pos (p := fun a => th.getD a false) ct
   have hn:=ih (i+1) n (acc ++ [i]) (by omega) (by rw [List.length_append,List.length_singleton]; omega) (by omega)
   rw [List.append_assoc,rowsF_app kind acc [i]] at hn
   rw [e]
   exact cT rfl ((row_G hk (by omega) _).trans (cT (fwT (by rw [List.length_append,rowsF_len,List.length_singleton]; omega)) hn))
theorem rows_G {β:Type} {kind:Int} (hk:kind=1∨kind=2) {th:List Bool} (h8:th.length=8) (K:List (List Int)→Option β):spec_l4Rows.G sl1 kind th K=K (rowsF kind (thereL th 0 8)):=
 rows_l hk h8 (fun y=>K y) none 8 0 sl1.n [] (by omega) (by simp) (by rw [rounds_n]; omega)
theorem codeBears_G {β:Type} {kind:Int} (hk:kind=1∨kind=2) {th:List Bool} (h8:th.length=8) (K:Bool→Option β):spec_CodeBears.G sl1 kind th K=K (covL kind (thereL th 0 8)):=by
 have hl:=(leaf_k hk th).1
 unfold leafT at hl
 rw [Bool.and_eq_true] at hl
 unfold spec_CodeBears.G
 refine(spec_kind _ _).trans ?_
 rw [inV_iff.2 (show 1≤kind∧kind≤2 by omega)]
 refine cT rfl (cT (eqT (by omega)) ((rows_G hk h8 _).trans ((tidy_nat _ _).trans ?_)))
 have h1:=hl.1
 unfold tidyN at h1
 rw [tidy_nat] at h1
 cases ht:spec_l3Tidy_.G sl1 (rowsF kind (thereL th 0 8)) (fun a b=>some (a,b)) with
 | none => rw [ht] at h1; cases h1
 | some r =>
  rw [ht] at h1
  obtain⟨a,b⟩:=r
  show K (sl1.eq (b.length:Int) 4)=_
  congr 1
  have h1:(bif Nat.beq b.length 4 then covL kind (thereL th 0 8)else !covL kind (thereL th 0 8))=true:=h1
  by_cases c:b.length=4
  ·rw [eqT (by omega)]
   rw [c] at h1
   exact h1.symm
  ·rw [eqF (by omega)]
   cases cb:Nat.beq b.length 4
   ·rw [cb] at h1
    cases cc:covL kind (thereL th 0 8)
    ·rfl
    ·rw [cc] at h1; cases h1
   ·exact absurd (Nat.eq_of_beq_eq_true cb) c
noncomputable def idxL (kind:Int):List Nat→List Nat→Nat→List Nat
 | _, [], _ => []
 | p, a :: r, j => match hasF kind p a with
  | some true => idxL kind (p ++ [a]) r (j + 1)
  | _ => j :: idxL kind (p ++ [a]) r (j + 1)
theorem idxL_spec (kind:Int):∀ (r p:List Nat),(∀ j∈idxL kind p r p.length,j<p.length+r.length)∧(idxL kind p r p.length).map (fun j=>(p++r).getD j 0)=firstL kind p r
 | [], p => by unfold idxL firstL; simp
 | a :: r, p => by
  obtain⟨h1,h2⟩:=idxL_spec kind r (p ++ [a])
  rw [List.length_append,List.length_singleton] at h1 h2
  rw [List.append_assoc] at h2
  unfold idxL firstL
  have hg:(p++a::r).getD p.length 0=a:=by simp
  rw [List.length_cons]
  split
  ·exact⟨fun j hj=>by have:=h1 j hj; omega,h2⟩
  ·refine ⟨fun j hj => ?_, ?_⟩
   ·rcases List.mem_cons.1 hj with rfl | hj
    ·omega
    ·have:=h1 j hj; omega
   ·rw [List.map_cons, hg]
    exact congrArg _ h2
theorem first_l {β:Type} (kind:Int) (sh:List Nat) (hl:sh.length≤8) (kx:List Int→Option β) (kr:Option β):∀ (r p:List Nat) (acc:List Nat) (n:Nat),p++r=sh→acc.length≤p.length→r.length<n→okL kind p r→
  spec_l3First.l3 sl1 n kx kr (shI acc) (rowsF kind sh) (p.length:Int)=kx (shI (acc++idxL kind p r p.length))
 | [], p, acc, n, hs, ha, hn, ho => by
  obtain⟨n,rfl⟩:∃ m,n=m+1:=⟨n-1,by omega⟩
  rw [List.append_nil] at hs
  rw [spec_l3First.t3,idxL,List.append_nil]; exact cF (ltF (by rw [rowsF_len,hs]; omega)) rfl
 | a :: r, p, acc, n, hs, ha, hn, ho => by
  rw [List.length_cons] at hn
  obtain⟨n,rfl⟩:∃ m,n=m+1:=⟨n-1,by omega⟩
  obtain⟨⟨b,hb⟩,ho⟩:=ho
  have hsl:sh.length=p.length+1+r.length:=by rw [←hs]; simp; omega
  have eg:List.getD (rowsF kind sh) (Int.toNat (p.length:Int)) []=rowS kind (a:Int):=by
   rw [Int.toNat_natCast,←hs,rowsF_app]
   unfold rowsF
   rw [List.map_cons]
   exact getD_mid _ _ _ _ _ (by rw [List.length_map])
  have ec:cutL (rowsF kind sh) (Int.toNat 0) (Int.toNat (p.length:Int))=rowsF kind p:=by
   unfold cutL
   rw [Int.toNat_natCast,←hs,rowsF_app]
   show((rowsF kind p++rowsF kind (a::r)).take p.length).drop 0=_
   rw [List.drop_zero,List.take_append_of_le_length (by rw [rowsF_len]; omega),List.take_of_length_le (by rw [rowsF_len]; omega)]
  have next:=fun acc ha=>first_l kind sh hl kx kr r (p ++ [a]) acc n (by rw [List.append_assoc]; exact hs) ha (by omega) ho
  simp only [List.length_append,List.length_singleton] at next
  rw [spec_l3First.t3,idxL]
  unfold spec_l3First.b3
  rw [eg,ec,w_succ (by omega),hb]
  have hlr:(rowsF kind sh).length=sh.length:=rowsF_len kind sh
  refine cT (ltT (by omega)) (cT (andT (andT (andT rfl (leT (by omega))) (leT (by omega))) (leT (by omega))) (cT (irT (by omega) (by omega)) ((has_nat _ _ _).trans ?_)))
  change (hasF kind p a).bind _=_
  rw [hb]
  cases b
  ·refine cT (fwT (by rw [List.length_append, shI_len, List.length_singleton]; omega)) ?_
   have e:=next (acc ++ [p.length]) (by simp; omega)
   rw [List.append_assoc,shI_app acc [p.length]] at e
   exact e
  ·exact next acc (by omega)
theorem pick_l {β:Type} (sh F:List Nat) (hF:∀ j∈F,j<sh.length) (h8:F.length≤8) (kx:List Int→Option β) (kr:Option β) (d:Nat):∀ (i n:Nat) (acc:List Nat),i+d=F.length→acc.length≤i→d<n→
  spec_l13From.l10 sl1 n kx kr (shI sh) (shI F) (shI acc) (i:Int)=kx (shI (acc++(F.drop i).map fun j=>sh.getD j 0)):=by
 induction d with
 | zero =>
  intro i n acc hi ha hn
  obtain⟨n,rfl⟩:∃ m,n=m+1:=⟨n-1,by omega⟩
  rw [spec_l13From.t10,List.drop_of_length_le (by omega),List.map_nil,List.append_nil]; exact cF (ltF (by rw [shI_len]; omega)) rfl
 | succ d ih =>
  intro i n acc hi ha hn
  obtain⟨n,rfl⟩:∃ m,n=m+1:=⟨n-1,by omega⟩
  have h1:i<F.length:=by omega
  have h2:=hF _ (List.getElem_mem h1)
  have e:=ih (i+1) n (acc ++ [sh.getD F[i] 0]) (by omega) (by simp; omega) (by omega)
  rw [List.append_assoc,shI_app acc [sh.getD F[i] 0]] at e
  rw [spec_l13From.t10,List.drop_eq_getElem_cons h1,List.map_cons]
  unfold spec_l13From.b10
  rw [shI_get h1,w_succ (by omega),shI_get h2]
  have eg:sh.getD F[i] 0=sh[F[i]]:=by rw [List.getD_eq_getElem?_getD,List.getElem?_eq_getElem h2]; rfl
  rw [eg] at e ⊢
  exact cT (ltT (by rw [shI_len]; omega)) (cT (irT (by omega) (by rw [shI_len]; omega)) (cT (irT (by omega) (by rw [shI_len]; omega)) (cT (fwT (by rw [List.length_append,shI_len,List.length_singleton]; omega)) e)))
theorem flag13_l {β:Type} (kind:Int) {th:List Bool} (h8:th.length=8) (kx:List Int→Int→List Bool→Option β) (kr:Option β) (d:Nat):∀ (i n:Nat) (acc:List Nat),i+d=8→acc.length≤i→d<n→
  spec_l13From.l3 sl1 n kx kr (shI acc) kind th (i:Int)=kx (shI (acc++thereL th i d)) kind th:=by
 induction d with
 | zero =>
  intro i n acc hi ha hn
  obtain⟨n,rfl⟩:∃ m,n=m+1:=⟨n-1,by omega⟩
  rw [spec_l13From.t3,show thereL th i 0 = [] from rfl,List.append_nil]; exact cF (ltF (by omega)) rfl
 | succ d ih =>
  intro i n acc hi ha hn
  obtain⟨n,rfl⟩:∃ m,n=m+1:=⟨n-1,by omega⟩
  rw [spec_l13From.t3]
  unfold spec_l13From.b3
  refine cT (ltT (by omega)) (cT (irT (by omega) (by omega)) ?_)
  rw [getC false,w_succ (by omega)]
  cases ct:th.getD i false
  ·have e : thereL th i (d + 1) = thereL th (i + 1) d := by unfold thereL; rw [List.range'_succ, List.filter_cons_of_neg (by rw [ct]; exact Bool.false_ne_true)]
   rw [e]
   exact cF rfl (ih (i+1) n acc (by omega) (by omega) (by omega))
  ·have e : thereL th i (d + 1) = i :: thereL th (i + 1) d := by unfold thereL; rw [List.range'_succ]; exact List.filter_cons_of_pos (p := fun a => th.getD a false) ct
   have hn:=ih (i+1) n (acc ++ [i]) (by omega) (by rw [List.length_append,List.length_singleton]; omega) (by omega)
   rw [List.append_assoc,shI_app acc [i]] at hn
   rw [e]
   exact cT rfl (cT (fwT (by rw [List.length_append,shI_len,List.length_singleton]; omega)) hn)
theorem from_G {β:Type} {kind:Int} (hk:kind=1∨kind=2) {th:List Bool} (h8:th.length=8) (K:List Int→Option β):spec_l13From.G sl1 kind th K=K (shI (firstL kind [] (thereL th 0 8))):=by
 have ho:=(leaf_k hk th).2
 have hl:=thereL_len th
 obtain⟨q1,q2⟩:=idxL_spec kind (thereL th 0 8) []
 have q3:(idxL kind [] (thereL th 0 8) 0).length≤8:=by
  have h:∀ (r p:List Nat) (j:Nat),(idxL kind p r j).length≤r.length:=by
   intro r
   induction r with
   | nil => intro p j; exact Nat.le_refl _
   | cons a r ih =>
    intro p j
    unfold idxL
    split
    ·exact Nat.le_succ_of_le (ih _ _)
    ·exact Nat.succ_le_succ (ih _ _)
  exact Nat.le_trans (h _ _ _) hl
 unfold spec_l13From.G
 refine(flag13_l kind h8 _ none 8 0 sl1.n [] (by omega) (by simp) (by rw [rounds_n]; omega)).trans ((rows_G hk h8 _).trans ?_)
 unfold spec_l3First.G
 refine(first_l kind (thereL th 0 8) hl _ none (thereL th 0 8) [] [] sl1.n (by simp) (by simp) (by rw [rounds_n]; omega) ho).trans ?_
 refine(pick_l (thereL th 0 8) (idxL kind [] (thereL th 0 8) 0) (fun j hj=>by have:=q1 j hj; simpa using this) q3 _ none (idxL kind [] (thereL th 0 8) 0).length 0 sl1.n [] (by omega) (by simp) (by rw [rounds_n]; omega)).trans ?_
 rw [List.drop_zero,List.nil_append]
 exact congrArg (fun x=>K (shI x)) q2
theorem unit_G {β:Type} {i:Nat} (hi:i<4) (K:List Int→Bool→Option β):spec_VecUnit.G sl1 (i:Int) K=K (unit4 i) true:=by
 match i,hi with
 | 0, _ => refine keq ?_; kernel_rfl
 | 1, _ => refine keq ?_; kernel_rfl
 | 2, _ => refine keq ?_; kernel_rfl
 | 3, _ => refine keq ?_; kernel_rfl
theorem by_G {β:Type} {kind:Int} (hk:kind=1∨kind=2) {e:List Nat×List (List Int)} (he:e∈invT kind) {i:Nat} (hi:i<4) (K:List Int→Bool→Option β):spec_l3By.G sl1 (rowsF kind e.1) (unit4 i) K=K (e.2.getD i []) true:=by
 have h:=by_k hk he
 unfold byE at h
 have h:=List.all_eq_true.1 h i (by match i,hi with
  | 0, _ => simp
  | 1, _ => simp
  | 2, _ => simp
  | 3, _ => simp)
 rw [by_nat]
 split at h
 ·rename_i r b hr
  rw [hr]
  rw [Bool.and_eq_true] at h
  rw [eqZ_eq h.2,h.1]; rfl
 ·cases h
theorem sum14_l {β:Type} (kx:List (List Int)→List Int→List Int→List Int→Int→Int→Option β) (kr:Option β) (rows:List (List Int)) (out:List Int) {vals:List Int} (hv:L8 vals) (B:List Nat) (hB:∀ b∈B,b<8) (h8:B.length≤8) (s4:Int) (r:List Int) (hr:∀ x∈r,0≤x∧x≤30) (hl:r.length=B.length) (d:Nat):
  ∀ (j n:Nat) (v:Int),j+d=B.length→d<n→0≤v∧v≤30→spec_l13Data.l14 sl1 n kx kr rows out vals (shI B) s4 r v (j:Int)=kx rows out vals (shI B) s4 (sumF (r.drop j) ((B.drop j).map fun(b:Nat)=>vals.getD b 0) v):=by
 induction d with
 | zero =>
  intro j n v hj hn hv'
  obtain⟨n,rfl⟩:∃ m,n=m+1:=⟨n-1,by omega⟩
  rw [spec_l13Data.t14,List.drop_of_length_le (by omega:B.length≤j),List.drop_of_length_le (by omega:r.length≤j)]; exact cF (ltF (by rw [shI_len]; omega)) rfl
 | succ d ih =>
  intro j n v hj hn hv'
  obtain⟨n,rfl⟩:∃ m,n=m+1:=⟨n-1,by omega⟩
  have j1:j<B.length:=by omega
  have j2:j<r.length:=by omega
  have b8:=hB _ (List.getElem_mem j1)
  have m:=mod31 hv' (hr _ (List.getElem_mem j2)) (hv.at b8)
  have e:=ih (j+1) n (Int.tmod (v+r[j]*vals.getD B[j] 0) 31) (by omega) (by omega) m.2
  rw [spec_l13Data.t14,List.drop_eq_getElem_cons j1,List.drop_eq_getElem_cons j2,List.map_cons,sumF]
  unfold spec_l13Data.b14
  rw [shI_get j1,w_succ (by omega),getN r j j2,Int.toNat_natCast,m.1]
  exact cT (ltT (by rw [shI_len]; omega)) (cT (irT (by omega) (by omega)) (cT (irT (by omega) (by rw [shI_len]; omega)) (cT (irT (by omega) (by rw [hv.1]; omega)) e)))
theorem num13_l {β:Type} (kx:List Int→Option β) (kr:Option β) {kind:Int} (hk:kind=1∨kind=2) {e:List Nat×List (List Int)} (he:e∈invT kind) {vals:List Int} (hv:L8 vals) (hB:∀ b∈e.1,b<8) (h4:e.1.length=4) (hM:∀ i,i<4→(e.2.getD i []).length=4∧∀ x∈e.2.getD i [],0≤x∧x≤30) (d:Nat):
  ∀ (i n:Nat),i+d=4→d<n→spec_l13Data.l8 sl1 n kx kr (rowsF kind e.1) ((List.range i).map fun c=>sumF (e.2.getD c []) (e.1.map fun(b:Nat)=>vals.getD b 0) 0) vals (shI e.1) (i:Int)=kx ((List.range 4).map fun c=>sumF (e.2.getD c []) (e.1.map fun(b:Nat)=>vals.getD b 0) 0):=by
 induction d with
 | zero =>
  intro i n hi hn
  obtain⟨n,rfl⟩:∃ m,n=m+1:=⟨n-1,by omega⟩
  obtain rfl:i=4:=by omega
  rw [spec_l13Data.t8]; exact cF (ltF (by omega)) rfl
 | succ d ih =>
  intro i n hi hn
  obtain⟨n,rfl⟩:∃ m,n=m+1:=⟨n-1,by omega⟩
  have e1:=ih (i+1) n (by omega) (by omega)
  rw [List.range_succ,List.map_append] at e1
  obtain⟨q1,q2⟩:=hM i (by omega)
  rw [spec_l13Data.t8]
  unfold spec_l13Data.b8
  refine cT (ltT (by omega)) ((unit_G (by omega) _).trans ((by_G hk he (by omega) _).trans ((sum14_l _ none _ _ hv e.1 hB (by omega) (i:Int) (e.2.getD i []) q2 (by omega) e.1.length 0 sl1.n 0 (by omega) (by rw [rounds_n]; omega) (by omega)).trans ?_)))
  rw [List.drop_zero,List.drop_zero,w_succ (by omega)]
  exact cT (fwT (by simp; omega)) e1
theorem rows13_l {β:Type} (kx:List (List Int)→List Int→List Int→Option β) (kr:Option β) {kind:Int} (hk:kind=1∨kind=2) (vals:List Int) (B:List Nat) (hB:∀ b∈B,b<8) (h8:B.length≤8) (d:Nat):∀ (i n:Nat),i+d=B.length→d<n→
  spec_l13Data.l3 sl1 n kx kr (rowsF kind (B.take i)) kind vals (shI B) (i:Int)=kx (rowsF kind B) vals (shI B):=by
 induction d with
 | zero =>
  intro i n hi hn
  obtain⟨n,rfl⟩:∃ m,n=m+1:=⟨n-1,by omega⟩
  rw [spec_l13Data.t3,List.take_of_length_le (by omega)]; exact cF (ltF (by rw [shI_len]; omega)) rfl
 | succ d ih =>
  intro i n hi hn
  obtain⟨n,rfl⟩:∃ m,n=m+1:=⟨n-1,by omega⟩
  have h1:i<B.length:=by omega
  have e:=ih (i+1) n (by omega) (by omega)
  rw [List.take_succ_eq_append_getElem h1,rowsF_app] at e
  rw [spec_l13Data.t3]
  unfold spec_l13Data.b3
  rw [shI_get h1,w_succ (by omega)]
  exact cT (ltT (by rw [shI_len]; omega)) (cT (irT (by omega) (by rw [shI_len]; omega)) ((row_G hk (hB _ (List.getElem_mem h1)) _).trans (cT (fwT (by rw [List.length_append,rowsF_len,List.length_take,List.length_singleton]; omega)) e)))
theorem num_sum {m v0 v1 v2 v3:Int} {r:List Int} (hl:r.length=4) (hr:∀ x∈r,0≤x∧x≤30) (h0:0≤v0∧v0≤30) (h1:0≤v1∧v1≤30) (h2:0≤v2∧v2≤30) (h3:0≤v3∧v3≤30):
  sumF r [v0,v1,v2,v3] 0=(r.getD 0 0*v0+r.getD 1 0*v1+r.getD 2 0*v2+r.getD 3 0*v3)%31:=by
 refine Cg.same ?_ (sumF_El _ _ _ hr (fun x hx=>?_) (by omega)) (by omega)
 ·refine (sumF_cg _ _ _).trans (Cg.symm ((Cg.mod _).trans ?_))
  match r,hl with
  | [a, b, c, d], _ =>
   refine⟨0,?_⟩
   show a*v0+b*v1+c*v2+d*v3=0+(a*v0+(b*v1+(c*v2+(d*v3+0))))+31*0
   omega
 ·simp only [List.mem_cons, List.not_mem_nil, or_false] at hx
  rcases hx with rfl | rfl | rfl | rfl <;> assumption
theorem data13_G {β:Type} {kind:Int} (hk:kind=1∨kind=2) {e:List Nat×List (List Int)} (he:e∈invT kind) {vals:List Int} (hv:L8 vals) {d:List Int} (hd:V4 d) (h:∀ b∈e.1,vals.getD b 0=dotM (rowS kind (b:Int)) d) (K:List Int→Option β):spec_l13Data.G sl1 kind vals (shI e.1) K=K d:=by
 have hx:=ent_k hk he
 unfold entOk at hx
 simp only [Bool.and_eq_true] at hx
 have h4:e.1.length=4:=Nat.eq_of_beq_eq_true hx.1.1
 have hB:∀ b∈e.1,b<8:=fun b hb=>by
  have:=List.all_eq_true.1 hx.1.2 b hb
  simpa using this
 have hs:=small_k hk he
 unfold smallE at hs
 have back:=num_back hk he hd
 have hM:∀ i,i<4→(e.2.getD i []).length=4∧∀ x∈e.2.getD i [],0≤x∧x≤30:=fun i hi=>by
  have:=by_k hk he
  unfold byE at this
  by_cases c:i<e.2.length
  ·have hm : e.2.getD i [] ∈ e.2 := by rw [List.getD_eq_getElem?_getD, List.getElem?_eq_getElem c]; exact List.getElem_mem c
   have:=List.all_eq_true.1 hs _ hm
   simp only [Bool.and_eq_true] at this
   exact⟨Nat.eq_of_beq_eq_true this.1,fun x hx=>inV_iff.1 (List.all_eq_true.1 this.2 x hx)⟩
  ·exfalso
   have hlen:=mat_k hk he
   omega
 have hg:∀ i,i<4→vals.getD (e.1.getD i 0) 0=dotM (rowS kind ((e.1.getD i 0:Nat):Int)) d:=fun i hi=>h _ (ent_mem hk he hi)
 unfold spec_l13Data.G
 refine(rows13_l _ none hk vals e.1 hB (by omega) e.1.length 0 sl1.n (by omega) (by rw [rounds_n]; omega)).trans ((num13_l (fun y=>K y) none hk he hv hB h4 hM 4 0 sl1.n (by omega) (by rw [rounds_n]; omega)).trans ?_)
 congr 1
 rw [←back]
 have em:(e.1.map fun(b:Nat)=>vals.getD b 0) = [vals.getD (e.1.getD 0 0) 0,vals.getD (e.1.getD 1 0) 0,vals.getD (e.1.getD 2 0) 0,vals.getD (e.1.getD 3 0) 0]:=by
  match e.1,h4 with
  | [a, b, c, d], _ => rfl
 have el:∀ i,i<4→0≤vals.getD (e.1.getD i 0) 0∧vals.getD (e.1.getD i 0) 0≤30:=fun i hi=>hv.at (hB _ (ent_mem hk he hi))
 rw [em]
 have s:=fun c (hc:c<4)=>num_sum (m:=0) (hM c hc).1 (hM c hc).2 (el 0 (by omega)) (el 1 (by omega)) (el 2 (by omega)) (el 3 (by omega))
 rw [hg 0 (by omega),hg 1 (by omega),hg 2 (by omega),hg 3 (by omega)] at s ⊢
 show [sumF (e.2.getD 0 []) _ 0,sumF (e.2.getD 1 []) _ 0,sumF (e.2.getD 2 []) _ 0,sumF (e.2.getD 3 []) _ 0]=_
 rw [s 0 (by omega),s 1 (by omega),s 2 (by omega),s 3 (by omega)]
 rfl
theorem cov_of {kind:Int} {vers:List Int} {there:List Bool} (h2:vers.length=8) (h3:there.length=8) (v:Int):covL kind (thereL (ofV vers there v) 0 8)=covV kind vers there v:=by
 have m:∀ b,b∈thereL (ofV vers there v) 0 8↔b∈ofL vers there v:=fun b=>thereL_mem.trans (ofL_mem h2 h3).symm
 rw [Bool.eq_iff_iff]
 exact⟨covL_mono fun b hb=>(m b).1 hb,covL_mono fun b hb=>(m b).2 hb⟩
theorem read13_E {kind:Int} {vals vers:List Int} {there:List Bool} (h:stripeV kind vals vers there=true) {v:Int} (hc:covV kind vers there v=true):
  ∃ d,Told1 kind vals vers there v d∧∀ (β:Type) (K:List Int→Bool→Option β),spec_l13Read.G sl1 kind vals (ofV vers there v) K=K d true:=by
 obtain⟨hk,hf,h1,h2,h3,ho⟩:=stripe_iff.1 h
 obtain⟨d,d1,d2⟩:=told_of h (cov_in hk hc)
 refine⟨d,⟨d1,d2⟩,fun β K=>?_⟩
 have hl:=(leaf_k hk (ofV vers there v)).1
 unfold leafT at hl
 rw [cov_of h2 h3,hc,Bool.and_eq_true] at hl
 obtain⟨e,he,heq⟩:=List.any_eq_true.1 hl.2
 have heq:=eqN_eq heq
 have fit:fitsV kind vals (ofV vers there v)=true:=(fitsV_iff hk h1 hf).2 ⟨d,d1,fun a ha ta=>d2 a ((ofL_mem h2 h3).2 ⟨ha,ta⟩)⟩
 unfold spec_l13Read.G
 refine(codeBears_G hk (ofV_len h2 h3) _).trans ?_
 rw [cov_of h2 h3,hc]
 refine cF rfl ((fits_G hk h1 hf (ofV_len h2 h3) _).trans ?_)
 rw [fit]
 refine cF rfl ((from_G hk (ofV_len h2 h3) _).trans ?_)
 rw [←heq]
 have sub:∀ b∈e.1,b∈thereL (ofV vers there v) 0 8:=fun b hb=>by
  have hs:∀ (r p:List Nat),∀ x∈firstL kind p r,x∈r:=by
   intro r
   induction r with
   | nil => intro p x hx; cases hx
   | cons a r ih =>
    intro p x hx
    unfold firstL at hx
    split at hx
    ·exact List.mem_cons_of_mem _ (ih _ x hx)
    ·rcases List.mem_cons.1 hx with rfl | hx
     ·exact List.mem_cons_self
     ·exact List.mem_cons_of_mem _ (ih _ x hx)
  exact hs _ _ b (heq ▸ hb)
 exact data13_G hk he ⟨h1,hf⟩ d1 (fun b hb=>d2 b ((ofL_mem h2 h3).2 (thereL_mem.1 (sub b hb)))) _
theorem down_l {β:Type} {kind:Int} (hk:kind=1∨kind=2) (vals:List Int) {vers:List Int} {there:List Bool} (h2:vers.length=8) (h3:there.length=8) (D:Int→List Int) (hD:∀ v,covV kind vers there v=true→∀ (β:Type) (K:List Int→Bool→Option β),spec_l13Read.G sl1 kind vals (ofV vers there v) K=K (D v) true)
  (kx : Option β) (kr : List Int → Int → Bool → Option β) : ∀ (m n : Nat), m ≤ 1000 → m < n → spec_l21Read.l2 sl1 n kx kr kind vals vers there (m : Int) = match downF kind vers there m with
   | none => kx
   | some v => kr (D v) v true
 | 0, n, hm, hn => by
  obtain⟨n,rfl⟩:∃ m,n=m+1:=⟨n-1,by omega⟩
  rw [spec_l21Read.t2]; exact cF (ltF (by omega)) rfl
 | m + 1, n, hm, hn => by
  obtain⟨n,rfl⟩:∃ m,n=m+1:=⟨n-1,by omega⟩
  have e:=down_l hk vals h2 h3 D hD kx kr m n (by omega) (by omega)
  rw [spec_l21Read.t2,downF]
  unfold spec_l21Read.b2
  have w1:sl1.w (((m+1:Nat):Int)-1)=(m:Int):=by rw [wE (by omega) (by omega)]; omega
  rw [w1]
  refine cT (ltT (by omega)) ((of_G kind vals vers there _ (by omega) (by omega) _).trans ((codeBears_G hk (ofV_len h2 h3) _).trans ?_))
  rw [cov_of h2 h3]
  cases c:covV kind vers there ((m+1:Nat):Int)
  ·exact cF rfl e
  ·exact cT rfl ((of_G kind vals vers there _ (by omega) (by omega) _).trans (hD _ c _ _))
theorem readS_E {kind:Int} {vals vers:List Int} {there:List Bool} (h:stripeV kind vals vers there=true):
  ∃ d,Tells kind vals vers there d∧∀ (β:Type) (K:List Int→Int→Bool→Option β),spec_l21Read.G sl1 kind vals vers there K=K d ((readL kind vers there).getD 0) (readL kind vers there).isSome:=by
 obtain⟨hk,hf,h1,h2,h3,ho⟩:=stripe_iff.1 h
 have ex:=fun v (hv:covV kind vers there v=true)=>read13_E h hv
 obtain⟨D,hD⟩:∃ D:Int→List Int,∀ v,covV kind vers there v=true→Told1 kind vals vers there v (D v)∧∀ (β:Type) (K:List Int→Bool→Option β),spec_l13Read.G sl1 kind vals (ofV vers there v) K=K (D v) true:=by
  classical
  refine⟨fun v=>if hv:covV kind vers there v=true then Classical.choose (ex v hv)else [],fun v hv=>?_⟩
  dsimp only
  rw [dif_pos hv]
  exact Classical.choose_spec (ex v hv)
 have t0:=(topV_ge vers 0).1
 have t9:topV vers 0≤99:=topV_le vers 0 (by omega) fun x hx=>by
  obtain⟨a,ha,rfl⟩:=List.getElem_of_mem hx
  have e:vers.getD a 0=vers[a]:=by rw [List.getD_eq_getElem?_getD,List.getElem?_eq_getElem ha]; rfl
  have:=ho a (by omega)
  rw [e] at this
  cases ct:there.getD a false
  ·have:=(this.2 ct).2; omega
  ·exact((this.1 ct).1).2
 have et:topV vers 0=(((topV vers 0).toNat:Nat):Int):=(Int.toNat_of_nonneg t0).symm
 have e:=fun(β:Type) (kx:Option β) (kr:List Int→Int→Bool→Option β)=>down_l hk vals h2 h3 D (fun v hv=>(hD v hv).2) kx kr (topV vers 0).toNat sl1.n (by omega) (by rw [rounds_n]; omega)
 rw [down_read h,←et] at e
 unfold Tells
 cases hr:readL kind vers there with
 | none =>
  rw [hr] at e
  exact⟨[],rfl,fun β K=>(top_G kind vals vers there (by omega) _).trans (e _ _ _)⟩
 | some v =>
  rw [hr] at e
  exact⟨D v,(hD v (List.find?_some hr)).1,fun β K=>(top_G kind vals vers there (by omega) _).trans (e _ _ _)⟩
theorem clipI_G {β:Type} (l:List Int) (K:List Int→Option β):slices_Clip_Sint_int_.G sl1 l K=K l:=by
 unfold slices_Clip_Sint_int_.G
 rw [Int.toNat_natCast,List.take_length]
 exact cT (andT (andT (leT (by omega)) (leT (by omega))) (leT (by omega))) rfl
theorem clipB_G {β:Type} (l:List Bool) (K:List Bool→Option β):slices_Clip_Sbool_bool_.G sl1 l K=K l:=by
 unfold slices_Clip_Sbool_bool_.G
 rw [Int.toNat_natCast,List.take_length]
 exact cT (andT (andT (leT (by omega)) (leT (by omega))) (leT (by omega))) rfl
theorem copied_G {β:Type} (kind:Int) {vals vers:List Int} {there:List Bool} (h1:vals.length≤1000000) (h2:vers.length≤1000000) (h3:there.length≤1000000) (K:List Int→List Int→List Bool→Int→Option β):impl_Stripe_copied.G sl1 kind vals vers there K=K vals vers there kind:=by
 unfold impl_Stripe_copied.G slices_Clone_Sint_int.G slices_Clone_Sbool_bool.G
 exact cT (fwT (by omega)) ((clipI_G _ _).trans (cT (fwT (by omega)) ((clipI_G _ _).trans (cT (fwT (by omega)) (clipB_G _ _)))))
theorem shard_G {β:Type} (a:Int) (K:Bool→Option β):impl_shardOk.G sl1 a K=K (inV a 0 7):=impl_in a 0 7 K
noncomputable def loseV (kind:Int) (vals vers:List Int) (there:List Bool) (at_:Int):List Int×List Int×List Bool×Int:=
 bif stripeV kind vals vers there&&inV at_ 0 7 then(vals.set at_.toNat 0,vers.set at_.toNat 0,there.set at_.toNat false,kind)else([],[],[],0)
theorem implLose_G {β:Type} (kind:Int) {vals vers:List Int} {there:List Bool} (at_:Int) (K:List Int→List Int→List Bool→Int→Option β):
  impl_StripeLose.G sl1 kind vals vers there at_ K=K (loseV kind vals vers there at_).1 (loseV kind vals vers there at_).2.1 (loseV kind vals vers there at_).2.2.1 (loseV kind vals vers there at_).2.2.2:=by
 unfold impl_StripeLose.G loseV
 refine(stripeI_G kind vals vers there _).trans ?_
 cases cs:stripeV kind vals vers there
 ·exact cT rfl rfl
 refine cF rfl ((shard_G _ _).trans ?_)
 cases ca:inV at_ 0 7
 ·exact cT rfl rfl
 obtain⟨hk,_,h1,h2,h3,_⟩:=stripeV_k cs
 obtain⟨a0,a1⟩:=inV_iff.1 ca
 obtain⟨i,rfl⟩:=Int.eq_ofNat_of_zero_le a0
 refine cF rfl ((copied_G kind (by omega) (by omega) (by omega) _).trans ?_)
 exact cT (irT (by omega) (by omega)) (cT (irT (by omega) (by omega)) (cT (irT (by omega) (by omega)) rfl))
theorem bears_G {β:Type} {kind:Int} {sh:List Nat} (ht:tabOk kind sh=true) (K:Bool→Option β):impl_bears.G sl1 kind (shI sh) K=K (covL kind sh):=by
 obtain⟨l,p,hs,hp⟩:=pivots_of ht
 unfold impl_bears.G impl_rank.G
 refine(span_nat kind sh _).trans ?_
 rw [hs]
 show K (sl1.eq (p.length:Int) 4)=_
 rw [←hp]
 congr 1
 by_cases h:p.length=4
 ·rw [eqT (by omega),h]; rfl
 ·rw [eqF (by omega)]
  cases c:Nat.beq p.length 4
  ·rfl
  ·exact absurd (Nat.eq_of_beq_eq_true c) h
theorem list_G {β:Type} {d:List Int} (hd:V4 d) (K:List Int→Option β):impl_vector_list.G sl1 d K=K d:=by
 obtain⟨a,b,c,e,rfl,_⟩:=hd
 refine keq ?_
 kernel_rfl
theorem ofL_tab {kind:Int} (hk:kind=1∨kind=2) (vers:List Int) (there:List Bool) (v:Int):tabOk kind (ofL vers there v)=true:=tab_k hk _
theorem ofL_len (vers:List Int) (there:List Bool) (v:Int):(ofL vers there v).length≤8:=by
 have:=List.length_filter_le (fun a=>!notV vers v a&&there.getD a false) (List.range 8)
 rw [List.length_range] at this
 exact this
theorem readData_E {kind:Int} {vals vers:List Int} {there:List Bool} (h:stripeV kind vals vers there=true) {v:Int} (hv:v∈versL vers there):
  ∃ d,(covV kind vers there v=true→Told1 kind vals vers there v d)∧∀ (β:Type) (K:List Int→Bool→Option β),impl_readData.G sl1 kind vals (shI (ofL vers there v)) K=K d (covV kind vers there v):=by
 obtain⟨hk,hf,h1,h2,h3,ho⟩:=stripe_iff.1 h
 have ht:=ofL_tab hk vers there v
 obtain⟨x,x1,x2,x3,x4⟩:=solveI_of hk (fun a ha=>(ofL_mem'.1 ha).1) (ofL_len vers there v) ht (vals:=vals) ⟨h1,hf⟩
 have fit:=x4.2 (told_of h hv)
 cases c:covV kind vers there v
 ·refine ⟨[], (fun h => by cases h), fun β K => ?_⟩
  unfold impl_readData.G
  refine(bears_G ht _).trans ?_
  rw [show covL kind (ofL vers there v)=false from c]
  exact cT rfl rfl
 ·refine ⟨x, fun _ => ⟨x1, fitsW_iff.1 fit⟩, fun β K => ?_⟩
  unfold impl_readData.G
  refine(bears_G ht _).trans ?_
  rw [show covL kind (ofL vers there v)=true from c]
  refine cF rfl ((x3 _ _).trans ?_)
  rw [fit]
  exact cF rfl ((x2 _ _).trans (list_G x1 _))
theorem read_l {β:Type} (kind:Int) (vals:List Int) {vers:List Int} {there:List Bool} (h2:vers.length=8) (h3:there.length=8) (L:List Int) (h8:L.length≤8) (D:Int→List Int) (hD:∀ v∈L,∀ (β:Type) (K:List Int→Bool→Option β),impl_readData.G sl1 kind vals (shI (ofL vers there v)) K=K (D v) (covV kind vers there v))
  (kx:Option β) (kr:List Int→Int→Bool→Option β) (d:Nat):∀ (i n:Nat),i+d=L.length→d<n→
  impl_Stripe_read.l2 sl1 n kx kr kind vals vers there L (L.length:Int) (i:Int)=match (L.drop i).find? (covV kind vers there) with
   | none => kx
   | some v => kr (D v) v true := by
 induction d with
 | zero =>
  intro i n hi hn
  obtain⟨n,rfl⟩:∃ m,n=m+1:=⟨n-1,by omega⟩
  rw [impl_Stripe_read.t2,List.drop_of_length_le (by omega)]; exact cF (ltF (by omega)) rfl
 | succ d ih =>
  intro i n hi hn
  obtain⟨n,rfl⟩:∃ m,n=m+1:=⟨n-1,by omega⟩
  have h1:i<L.length:=by omega
  rw [impl_Stripe_read.t2,List.drop_eq_getElem_cons h1,List.find?_cons]
  unfold impl_Stripe_read.b2
  rw [getN L i h1,w_succ (by omega)]
  refine cT (ltT (by omega)) (cT (irT (by omega) (by omega)) ((ofI_G kind vals h2 h3 _ _).trans ((hD _ (List.getElem_mem h1) _ _).trans ?_)))
  cases covV kind vers there L[i]
  ·exact cF rfl (ih (i+1) n (by omega) (by omega))
  ·exact cT rfl rfl
theorem readI_E {kind:Int} {vals vers:List Int} {there:List Bool} (h:stripeV kind vals vers there=true):
  ∃ d,Tells kind vals vers there d∧∀ (β:Type) (K:List Int→Int→Bool→Option β),impl_Stripe_read.G sl1 kind vals vers there K=K d ((readL kind vers there).getD 0) (readL kind vers there).isSome:=by
 obtain⟨hk,hf,h1,h2,h3,ho⟩:=stripe_iff.1 h
 have ex:=fun v (hv:v∈versL vers there)=>readData_E h hv
 obtain⟨D,hD⟩:∃ D:Int→List Int,∀ v∈versL vers there,(covV kind vers there v=true→Told1 kind vals vers there v (D v))∧∀ (β:Type) (K:List Int→Bool→Option β),impl_readData.G sl1 kind vals (shI (ofL vers there v)) K=K (D v) (covV kind vers there v):=by
  classical
  refine⟨fun v=>if hv:v∈versL vers there then Classical.choose (ex v hv)else [],fun v hv=>?_⟩
  dsimp only
  rw [dif_pos hv]
  exact Classical.choose_spec (ex v hv)
 have h8:=versL_len vers there
 have e:=fun(β:Type) (kx:Option β) (kr:List Int→Int→Bool→Option β)=>read_l kind vals h2 h3 (versL vers there) h8 D (fun v hv=>(hD v hv).2) kx kr (versL vers there).length 0 sl1.n (by omega) (by rw [rounds_n]; omega)
 simp only [List.drop_zero] at e
 unfold Tells
 cases hr:readL kind vers there with
 | none =>
  refine⟨[],rfl,fun β K=>?_⟩
  unfold impl_Stripe_read.G
  refine(versions_G kind vals h2 h3 _).trans ((e _ _ _).trans ?_)
  rw [show(versL vers there).find? (covV kind vers there)=none from hr]; rfl
 | some v =>
  refine⟨D v,(hD v (List.mem_of_find?_eq_some hr)).1 (List.find?_some hr),fun β K=>?_⟩
  unfold impl_Stripe_read.G
  refine(versions_G kind vals h2 h3 _).trans ((e _ _ _).trans ?_)
  rw [show(versL vers there).find? (covV kind vers there)=some v from hr]; rfl
theorem stripeRead_E {kind:Int} {vals vers:List Int} {there:List Bool} (h:stripeV kind vals vers there=true):
  ∃ d,Tells kind vals vers there d∧∀ (β:Type) (K:List Int→Int→Bool→Option β),impl_StripeRead.G sl1 kind vals vers there K=K d ((readL kind vers there).getD 0) (readL kind vers there).isSome:=by
 obtain⟨d,h1,h2⟩:=readI_E h
 refine⟨d,h1,fun β K=>?_⟩
 unfold impl_StripeRead.G
 refine(stripeI_G kind vals vers there _).trans ?_
 rw [h]
 exact cF rfl (h2 _ _)
structure Sd (kind:Int) (vals vers:List Int) (there:List Bool):Prop where
 k0:0≤kind
 k1:kind≤3
 l1:vals.length=8
 l2:vers.length=8
 l3:there.length=8
 v:∀ x∈vals,-1≤x∧x≤31
 w:∀ x∈vers,0≤x∧x≤99
theorem set_all {P:Int→Prop} {l:List Int} {i:Nat} {y:Int} (h:∀ x∈l,P x) (hy:P y):∀ x∈l.set i y,P x:=fun x hx=>by
 rcases List.mem_or_eq_of_mem_set hx with h1 | rfl
 ·exact h x h1
 ·exact hy
theorem Sd.val {kind:Int} {vals vers:List Int} {there:List Bool} (h:Sd kind vals vers there) {i:Nat} {y:Int} (hy:-1≤y∧y≤31):Sd kind (vals.set i y) vers there:=
 { h with l1:=by rw [List.length_set]; exact h.l1,v:=set_all h.v hy }
theorem Sd.ver {kind:Int} {vals vers:List Int} {there:List Bool} (h:Sd kind vals vers there) {i:Nat} {y:Int} (hy:0≤y∧y≤99):Sd kind vals (vers.set i y) there:=
 { h with l2:=by rw [List.length_set]; exact h.l2,w:=set_all h.w hy }
theorem Sd.the {kind:Int} {vals vers:List Int} {there:List Bool} (h:Sd kind vals vers there) {i:Nat} {y:Bool}:Sd kind vals vers (there.set i y):=
 { h with l3:=by rw [List.length_set]; exact h.l3 }
theorem Sd.top {kind:Int} {vals vers:List Int} {there:List Bool} (h:Sd kind vals vers there):0≤topV vers 0∧topV vers 0≤99:=⟨(topV_ge vers 0).1,topV_le vers 0 (by omega) fun x hx=>(h.w x hx).2⟩
theorem writeF_Sd {kind:Int} (hk:kind=1∨kind=2) {data:List Int} (hd:vecV data=true) {which:List Bool} {v:Int} (hv:0≤v∧v≤99):∀ (d i:Nat) (a b:List Int) (c:List Bool),i+d=8→Sd kind a b c→
  Sd kind (writeF kind data which v d i a b c).1 (writeF kind data which v d i a b c).2.1 (writeF kind data which v d i a b c).2.2
 | 0, _, a, b, c, _, h => h
 | d + 1, i, a, b, c, hi, h => by
  unfold writeF
  cases which.getD i false
  ·exact writeF_Sd hk hd hv d (i+1) a b c (by omega) h
  ·refine writeF_Sd hk hd hv d (i + 1) _ _ _ (by omega) (((h.val ?_).ver hv).the)
   have:=getD_in (P:=fun x=>0≤x∧x≤30) (allV_in hk hd) (i:=i) (by rw [allV_len]; omega)
   omega
noncomputable def writeV (kind:Int) (vals vers:List Int) (there:List Bool) (data:List Int) (which:List Bool):(List Int×List Int×List Bool)×Int×Bool:=
 match stripeV kind vals vers there&&(vecV data&&decide (which.length=8)),decide (99≤topV vers 0) with
 | false, _ => (([], [], []), 0, false)
 | true, true => ((vals, vers, there), kind, false)
 | true, false => (writeF kind data which (topV vers 0 + 1) 8 0 vals vers there, kind, true)
theorem write_G {β:Type} (kind:Int) (vals vers:List Int) (there:List Bool) (data:List Int) (which:List Bool) (hl:vals.length≤1000000000) (hdl:data.length≤1000000000) (K:List Int→List Int→List Bool→Int→Bool→Option β):
  spec_StripeWrite.G sl1 kind vals vers there data which K=K (writeV kind vals vers there data which).1.1 (writeV kind vals vers there data which).1.2.1 (writeV kind vals vers there data which).1.2.2 (writeV kind vals vers there data which).2.1 (writeV kind vals vers there data which).2.2:=by
 unfold spec_StripeWrite.G
 refine(stripeOk_G kind vals vers there hl _).trans ?_
 cases cs:stripeV kind vals vers there
 ·have e : writeV kind vals vers there data which = (([], [], []), 0, false) := by unfold writeV; rw [cs]; rfl
  rw [e]; exact cT rfl rfl
 refine cF rfl ((vecOk_G data hdl _).trans ?_)
 cases cd:vecV data
 ·have e : writeV kind vals vers there data which = (([], [], []), 0, false) := by unfold writeV; rw [cs, cd]; rfl
  rw [e]; exact cT rfl rfl
 refine cF rfl ?_
 by_cases cw:which.length=8
 ·refine cF (neF (by omega)) ?_
  obtain⟨hk,hf,h1,h2,h3,_⟩:=stripeV_k cs
  refine(copy_G (by omega) (by omega) (by omega) _).trans ((top_G kind vals vers there (by omega) _).trans ?_)
  by_cases ct:99≤topV vers 0
  ·have e : writeV kind vals vers there data which = ((vals, vers, there), kind, false) := by unfold writeV; rw [cs, cd, decide_eq_true cw, decide_eq_true ct]; rfl
   rw [e]; exact cT (leT ct) rfl
  ·have e : writeV kind vals vers there data which = (writeF kind data which (topV vers 0 + 1) 8 0 vals vers there, kind, true) := by unfold writeV; rw [cs, cd, decide_eq_true cw, decide_eq_false ct]; rfl
   rw [e]
   exact cF (leF (by omega)) (write_l hk h2 cd cw 0 ⟨(topV_ge vers 0).1,by omega⟩ _ none 8 0 sl1.n vals vers there (by omega) (by rw [rounds_n]; omega) h1 h2 h3)
 ·have e : writeV kind vals vers there data which = (([], [], []), 0, false) := by unfold writeV; rw [cs, cd, decide_eq_false cw]; rfl
  rw [e]; exact cT (neT (by omega)) rfl
theorem writeV_ok {kind:Int} {vals vers:List Int} {there:List Bool} {data:List Int} {which:List Bool} (h:(writeV kind vals vers there data which).2.2=true):
  writeV kind vals vers there data which=(writeF kind data which (topV vers 0+1) 8 0 vals vers there,kind,true)∧stripeV kind vals vers there=true∧vecV data=true∧which.length=8∧topV vers 0<99:=by
 unfold writeV at h ⊢
 split at h
 ·cases h
 ·cases h
 ·rename_i h1 h2
  simp only [Bool.and_eq_true,decide_eq_true_eq] at h1
  exact⟨rfl,h1.1,h1.2.1,h1.2.2,by simpa using h2⟩
theorem writeV_Sd {kind:Int} {vals vers:List Int} {there:List Bool} {data:List Int} {which:List Bool} (hs:Sd kind vals vers there) (h:(writeV kind vals vers there data which).2.2=true):
  (writeV kind vals vers there data which).2.1=kind∧Sd kind (writeV kind vals vers there data which).1.1 (writeV kind vals vers there data which).1.2.1 (writeV kind vals vers there data which).1.2.2:=by
 obtain⟨e,h1,h2,h3,h4⟩:=writeV_ok h
 rw [e]
 exact⟨rfl,writeF_Sd (stripeV_k h1).1 h2 ⟨by have:=hs.top; omega,by omega⟩ 8 0 _ _ _ (by omega) hs⟩
theorem rounds_S {b:List Int} (hb:Src b) (x:Int) {kind:Int} (hk:kind=1∨kind=2) (m:Nat) (hm:m≤100):∀ (n:Nat) (p:Int) (vals vers:List Int) (there:List Bool),m<n→0≤p→p+7*m≤1000→Sd kind vals vers there→
  ∃ q vals' vers' there',p≤q∧q≤p+7*m∧Sd kind vals' vers' there'∧∀ (β:Type) (kx:List Int→Int→Int→Int→List Int→List Int→List Bool→Option β) (kr:Option β),
   spec_l92Stripe.l3 sl1 n kx kr b p x kind vals vers there (m:Int)=kx b q x kind vals' vers' there':=by
 induction m with
 | zero =>
  intro n p vals vers there hn hp hp2 hs
  obtain⟨n,rfl⟩:∃ m,n=m+1:=⟨n-1,by omega⟩
  exact⟨p,vals,vers,there,by omega,by omega,hs,fun β kx kr=>by rw [spec_l92Stripe.t3]; exact cF (ltF (by omega)) rfl⟩
 | succ m ih =>
  intro n p vals vers there hn hp hp2 hs
  obtain⟨n,rfl⟩:∃ m,n=m+1:=⟨n-1,by omega⟩
  have wm:sl1.w (((m+1:Nat):Int)-1)=(m:Int):=by rw [wE (by omega) (by omega)]; omega
  obtain⟨a,a0,a1,ea⟩:=pick_S hb (p:=p) 3
  by_cases h0:a=0
  ·obtain ⟨d, hd, ed⟩ := data_G hb (p := p + 1) (by omega) (by omega)
   obtain⟨w,q,hq0,hq1,hw,ew⟩:=which_G hb (p:=p+1+1+1+1+1) (by omega) (by omega)
   cases ho:(writeV kind vals vers there d w).2.2
   ·obtain ⟨q', v1, v2, v3, k1, k2, k3, k4⟩ := ih (by omega) n q vals vers there (by omega) (by omega) (by omega) hs
    refine⟨q',v1,v2,v3,by omega,by omega,k3,fun β kx kr=>?_⟩
    rw [spec_l92Stripe.t3]
    unfold spec_l92Stripe.b3
    refine cT (ltT (by omega)) ((ea _ _).trans (cT (eqT h0) ((ed _ _).trans ((ew _ _).trans ((write_G _ _ _ _ _ _ (by have:=hs.l1; omega) (by have:=(vecV_iff.1 hd).2; omega) _).trans ?_)))))
    rw [ho]
    refine cF rfl ?_
    rw [wm]
    exact k4 β kx kr
   ·obtain ⟨ek, hs'⟩ := writeV_Sd hs ho
    obtain⟨q',v1,v2,v3,k1,k2,k3,k4⟩:=ih (by omega) n q _ _ _ (by omega) (by omega) (by omega) hs'
    refine⟨q',v1,v2,v3,by omega,by omega,k3,fun β kx kr=>?_⟩
    rw [spec_l92Stripe.t3]
    unfold spec_l92Stripe.b3
    refine cT (ltT (by omega)) ((ea _ _).trans (cT (eqT h0) ((ed _ _).trans ((ew _ _).trans ((write_G _ _ _ _ _ _ (by have:=hs.l1; omega) (by have:=(vecV_iff.1 hd).2; omega) _).trans ?_)))))
    rw [ho]
    refine cT rfl ?_
    rw [wm,ek]
    exact k4 β kx kr
  ·obtain ⟨c, c0, c1, ec⟩ := pick_S hb (p := p + 1) 8
   obtain⟨i,rfl⟩:=Int.eq_ofNat_of_zero_le c0
   obtain⟨q',v1,v2,v3,k1,k2,k3,k4⟩:=ih (by omega) n (p+1+1) _ _ _ (by omega) (by omega) (by omega) (((hs.val (i:=i) (y:=0) (by omega)).ver (i:=i) (y:=0) (by omega)).the (i:=i) (y:=false))
   refine⟨q',v1,v2,v3,by omega,by omega,k3,fun β kx kr=>?_⟩
   rw [spec_l92Stripe.t3]
   unfold spec_l92Stripe.b3
   refine cT (ltT (by omega)) ((ea _ _).trans (cF (eqF h0) ((ec _ _).trans ((lose_G hs.l1 hs.l2 hs.l3 (by omega) _).trans ?_))))
   rw [wm]
   exact k4 β kx kr
theorem late_S (b:List Int) (p x kind:Int) (vals:List Int) (there:List Bool) (h3:there.length=8) (d:Nat):∀ (i n:Nat) (vers:List Int),i+d=8→d<n→Sd kind vals vers there→
  ∃ vers',Sd kind vals vers' there∧∀ (β:Type) (kx:List Int→Int→Int→Int→List Int→List Int→List Bool→Option β) (kr:Option β),
   spec_l92Stripe.l23 sl1 n kx kr b p x kind vals vers there (i:Int)=kx b p x kind vals vers' there:=by
 induction d with
 | zero =>
  intro i n vers hi hn hs
  obtain⟨n,rfl⟩:∃ m,n=m+1:=⟨n-1,by omega⟩
  exact⟨vers,hs,fun β kx kr=>by rw [spec_l92Stripe.t23]; exact cF (ltF (by have:=hs.l2; omega)) rfl⟩
 | succ d ih =>
  intro i n vers hi hn hs
  have l2:=hs.l2
  obtain⟨n,rfl⟩:∃ m,n=m+1:=⟨n-1,by omega⟩
  cases ct:there.getD i false
  ·obtain ⟨v', k1, k2⟩ := ih (i + 1) n vers (by omega) (by omega) hs
   refine⟨v',k1,fun β kx kr=>?_⟩
   rw [spec_l92Stripe.t23]
   unfold spec_l92Stripe.b23
   refine cT (ltT (by omega)) (cT (irT (by omega) (by omega)) ?_)
   rw [getC false,ct,w_succ (by omega)]
   exact cF rfl (k2 β kx kr)
  ·have ht := hs.top
   have hv:=getD_in (P:=fun x=>0≤x∧x≤99) hs.w (i:=i) (by omega)
   have hg:vers.getD i 0≤topV vers 0:=getD_in (P:=fun x=>x≤topV vers 0) (topV_ge vers 0).2 (by omega)
   obtain⟨v',k1,k2⟩:=ih (i+1) n (vers.set i (vers.getD i 0+99-topV vers 0)) (by omega) (by omega) (hs.ver (by omega))
   refine⟨v',k1,fun β kx kr=>?_⟩
   rw [spec_l92Stripe.t23]
   unfold spec_l92Stripe.b23
   refine cT (ltT (by omega)) (cT (irT (by omega) (by omega)) ?_)
   rw [getC false,ct]
   refine cT rfl (cT (irT (by omega) (by omega)) ((top_G _ _ _ _ (by omega) _).trans (cT (irT (by omega) (by omega)) ?_)))
   rw [getC (0:Int),w_succ (by omega),wE (a:=vers.getD i 0+99) (by omega) (by omega),wE (a:=vers.getD i 0+99-topV vers 0) (by omega) (by omega),Int.toNat_natCast]
   exact k2 β kx kr
theorem stripe_S {b:List Int} (hb:Src b) {p:Int} (hp:0≤p) (hp2:p≤100):∃ q kind vals vers there,p≤q∧q≤p+60∧Sd kind vals vers there∧∀ (β:Type) (K:List Int→Int→List Int→List Int→List Bool→Int→Option β),spec_l92Stripe.G sl1 b p K=K b q vals vers there kind:=by
 obtain⟨a,a0,a1,ea⟩:=pick_S hb (p:=p) 2
 obtain⟨d,hd,ed⟩:=data_G hb (p:=p+1) (by omega) (by omega)
 obtain⟨e,e0,e1,ee⟩:=pick_S hb (p:=p+1+1+1+1+1) 3
 obtain⟨m,m0,m1,em⟩:=pick_S hb (p:=p+1+1+1+1+1+1) 4
 obtain⟨m,rfl⟩:=Int.eq_ofNat_of_zero_le m0
 have hk:1+a=1∨1+a=2:=by omega
 have wk:sl1.w (1+a)=1+a:=wE (by omega) (by omega)
 have we:sl1.w (1+e)=1+e:=wE (by omega) (by omega)
 have hs0:Sd (1+a) (allV (1+a) d) (List.replicate 8 (1+e)) (setV 255):=⟨by omega,by omega,allV_len _ _,by simp,setV_len _,fun x hx=>by have:=allV_in hk hd x hx; omega,fun x hx=>by have:=List.eq_of_mem_replicate hx; omega⟩
 obtain⟨q,vals,vers,there,q0,q1,hs,er⟩:=rounds_S hb 0 hk m (by omega) sl1.n (p+1+1+1+1+1+1+1) _ _ _ (by rw [rounds_n]; omega) (by omega) (by omega) hs0
 have start:∀ (β:Type) (K:List Int→Int→List Int→List Int→List Bool→Int→Option β) (r:Option β),(_:Option β)=r→spec_l92Stripe.G sl1 b p K=r:=fun β K r h=>by
  unfold spec_l92Stripe.G
  refine(ea _ _).trans ((ed _ _).trans ((ee _ _).trans ?_))
  rw [wk,we]
  exact(new_G hk hd _ _).trans ((em _ _).trans ((er _ _ _).trans h))
 obtain⟨c,c0,c1,ec⟩:=pick_S hb (p:=q) 30
 by_cases h0:c=0
 ·obtain ⟨i, i0, i1, ei⟩ := pick_S hb (p := q + 1) 8
  obtain⟨v,r,r0,r1,v0,v1,ev⟩:=num_G hb (p:=q+1+1) (by omega) (by omega)
  obtain⟨i,rfl⟩:=Int.eq_ofNat_of_zero_le i0
  exact⟨r,1+a,vals.set i v,vers,there,by omega,by omega,hs.val ⟨v0,v1⟩,fun β K=>start β K _ ((ec _ _).trans (cT (eqT h0) ((ei _ _).trans ((ev _ _).trans (cT (irT i0 (by rw [hs.l1]; omega)) rfl)))))⟩
 by_cases h1:c=1
 ·obtain ⟨i, i0, i1, ei⟩ := pick_S hb (p := q + 1) 8
  obtain⟨v,v0,v1,ev⟩:=pick_S hb (p:=q+1+1) 5
  obtain⟨i,rfl⟩:=Int.eq_ofNat_of_zero_le i0
  exact⟨q+1+1+1,1+a,vals,vers.set i v,there,by omega,by omega,hs.ver ⟨v0,by omega⟩,fun β K=>start β K _ ((ec _ _).trans (cF (eqF h0) (cT (eqT h1) ((ei _ _).trans ((ev _ _).trans (cT (irT i0 (by rw [hs.l2]; omega)) rfl))))))⟩
 by_cases h2:c=2
 ·obtain ⟨i, i0, i1, ei⟩ := pick_S hb (p := q + 1) 8
  obtain⟨i,rfl⟩:=Int.eq_ofNat_of_zero_le i0
  exact⟨q+1+1,1+a,vals,vers,there.set i false,by omega,by omega,hs.the,fun β K=>start β K _ ((ec _ _).trans (cF (eqF h0) (cF (eqF h1) (cT (eqT h2) ((ei _ _).trans (cT (irT i0 (by rw [hs.l3]; omega)) rfl))))))⟩
 by_cases h3:c=3
 ·obtain ⟨v, r, r0, r1, v0, v1, ev⟩ := kind_G hb (p := q + 1) (by omega) (by omega)
  exact⟨r,v,vals,vers,there,by omega,by omega,{ hs with k0:=v0,k1:=v1 },fun β K=>start β K _ ((ec _ _).trans (cF (eqF h0) (cF (eqF h1) (cF (eqF h2) (cT (eqT h3) (ev _ _))))))⟩
 by_cases h4:c=4
 ·cases ho : stripeV (1 + a) vals vers there
  ·exact⟨q+1,1+a,vals,vers,there,by omega,by omega,hs,fun β K=>start β K _ ((ec _ _).trans (cF (eqF h0) (cF (eqF h1) (cF (eqF h2) (cF (eqF h3) (cT (eqT h4) ((stripeOk_G _ _ _ _ (by rw [hs.l1]; omega) _).trans (cF ho rfl))))))))⟩
  ·obtain ⟨vers', hs', el⟩ := late_S b (q + 1) 0 (1 + a) vals there hs.l3 8 0 sl1.n vers (by omega) (by rw [rounds_n]; omega) hs
   exact⟨q+1,1+a,vals,vers',there,by omega,by omega,hs',fun β K=>start β K _ ((ec _ _).trans (cF (eqF h0) (cF (eqF h1) (cF (eqF h2) (cF (eqF h3) (cT (eqT h4) ((stripeOk_G _ _ _ _ (by rw [hs.l1]; omega) _).trans (cT ho (el _ _ _)))))))))⟩
 ·exact⟨q+1,1+a,vals,vers,there,by omega,by omega,hs,fun β K=>start β K _ ((ec _ _).trans (cF (eqF h0) (cF (eqF h1) (cF (eqF h2) (cF (eqF h3) (cF (eqF h4) rfl))))))⟩
theorem lkBools_l {β:Type} (l:List Bool) (hl:l.length≤1048576) (kx:Option β) (kr:Bool→Option β) (d:Nat):∀ (i n:Nat),i+d=l.length→d<n→laws_lkBools.l4 sl1 n kx kr l l (i:Int)=kx:=by
 induction d with
 | zero =>
  intro i n hi hn
  obtain⟨n,rfl⟩:∃ m,n=m+1:=⟨n-1,by omega⟩
  rw [laws_lkBools.t4]; exact cF (ltF (by omega)) rfl
 | succ d ih =>
  intro i n hi hn
  obtain⟨n,rfl⟩:∃ m,n=m+1:=⟨n-1,by omega⟩
  rw [laws_lkBools.t4]
  unfold laws_lkBools.b4
  rw [w_succ (by omega)]
  exact cT (ltT (by omega)) (cT (irT (by omega) (by omega)) (cT (irT (by omega) (by omega)) (cF (bne_self_eq_false _) (ih (i+1) n (by omega) (by omega)))))
theorem lkBools_same {β:Type} {l:List Bool} (hl:l.length≤1048576) (K:Bool→Option β):laws_lkBools.G sl1 l l K=K true:=by
 unfold laws_lkBools.G
 exact cF (neF rfl) (lkBools_l l hl _ _ l.length 0 sl1.n (by omega) (by rw [rounds_n]; omega))
theorem lkStripe_same {β:Type} (kind:Int) {vals vers:List Int} {there:List Bool} (h1:vals.length≤1000000) (h2:vers.length≤1000000) (h3:there.length≤1000000) (K:Bool→Option β):laws_lkStripe.G sl1 kind vals vers there kind vals vers there K=K true:=by
 unfold laws_lkStripe.G
 exact cT (eqT rfl) ((lkInts_same _ h1 _).trans (cT rfl ((lkInts_same _ h2 _).trans (cT rfl (lkBools_same (by omega) _)))))
theorem spec_sum {β:Type} (a b c:Int) (K:Int→Option β):spec_l41Sum.G sl1 a b c K=K (rotRaw a b c):=rfl
def diskV (vals vers:List Int) (there:List Bool) (i:Nat):Dk':=bif there.getD i false then(vals.getD i 0,(vers.getD i 0,(rotRaw (vals.getD i 0) (vers.getD i 0) (i:Int),())))else(0,(0,(0,())))
def disksV (vals vers:List Int) (there:List Bool) (n:Nat):List Dk':=(List.range n).map (diskV vals vers there)
theorem disksV_succ (vals vers:List Int) (there:List Bool) (n:Nat):disksV vals vers there (n+1)=disksV vals vers there n ++ [diskV vals vers there n]:=by unfold disksV; rw [List.range_succ,List.map_append]; rfl
theorem disksV_len (vals vers:List Int) (there:List Bool) (n:Nat):(disksV vals vers there n).length=n:=by unfold disksV; rw [List.length_map,List.length_range]
theorem wr_l {β:Type} (kx:List Dk'→Option β) (kr:Option β) (kind:Int) {vals vers:List Int} {there:List Bool} (h1:vals.length=8) (h2:vers.length=8) (h3:there.length=8) (d:Nat):∀ (i n:Nat),i+d=8→d<n→
  spec_RotWrite.l5 sl1 n kx kr kind vals vers there (disksV vals vers there i) (i:Int)=kx (disksV vals vers there 8):=by
 induction d with
 | zero =>
  intro i n hi hn
  obtain⟨n,rfl⟩:∃ m,n=m+1:=⟨n-1,by omega⟩
  obtain rfl:i=8:=by omega
  rw [spec_RotWrite.t5]; exact cF (ltF (by omega)) rfl
 | succ d ih =>
  intro i n hi hn
  obtain⟨n,rfl⟩:∃ m,n=m+1:=⟨n-1,by omega⟩
  have e:=ih (i+1) n (by omega) (by omega)
  have hl:=disksV_len vals vers there i
  rw [disksV_succ] at e
  rw [spec_RotWrite.t5]
  unfold spec_RotWrite.b5
  rw [getC false,getC (0:Int),getC (0:Int),w_succ (by omega)]
  refine cT (ltT (by omega)) (cT (irT (by omega) (by omega)) ?_)
  unfold diskV at e
  cases ct:there.getD i false
  ·rw [ct] at e
   exact cF rfl (cT (fwT (by rw [List.length_append,hl,List.length_singleton]; omega)) e)
  ·rw [ct] at e
   refine cT rfl (cT (irT (by omega) (by omega)) (cT (irT (by omega) (by omega)) (cT (irT (by omega) (by omega)) (cT (irT (by omega) (by omega)) ((spec_sum _ _ _ _).trans (cT (fwT (by rw [List.length_append,hl,List.length_singleton]; omega)) e))))))
noncomputable def wrV (kind:Int) (vals vers:List Int) (there:List Bool):List Dk':=bif stripeV kind vals vers there then disksV vals vers there 8 else []
theorem specWr_G {β:Type} (kind:Int) {vals vers:List Int} {there:List Bool} (h1:vals.length≤1048576) (K:List Dk'→Option β):spec_RotWrite.G sl1 kind vals vers there K=K (wrV kind vals vers there):=by
 unfold spec_RotWrite.G wrV
 refine(stripeOk_G kind vals vers there (by omega) _).trans ?_
 cases cs:stripeV kind vals vers there
 ·exact cT rfl rfl
 obtain⟨hk,_,h1,h2,h3,_⟩:=stripeV_k cs
 exact cF rfl (wr_l (fun y=>K y) none kind h1 h2 h3 8 0 sl1.n (by omega) (by rw [rounds_n]; omega))
def setAll {α:Type} (D:Nat→α):List Nat→List α→List α
 | [], r => r
 | a :: s, r => setAll D s (r.set a (D a))
theorem setAll_len {α:Type} (D:Nat→α):∀ (s:List Nat) (r:List α),(setAll D s r).length=r.length
 | [], r => rfl
 | a :: s, r => by rw [setAll, setAll_len, List.length_set]
theorem setAll_get {α:Type} (D:Nat→α):∀ (s:List Nat) (r:List α) (i:Nat),i<r.length→(setAll D s r)[i]? = if i∈s then some (D i)else r[i]?
 | [], r, i, h => by simp [setAll]
 | a :: s, r, i, h => by
  rw [setAll,setAll_get D s _ i (by rw [List.length_set]; exact h)]
  by_cases c:i∈s
  ·rw [if_pos c,if_pos (List.mem_cons_of_mem _ c)]
  ·rw [if_neg c]
   by_cases e:a=i
   ·subst e
    rw [if_pos List.mem_cons_self,List.getElem?_set_self h]
   ·rw [List.getElem?_set_ne e,if_neg (fun h=>(List.mem_cons.1 h).elim (fun h=>e h.symm) c)]
theorem blocks_row {vals vers:List Int} {there:List Bool}:setAll (diskV vals vers there) (thereL there 0 8) (List.replicate 8 (0,(0,(0,()))))=disksV vals vers there 8:=by
 refine List.ext_getElem? fun i=>?_
 by_cases hi:i<8
 ·rw [setAll_get _ _ _ _ (by rw [List.length_replicate]; exact hi)]
  have e:(disksV vals vers there 8)[i]? = some (diskV vals vers there i):=by
   unfold disksV; rw [List.getElem?_map,List.getElem?_range hi]; rfl
  rw [e]
  by_cases c:i∈thereL there 0 8
  ·rw [if_pos c]
  ·rw [if_neg c, List.getElem?_replicate, if_pos hi]
   have ct:there.getD i false=false:=by
    cases h:there.getD i false
    ·rfl
    ·exact absurd (thereL_mem.2 ⟨hi,h⟩) c
   unfold diskV
   rw [ct]; rfl
 ·rw [List.getElem?_eq_none (by rw [setAll_len,List.length_replicate]; omega),List.getElem?_eq_none (by rw [disksV_len]; omega)]
theorem blk_l {β:Type} (kx:List Dk'→Option β) (kr:Option β) (kind:Int) {vals vers:List Int} {there:List Bool} (h1:vals.length=8) (h2:vers.length=8) (sh:List Nat) (h8:sh.length≤8) (hs:∀ a∈sh,a<8∧there.getD a false=true∧(0≤vals.getD a 0∧vals.getD a 0≤30)∧(1≤vers.getD a 0∧vers.getD a 0≤99)) (d:Nat):
  ∀ (i n:Nat) (r:List Dk'),i+d=sh.length→d<n→r.length=8→impl_blocks.l3 sl1 n kx kr kind vals vers there r (shI sh) ((shI sh).length:Int) (i:Int)=kx (setAll (diskV vals vers there) (sh.drop i) r):=by
 induction d with
 | zero =>
  intro i n r hi hn hr
  obtain⟨n,rfl⟩:∃ m,n=m+1:=⟨n-1,by omega⟩
  rw [impl_blocks.t3,List.drop_of_length_le (by omega)]; exact cF (ltF (by rw [shI_len]; omega)) rfl
 | succ d ih =>
  intro i n r hi hn hr
  obtain⟨n,rfl⟩:∃ m,n=m+1:=⟨n-1,by omega⟩
  have hi1:i<sh.length:=by omega
  obtain⟨k1,k2,k3,k4⟩:=hs _ (List.getElem_mem hi1)
  have e:=ih (i+1) n (r.set sh[i] (diskV vals vers there sh[i])) (by omega) (by omega) (by rw [List.length_set]; exact hr)
  rw [impl_blocks.t3,List.drop_eq_getElem_cons hi1,setAll]
  unfold impl_blocks.b3
  rw [shI_get hi1,w_succ (by omega)]
  simp only [Int.toNat_natCast]
  refine cT (ltT (by rw [shI_len]; omega)) (cT (irT (by omega) (by rw [shI_len]; omega)) (cT (irT (by omega) (by omega)) (cT (irT (by omega) (by omega)) (cT (irT (by omega) (by omega)) (cT (irT (by omega) (by omega)) ((rot_impl _ _ _ _).trans ?_))))))
  have er:rotV (vals.getD sh[i] 0) (vers.getD sh[i] 0) ((sh[i]:Nat):Int)=rotRaw (vals.getD sh[i] 0) (vers.getD sh[i] 0) ((sh[i]:Nat):Int):=by
   unfold rotV
   rw [inV_iff.2 k3,inV_iff.2 k4,inV_iff.2 ⟨by omega,by omega⟩]; rfl
  have ed:diskV vals vers there sh[i]=(vals.getD sh[i] 0,(vers.getD sh[i] 0,(rotRaw (vals.getD sh[i] 0) (vers.getD sh[i] 0) ((sh[i]:Nat):Int),()))):=by
   unfold diskV; rw [k2]; rfl
  rw [ed] at e ⊢
  rw [er]
  exact cT (irT (by omega) (by omega)) e
theorem blocks_G {β:Type} {kind:Int} {vals vers:List Int} {there:List Bool} (cs:stripeV kind vals vers there=true) (K:List Dk'→Option β):impl_blocks.G sl1 kind vals vers there K=K (disksV vals vers there 8):=by
 obtain⟨hk,hf,h1,h2,h3,ho⟩:=stripeV_k cs
 unfold impl_blocks.G
 refine cT (by rfl) ((flag_G h3 _).trans ?_)
 refine(blk_l (fun y=>K y) none kind h1 h2 (thereL there 0 8) (thereL_len there) (fun a ha=>?_) (thereL there 0 8).length 0 sl1.n _ (by omega) (by have:=thereL_len there; rw [rounds_n]; omega) (by simp)).trans ?_
 ·obtain ⟨q1, q2⟩ := thereL_mem.1 ha
  exact⟨q1,q2,getD_in hf (by omega),(((okF_iff 8 0).1 ho a (Nat.zero_le _) (by omega)).1 q2).1⟩
 ·rw [List.drop_zero]
  show K (setAll _ _ (List.replicate 8 _))=_
  rw [blocks_row]
theorem implWr_G {β:Type} (kind:Int) (vals vers:List Int) (there:List Bool) (K:List Dk'→Option β):impl_RotWrite.G sl1 kind vals vers there K=K (wrV kind vals vers there):=by
 unfold impl_RotWrite.G wrV
 refine(stripeI_G kind vals vers there _).trans ?_
 cases cs:stripeV kind vals vers there
 ·exact cT rfl rfl
 exact cF rfl ((blocks_G cs _).trans rfl)
theorem elems_l {β:Type} (l:List Int) (hl:l.length≤1000000000) (K:Bool→Option β) (d:Nat):∀ (i n:Nat),i+d=l.length→d<n→
  slices_IndexFunc_Sint_int__.l2 sl1 n (K (!sl1.le 0 (-1))) (fun y=>K (!sl1.le 0 y)) l (l.length:Int) (i:Int)=K (fldL (l.drop i)):=by
 induction d with
 | zero =>
  intro i n hi hn
  obtain⟨n,rfl⟩:∃ m,n=m+1:=⟨n-1,by omega⟩
  rw [slices_IndexFunc_Sint_int__.t2,List.drop_of_length_le (by omega)]; exact cF (ltF (by omega)) rfl
 | succ d ih =>
  intro i n hi hn
  obtain⟨n,rfl⟩:∃ m,n=m+1:=⟨n-1,by omega⟩
  have h1:i<l.length:=by omega
  rw [slices_IndexFunc_Sint_int__.t2,List.drop_eq_getElem_cons h1,fldL_cons]
  unfold slices_IndexFunc_Sint_int__.b2 impl_elementsOk_1.G
  rw [getN l i h1,w_succ (by omega)]
  refine cT (ltT (by omega)) (cT (irT (by omega) (by omega)) ((impl_field _ _).trans ?_))
  cases inV l[i] 0 30
  ·exact cT rfl (by dsimp only; rw [leT (by omega:(0:Int)≤(i:Int))]; rfl)
  ·exact cF rfl (ih (i+1) n (by omega) (by omega))
theorem elems_G {β:Type} (l:List Int) (m:Nat) (hl:l.length≤1000000000) (K:Bool→Option β):impl_elementsOk.G sl1 l (m:Int) K=K (decide (l.length=m)&&fldL l):=by
 unfold impl_elementsOk.G slices_ContainsFunc_Sint_int_.G slices_IndexFunc_Sint_int__.G
 by_cases h:l.length=m
 ·rw [decide_eq_true h]
  refine cT (eqT (by omega)) ((elems_l l hl K l.length 0 sl1.n (by omega) (by rw [rounds_n]; omega)).trans ?_)
  rw [List.drop_zero]; rfl
 ·rw [decide_eq_false h]
  exact cF (eqF (by omega)) rfl
theorem vector_G {β:Type} (l:List Int) (hl:l.length≤1000000000) (K:List Int→Bool→Option β):impl_vectorOf.G sl1 l K=K (bif vecV l then l else List.replicate 4 0) (vecV l):=by
 unfold impl_vectorOf.G
 refine(elems_G l 4 hl _).trans ?_
 have e:(decide (l.length=4)&&fldL l)=vecV l:=by unfold vecV; rw [Bool.and_comm]
 rw [e]
 cases cv:vecV l
 ·exact cT rfl rfl
 ·refine cF rfl ?_
  obtain⟨a,b,c,d,rfl,_⟩:=vec_V4 cv
  refine keq ?_
  kernel_rfl
theorem encode_l {β:Type} (kx:List Int→Option β) (kr:Option β) {kind:Int} (hk:kind=1∨kind=2) {data:List Int} (hd:V4 data) (d:Nat):∀ (i n:Nat),i+d=8→d<n→
  impl_encode.l3 sl1 n kx kr data ((List.range i).map fun(j:Nat)=>dotV (rowS kind (j:Int)) data 0) kind (i:Int)=kx (allV kind data):=by
 induction d with
 | zero =>
  intro i n hi hn
  obtain⟨n,rfl⟩:∃ m,n=m+1:=⟨n-1,by omega⟩
  obtain rfl:i=8:=by omega
  rw [impl_encode.t3]; exact cF (ltF (by omega)) rfl
 | succ d ih =>
  intro i n hi hn
  obtain⟨n,rfl⟩:∃ m,n=m+1:=⟨n-1,by omega⟩
  rw [impl_encode.t3]
  unfold impl_encode.b3
  have e:=ih (i+1) n (by omega) (by omega)
  rw [List.range_succ,List.map_append] at e
  refine cT (ltT (by omega)) ((irow_G hk (by omega) _).trans ((dotM_G (V4.row hk (by omega)) hd _).trans (cT (fwT (by simp; omega)) ?_)))
  rw [w_succ (by omega),←dotV_dotM (V4.row hk (by omega)) hd]
  exact e
theorem encode_G {β:Type} {kind:Int} (hk:kind=1∨kind=2) {data:List Int} (hd:V4 data) (K:List Int→Option β):impl_encode.G sl1 kind data K=K (allV kind data):=by
 unfold impl_encode.G
 exact cT (by rfl) (encode_l (fun y=>K y) none hk hd 8 0 sl1.n (by omega) (by rw [rounds_n]; omega))
def loseF (kv:Int):Nat→Nat→List Int→List Int→List Bool→List Int×List Int×List Bool
 | 0, _, a, b, c => (a, b, c)
 | n + 1, i, a, b, c => bif b.getD i 0 == kv then loseF kv n (i + 1) (a.set i 0) (b.set i 0) (c.set i false) else loseF kv n (i + 1) a b c
def elderV (on:Bool) (kv:Int) (vals vers:List Int) (there:List Bool):List Int×List Int×List Bool:=bif on then loseF kv 8 0 vals vers there else(vals,vers,there)
def oneF (t:Int) (B:List Int) (C:List Bool):Nat→Nat→Bool
 | 0, _ => true
 | n + 1, i => bif C.getD i false then (B.getD i 0 == t) && oneF t B C n (i + 1) else oneF t B C n (i + 1)
theorem oneF_iff {t:Int} {B:List Int} {C:List Bool} (n:Nat):∀ i,oneF t B C n i=true↔∀ a,i≤a→a<i+n→C.getD a false=true→B.getD a 0=t:=by
 induction n with
 | zero => intro i; exact iff_of_true rfl fun a h1 h2 => by omega
 | succ n ih =>
  intro i
  unfold oneF
  cases c:C.getD i false
  ·simp only [cond_false]
   rw [ih (i+1)]
   constructor
   ·intro h a h1 h2 h3
    rcases Nat.lt_or_eq_of_le h1 with e | rfl
    ·exact h a e (by omega) h3
    ·rw [c] at h3; cases h3
   ·exact fun h a h1 h2 h3=>h a (by omega) (by omega) h3
  ·simp only [cond_true]
   rw [Bool.and_eq_true,beq_iff_eq,ih (i+1)]
   constructor
   ·intro h a h1 h2 h3
    rcases Nat.lt_or_eq_of_le h1 with e | rfl
    ·exact h.2 a e (by omega) h3
    ·exact h.1
   ·exact fun h=>⟨h i (Nat.le_refl _) (by omega) c,fun a h1 h2 h3=>h a (by omega) (by omega) h3⟩
def noteF (kv:Int) (vals vers:List Int) (there:List Bool) (all:List Int):Nat→Nat→Bool
 | 0, _ => true
 | n + 1, i => bif vers.getD i 0 == kv then (there.getD i false && (vals.getD i 0 == all.getD i 0)) && noteF kv vals vers there all n (i + 1) else noteF kv vals vers there all n (i + 1)
noncomputable def keepV (kind:Int) (vals vers:List Int) (there:List Bool) (on:Bool) (kd:Int) (data:List Int) (kv:Int):Bool:=
 (inV kind 1 2 && (valsV vals there && decide (vers.length = 8))) && (stripeV kind (elderV on kv vals vers there).1 (elderV on kv vals vers there).2.1 (elderV on kv vals vers there).2.2 && (oneF (topV (elderV on kv vals vers there).2.1 0) (elderV on kv vals vers there).2.1 (elderV on kv vals vers there).2.2 8 0 &&
  bif on then inV kd 1 2&&(vecV data&&(inV kv (topV (elderV on kv vals vers there).2.1 0+1) 99&&noteF kv vals vers there (allV kd data) 8 0))else(readL kind vers there).isSome&&((kd==0)&&(decide (data.length=0)&&(kv==0)))))
theorem ext8 {α:Type} (d:α) {l l':List α} (h:l.length=8) (h':l'.length=8) (e:∀ j,j<8→l.getD j d=l'.getD j d):l=l':=by
 refine List.ext_getElem? fun i=>?_
 by_cases hi:i<8
 ·have := e i hi
  rw [List.getD_eq_getElem?_getD,List.getD_eq_getElem?_getD,List.getElem?_eq_getElem (by omega),List.getElem?_eq_getElem (by omega)] at this
  rw [List.getElem?_eq_getElem (by omega),List.getElem?_eq_getElem (by omega)]
  exact congrArg some this
 ·rw [List.getElem?_eq_none (by omega),List.getElem?_eq_none (by omega)]
theorem keepOff_iff {kind:Int} {vals vers:List Int} {there:List Bool} {kd:Int} {data:List Int} {kv:Int}:keepV kind vals vers there false kd data kv=true↔stripeV kind vals vers there=true∧oneF (topV vers 0) vers there 8 0=true∧(readL kind vers there).isSome=true∧kd=0∧data.length=0∧kv=0:=by
 unfold keepV elderV
 simp only [cond_false,Bool.and_eq_true,decide_eq_true_eq,beq_iff_eq]
 constructor
 ·rintro ⟨_, d, e, f, g, h, i⟩
  exact⟨d,e,f,g,h,i⟩
 ·rintro ⟨d, e, f, g, h, i⟩
  obtain⟨hk,hf,h1,h2,h3,_⟩:=stripe_iff.1 d
  exact⟨⟨inV_iff.2 (by omega),valsV_iff.2 ⟨hf,h1,h3⟩,h2⟩,d,e,f,g,h,i⟩
theorem cov_all' {kind:Int} (hk:kind=1∨kind=2):covL kind (thereL (List.replicate 8 true) 0 8)=true:=by
 rcases hk with rfl | rfl <;> rfl
theorem rep8 {α:Type} (x d:α) {j:Nat} (hj:j<8):(List.replicate 8 x).getD j d=x:=by
 rw [List.getD_eq_getElem?_getD,List.getElem?_replicate,if_pos hj]; rfl
theorem keep_all {kind:Int} (hk:kind=1∨kind=2) {data:List Int} (hd:vecV data=true) {v:Int} (hv:1≤v∧v≤99):keepV kind (allV kind data) (List.replicate 8 v) (List.replicate 8 true) false 0 [] 0=true:=by
 have ht:topV (List.replicate 8 v) 0=v:=by
  have h1:=ver_le (vers:=List.replicate 8 v) (a:=0) (by simp)
  rw [rep8 v 0 (by omega)] at h1
  have h2:topV (List.replicate 8 v) 0≤v:=topV_le _ 0 (by omega) fun x hx=>by rw [List.eq_of_mem_replicate hx]; exact Int.le_refl _
  omega
 have hs:stripeV kind (allV kind data) (List.replicate 8 v) (List.replicate 8 true)=true:=by
  refine stripe_iff.2 ⟨hk,allV_in hk hd,allV_len _ _,by simp,by simp,fun a ha=>?_⟩
  rw [rep8 _ _ ha,rep8 _ _ ha]
  exact⟨fun _=>⟨hv,data,vec_V4 hd,fun b hb _ _=>allV_at hk (vec_V4 hd) hb⟩,fun h=>by cases h⟩
 refine keepOff_iff.2 ⟨hs,?_,?_,rfl,rfl,rfl⟩
 ·refine (oneF_iff 8 0).2 fun a _ ha _ => ?_
  rw [rep8 _ _ (by omega),ht]
 ·have hc : covV kind (List.replicate 8 v) (List.replicate 8 true) v = true := by
   have:=cov_all' hk
   exact covL_mono (fun b hb=>by
    obtain⟨q1,_⟩:=thereL_mem.1 hb
    exact ofL_mem'.2 ⟨q1,rep8 _ _ q1,rep8 _ _ q1⟩) this
  obtain⟨w,hw,_⟩:=readL_ge hk hc
  rw [hw]; rfl
theorem repI_G {β:Type} (v:Int) (K:List Int→Option β):slices_Repeat_Sint_int.G sl1 [v] 8 K=K (List.replicate 8 v):=by
 refine keq ?_
 kernel_rfl
theorem repB_G {β:Type} (K:List Bool→Option β):slices_Repeat_Sbool_bool.G sl1 [true] 8 K=K (List.replicate 8 true):=by
 refine keq ?_
 kernel_rfl
def newOk (kind:Int) (data:List Int) (v:Int):Bool:=inV kind 1 2&&(vecV data&&inV v 1 99)
theorem newOk_iff {kind:Int} {data:List Int} {v:Int}:newOk kind data v=true↔(kind=1∨kind=2)∧vecV data=true∧1≤v∧v≤99:=by
 unfold newOk
 rw [Bool.and_eq_true,Bool.and_eq_true,inV_iff,inV_iff]
 exact⟨fun⟨a,b,c⟩=>⟨by omega,b,c⟩,fun⟨a,b,c⟩=>⟨by omega,b,c⟩⟩
theorem set255:setV 255=List.replicate 8 true:=by kernel_rfl
theorem newS_G {β:Type} (kind:Int) {data:List Int} (v:Int) (hdl:data.length≤1000000000) (K:List Int→List Int→List Bool→Int→Bool→Option β):
  spec_StripeNew.G sl1 kind data v K=bif newOk kind data v then K (allV kind data) (List.replicate 8 v) (List.replicate 8 true) kind true else K [] [] [] 0 false:=by
 unfold spec_StripeNew.G newOk
 refine(spec_kind _ _).trans ?_
 cases c1:inV kind 1 2
 ·exact cT rfl rfl
 refine cF rfl ((vecOk_G data hdl _).trans ?_)
 cases c2:vecV data
 ·exact cT rfl rfl
 refine cF rfl ((spec_in _ _ _ _).trans ?_)
 cases c3:inV v 1 99
 ·exact cT rfl rfl
 refine cF rfl ((new_G (kindV c1) c2 _ _).trans ?_)
 rw [set255]; rfl
theorem newI_G {β:Type} (kind:Int) {data:List Int} (v:Int) (hdl:data.length≤1000000000) (K:List Int→List Int→List Bool→Int→Bool→Option β):
  impl_StripeNew.G sl1 kind data v K=bif newOk kind data v then K (allV kind data) (List.replicate 8 v) (List.replicate 8 true) kind true else K [] [] [] 0 false:=by
 unfold impl_StripeNew.G newOk
 refine(vector_G data hdl _).trans ?_
 cases c2:vecV data
 ·rw [Bool.false_and,Bool.and_false]; exact cT rfl rfl
 refine cF rfl ((impl_in kind 1 2 _).trans ?_)
 cases c1:inV kind 1 2
 ·exact cT rfl rfl
 refine cF rfl ((impl_in v 1 99 _).trans ?_)
 cases c3:inV v 1 99
 ·exact cT rfl rfl
 exact cF rfl ((encode_G (kindV c1) (vec_V4 c2) _).trans ((repI_G _ _).trans (repB_G _)))
theorem all_stripe {kind:Int} {data:List Int} {v:Int} (h:newOk kind data v=true):stripeV kind (allV kind data) (List.replicate 8 v) (List.replicate 8 true)=true:=by
 obtain⟨hk,hd,hv⟩:=newOk_iff.1 h
 exact(keepOff_iff.1 (keep_all hk hd hv)).1
theorem drawNew {l:List Int} (hl:∀ x∈l,0≤x∧x≤255):∃ (kind:Int) (data:List Int) (v:Int),data.length≤4∧∀ (β:Type) (K:Int→List Int→Int→Option β),spec_DrawStripeNew.G sl1 l K=K kind data v:=by
 obtain⟨b,hb,ho⟩:=open_G hl
 obtain⟨kind,r,r0,r1,_,_,ek⟩:=kind_G hb (p:=0) (by omega) (by omega)
 obtain⟨data,s,d4,_,_,ed⟩:=vec_S hb (p:=r) (by omega) (by omega)
 obtain⟨c,_,_,ec⟩:=pick_S hb (p:=s) 5
 obtain⟨e,_,_,ee⟩:=pick_S hb (p:=s+1) 24
 exact⟨kind,data,_,d4,fun β K=>(ho _ _).trans ((ek _ _).trans ((ed _ _).trans ((ec _ _).trans (ee _ _))))⟩
def mostN (kind:Int):Nat:=if kind=1 then 3 else 4
theorem most_nat {β:Type} (kind:Int) (K:Int→Option β):impl_CodeMost.G sl1 kind K=(impl_CodeMost.G sl1 kind (fun y=>some y)).bind K:=by
 have h:∀ {γ:Type} (K:Int→Option γ),impl_CodeMost.G sl0 kind K=(impl_CodeMost.G sl0 kind (fun x=>some ((),(x,())))).bind (fun y=>K y.2.1):=fun K=>impl_CodeMost.ok.nat ((),(kind,())) (fun y=>K y.2.1)
 rw [sl_eq] at h
 rw [h K,h (fun y=>some y),Option.bind_assoc]; rfl
theorem most_G {β:Type} {kind:Int} (hk:kind=1∨kind=2) (K:Int→Option β):impl_CodeMost.G sl1 kind K=K (mostN kind:Int):=by
 rw [most_nat]
 rcases hk with rfl | rfl
 ·rw [most_1]; rfl
 ·rw [most_2]; rfl
def lostN (r i j:Nat):Bool:=(List.range i).any fun t=>(r+3*t)%8==j
theorem lostN_succ (r i j:Nat):lostN r (i+1) j=(lostN r i j||((r+3*i)%8==j)):=by
 unfold lostN
 rw [List.range_succ,List.any_append]
 simp
theorem lostN_mod (r i j:Nat):lostN (r%8) i j=lostN r i j:=by
 unfold lostN
 congr 1
 funext t
 rw [show(r%8+3*t)%8=(r+3*t)%8 by omega]
def fewT (r i:Nat):List Bool:=(List.range 8).map fun j=>!lostN r i j
theorem few_1:(List.range 8).all (fun r=>covL 1 (thereL (fewT r 3) 0 8))=true:=by kernel_rfl
theorem few_2:(List.range 8).all (fun r=>covL 2 (thereL (fewT r 4) 0 8))=true:=by kernel_rfl
theorem few_k {kind:Int} (hk:kind=1∨kind=2) (r:Nat):covL kind (thereL (fewT (r%8) (mostN kind)) 0 8)=true:=by
 have hr:r%8∈List.range 8:=List.mem_range.2 (by omega)
 rcases hk with rfl | rfl
 ·exact List.all_eq_true.1 few_1 _ hr
 ·exact List.all_eq_true.1 few_2 _ hr
theorem fewT_at (r i:Nat) {j:Nat} (hj:j<8):(fewT r i).getD j false = !lostN r i j:=by
 unfold fewT
 rw [List.getD_eq_getElem?_getD,List.getElem?_map,List.getElem?_range hj]; rfl
structure Few (kind:Int) (data:List Int) (v:Int) (r i:Nat) (A B:List Int) (C:List Bool):Prop where
 ok:stripeV kind A B C=true
 l1:A.length=8
 l2:B.length=8
 l3:C.length=8
 at_:∀ j,j<8→A.getD j 0=(if lostN r i j=true then 0 else(allV kind data).getD j 0)∧B.getD j 0=(if lostN r i j=true then 0 else v)∧C.getD j false = !lostN r i j
theorem Few.zero {kind:Int} {data:List Int} {v:Int} (h:newOk kind data v=true) (r:Nat):Few kind data v r 0 (allV kind data) (List.replicate 8 v) (List.replicate 8 true):=
 ⟨all_stripe h,allV_len _ _,by simp,by simp,fun j hj=>by rw [rep8 _ _ hj,rep8 _ _ hj]; exact⟨rfl,rfl,rfl⟩⟩
theorem Few.succ {kind:Int} {data:List Int} {v:Int} {r i:Nat} {A B:List Int} {C:List Bool} (h:Few kind data v r i A B C):Few kind data v r (i+1) (A.set ((r+3*i)%8) 0) (B.set ((r+3*i)%8) 0) (C.set ((r+3*i)%8) false):=by
 have l1:=h.l1
 have l2:=h.l2
 have l3:=h.l3
 have hi:(r+3*i)%8<8:=by omega
 refine⟨stripe_lose h.ok hi,by rw [List.length_set]; exact l1,by rw [List.length_set]; exact l2,by rw [List.length_set]; exact l3,fun j hj=>?_⟩
 rw [getD_set _ _ _ _ _ (by omega),getD_set _ _ _ _ _ (by omega),getD_set _ _ _ _ _ (by omega),lostN_succ]
 obtain⟨a1,a2,a3⟩:=h.at_ j hj
 by_cases e:(r+3*i)%8=j
 ·rw [if_pos e,if_pos e,if_pos e,beq_iff_eq.2 e,Bool.or_true,if_pos rfl,if_pos rfl]; exact⟨rfl,rfl,rfl⟩
 ·rw [if_neg e,if_neg e,if_neg e,beq_eq_false_iff_ne.2 e,Bool.or_false]; exact⟨a1,a2,a3⟩
theorem Few.read {kind:Int} {data:List Int} {v:Int} {r:Nat} {A B:List Int} {C:List Bool} (hn:newOk kind data v=true) (h:Few kind data v r (mostN kind) A B C):readL kind B C=some v∧Told1 kind A B C v data:=by
 obtain⟨hk,hd,hv⟩:=newOk_iff.1 hn
 have hb:∀ a,a<8→C.getD a false=true→B.getD a 0=v∧A.getD a 0=(allV kind data).getD a 0:=fun a ha ta=>by
  obtain⟨a1,a2,a3⟩:=h.at_ a ha
  rw [a3] at ta
  have:¬(lostN r (mostN kind) a=true):=fun e=>by rw [e] at ta; cases ta
  rw [if_neg this] at a1 a2
  exact⟨a2,a1⟩
 have hc:covV kind B C v=true:=covL_mono (fun b hb'=>by
  obtain⟨q1,q2⟩:=thereL_mem.1 hb'
  rw [fewT_at _ _ q1,lostN_mod] at q2
  have tb:C.getD b false=true:=by rw [(h.at_ b q1).2.2]; exact q2
  exact ofL_mem'.2 ⟨q1,tb,(hb b q1 tb).1⟩) (few_k hk r)
 obtain⟨w,hw,_⟩:=readL_ge hk hc
 obtain⟨a,ha,ta,va⟩:=versL_mem.1 (List.mem_of_find?_eq_some hw)
 rw [(hb a ha ta).1] at va
 refine⟨by rw [hw,va],vec_V4 hd,fun a ha=>?_⟩
 obtain⟨q1,q2,_⟩:=ofL_mem'.1 ha
 rw [(hb a q1 q2).2]
 exact allV_at hk (vec_V4 hd) q1
abbrev noDk:Dk':=(0,(0,(0,())))
def rdA (l:List Dk') (i:Nat):Int:=bif goodV (l.getD i noDk) (i:Int)then(l.getD i noDk).1 else 0
def rdB (l:List Dk') (i:Nat):Int:=bif goodV (l.getD i noDk) (i:Int)then(l.getD i noDk).2.1 else 0
def rdC (l:List Dk') (i:Nat):Bool:=goodV (l.getD i noDk) (i:Int)
def rowN {α:Type} (f:Nat→α) (n:Nat):List α:=(List.range n).map f
theorem rowN_succ {α:Type} (f:Nat→α) (n:Nat):rowN f (n+1)=rowN f n ++ [f n]:=by unfold rowN; rw [List.range_succ,List.map_append]; rfl
theorem rowN_len {α:Type} (f:Nat→α) (n:Nat):(rowN f n).length=n:=by unfold rowN; rw [List.length_map,List.length_range]
theorem srd_l {β:Type} (kx:Int→Int→List Int→List Int→List Bool→Option β) (kr:Option β) (k0 kind:Int) {l:List Dk'} (hl:l.length=8) (d:Nat):∀ (i n:Nat),i+d=8→d<n→
  spec_RotRead.l5 sl1 n kx kr k0 kind (rowN (rdA l) i) (rowN (rdB l) i) (rowN (rdC l) i) l (i:Int)=kx k0 kind (rowN (rdA l) 8) (rowN (rdB l) 8) (rowN (rdC l) 8):=by
 induction d with
 | zero =>
  intro i n hi hn
  obtain⟨n,rfl⟩:∃ m,n=m+1:=⟨n-1,by omega⟩
  obtain rfl:i=8:=by omega
  rw [spec_RotRead.t5]; exact cF (ltF (by omega)) rfl
 | succ d ih =>
  intro i n hi hn
  obtain⟨n,rfl⟩:∃ m,n=m+1:=⟨n-1,by omega⟩
  have e:=ih (i+1) n (by omega) (by omega)
  have la:=rowN_len (rdA l) i
  have lb:=rowN_len (rdB l) i
  have lc:=rowN_len (rdC l) i
  rw [rowN_succ,rowN_succ,rowN_succ] at e
  rw [spec_RotRead.t5]
  unfold spec_RotRead.b5
  rw [w_succ (by omega)]
  simp only [getC]
  refine cT (ltT (by omega)) (cT (irT (by omega) (by omega)) ((good_spec _ _ _).trans ?_))
  have eA:rdA l i=bif rdC l i then(l.getD i noDk).1 else 0:=rfl
  have eB:rdB l i=bif rdC l i then(l.getD i noDk).2.1 else 0:=rfl
  have eC:goodV (l.getD i (0,(0,(0,())))) (i:Int)=rdC l i:=rfl
  rw [eA,eB] at e
  rw [eC]
  cases ct:rdC l i
  ·rw [ct] at e
   exact cT rfl (cT (fwT (by rw [List.length_append,la,List.length_singleton]; omega)) (cT (fwT (by rw [List.length_append,lb,List.length_singleton]; omega)) (cT (fwT (by rw [List.length_append,lc,List.length_singleton]; omega)) e)))
  ·rw [ct] at e
   exact cF rfl (cT (fwT (by rw [List.length_append,la,List.length_singleton]; omega)) (cT (fwT (by rw [List.length_append,lb,List.length_singleton]; omega)) (cT (fwT (by rw [List.length_append,lc,List.length_singleton]; omega)) e)))
theorem ird_l {β:Type} (kx:Int→Int→List Int→List Int→List Bool→Option β) (kr:Option β) (k0 kind:Int) {l:List Dk'} (hl:l.length=8) (d:Nat):∀ (i n:Nat),i+d=8→d<n→
  impl_RotRead.l5 sl1 n kx kr k0 kind (rowN (rdA l) i++List.replicate d 0) (rowN (rdB l) i++List.replicate d 0) (rowN (rdC l) i++List.replicate d false) l (l.length:Int) (i:Int)=kx k0 kind (rowN (rdA l) 8) (rowN (rdB l) 8) (rowN (rdC l) 8):=by
 induction d with
 | zero =>
  intro i n hi hn
  obtain⟨n,rfl⟩:∃ m,n=m+1:=⟨n-1,by omega⟩
  obtain rfl:i=8:=by omega
  rw [impl_RotRead.t5,List.replicate_zero,List.replicate_zero,List.append_nil,List.append_nil,List.append_nil]; exact cF (ltF (by omega)) rfl
 | succ d ih =>
  intro i n hi hn
  obtain⟨n,rfl⟩:∃ m,n=m+1:=⟨n-1,by omega⟩
  have e:=ih (i+1) n (by omega) (by omega)
  have la:=rowN_len (rdA l) i
  have lb:=rowN_len (rdB l) i
  have lc:=rowN_len (rdC l) i
  rw [rowN_succ,rowN_succ,rowN_succ,List.append_assoc,List.append_assoc,List.append_assoc] at e
  rw [impl_RotRead.t5,List.replicate_succ,List.replicate_succ]
  unfold impl_RotRead.b5
  rw [w_succ (by omega)]
  simp only [getC]
  refine cT (ltT (by omega)) (cT (irT (by omega) (by omega)) ((good_impl _ _ _).trans ?_))
  have eA:rdA l i=bif rdC l i then(l.getD i noDk).1 else 0:=rfl
  have eB:rdB l i=bif rdC l i then(l.getD i noDk).2.1 else 0:=rfl
  have eC:goodV (l.getD i (0,(0,(0,())))) (i:Int)=rdC l i:=rfl
  rw [eA,eB] at e
  rw [eC]
  cases ct:rdC l i
  ·rw [ct] at e
   exact cF rfl e
  ·rw [ct] at e
   refine cT rfl ?_
   unfold impl_Stripe_put.G
   rw [mid_set _ _ _ _ _ la,mid_set _ _ _ _ _ lb,mid_set _ _ _ _ _ lc,List.append_assoc,List.append_assoc,List.append_assoc]
   exact cT (irT (by omega) (by rw [mid_len,la]; omega)) (cT (irT (by omega) (by rw [mid_len,lb]; omega)) (cT (irT (by omega) (by rw [mid_len,lc]; omega)) e))
noncomputable def rdV (kind:Int) (l:List Dk'):List Int×List Int×List Bool×Int×Bool:=
 bif inV kind 1 2&&(decide (l.length=8)&&stripeV kind (rowN (rdA l) 8) (rowN (rdB l) 8) (rowN (rdC l) 8))then(rowN (rdA l) 8,rowN (rdB l) 8,rowN (rdC l) 8,kind,true)else([],[],[],0,false)
theorem specRd_G {β:Type} (kind:Int) {l:List Dk'} (h:l.length≤1048576) (K:List Int→List Int→List Bool→Int→Bool→Option β):
  spec_RotRead.G sl1 kind l K=K (rdV kind l).1 (rdV kind l).2.1 (rdV kind l).2.2.1 (rdV kind l).2.2.2.1 (rdV kind l).2.2.2.2:=by
 unfold spec_RotRead.G rdV
 refine(spec_kind _ _).trans ?_
 cases ck:inV kind 1 2
 ·exact cT rfl rfl
 refine cF rfl ?_
 by_cases h8:l.length=8
 ·rw [decide_eq_true h8]
  refine cF (neF (by omega)) ((srd_l _ none 0 kind h8 8 0 sl1.n (by omega) (by rw [rounds_n]; omega)).trans ((stripeOk_G _ _ _ _ (by rw [rowN_len]; omega) _).trans ?_))
  cases stripeV kind (rowN (rdA l) 8) (rowN (rdB l) 8) (rowN (rdC l) 8)
  ·exact cT rfl rfl
  ·exact cF rfl rfl
 ·rw [decide_eq_false h8]
  exact cT (neT (by omega)) rfl
theorem implRd_G {β:Type} (kind:Int) {l:List Dk'} (h:l.length≤1048576) (K:List Int→List Int→List Bool→Int→Bool→Option β):
  impl_RotRead.G sl1 kind l K=K (rdV kind l).1 (rdV kind l).2.1 (rdV kind l).2.2.1 (rdV kind l).2.2.2.1 (rdV kind l).2.2.2.2:=by
 unfold impl_RotRead.G rdV
 refine(impl_in kind 1 2 _).trans ?_
 cases ck:inV kind 1 2
 ·exact cT rfl rfl
 refine cF rfl ?_
 by_cases h8:l.length=8
 ·rw [decide_eq_true h8]
  refine cF (neF (by omega)) (cT (by rfl) (cT (by rfl) (cT (by rfl) ((ird_l _ none 0 kind h8 8 0 sl1.n (by omega) (by rw [rounds_n]; omega)).trans ((stripeI_G _ _ _ _ _).trans ?_)))))
  cases stripeV kind (rowN (rdA l) 8) (rowN (rdB l) 8) (rowN (rdC l) 8)
  ·exact cT rfl rfl
  ·exact cF rfl rfl
 ·rw [decide_eq_false h8]
  exact cT (neT (by omega)) rfl
theorem rotRaw_eq {a b c:Int} (ha:0≤a∧a≤30) (hb:1≤b∧b≤99) (hc:0≤c∧c≤7):rotRaw a b c=(3*a+5*b+7*c)%89+1:=by
 unfold rotRaw
 rw [wE (a:=3*a) (by omega) (by omega),wE (a:=5*b) (by omega) (by omega),wE (a:=7*c) (by omega) (by omega),wE (a:=3*a+5*b) (by omega) (by omega),wE (a:=3*a+5*b+7*c) (by omega) (by omega),Int.tmod_eq_emod_of_nonneg (by omega)]
 rw [wE (by omega) (by omega)]
theorem rotV_eq {a b c:Int} (ha:0≤a∧a≤30) (hb:1≤b∧b≤99) (hc:0≤c∧c≤7):rotV a b c=(3*a+5*b+7*c)%89+1:=by
 unfold rotV
 rw [inV_iff.2 ha,inV_iff.2 hb,inV_iff.2 hc]
 exact rotRaw_eq ha hb hc
theorem disksV_at (vals vers:List Int) (there:List Bool) {i:Nat} (hi:i<8):(disksV vals vers there 8).getD i noDk=diskV vals vers there i:=by
 unfold disksV
 rw [List.getD_eq_getElem?_getD,List.getElem?_map,List.getElem?_range hi]; rfl
theorem rowN_eq {α:Type} {f:Nat→α} {l:List α} (d:α) (hl:l.length=8) (h:∀ i,i<8→f i=l.getD i d):rowN f 8=l:=by
 refine List.ext_getElem? fun i=>?_
 by_cases hi:i<8
 ·unfold rowN
  rw [List.getElem?_map,List.getElem?_range hi,List.getElem?_eq_getElem (by omega)]
  show some (f i)=_
  rw [h i hi,List.getD_eq_getElem?_getD,List.getElem?_eq_getElem (by omega)]; rfl
 ·rw [List.getElem?_eq_none (by rw [rowN_len]; omega),List.getElem?_eq_none (by omega)]
theorem good_disk {kind:Int} {vals vers:List Int} {there:List Bool} (h:stripeV kind vals vers there=true) {i:Nat} (hi:i<8):goodV (diskV vals vers there i) (i:Int)=there.getD i false:=by
 obtain⟨hk,hf,h1,h2,h3,ho⟩:=stripe_iff.1 h
 unfold diskV
 cases ct:there.getD i false
 ·rfl
 ·have hv := getD_in hf (i := i) (by omega)
  have hw:=(((ho i hi).1 ct).1)
  show(!(rotRaw (vals.getD i 0) (vers.getD i 0) (i:Int)==0)&&(rotRaw (vals.getD i 0) (vers.getD i 0) (i:Int)==rotV (vals.getD i 0) (vers.getD i 0) (i:Int)))=true
  rw [rotRaw_eq hv hw (by omega),rotV_eq hv hw (by omega),beq_self_eq_true,Bool.and_true,Bool.not_eq_true',beq_eq_false_iff_ne]
  omega
theorem disk_bad {kind:Int} {vals vers:List Int} {there:List Bool} (h:stripeV kind vals vers there=true) {k:Nat} (hk8:k<8) (ct:there.getD k false=true) {v':Int} (hv':0≤v'∧v'≤30) (hne:v'≠vals.getD k 0):
  goodV (v',(diskV vals vers there k).2) (k:Int)=false∧zeroD (v',(diskV vals vers there k).2)=false:=by
 obtain⟨hk,hf,h1,h2,h3,ho⟩:=stripe_iff.1 h
 have hv:=getD_in hf (i:=k) (by omega)
 have hw:=(((ho k hk8).1 ct).1)
 unfold diskV
 rw [ct]
 refine⟨?_,?_⟩
 ·show (!(rotRaw (vals.getD k 0) (vers.getD k 0) (k : Int) == 0) && (rotRaw (vals.getD k 0) (vers.getD k 0) (k : Int) == rotV v' (vers.getD k 0) (k : Int))) = false
  rw [rotRaw_eq hv hw (by omega),rotV_eq hv' hw (by omega),Bool.and_eq_false_iff]
  right
  rw [beq_eq_false_iff_ne]
  omega
 ·show (sl1.eq v' 0 && (sl1.eq (vers.getD k 0) 0 && (sl1.eq (rotRaw (vals.getD k 0) (vers.getD k 0) (k : Int)) 0 && true))) = false
  rw [eqF (a:=vers.getD k 0) (by omega),Bool.false_and,Bool.and_false]
theorem set_at {α:Type} (l:List α) (d x:α) {k i:Nat} (hk:k<l.length):(l.set k x).getD i d=if k=i then x else l.getD i d:=getD_set l k i x d hk
end Go.Proofs.YtnbighmbgmjbkaaGreat.E
end
