/- What the functions of several statements compute, step by step. No condition. -/
import Derived.Test.YtnbighmbgmjbkaaGreatMGM3
import Derived.Test.YtnbighmbgmjbkaaGreatMGM4
import Derived.Test.YtnbighmbgmjbkaaGreatMGM5
import Derived.Test.YtnbighmbgmjbkaaGreatMGM23
import Derived.Test.YtnbighmbgmjbkaaGreatMGM24
import Derived.Test.YtnbighmbgmjbkaaGreatMGM25
import Derived.Test.YtnbighmbgmjbkaaGreatMGM26
import Derived.Test.YtnbighmbgmjbkaaGreatMGM27
import Derived.Test.YtnbighmbgmjbkaaGreatMGM28
import Derived.Test.YtnbighmbgmjbkaaGreatMGM29
import Derived.Test.YtnbighmbgmjbkaaGreatMGM30
import Derived.Test.YtnbighmbgmjbkaaGreatMGM31
import Derived.Test.YtnbighmbgmjbkaaGreatMGM32
import Derived.Test.YtnbighmbgmjbkaaGreatMGM33
set_option linter.unusedVariables false
set_option linter.unusedSimpArgs false
section
namespace Go.Proofs.YtnbighmbgmjbkaaGreat.E
open Go Go.RowKit
set_option maxRecDepth 100000
theorem tabH_k {kind:Int} (hk:kind=1∨kind=2) {m:Nat} (h1:1≤m) (h4:m≤4):tabH kind m=true:=by
 rcases hk with rfl | rfl
 ·match m, h1, h4 with
  | 1, _, _ => exact tabH_1_1
  | 2, _, _ => exact tabH_1_2
  | 3, _, _ => exact tabH_1_3
  | 4, _, _ => exact tabH_1_4
 ·match m, h1, h4 with
  | 1, _, _ => exact tabH_2_1
  | 2, _, _ => exact tabH_2_2
  | 3, _, _ => exact tabH_2_3
  | 4, _, _ => exact tabH_2_4
theorem tabB_k {kind:Int} (hk:kind=1∨kind=2) {lost m:Nat} (hl:lost<8) (h1:1≤m) (h4:m≤4):tabB kind lost m=true:=by
 rcases hk with rfl | rfl
 ·match lost, m, hl, h1, h4 with
  | 0, 1, _, _, _ => exact tabB_1_0_1
  | 0, 2, _, _, _ => exact tabB_1_0_2
  | 0, 3, _, _, _ => exact tabB_1_0_3
  | 0, 4, _, _, _ => exact tabB_1_0_4
  | 1, 1, _, _, _ => exact tabB_1_1_1
  | 1, 2, _, _, _ => exact tabB_1_1_2
  | 1, 3, _, _, _ => exact tabB_1_1_3
  | 1, 4, _, _, _ => exact tabB_1_1_4
  | 2, 1, _, _, _ => exact tabB_1_2_1
  | 2, 2, _, _, _ => exact tabB_1_2_2
  | 2, 3, _, _, _ => exact tabB_1_2_3
  | 2, 4, _, _, _ => exact tabB_1_2_4
  | 3, 1, _, _, _ => exact tabB_1_3_1
  | 3, 2, _, _, _ => exact tabB_1_3_2
  | 3, 3, _, _, _ => exact tabB_1_3_3
  | 3, 4, _, _, _ => exact tabB_1_3_4
  | 4, 1, _, _, _ => exact tabB_1_4_1
  | 4, 2, _, _, _ => exact tabB_1_4_2
  | 4, 3, _, _, _ => exact tabB_1_4_3
  | 4, 4, _, _, _ => exact tabB_1_4_4
  | 5, 1, _, _, _ => exact tabB_1_5_1
  | 5, 2, _, _, _ => exact tabB_1_5_2
  | 5, 3, _, _, _ => exact tabB_1_5_3
  | 5, 4, _, _, _ => exact tabB_1_5_4
  | 6, 1, _, _, _ => exact tabB_1_6_1
  | 6, 2, _, _, _ => exact tabB_1_6_2
  | 6, 3, _, _, _ => exact tabB_1_6_3
  | 6, 4, _, _, _ => exact tabB_1_6_4
  | 7, 1, _, _, _ => exact tabB_1_7_1
  | 7, 2, _, _, _ => exact tabB_1_7_2
  | 7, 3, _, _, _ => exact tabB_1_7_3
  | 7, 4, _, _, _ => exact tabB_1_7_4
 ·match lost, m, hl, h1, h4 with
  | 0, 1, _, _, _ => exact tabB_2_0_1
  | 0, 2, _, _, _ => exact tabB_2_0_2
  | 0, 3, _, _, _ => exact tabB_2_0_3
  | 0, 4, _, _, _ => exact tabB_2_0_4
  | 1, 1, _, _, _ => exact tabB_2_1_1
  | 1, 2, _, _, _ => exact tabB_2_1_2
  | 1, 3, _, _, _ => exact tabB_2_1_3
  | 1, 4, _, _, _ => exact tabB_2_1_4
  | 2, 1, _, _, _ => exact tabB_2_2_1
  | 2, 2, _, _, _ => exact tabB_2_2_2
  | 2, 3, _, _, _ => exact tabB_2_2_3
  | 2, 4, _, _, _ => exact tabB_2_2_4
  | 3, 1, _, _, _ => exact tabB_2_3_1
  | 3, 2, _, _, _ => exact tabB_2_3_2
  | 3, 3, _, _, _ => exact tabB_2_3_3
  | 3, 4, _, _, _ => exact tabB_2_3_4
  | 4, 1, _, _, _ => exact tabB_2_4_1
  | 4, 2, _, _, _ => exact tabB_2_4_2
  | 4, 3, _, _, _ => exact tabB_2_4_3
  | 4, 4, _, _, _ => exact tabB_2_4_4
  | 5, 1, _, _, _ => exact tabB_2_5_1
  | 5, 2, _, _, _ => exact tabB_2_5_2
  | 5, 3, _, _, _ => exact tabB_2_5_3
  | 5, 4, _, _, _ => exact tabB_2_5_4
  | 6, 1, _, _, _ => exact tabB_2_6_1
  | 6, 2, _, _, _ => exact tabB_2_6_2
  | 6, 3, _, _, _ => exact tabB_2_6_3
  | 6, 4, _, _, _ => exact tabB_2_6_4
  | 7, 1, _, _, _ => exact tabB_2_7_1
  | 7, 2, _, _, _ => exact tabB_2_7_2
  | 7, 3, _, _, _ => exact tabB_2_7_3
  | 7, 4, _, _, _ => exact tabB_2_7_4
theorem tabI_k {kind:Int} (hk:kind=1∨kind=2) {lost m:Nat} (hl:lost<8) (h1:1≤m) (h4:m≤4):tabI kind lost m=true:=by
 rcases hk with rfl | rfl
 ·match lost, m, hl, h1, h4 with
  | 0, 1, _, _, _ => exact tabI_1_0_1
  | 0, 2, _, _, _ => exact tabI_1_0_2
  | 0, 3, _, _, _ => exact tabI_1_0_3
  | 0, 4, _, _, _ => exact tabI_1_0_4
  | 1, 1, _, _, _ => exact tabI_1_1_1
  | 1, 2, _, _, _ => exact tabI_1_1_2
  | 1, 3, _, _, _ => exact tabI_1_1_3
  | 1, 4, _, _, _ => exact tabI_1_1_4
  | 2, 1, _, _, _ => exact tabI_1_2_1
  | 2, 2, _, _, _ => exact tabI_1_2_2
  | 2, 3, _, _, _ => exact tabI_1_2_3
  | 2, 4, _, _, _ => exact tabI_1_2_4
  | 3, 1, _, _, _ => exact tabI_1_3_1
  | 3, 2, _, _, _ => exact tabI_1_3_2
  | 3, 3, _, _, _ => exact tabI_1_3_3
  | 3, 4, _, _, _ => exact tabI_1_3_4
  | 4, 1, _, _, _ => exact tabI_1_4_1
  | 4, 2, _, _, _ => exact tabI_1_4_2
  | 4, 3, _, _, _ => exact tabI_1_4_3
  | 4, 4, _, _, _ => exact tabI_1_4_4
  | 5, 1, _, _, _ => exact tabI_1_5_1
  | 5, 2, _, _, _ => exact tabI_1_5_2
  | 5, 3, _, _, _ => exact tabI_1_5_3
  | 5, 4, _, _, _ => exact tabI_1_5_4
  | 6, 1, _, _, _ => exact tabI_1_6_1
  | 6, 2, _, _, _ => exact tabI_1_6_2
  | 6, 3, _, _, _ => exact tabI_1_6_3
  | 6, 4, _, _, _ => exact tabI_1_6_4
  | 7, 1, _, _, _ => exact tabI_1_7_1
  | 7, 2, _, _, _ => exact tabI_1_7_2
  | 7, 3, _, _, _ => exact tabI_1_7_3
  | 7, 4, _, _, _ => exact tabI_1_7_4
 ·match lost, m, hl, h1, h4 with
  | 0, 1, _, _, _ => exact tabI_2_0_1
  | 0, 2, _, _, _ => exact tabI_2_0_2
  | 0, 3, _, _, _ => exact tabI_2_0_3
  | 0, 4, _, _, _ => exact tabI_2_0_4
  | 1, 1, _, _, _ => exact tabI_2_1_1
  | 1, 2, _, _, _ => exact tabI_2_1_2
  | 1, 3, _, _, _ => exact tabI_2_1_3
  | 1, 4, _, _, _ => exact tabI_2_1_4
  | 2, 1, _, _, _ => exact tabI_2_2_1
  | 2, 2, _, _, _ => exact tabI_2_2_2
  | 2, 3, _, _, _ => exact tabI_2_2_3
  | 2, 4, _, _, _ => exact tabI_2_2_4
  | 3, 1, _, _, _ => exact tabI_2_3_1
  | 3, 2, _, _, _ => exact tabI_2_3_2
  | 3, 3, _, _, _ => exact tabI_2_3_3
  | 3, 4, _, _, _ => exact tabI_2_3_4
  | 4, 1, _, _, _ => exact tabI_2_4_1
  | 4, 2, _, _, _ => exact tabI_2_4_2
  | 4, 3, _, _, _ => exact tabI_2_4_3
  | 4, 4, _, _, _ => exact tabI_2_4_4
  | 5, 1, _, _, _ => exact tabI_2_5_1
  | 5, 2, _, _, _ => exact tabI_2_5_2
  | 5, 3, _, _, _ => exact tabI_2_5_3
  | 5, 4, _, _, _ => exact tabI_2_5_4
  | 6, 1, _, _, _ => exact tabI_2_6_1
  | 6, 2, _, _, _ => exact tabI_2_6_2
  | 6, 3, _, _, _ => exact tabI_2_6_3
  | 6, 4, _, _, _ => exact tabI_2_6_4
  | 7, 1, _, _, _ => exact tabI_2_7_1
  | 7, 2, _, _, _ => exact tabI_2_7_2
  | 7, 3, _, _, _ => exact tabI_2_7_3
  | 7, 4, _, _, _ => exact tabI_2_7_4
theorem combs_0 (l:List Nat):combs 0 l = [[]]:=by unfold combs; rfl
theorem mem_combs:∀ {m:Nat} {l c:List Nat},c∈combs m l↔c.Sublist l∧c.length=m
 | 0, l, c => by
  unfold combs
  rw [List.mem_singleton]
  exact⟨fun h=>by subst h; exact⟨List.nil_sublist _,rfl⟩,fun h=>List.eq_nil_of_length_eq_zero h.2⟩
 | m + 1, [], c => by
  unfold combs
  exact⟨(fun h=>by cases h),fun h=>by rw [List.sublist_nil.1 h.1] at h; cases h.2⟩
 | m + 1, a :: r, c => by
  unfold combs
  rw [List.mem_append,List.mem_map,mem_combs (m:=m+1) (l:=r),List.sublist_cons_iff]
  constructor
  ·rintro (⟨c', hc, rfl⟩ | ⟨h1, h2⟩)
   ·obtain ⟨h1, h2⟩ := mem_combs.1 hc
    exact⟨.inr ⟨c',rfl,h1⟩,by rw [List.length_cons,h2]⟩
   ·exact⟨.inl h1,h2⟩
  ·rintro ⟨h1 | ⟨c', rfl, h1⟩, h2⟩
   ·exact .inr ⟨h1,h2⟩
   ·exact .inl ⟨c',mem_combs.2 ⟨h1,by simpa using h2⟩,rfl⟩
theorem skip_none {kind:Int} {lost m:Nat} {av c:List Nat} (hc:c∈combs m av) (h:∀ m',m'<m→∀ e∈combs m' av,memT kind lost e=false):skipT kind lost c=false:=by
 cases hs:skipT kind lost c
 ·rfl
 ·unfold skipT at hs
  obtain⟨m',hm,hs⟩:=List.any_eq_true.1 hs
  obtain⟨e,he,hs⟩:=List.any_eq_true.1 hs
  obtain⟨h1,h2⟩:=mem_combs.1 hc
  obtain⟨h3,h4⟩:=mem_combs.1 he
  rw [h m' (by have:=List.mem_range.1 hm; omega) e (mem_combs.2 ⟨h3.trans h1,h4⟩)] at hs
  cases hs
theorem depT_mono {kind:Int} {p s:List Nat} (h:depT kind p=true):depT kind (p++s)=true:=by
 unfold depT at h ⊢
 obtain⟨e,he,h⟩:=List.any_eq_true.1 h
 refine List.any_eq_true.2 ⟨e,he,List.all_eq_true.2 fun a ha=>?_⟩
 have:=List.all_eq_true.1 h a ha
 rw [List.any_append,this]; rfl
theorem has_step {kind:Int} (hk:kind=1∨kind=2) {p:List Nat} {a:Nat} (hs:(p ++ [a]).Sublist (List.range 8)) (h4:(p ++ [a]).length≤4) (hp:depT kind p=false):hasF kind p a=some (depT kind (p ++ [a])):=by
 have ht:=tabH_k hk (m:=(p ++ [a]).length) (by simp) h4
 have hc:=List.all_eq_true.1 ht (p ++ [a]) (mem_combs.2 ⟨hs,rfl⟩)
 unfold hasC at hc
 rw [List.dropLast_concat,hp,Bool.false_or] at hc
 have el:(p ++ [a]).getLastD 0=a:=by rw [List.getLastD_eq_getLast?]; simp
 rw [el] at hc
 split at hc
 ·rename_i h; rw [h,hc]
 ·rename_i h
  rw [h]
  cases hd:depT kind (p ++ [a])
  ·rfl
  ·rw [hd] at hc; cases hc
 ·cases hc
theorem firstL_le (kind:Int):∀ (r p:List Nat),(firstL kind p r).length≤r.length
 | [], p => Nat.le_refl _
 | a :: r, p => by
  unfold firstL
  split
  ·exact Nat.le_succ_of_le (firstL_le kind r _)
  ·exact Nat.succ_le_succ (firstL_le kind r _)
theorem first_full {kind:Int} (hk:kind=1∨kind=2):∀ (r p:List Nat),(p++r).Sublist (List.range 8)→(p++r).length≤4→depT kind (p++r)=false→firstL kind p r=r
 | [], p, _, _, _ => rfl
 | a :: r, p, hs, h4, hd => by
  have e:p++a::r=(p ++ [a])++r:=by simp
  rw [e] at hs h4 hd
  have d1:depT kind (p ++ [a])=false:=by
   cases c:depT kind (p ++ [a])
   ·rfl
   ·rw [depT_mono c] at hd; cases hd
  have d0:depT kind p=false:=by
   cases c:depT kind p
   ·rfl
   ·rw [depT_mono c] at d1; cases d1
  have hh:=has_step hk ((List.sublist_append_left _ _).trans hs) (by rw [List.length_append] at h4; omega) d0
  rw [d1] at hh
  unfold firstL
  rw [hh]
  exact congrArg _ (first_full hk r (p ++ [a]) hs h4 hd)
theorem first_less {kind:Int} (hk:kind=1∨kind=2):∀ (r p:List Nat),(p++r).Sublist (List.range 8)→(p++r).length≤4→depT kind p=false→depT kind (p++r)=true→(firstL kind p r).length<r.length
 | [], p, _, _, h0, h1 => by rw [List.append_nil, h0] at h1; cases h1
 | a :: r, p, hs, h4, h0, h1 => by
  have e:p++a::r=(p ++ [a])++r:=by simp
  rw [e] at hs h4 h1
  have hh:=has_step hk ((List.sublist_append_left _ _).trans hs) (by rw [List.length_append] at h4; omega) h0
  unfold firstL
  cases c:depT kind (p ++ [a])
  ·rw [c] at hh
   rw [hh]
   have:=first_less hk r (p ++ [a]) hs h4 c h1
   show(firstL kind (p ++ [a]) r).length+1<r.length+1
   omega
  ·rw [c] at hh
   rw [hh]
   have:=firstL_le kind r (p ++ [a])
   show(firstL kind (p ++ [a]) r).length<r.length+1
   omega
theorem filter_sub:∀ {l c:List Nat},c.Sublist l→l.Nodup→l.filter (fun a=>c.any (Nat.beq a))=c:=by
 intro l c h
 induction h with
 | slnil => intro _; rfl
 | @cons c l a h ih =>
  intro hn
  obtain⟨h1,h2⟩:=List.nodup_cons.1 hn
  rw [List.filter_cons_of_neg,ih h2]
  intro hc
  obtain⟨b,hb,e⟩:=List.any_eq_true.1 hc
  rw [Nat.eq_of_beq_eq_true e] at h1
  exact h1 (h.subset hb)
 | @cons_cons c l a h ih =>
  intro hn
  obtain⟨h1,h2⟩:=List.nodup_cons.1 hn
  rw [List.filter_cons_of_pos (by rw [List.any_cons,Nat.beq_refl]; rfl)]
  refine congrArg _ ((List.filter_congr fun b hb=>?_).trans (ih h2))
  rw [List.any_cons]
  have:Nat.beq b a=false:=by
   cases hx:Nat.beq b a
   ·rfl
   ·rw [Nat.eq_of_beq_eq_true hx] at hb; exact absurd hb h1
  rw [this,Bool.false_or]
theorem okL_sub {kind:Int} (hk:kind=1∨kind=2) {c:List Nat} (hs:c.Sublist (List.range 8)):okL kind [] c:=by
 have h:=(leaf_k hk ((List.range 8).map fun a=>c.any (Nat.beq a))).2
 have e:thereL ((List.range 8).map fun a=>c.any (Nat.beq a)) 0 8=c:=by
  refine Eq.trans ?_ (filter_sub hs List.nodup_range)
  unfold thereL
  rw [←List.range_eq_range']
  refine List.filter_congr fun a ha=>?_
  have ha:=List.mem_range.1 ha
  rw [List.getD_eq_getElem?_getD,List.getElem?_map,List.getElem?_range ha]; rfl
 rw [e] at h; exact h
def Sound (kind:Int) (lost:Nat) (c:List Nat) (b:List Int):Prop:=b.length=c.length∧(∀ x∈b,0≤x∧x≤30)∧([0,1,2,3].all fun k=>Int.tmod (mixF kind k c b) 31==(rowS kind (lost:Int)).getD k 0)=true
theorem sound_of {kind:Int} {lost:Nat} {c:List Nat} {b:List Int} {k:Bool} (h:okBy kind c lost (some (b,k))=true):k=true∧Sound kind lost c b:=by
 simp only [okBy,Bool.and_eq_true] at h
 obtain⟨h0,h1,h2,h3⟩:=h
 exact⟨h0,Nat.eq_of_beq_eq_true h1,fun x hx=>inV_iff.1 (List.all_eq_true.1 h2 x hx),h3⟩
theorem others_sub (lost:Nat):(others lost).Sublist (List.range 8):=List.filter_sublist
theorem others_lt {lost:Nat} {c:List Nat} (h:c.Sublist (others lost)):∀ b∈c,b<8:=fun b hb=>List.mem_range.1 ((h.trans (others_sub lost)).subset hb)
theorem rows11_l {β:Type} (kx:Int→List (List Int)→Int→Int→List Int→Option β) (kr:Option β) {kind:Int} (hk:kind=1∨kind=2) (s0 lost:Int) (B:List Nat) (hB:∀ b∈B,b<8) (h8:B.length≤8) (d:Nat):∀ (i n:Nat),i+d=B.length→d<n→
  spec_l11Plan.l3 sl1 n kx kr s0 (rowsF kind (B.take i)) kind lost (shI B) (i:Int)=kx s0 (rowsF kind B) kind lost (shI B):=by
 induction d with
 | zero =>
  intro i n hi hn
  obtain⟨n,rfl⟩:∃ m,n=m+1:=⟨n-1,by omega⟩
  rw [spec_l11Plan.t3,List.take_of_length_le (by omega)]; exact cF (ltF (by rw [shI_len]; omega)) rfl
 | succ d ih =>
  intro i n hi hn
  obtain⟨n,rfl⟩:∃ m,n=m+1:=⟨n-1,by omega⟩
  have h1:i<B.length:=by omega
  have e:=ih (i+1) n (by omega) (by omega)
  rw [List.take_succ_eq_append_getElem h1,rowsF_app] at e
  rw [spec_l11Plan.t3]
  unfold spec_l11Plan.b3
  rw [shI_get h1,w_succ (by omega)]
  exact cT (ltT (by rw [shI_len]; omega)) (cT (irT (by omega) (by rw [shI_len]; omega)) ((row_G hk (hB _ (List.getElem_mem h1)) _).trans (cT (fwT (by rw [List.length_append,rowsF_len,List.length_take,List.length_singleton]; omega)) e)))
def PlS (kind:Int) (lost:Nat) (c:List Nat):Prop:=
 (memT kind lost c=true→∃ b,Sound kind lost c b∧∀ (β:Type) (K:List Int→Int→List Int→Bool→Option β),spec_l11Plan.G sl1 kind (lost:Int) (shI c) K=K (shI c) (lost:Int) b true)∧
 (memT kind lost c=false→∀ (β:Type) (K:List Int→Int→List Int→Bool→Option β),spec_l11Plan.G sl1 kind (lost:Int) (shI c) K=K [] 0 [] false)
theorem planS_of {kind:Int} (hk:kind=1∨kind=2) {lost m:Nat} (hl:lost<8) (h1:1≤m) (h4:m≤4) {c:List Nat} (hc:c∈combs m (others lost)) (hs:skipT kind lost c=false):PlS kind lost c:=by
 obtain⟨hsub,hlen⟩:=mem_combs.1 hc
 have hsub8:=hsub.trans (others_sub lost)
 have hB:=others_lt hsub
 have ht:=List.all_eq_true.1 (tabB_k hk hl h1 h4) c hc
 unfold byC at ht
 rw [hs,Bool.false_or] at ht
 obtain⟨q1,q2⟩:=idxL_spec kind c []
 have qlen:(idxL kind [] c 0).length=(firstL kind [] c).length:=by
  have:=congrArg List.length q2
  rwa [List.length_map] at this
 have start:∀ (β:Type) (K:List Int→Int→List Int→Bool→Option β) (r:Option β),(bif sl1.lt ((shI (idxL kind [] c 0)).length:Int) ((rowsF kind c).length:Int)then K [] 0 [] false else(spec_l4Row.G sl1 kind (lost:Int) (fun y7=>spec_l3By.G sl1 (rowsF kind c) y7 (fun y8 y9=>bif(!y9)then(K [] 0 [] false)else(bif(sl1.fw ([]++shI c).length)then(K ([]++shI c) (lost:Int) y8 true)else none)))))=r→spec_l11Plan.G sl1 kind (lost:Int) (shI c) K=r:=fun β K r h=>by
  unfold spec_l11Plan.G
  refine(rows11_l _ none hk 0 (lost:Int) c hB (by omega) c.length 0 sl1.n (by omega) (by rw [rounds_n]; omega)).trans ?_
  unfold spec_l3First.G
  exact(first_l kind c (by omega) _ none c [] [] sl1.n (by simp) (by simp) (by rw [rounds_n]; omega) (okL_sub hk hsub8)).trans h
 cases hd:depT kind c
 ·rw [hd] at ht
  have hf:(firstL kind [] c).length=c.length:=by rw [first_full hk c [] hsub8 (by simpa using (by omega:c.length≤4)) hd]
  have run:∀ (β:Type) (K:List Int→Int→List Int→Bool→Option β) (b:List Int) (k:Bool),byO kind c lost=some (b,k)→spec_l11Plan.G sl1 kind (lost:Int) (shI c) K=bif k then K (shI c) (lost:Int) b true else K [] 0 [] false:=fun β K b k hb=>by
   refine start β K _ (cF (ltF (by rw [shI_len,rowsF_len]; omega)) ((row_G hk hl _).trans ((by_nat _ _ _).trans ?_)))
   change (byO kind c lost).bind _=_
   rw [hb]
   cases k
   ·rfl
   ·show (bif sl1.fw ([] ++ shI c).length then K ([] ++ shI c) (lost : Int) b true else none) = K (shI c) (lost : Int) b true
    exact cT (fwT (by rw [List.nil_append,shI_len]; omega)) rfl
  refine⟨fun hm=>?_,fun hm β K=>?_⟩
  ·rw [hm] at ht
   cases hb:byO kind c lost with
   | none => rw [hb] at ht; cases ht
   | some r =>
    obtain⟨b,k⟩:=r
    rw [hb] at ht
    obtain⟨rfl,hS⟩:=sound_of (k:=k) ht
    exact⟨b,hS,fun β K=>run β K b true hb⟩
  ·rw [hm] at ht
   cases hb:byO kind c lost with
   | none => rw [hb] at ht; cases ht
   | some r =>
    obtain⟨b,k⟩:=r
    rw [hb] at ht
    cases k
    ·exact run β K b false hb
    ·cases ht
 ·rw [hd] at ht
  have hf:(firstL kind [] c).length<c.length:=first_less hk c [] hsub8 (by simpa using (by omega:c.length≤4)) (by unfold depT; rcases hk with rfl | rfl <;> rfl) hd
  have hm:memT kind lost c=false:=by
   cases hx:memT kind lost c
   ·rfl
   ·rw [hx] at ht; cases ht
  refine⟨(fun h=>by rw [hm] at h; cases h),fun _ β K=>start β K _ (cT (ltT (by rw [shI_len,rowsF_len]; omega)) rfl)⟩
theorem plan_nat {β:Type} (kind lost:Int) (f:List Int) (K:List Int→List Int→Int→Bool→Option β):impl_planBy.G sl1 kind lost f K=(impl_planBy.G sl1 kind lost f (fun f b l k=>some (f,b,l,k))).bind (fun r=>K r.1 r.2.1 r.2.2.1 r.2.2.2):=by
 have h:∀ {γ:Type} (K:List Int→List Int→Int→Bool→Option γ),impl_planBy.G sl0 kind lost f K=(impl_planBy.o.F (β:=_) ((),(kind,(lost,(f,())))) some).bind (fun y=>K y.1.1 y.1.2.1 y.2.1.1 y.2.2.1):=fun K=>impl_planBy.ok.nat ((),(kind,(lost,(f,())))) (fun y=>K y.1.1 y.1.2.1 y.2.1.1 y.2.2.1)
 rw [sl_eq] at h
 rw [h K,h (fun f b l k=>some (f,b,l,k)),Option.bind_assoc]; rfl
def PlI (kind:Int) (lost:Nat) (c:List Nat):Prop:=
 (memT kind lost c=true→∃ b,Sound kind lost c b∧∀ (β:Type) (K:List Int→List Int→Int→Bool→Option β),impl_planBy.G sl1 kind (lost:Int) (shI c) K=K (shI c) b (lost:Int) true)∧
 (memT kind lost c=false→∃ f b l,∀ (β:Type) (K:List Int→List Int→Int→Bool→Option β),impl_planBy.G sl1 kind (lost:Int) (shI c) K=K f b l false)
theorem planI_of {kind:Int} (hk:kind=1∨kind=2) {lost m:Nat} (hl:lost<8) (h1:1≤m) (h4:m≤4) {c:List Nat} (hc:c∈combs m (others lost)) (hs:skipT kind lost c=false):PlI kind lost c:=by
 have ht:=List.all_eq_true.1 (tabI_k hk hl h1 h4) c hc
 unfold plC at ht
 rw [hs,Bool.false_or] at ht
 cases hp:planI kind lost c with
 | none => rw [hp] at ht; cases ht
 | some r =>
  obtain⟨f,b,l,k⟩:=r
  rw [hp] at ht
  have run:∀ (β:Type) (K:List Int→List Int→Int→Bool→Option β),impl_planBy.G sl1 kind (lost:Int) (shI c) K=K f b l k:=fun β K=>by
   rw [plan_nat]
   change (planI kind lost c).bind _=_
   rw [hp]; rfl
  refine⟨fun hm=>?_,fun hm=>?_⟩
  ·rw [hm] at ht
   simp only [cond_true,Bool.and_eq_true] at ht
   obtain⟨⟨rfl,hf,hl'⟩,hb⟩:=ht
   rw [eqZ_eq hf,beq_iff_eq.1 hl'] at run
   exact⟨b,(sound_of hb).2,run⟩
  ·rw [hm] at ht
   cases k
   ·exact⟨f,b,l,run⟩
   ·cases ht
def sel {α β:Type} (s:Option α) (f:α→β) (x:β):β:=match s with | some t=>f t | none=>x
def avL (th:List Bool) (lost i d:Nat):List Nat:=(List.range' i d).filter fun a=>th.getD a false && !(Nat.beq a lost)
def Found (kind:Int) (lost:Nat) (S:List Nat) (r:Option (List Nat×List Int)):Prop:=∀ c b,r=some (c,b)→Sound kind lost c b∧c.length≤4∧∀ a∈c,a∈S
theorem combs_drop {m:Nat} {a:Nat} {r c:List Nat} (h:c∈combs m r):c∈combs m (a::r):=mem_combs.2 ⟨.cons a (mem_combs.1 h).1,(mem_combs.1 h).2⟩
theorem combs_cons {m:Nat} {a:Nat} {r c:List Nat} (h:c∈combs m r):a::c∈combs (m+1) (a::r):=mem_combs.2 ⟨.cons_cons a (mem_combs.1 h).1,by rw [List.length_cons,(mem_combs.1 h).2]⟩
theorem any_cons {m:Nat} {a:Nat} {r:List Nat} (p:List Nat→Bool):(combs (m+1) (a::r)).any p=((combs m r).any (fun c=>p (a::c))||(combs (m+1) r).any p):=by
 rw [show combs (m+1) (a::r)=(combs m r).map (a :: ·)++combs (m+1) r from rfl,List.any_append,List.any_map]; rfl
theorem shI_one (a:Nat):shI [a] = [(a:Int)]:=rfl
theorem search_n {kind : Int} (hk : kind = 1 ∨ kind = 2) {lost : Nat} {th : List Bool} (h8 : th.length = 8) : ∀ (m n : Nat) (fr : List Nat) (i d : Nat), i + d = 8 → m < n → fr.length + m ≤ 4 → (∀ c ∈ combs m (avL th lost i d), PlS kind lost (fr ++ c)) →
  ∃ r, Found kind lost (fr ++ avL th lost i d) r ∧ r.isSome = (combs m (avL th lost i d)).any (fun c => memT kind lost (fr ++ c)) ∧ ∀ (β : Type) (K : List Int → List Int → Int → List Int → Bool → Option β),
   spec_l11Search.Gn sl1 n (shI fr) kind (lost:Int) th (i:Int) (m:Int) K=match r with
    | some t => K (shI fr) (shI t.1) (lost : Int) t.2 true
    | none => K (shI fr) [] 0 [] false
 | 0, n, fr, i, d, hi, hn, hf, hP => by
  obtain⟨n,rfl⟩:∃ m,n=m+1:=⟨n-1,by omega⟩
  have hp:=hP [] (by unfold combs; exact List.mem_singleton.2 rfl)
  rw [List.append_nil] at hp
  have run:∀ (β:Type) (K:List Int→List Int→Int→List Int→Bool→Option β) (z:Option β),spec_l11Plan.G sl1 kind (lost:Int) (shI fr) (fun y1 y2 y3 y4=>K (shI fr) y1 y2 y3 y4)=z→spec_l11Search.Gn sl1 (n+1) (shI fr) kind (lost:Int) th (i:Int) ((0:Nat):Int) K=z:=fun β K z h=>by
   rw [spec_l11Search.tG]
   unfold spec_l11Search.B
   exact cT (eqT rfl) h
  have ea:(combs 0 (avL th lost i d)).any (fun c=>memT kind lost (fr++c))=memT kind lost fr:=by
   rw [combs_0,List.any_cons,List.any_nil,List.append_nil,Bool.or_false]
  rw [ea]
  cases hm:memT kind lost fr
  ·exact⟨none,(fun c b h=>by cases h),rfl,fun β K=>run β K _ (hp.2 hm _ _)⟩
  ·obtain ⟨b, hS, hG⟩ := hp.1 hm
   exact⟨some (fr,b),fun c b' h=>by
    obtain⟨rfl,rfl⟩:=Prod.mk.inj (Option.some.inj h)
    exact⟨hS,by omega,fun a ha=>List.mem_append_left _ ha⟩,rfl,fun β K=>run β K _ (hG _ _)⟩
 | m + 1, n, fr, i, d, hi, hn, hf, hP => by
  obtain⟨n,rfl⟩:∃ m,n=m+1:=⟨n-1,by omega⟩
  have loop : ∀ (d i n' : Nat), i + d = 8 → d < n' → (∀ c ∈ combs (m + 1) (avL th lost i d), PlS kind lost (fr ++ c)) →
    ∃ r, Found kind lost (fr ++ avL th lost i d) r ∧ r.isSome = (combs (m + 1) (avL th lost i d)).any (fun c => memT kind lost (fr ++ c)) ∧ ∀ (β : Type) (kx : List Int → Int → Option β) (kr : List Int → Int → List Int → List Int → Bool → Option β),
     spec_l11Search.l4 sl1 (spec_l11Search.Gn sl1 n) n' kx kr (shI fr) 0 kind (lost:Int) th ((m+1:Nat):Int) (i:Int)=match r with
      | some t => kr (shI fr) (lost : Int) t.2 (shI t.1) true
      | none => kx (shI fr) 0 := by
   intro d
   induction d with
   | zero =>
    intro i n' hi hn' hP
    obtain⟨n',rfl⟩:∃ m,n'=m+1:=⟨n'-1,by omega⟩
    exact⟨none,(fun c b h=>by cases h),rfl,fun β kx kr=>by rw [spec_l11Search.t4]; exact cF (ltF (by omega)) rfl⟩
   | succ d ih =>
    intro i n' hi hn' hP
    obtain⟨n',rfl⟩:∃ m,n'=m+1:=⟨n'-1,by omega⟩
    have skip:(th.getD i false && !(Nat.beq i lost))=false→avL th lost i (d+1)=avL th lost (i+1) d:=fun h=>by unfold avL; rw [List.range'_succ,List.filter_cons_of_neg (by rw [h]; exact Bool.false_ne_true)]
    have take:(th.getD i false && !(Nat.beq i lost))=true→avL th lost i (d+1)=i::avL th lost (i+1) d:=fun h=>by unfold avL; rw [List.range'_succ]; exact List.filter_cons_of_pos (p:=fun a=>th.getD a false && !(Nat.beq a lost)) h
    cases ct:th.getD i false
    ·rw [skip (by rw [ct]; rfl)] at hP ⊢
     obtain⟨r,r1,r2,r3⟩:=ih (i+1) n' (by omega) (by omega) hP
     refine⟨r,r1,r2,fun β kx kr=>?_⟩
     rw [spec_l11Search.t4]
     unfold spec_l11Search.b4
     rw [w_succ (by omega),getC,ct]
     exact cT (ltT (by omega)) (cT (irT (by omega) (by omega)) (cT rfl (r3 β kx kr)))
    ·by_cases cl : i = lost
     ·rw [skip (by rw [ct, cl, Nat.beq_refl]; rfl)] at hP ⊢
      obtain⟨r,r1,r2,r3⟩:=ih (i+1) n' (by omega) (by omega) hP
      refine⟨r,r1,r2,fun β kx kr=>?_⟩
      rw [spec_l11Search.t4]
      unfold spec_l11Search.b4
      rw [w_succ (by omega),getC,ct]
      exact cT (ltT (by omega)) (cT (irT (by omega) (by omega)) (cF rfl (cT (eqT (by omega)) (r3 β kx kr))))
     ·have nb : Nat.beq i lost = false := by
       cases hx:Nat.beq i lost
       ·rfl
       ·exact absurd (Nat.eq_of_beq_eq_true hx) cl
      rw [take (by rw [ct,nb]; rfl)] at hP ⊢
      obtain⟨s,s1,s2,s3⟩:=search_n hk (lost:=lost) h8 m n (fr ++ [i]) (i+1) d (by omega) (by omega) (by rw [List.length_append,List.length_singleton]; omega) (fun c hc=>by
       have:=hP (i::c) (combs_cons hc)
       rwa [List.append_assoc])
      have w1:sl1.w (((m+1:Nat):Int)-1)=(m:Int):=by rw [wE (by omega) (by omega)]; omega
      have head:∀ (β:Type) (kx:List Int→Int→Option β) (kr:List Int→Int→List Int→List Int→Bool→Option β) (z:Option β),(match s with
        | some t => kr (shI fr) (lost : Int) t.2 (shI t.1) true
        | none => spec_l11Search.l4 sl1 (spec_l11Search.Gn sl1 n) n' kx kr (shI fr) 0 kind (lost : Int) th ((m + 1 : Nat) : Int) ((i + 1 : Nat) : Int)) = z →
        spec_l11Search.l4 sl1 (spec_l11Search.Gn sl1 n) (n'+1) kx kr (shI fr) 0 kind (lost:Int) th ((m+1:Nat):Int) (i:Int)=z:=fun β kx kr z h=>by
       rw [spec_l11Search.t4]
       unfold spec_l11Search.b4
       rw [w_succ (by omega),getC,ct,w1,List.nil_append]
       refine cT (ltT (by omega)) (cT (irT (by omega) (by omega)) (cF rfl (cF (eqF (by omega)) (cT (fwT (by rw [shI_len]; omega)) (cT (fwT (by rw [List.length_append,shI_len,List.length_singleton]; omega)) ?_)))))
       rw [←shI_one i,←shI_app]
       refine(s3 β _).trans (Eq.trans ?_ h)
       cases s with
       | none => rfl
       | some t => rfl
      cases hs:s with
      | some t =>
       subst hs
       refine⟨some t,fun c b h=>?_,?_,fun β kx kr=>head β kx kr _ rfl⟩
       ·obtain ⟨q1, q2, q3⟩ := s1 c b h
        refine⟨q1,q2,fun a ha=>?_⟩
        have:=q3 a ha
        simp only [List.append_assoc,List.singleton_append] at this
        exact this
       ·rw [any_cons]
        simp only [List.append_assoc,List.singleton_append] at s2
        rw [←s2]; rfl
      | none =>
       subst hs
       obtain⟨r,r1,r2,r3⟩:=ih (i+1) n' (by omega) (by omega) (fun c hc=>hP c (combs_drop hc))
       refine⟨r,fun c b h=>?_,?_,fun β kx kr=>head β kx kr _ (r3 β kx kr)⟩
       ·obtain ⟨q1, q2, q3⟩ := r1 c b h
        refine⟨q1,q2,fun a ha=>?_⟩
        rcases List.mem_append.1 (q3 a ha) with h | h
        ·exact List.mem_append_left _ h
        ·exact List.mem_append_right _ (List.mem_cons_of_mem _ h)
       ·simp only [List.append_assoc, List.singleton_append] at s2
        rw [any_cons,r2,←s2]; rfl
  obtain⟨r,r1,r2,r3⟩:=loop d i sl1.n hi (by rw [rounds_n]; omega) hP
  refine⟨r,r1,r2,fun β K=>?_⟩
  rw [spec_l11Search.tG]
  unfold spec_l11Search.B
  refine cF (eqF (by omega)) ((r3 β _ _).trans ?_)
  cases r with
  | none => rfl
  | some t => rfl
theorem take_one (s:List Nat) (a:Nat):List.take (Int.toNat (s.length:Int)) (shI s ++ [(a:Int)])=shI s:=by
 rw [Int.toNat_natCast]
 exact List.take_left' (shI_len s)
theorem chosen_n {kind:Int} {lost:Nat} (SH:List Nat) (hsh:SH.length≤8):∀ (m n:Nat) (set:List Nat) (i:Nat),i≤SH.length→m<n→set.length+m≤4→(∀ c∈combs m (SH.drop i),PlI kind lost (set++c))→
  ∃ r, Found kind lost (set ++ SH.drop i) r ∧ r.isSome = (combs m (SH.drop i)).any (fun c => memT kind lost (set ++ c)) ∧ ∀ (β : Type) (bL : Int) (bF bB : List Int) (K : Int → Int → Int → Int → List Int → List Int → List Int → List Int → Bool → Option β),
   impl_chosen_1_.Gn sl1 n ((set.length+m:Nat):Int) (shI set) kind (lost:Int) bL bF bB (shI SH) (i:Int) K=match r with
    | some t => K ((set.length + m : Nat) : Int) kind (lost : Int) (lost : Int) (shI t.1) t.2 (shI SH) (shI t.1) true
    | none => K ((set.length + m : Nat) : Int) kind (lost : Int) bL bF bB (shI SH) (shI set) false
 | 0, n, set, i, hi, hn, hf, hP => by
  obtain⟨n,rfl⟩:∃ m,n=m+1:=⟨n-1,by omega⟩
  have hp:=hP [] (by unfold combs; exact List.mem_singleton.2 rfl)
  rw [List.append_nil] at hp
  have run:∀ (β:Type) (bL:Int) (bF bB:List Int) (K:Int→Int→Int→Int→List Int→List Int→List Int→List Int→Bool→Option β) (z:Option β),impl_planBy.G sl1 kind (lost:Int) (shI set) (fun y1 y2 y3 y4=>bif y4 then K ((set.length+0:Nat):Int) kind (lost:Int) y3 y1 y2 (shI SH) (shI set) y4 else K ((set.length+0:Nat):Int) kind (lost:Int) bL bF bB (shI SH) (shI set) y4)=z→
    impl_chosen_1_.Gn sl1 (n+1) ((set.length+0:Nat):Int) (shI set) kind (lost:Int) bL bF bB (shI SH) (i:Int) K=z:=fun β bL bF bB K z h=>by
   rw [impl_chosen_1_.tG]
   unfold impl_chosen_1_.B impl_planOf_2.G
   exact cT (eqT (by rw [shI_len]; omega)) h
  have ea:(combs 0 (SH.drop i)).any (fun c=>memT kind lost (set++c))=memT kind lost set:=by
   rw [combs_0,List.any_cons,List.any_nil,List.append_nil,Bool.or_false]
  rw [ea]
  cases hm:memT kind lost set
  ·obtain ⟨f, b, l, hG⟩ := hp.2 hm
   exact⟨none,(fun c b h=>by cases h),rfl,fun β bL bF bB K=>run β bL bF bB K _ ((hG _ _).trans rfl)⟩
  ·obtain ⟨b, hS, hG⟩ := hp.1 hm
   exact⟨some (set,b),fun c b' h=>by
    obtain⟨rfl,rfl⟩:=Prod.mk.inj (Option.some.inj h)
    exact⟨hS,by omega,fun a ha=>List.mem_append_left _ ha⟩,rfl,fun β bL bF bB K=>run β bL bF bB K _ ((hG _ _).trans rfl)⟩
 | m + 1, n, set, i, hi, hn, hf, hP => by
  obtain⟨n,rfl⟩:∃ m,n=m+1:=⟨n-1,by omega⟩
  have loop : ∀ (d i n' : Nat), i + d = SH.length → d < n' → (∀ c ∈ combs (m + 1) (SH.drop i), PlI kind lost (set ++ c)) →
    ∃ r, Found kind lost (set ++ SH.drop i) r ∧ r.isSome = (combs (m + 1) (SH.drop i)).any (fun c => memT kind lost (set ++ c)) ∧ ∀ (β : Type) (bL : Int) (bF bB : List Int) (kx : Int → Int → Int → Int → List Int → List Int → List Int → List Int → Option β) (kr : Int → Int → Int → Int → List Int → List Int → List Int → List Int → Bool → Option β),
     impl_chosen_1_.l4 sl1 (impl_chosen_1_.Gn sl1 n) n' kx kr ((set.length+(m+1):Nat):Int) kind (lost:Int) bL bF bB (shI SH) (shI set) (i:Int)=match r with
      | some t => kr ((set.length + (m + 1) : Nat) : Int) kind (lost : Int) (lost : Int) (shI t.1) t.2 (shI SH) (shI t.1) true
      | none => kx ((set.length + (m + 1) : Nat) : Int) kind (lost : Int) bL bF bB (shI SH) (shI set) := by
   intro d
   induction d with
   | zero =>
    intro i n' hi hn' hP
    obtain⟨n',rfl⟩:∃ m,n'=m+1:=⟨n'-1,by omega⟩
    refine⟨none,(fun c b h=>by cases h),?_,fun β bL bF bB kx kr=>by rw [impl_chosen_1_.t4]; exact cF (ltF (by rw [shI_len]; omega)) rfl⟩
    rw [List.drop_of_length_le (by omega)]; rfl
   | succ d ih =>
    intro i n' hi hn' hP
    obtain⟨n',rfl⟩:∃ m,n'=m+1:=⟨n'-1,by omega⟩
    have h1:i<SH.length:=by omega
    rw [List.drop_eq_getElem_cons h1] at hP ⊢
    obtain⟨s,s1,s2,s3⟩:=chosen_n SH hsh m n (set ++ [SH[i]]) (i+1) (by omega) (by omega) (by rw [List.length_append,List.length_singleton]; omega) (fun c hc=>by
     have:=hP (SH[i]::c) (combs_cons hc)
     rwa [List.append_assoc])
    have el:(set ++ [SH[i]]).length+m=set.length+(m+1):=by rw [List.length_append,List.length_singleton]; omega
    rw [el] at s3
    have head:∀ (β:Type) (bL:Int) (bF bB:List Int) (kx:Int→Int→Int→Int→List Int→List Int→List Int→List Int→Option β) (kr:Int→Int→Int→Int→List Int→List Int→List Int→List Int→Bool→Option β) (z:Option β),sel s (fun t=>kr ((set.length+(m+1):Nat):Int) kind (lost:Int) (lost:Int) (shI t.1) t.2 (shI SH) (shI t.1) true)
      (impl_chosen_1_.l4 sl1 (impl_chosen_1_.Gn sl1 n) n' kx kr ((set.length+(m+1):Nat):Int) kind (lost:Int) bL bF bB (shI SH) (shI set) ((i+1:Nat):Int))=z→
      impl_chosen_1_.l4 sl1 (impl_chosen_1_.Gn sl1 n) (n'+1) kx kr ((set.length+(m+1):Nat):Int) kind (lost:Int) bL bF bB (shI SH) (shI set) (i:Int)=z:=fun β bL bF bB kx kr z h=>by
     rw [impl_chosen_1_.t4]
     unfold impl_chosen_1_.b4
     rw [w_succ (by omega),shI_get h1]
     refine cT (ltT (by rw [shI_len]; omega)) (cT (irT (by omega) (by rw [shI_len]; omega)) (cT (fwT (by rw [List.length_append,shI_len,List.length_singleton]; omega)) ?_))
     rw [←shI_one SH[i],←shI_app]
     refine(s3 β bL bF bB _).trans (Eq.trans ?_ h)
     cases s with
     | none =>
      refine cF rfl ?_
      have w1:sl1.w (((shI (set ++ [SH[i]])).length:Int)-1)=(set.length:Int):=by
       rw [shI_len,List.length_append,List.length_singleton,wE (by omega) (by omega)]; omega
      rw [w1,shI_app,shI_one,take_one]
      refine cT (andT (andT (leT (by omega)) (leT (by rw [List.length_append,shI_len,List.length_singleton]; omega))) (leT (Int.le_refl _))) rfl
     | some t => exact cT rfl rfl
    cases hs:s with
    | some t =>
     subst hs
     refine⟨some t,fun c b h=>?_,?_,fun β bL bF bB kx kr=>head β bL bF bB kx kr _ rfl⟩
     ·obtain ⟨q1, q2, q3⟩ := s1 c b h
      refine⟨q1,q2,fun a ha=>?_⟩
      have:=q3 a ha
      simp only [List.append_assoc,List.singleton_append] at this
      exact this
     ·rw [any_cons]
      simp only [List.append_assoc,List.singleton_append] at s2
      rw [←s2]; rfl
    | none =>
     subst hs
     obtain⟨r,r1,r2,r3⟩:=ih (i+1) n' (by omega) (by omega) (fun c hc=>hP c (combs_drop hc))
     refine⟨r,fun c b h=>?_,?_,fun β bL bF bB kx kr=>head β bL bF bB kx kr _ (r3 β bL bF bB kx kr)⟩
     ·obtain ⟨q1, q2, q3⟩ := r1 c b h
      refine⟨q1,q2,fun a ha=>?_⟩
      rcases List.mem_append.1 (q3 a ha) with h | h
      ·exact List.mem_append_left _ h
      ·exact List.mem_append_right _ (List.mem_cons_of_mem _ h)
     ·simp only [List.append_assoc, List.singleton_append] at s2
      rw [any_cons,r2,←s2]; rfl
  obtain⟨r,r1,r2,r3⟩:=loop (SH.length-i) i sl1.n (by omega) (by rw [rounds_n]; omega) hP
  refine⟨r,r1,r2,fun β bL bF bB K=>?_⟩
  rw [impl_chosen_1_.tG]
  unfold impl_chosen_1_.B
  refine cF (eqF (by rw [shI_len]; omega)) ((r3 β bL bF bB _ _).trans ?_)
  cases r with
  | none => rfl
  | some t => rfl
def anyT (kind:Int) (lost:Nat) (av:List Nat):Nat→Nat→Bool
 | 0, _ => false
 | k + 1, m => (combs m av).any (memT kind lost) || anyT kind lost av k (m + 1)
theorem any_false {kind:Int} {lost m:Nat} {av:List Nat} (h:(combs m av).any (memT kind lost)=false):∀ e∈combs m av,memT kind lost e=false:=fun e he=>by
 cases hx:memT kind lost e
 ·rfl
 ·rw [List.any_eq_true.2 ⟨e,he,hx⟩] at h; cases h
theorem planOf_l {kind:Int} (hk:kind=1∨kind=2) {lost:Nat} (hl:lost<8) (SH:List Nat) (hs:SH.Sublist (others lost)) (S0:List Int) (k:Nat):∀ (m n:Nat),m+k=5→1≤m→k<n→(∀ m',m'<m→∀ e∈combs m' SH,memT kind lost e=false)→
  ∃ r, Found kind lost SH r ∧ r.isSome = anyT kind lost SH k m ∧ ∀ (β : Type) (kx : List Int → Int → List Int → List Int → Option β) (kr : List Int → Int → List Int → List Int → Bool → Option β),
   impl_planOf_.l4 sl1 n kx kr S0 kind (lost:Int) 0 [] [] (shI SH) 0 [] [] (m:Int)=match r with
    | some t => kr S0 (lost : Int) (shI t.1) t.2 true
    | none => kx S0 0 [] [] := by
 have h8:SH.length≤8:=by
  have:=(hs.trans (others_sub lost)).length_le
  rwa [List.length_range] at this
 induction k with
 | zero =>
  intro m n hm h1 hn hno
  obtain⟨n,rfl⟩:∃ m,n=m+1:=⟨n-1,by omega⟩
  exact⟨none,(fun c b h=>by cases h),rfl,fun β kx kr=>by rw [impl_planOf_.t4]; exact cF (leF (by omega)) rfl⟩
 | succ k ih =>
  intro m n hm h1 hn hno
  obtain⟨n,rfl⟩:∃ m,n=m+1:=⟨n-1,by omega⟩
  obtain⟨s,s1,s2,s3⟩:=chosen_n (kind:=kind) (lost:=lost) SH h8 m sl1.n [] 0 (Nat.zero_le _) (by rw [rounds_n]; omega) (by simp; omega) (fun c hc=>by
   rw [List.drop_zero] at hc
   rw [List.nil_append]
   exact planI_of hk hl h1 (by omega) (mem_combs.2 ⟨(mem_combs.1 hc).1.trans hs,(mem_combs.1 hc).2⟩) (skip_none hc hno))
  simp only [List.length_nil,Nat.zero_add,List.nil_append,List.drop_zero] at s1 s2 s3
  have head:∀ (β:Type) (kx:List Int→Int→List Int→List Int→Option β) (kr:List Int→Int→List Int→List Int→Bool→Option β) (z:Option β),(match s with
    | some t => kr S0 (lost : Int) (shI t.1) t.2 true
    | none => impl_planOf_.l4 sl1 n kx kr S0 kind (lost : Int) 0 [] [] (shI SH) 0 [] [] ((m + 1 : Nat) : Int)) = z → impl_planOf_.l4 sl1 (n + 1) kx kr S0 kind (lost : Int) 0 [] [] (shI SH) 0 [] [] (m : Int) = z := fun β kx kr z h => by
   rw [impl_planOf_.t4]
   unfold impl_planOf_.b4 impl_chosen_.G impl_chosen_1_.G
   rw [w_succ (by omega)]
   refine cT (leT (by omega)) (cT (andT (andT (leT (Int.le_refl _)) (leT (by omega))) (fwT (by omega))) ((s3 β 0 [] [] _).trans (Eq.trans ?_ h)))
   cases s with
   | none => rfl
   | some t => rfl
  cases hs':s with
  | some t =>
   subst hs'
   refine⟨some t,s1,?_,fun β kx kr=>head β kx kr _ rfl⟩
   rw [anyT,←s2]; rfl
  | none =>
   subst hs'
   obtain⟨r,r1,r2,r3⟩:=ih (m+1) n (by omega) (by omega) (by omega) (fun m' hm' e he=>by
    by_cases c:m'<m
    ·exact hno m' c e he
    ·obtain rfl : m' = m := by omega
     exact any_false s2.symm e he)
   refine⟨r,r1,?_,fun β kx kr=>head β kx kr _ (r3 β kx kr)⟩
   rw [anyT,←s2,r2]; rfl
theorem idx2_l {β:Type} (lost:Nat) (sh:List Nat) (h8:sh.length≤1000) (kx:List Int→Int→Option β) (kr:List Int→Int→Int→Option β) (d:Nat):∀ (i n:Nat),i+d=sh.length→d<n→
  slices_IndexFunc_Sint_int___.l2 sl1 n kx kr (shI sh) (lost : Int) ((shI sh).length : Int) (i : Int) = match idxF (Nat.beq · lost) (sh.drop i) i with
   | none => kx (shI sh) (lost : Int)
   | some j => kr (shI sh) (lost : Int) (j : Int) := by
 induction d with
 | zero =>
  intro i n hi hn
  obtain⟨n,rfl⟩:∃ m,n=m+1:=⟨n-1,by omega⟩
  rw [slices_IndexFunc_Sint_int___.t2,List.drop_of_length_le (by omega)]; exact cF (ltF (by rw [shI_len]; omega)) rfl
 | succ d ih =>
  intro i n hi hn
  obtain⟨n,rfl⟩:∃ m,n=m+1:=⟨n-1,by omega⟩
  have h1:i<sh.length:=by omega
  rw [slices_IndexFunc_Sint_int___.t2,List.drop_eq_getElem_cons h1,idxF]
  unfold slices_IndexFunc_Sint_int___.b2 impl_planOf_1.G
  rw [shI_get h1,w_succ (by omega)]
  refine cT (ltT (by rw [shI_len]; omega)) (cT (irT (by omega) (by rw [shI_len]; omega)) ?_)
  by_cases c:sh[i]=lost
  ·rw [c, Nat.beq_refl]
   exact cT (eqT rfl) rfl
  ·have nb : Nat.beq sh[i] lost = false := by
    cases hx:Nat.beq sh[i] lost
    ·rfl
    ·exact absurd (Nat.eq_of_beq_eq_true hx) c
   rw [nb]
   exact cF (eqF (by omega)) (ih (i+1) n (by omega) (by omega))
theorem del2_l (lost:Nat) (m:Nat) (hm:m≤1000) (d:Nat):∀ (i j n:Nat) (l:List Nat),l.length=m→j+d=m→i≤j→d<n→
  ∃ l' i',l'.length=m∧i'≤m∧l'.take i'=l.take i++(l.drop j).filter (fun a=>!(Nat.beq a lost))∧∀ (β:Type) (kx:List Int→Int→Int→Option β) (kr:Option β),
   slices_DeleteFunc_Sint_int_.l5 sl1 n kx kr (shI l) (lost:Int) (i:Int) (j:Int)=kx (shI l') (lost:Int) ((i':Nat):Int):=by
 induction d with
 | zero =>
  intro i j n l hl hj hij hn
  obtain⟨n,rfl⟩:∃ m,n=m+1:=⟨n-1,by omega⟩
  refine⟨l,i,hl,by omega,?_,fun β kx kr=>?_⟩
  ·rw [List.drop_of_length_le (by omega)]; simp
  ·rw [slices_DeleteFunc_Sint_int_.t5]; exact cF (ltF (by rw [shI_len]; omega)) rfl
 | succ d ih =>
  intro i j n l hl hj hij hn
  obtain⟨n,rfl⟩:∃ m,n=m+1:=⟨n-1,by omega⟩
  have h1:j<l.length:=by omega
  by_cases c:l[j]=lost
  ·obtain ⟨l', i', k1, k2, k3, k4⟩ := ih i (j + 1) n l hl (by omega) (by omega) (by omega)
   refine⟨l',i',k1,k2,?_,fun β kx kr=>?_⟩
   ·rw [k3,List.drop_eq_getElem_cons h1,List.filter_cons_of_neg (by rw [c,Nat.beq_refl]; exact Bool.false_ne_true)]
   ·rw [slices_DeleteFunc_Sint_int_.t5]
    unfold slices_DeleteFunc_Sint_int_.b5 impl_planOf_1.G
    rw [shI_get h1,w_succ (i:=j) (by omega),eqT (by rw [c])]
    exact cT (ltT (by rw [shI_len]; omega)) (cT (irT (by omega) (by rw [shI_len]; omega)) (cF rfl (k4 β kx kr)))
  ·have nb : Nat.beq l[j] lost = false := by
    cases hx:Nat.beq l[j] lost
    ·rfl
    ·exact absurd (Nat.eq_of_beq_eq_true hx) c
   obtain⟨l',i',k1,k2,k3,k4⟩:=ih (i+1) (j+1) n (l.set i l[j]) (by rw [List.length_set]; exact hl) (by omega) (by omega) (by omega)
   refine⟨l',i',k1,k2,?_,fun β kx kr=>?_⟩
   ·rw [k3,List.drop_set_of_lt (by omega),List.drop_eq_getElem_cons h1,List.filter_cons_of_pos (by rw [nb]; rfl),List.take_succ_eq_append_getElem (by rw [List.length_set]; omega),List.take_set_of_le (Nat.le_refl _),List.getElem_set_self,List.append_assoc]; rfl
   ·rw [slices_DeleteFunc_Sint_int_.t5]
    unfold slices_DeleteFunc_Sint_int_.b5 impl_planOf_1.G
    rw [shI_get h1,w_succ (by omega),w_succ (by omega),Int.toNat_natCast,shI_set,eqF (by omega)]
    exact cT (ltT (by rw [shI_len]; omega)) (cT (irT (by omega) (by rw [shI_len]; omega)) (cT rfl (cT (irT (by omega) (by rw [shI_len]; omega)) (k4 β kx kr))))
theorem del2_G {β:Type} (lost:Nat) (sh:List Nat) (h8:sh.length≤1000) (K:Int→List Int→Option β):
  slices_DeleteFunc_Sint_int_.G sl1 (shI sh) (lost:Int) K=K (lost:Int) (shI (sh.filter fun a=>!(Nat.beq a lost))):=by
 unfold slices_DeleteFunc_Sint_int_.G slices_IndexFunc_Sint_int___.G
 refine(idx2_l lost sh h8 _ _ sh.length 0 sl1.n (by omega) (by rw [rounds_n]; omega)).trans ?_
 rw [List.drop_zero]
 cases hi : idxF (Nat.beq · lost) sh 0 with
 | none =>
  rw [idxF_none hi]
  exact cT rfl rfl
 | some j =>
  obtain⟨k,h1,h2,h3⟩:=idxF_some hi
  obtain rfl:j=k:=by omega
  obtain⟨l',i',k1,k2,k3,k4⟩:=del2_l lost sh.length h8 (sh.length-(j+1)) j (j+1) sl1.n sh rfl (by omega) (by omega) (by rw [rounds_n]; omega)
  refine cF (eqF (by omega)) ?_
  rw [w_succ (by omega)]
  refine(k4 _ _ _).trans ?_
  have hc:(clr (0:Int) (shI l') i' l'.length).length=l'.length:=by rw [clr_len _ _ _ _ (by omega) (by rw [shI_len]; omega),shI_len]
  rw [shI_len,Int.toNat_natCast,Int.toNat_natCast,hc]
  refine cT (andT (andT (andT (leT (by omega)) (leT (by omega))) (leT (by omega))) (leT (by omega))) (cT (andT (andT (leT (by omega)) (leT (by omega))) (leT (by omega))) ?_)
  rw [clr_take _ _ _ _ (by rw [shI_len]; omega),shI_take,k3,←h3]
theorem planOfI {kind:Int} (hk:kind=1∨kind=2) {lost:Nat} (hl:lost<8) {sh:List Nat} (hs:sh.Sublist (List.range 8)):∃ r,Found kind lost (sh.filter fun a=>!(Nat.beq a lost)) r∧r.isSome=anyT kind lost (sh.filter fun a=>!(Nat.beq a lost)) 4 1∧
  ∀ (β:Type) (K:List Int→Int→List Int→List Int→Bool→Option β),impl_planOf_.G sl1 (shI sh) kind (lost:Int) K=match r with
   | some t => K (shI sh) (lost : Int) (shI t.1) t.2 true
   | none => K (shI sh) 0 [] [] false := by
 have h8:sh.length≤8:=by
  have:=hs.length_le
  rwa [List.length_range] at this
 obtain⟨r,r1,r2,r3⟩:=planOf_l hk hl (sh.filter fun a=>!(Nat.beq a lost)) (hs.filter _) (shI sh) 4 1 sl1.n (by omega) (by omega) (by rw [rounds_n]; omega) (fun m' hm' e he=>by
  obtain rfl:m'=0:=by omega
  obtain rfl:=List.eq_nil_of_length_eq_zero (mem_combs.1 he).2
  unfold memT okT
  rcases hk with rfl | rfl
  ·match lost, hl with
   | 0, _ => rfl
   | 1, _ => rfl
   | 2, _ => rfl
   | 3, _ => rfl
   | 4, _ => rfl
   | 5, _ => rfl
   | 6, _ => rfl
   | 7, _ => rfl
  ·match lost, hl with
   | 0, _ => rfl
   | 1, _ => rfl
   | 2, _ => rfl
   | 3, _ => rfl
   | 4, _ => rfl
   | 5, _ => rfl
   | 6, _ => rfl
   | 7, _ => rfl)
 refine⟨r,r1,r2,fun β K=>?_⟩
 unfold impl_planOf_.G slices_Clone_Sint_int.G
 refine cT (fwT (by rw [shI_len]; omega)) ((del2_G lost sh (by omega) _).trans ((r3 β _ _).trans ?_))
 cases r with
 | none => rfl
 | some t => rfl
theorem searchOf_l {kind:Int} (hk:kind=1∨kind=2) {lost:Nat} (hl:lost<8) {th:List Bool} (h8:th.length=8) (k:Nat):∀ (m n:Nat),m+k=5→1≤m→k<n→(∀ m',m'<m→∀ e∈combs m' (avL th lost 0 8),memT kind lost e=false)→
  ∃ r, Found kind lost (avL th lost 0 8) r ∧ r.isSome = anyT kind lost (avL th lost 0 8) k m ∧ ∀ (β : Type) (kx : Int → Option β) (kr : Int → List Int → List Int → Bool → Option β),
   spec_l11Of.l2 sl1 n kx kr 0 kind (lost:Int) th (m:Int)=match r with
    | some t => kr (lost : Int) t.2 (shI t.1) true
    | none => kx 0 := by
 have hsub:(avL th lost 0 8).Sublist (others lost):=by
  unfold avL others
  rw [←List.range_eq_range',show(fun a=>th.getD a false && !(Nat.beq a lost))=(fun a=>(fun a=>th.getD a false) a&&(fun a=>!(Nat.beq a lost)) a) from rfl,←List.filter_filter]
  exact List.filter_sublist
 induction k with
 | zero =>
  intro m n hm h1 hn hno
  obtain⟨n,rfl⟩:∃ m,n=m+1:=⟨n-1,by omega⟩
  exact⟨none,(fun c b h=>by cases h),rfl,fun β kx kr=>by rw [spec_l11Of.t2]; exact cF (leF (by omega)) rfl⟩
 | succ k ih =>
  intro m n hm h1 hn hno
  obtain⟨n,rfl⟩:∃ m,n=m+1:=⟨n-1,by omega⟩
  obtain⟨s,s1,s2,s3⟩:=search_n hk (lost:=lost) h8 m sl1.n [] 0 8 (by omega) (by rw [rounds_n]; omega) (by simp; omega) (fun c hc=>by
   rw [List.nil_append]
   exact planS_of hk hl h1 (by omega) (mem_combs.2 ⟨(mem_combs.1 hc).1.trans hsub,(mem_combs.1 hc).2⟩) (skip_none hc hno))
  simp only [List.nil_append] at s1 s2
  have head:∀ (β:Type) (kx:Int→Option β) (kr:Int→List Int→List Int→Bool→Option β) (z:Option β),(match s with
    | some t => kr (lost : Int) t.2 (shI t.1) true
    | none => spec_l11Of.l2 sl1 n kx kr 0 kind (lost : Int) th ((m + 1 : Nat) : Int)) = z → spec_l11Of.l2 sl1 (n + 1) kx kr 0 kind (lost : Int) th (m : Int) = z := fun β kx kr z h => by
   rw [spec_l11Of.t2]
   unfold spec_l11Of.b2 spec_l11Search.G
   rw [w_succ (by omega)]
   refine cT (leT (by omega)) ((s3 β _).trans (Eq.trans ?_ h))
   cases s with
   | none => rfl
   | some t => rfl
  cases hs':s with
  | some t =>
   subst hs'
   refine⟨some t,s1,?_,fun β kx kr=>head β kx kr _ rfl⟩
   rw [anyT,←s2]; rfl
  | none =>
   subst hs'
   obtain⟨r,r1,r2,r3⟩:=ih (m+1) n (by omega) (by omega) (by omega) (fun m' hm' e he=>by
    by_cases c:m'<m
    ·exact hno m' c e he
    ·obtain rfl : m' = m := by omega
     exact any_false s2.symm e he)
   refine⟨r,r1,?_,fun β kx kr=>head β kx kr _ (r3 β kx kr)⟩
   rw [anyT,←s2,r2]; rfl
theorem mem_nil {kind:Int} (hk:kind=1∨kind=2) {lost:Nat} (hl:lost<8):memT kind lost []=false:=by
 unfold memT okT
 rcases hk with rfl | rfl
 ·match lost, hl with
  | 0, _ => rfl
  | 1, _ => rfl
  | 2, _ => rfl
  | 3, _ => rfl
  | 4, _ => rfl
  | 5, _ => rfl
  | 6, _ => rfl
  | 7, _ => rfl
 ·match lost, hl with
  | 0, _ => rfl
  | 1, _ => rfl
  | 2, _ => rfl
  | 3, _ => rfl
  | 4, _ => rfl
  | 5, _ => rfl
  | 6, _ => rfl
  | 7, _ => rfl
theorem planOfS {kind:Int} (hk:kind=1∨kind=2) {lost:Nat} (hl:lost<8) {th:List Bool} (h8:th.length=8):∃ r,Found kind lost (avL th lost 0 8) r∧r.isSome=anyT kind lost (avL th lost 0 8) 4 1∧
  ∀ (β:Type) (K:List Int→Int→List Int→Bool→Option β),spec_l11Of.G sl1 kind (lost:Int) th K=match r with
   | some t => K (shI t.1) (lost : Int) t.2 true
   | none => K [] 0 [] false := by
 obtain⟨r,r1,r2,r3⟩:=searchOf_l hk hl h8 4 1 sl1.n (by omega) (by omega) (by rw [rounds_n]; omega) (fun m' hm' e he=>by
  obtain rfl:m'=0:=by omega
  obtain rfl:=List.eq_nil_of_length_eq_zero (mem_combs.1 he).2
  exact mem_nil hk hl)
 refine⟨r,r1,r2,fun β K=>?_⟩
 unfold spec_l11Of.G
 refine(r3 β _ _).trans ?_
 cases r with
 | none => rfl
 | some t => rfl
theorem doS_l {β:Type} (kx:Int→Option β) (kr:Option β) (lost:Int) {vals:List Int} (hv:L8 vals) (B:List Nat) (hB:∀ b∈B,b<8) (h8:B.length≤8) (r:List Int) (hr:∀ x∈r,0≤x∧x≤30) (hl:r.length=B.length) (d:Nat):
  ∀ (j n:Nat) (v:Int),j+d=B.length→d<n→0≤v∧v≤30→spec_l11Do.l3 sl1 n kx kr lost (shI B) r vals v (j:Int)=kx (sumF (r.drop j) ((B.drop j).map fun(b:Nat)=>vals.getD b 0) v):=by
 induction d with
 | zero =>
  intro j n v hj hn hv'
  obtain⟨n,rfl⟩:∃ m,n=m+1:=⟨n-1,by omega⟩
  rw [spec_l11Do.t3,List.drop_of_length_le (by omega:B.length≤j),List.drop_of_length_le (by omega:r.length≤j)]; exact cF (ltF (by rw [shI_len]; omega)) rfl
 | succ d ih =>
  intro j n v hj hn hv'
  obtain⟨n,rfl⟩:∃ m,n=m+1:=⟨n-1,by omega⟩
  have j1:j<B.length:=by omega
  have j2:j<r.length:=by omega
  have b8:=hB _ (List.getElem_mem j1)
  have m:=mod31 hv' (hr _ (List.getElem_mem j2)) (hv.at b8)
  have e:=ih (j+1) n (Int.tmod (v+r[j]*vals.getD B[j] 0) 31) (by omega) (by omega) m.2
  rw [spec_l11Do.t3,List.drop_eq_getElem_cons j1,List.drop_eq_getElem_cons j2,List.map_cons,sumF]
  unfold spec_l11Do.b3
  rw [shI_get j1,w_succ (by omega),getN r j j2,Int.toNat_natCast,m.1]
  exact cT (ltT (by rw [shI_len]; omega)) (cT (irT (by omega) (by omega)) (cT (irT (by omega) (by rw [shI_len]; omega)) (cT (irT (by omega) (by rw [hv.1]; omega)) e)))
theorem doI_l {β:Type} (kx:Int→Option β) (kr:Option β) (lost:Int) {vals:List Int} (hv:L8 vals) (B:List Nat) (hB:∀ b∈B,b<8) (h8:B.length≤8) (r:List Int) (hr:∀ x∈r,0≤x∧x≤30) (hl:r.length=B.length) (d:Nat):
  ∀ (j n:Nat) (v:Int),j+d=B.length→d<n→0≤v∧v≤30→impl_Plan_do.l3 sl1 n kx kr lost (shI B) r vals v (shI B) ((shI B).length:Int) (j:Int)=kx (sumF (r.drop j) ((B.drop j).map fun(b:Nat)=>vals.getD b 0) v):=by
 induction d with
 | zero =>
  intro j n v hj hn hv'
  obtain⟨n,rfl⟩:∃ m,n=m+1:=⟨n-1,by omega⟩
  rw [impl_Plan_do.t3,List.drop_of_length_le (by omega:B.length≤j),List.drop_of_length_le (by omega:r.length≤j)]; exact cF (ltF (by rw [shI_len]; omega)) rfl
 | succ d ih =>
  intro j n v hj hn hv'
  obtain⟨n,rfl⟩:∃ m,n=m+1:=⟨n-1,by omega⟩
  have j1:j<B.length:=by omega
  have j2:j<r.length:=by omega
  have b8:=hB _ (List.getElem_mem j1)
  have hb:=hr _ (List.getElem_mem j2)
  have hg:=hv.at b8
  have m:=mod31 hv' hb hg
  have e:=ih (j+1) n (Int.tmod (v+r[j]*vals.getD B[j] 0) 31) (by omega) (by omega) m.2
  have hp:0≤r[j]*vals.getD B[j] 0:=Int.mul_nonneg hb.1 hg.1
  have q:(v+vals.getD B[j] 0*r[j]%31)%31=Int.tmod (v+r[j]*vals.getD B[j] 0) 31:=by
   rw [Int.tmod_eq_emod_of_nonneg (by omega),Int.mul_comm (vals.getD B[j] 0)]; omega
  rw [impl_Plan_do.t3,List.drop_eq_getElem_cons j1,List.drop_eq_getElem_cons j2,List.map_cons,sumF]
  unfold impl_Plan_do.b3
  rw [shI_get j1,w_succ (by omega),getN r j j2,Int.toNat_natCast]
  refine cT (ltT (by rw [shI_len]; omega)) (cT (irT (by omega) (by rw [shI_len]; omega)) (cT (irT (by omega) (by rw [hv.1]; omega)) (cT (irT (by omega) (by omega)) ((times_G hg hb _).trans ((plus_G (El.wide hv') (El.wide (El.mod _)) _).trans ?_)))))
  rw [q]
  exact e
theorem avL_of {vers:List Int} {there:List Bool} (h2:vers.length=8) (h3:there.length=8) (v:Int) (lost:Nat):avL (ofV vers there v) lost 0 8=(ofL vers there v).filter fun a=>!(Nat.beq a lost):=by
 unfold avL ofL
 rw [←List.range_eq_range',List.filter_filter]
 refine List.filter_congr fun a ha=>?_
 rw [ofV_at h2 h3 v (List.mem_range.1 ha)]
 unfold notV
 cases there.getD a false <;> cases (vers.getD a 0==v) <;> cases Nat.beq a lost <;> rfl
def mendB (kind:Int) (vers:List Int) (there:List Bool) (v:Int) (i:Nat):Bool:=anyT kind i ((ofL vers there v).filter fun a=>!(Nat.beq a i)) 4 1
theorem found_val {kind:Int} {vals vers:List Int} {there:List Bool} (hv:L8 vals) {v:Int} {d:List Int} (hT:Told1 kind vals vers there v d) {i:Nat} {r:Option (List Nat×List Int)} (hF:Found kind i ((ofL vers there v).filter fun a=>!(Nat.beq a i)) r) {c:List Nat} {b:List Int} (hr:r=some (c,b)):
  (∀ a∈c,a<8)∧c.length≤8∧(∀ x∈b,0≤x∧x≤30)∧b.length=c.length∧sumF b (c.map fun(a:Nat)=>vals.getD a 0) 0=dotM (rowS kind (i:Int)) d:=by
 obtain⟨⟨q1,q2,q3⟩,q4,q5⟩:=hF c b hr
 have hc:∀ a∈c,a∈ofL vers there v:=fun a ha=>(List.mem_filter.1 (q5 a ha)).1
 have h8:∀ a∈c,a<8:=fun a ha=>(ofL_mem'.1 (hc a ha)).1
 exact⟨h8,by omega,q2,q1,made (fun a ha=>hT.2 a (hc a ha)) q2 (fun a ha=>hv.at (h8 a ha)) q3⟩
theorem mendS_G {β:Type} {kind:Int} {vals vers:List Int} {there:List Bool} (h:stripeV kind vals vers there=true) {i:Nat} (hi:i<8) {v:Int} (hr:readL kind vers there=some v) {d:List Int} (hT:Told1 kind vals vers there v d) (K:List Int→List Int→List Bool→Int→Bool→Option β):
  spec_l21Mend.G sl1 kind vals vers there (i:Int) K=bif mendB kind vers there v i then K (vals.set i (dotM (rowS kind (i:Int)) d)) (vers.set i v) (there.set i true) kind true else K vals vers there kind false:=by
 obtain⟨hk,hf,h1,h2,h3,_⟩:=stripe_iff.1 h
 obtain⟨d',_,es⟩:=readS_E h
 rw [hr] at es
 have hv:L8 vals:=⟨h1,hf⟩
 obtain⟨r,r1,r2,r3⟩:=planOfS hk hi (th:=ofV vers there v) (ofV_len h2 h3)
 rw [avL_of h2 h3] at r1 r2
 unfold spec_l21Mend.G
 refine(copy_G (by omega) (by omega) (by omega) _).trans ((es _ _).trans (cF rfl ((of_G kind vals vers there _ (by omega) (by omega) _).trans ((r3 _ _).trans ?_))))
 unfold mendB
 rw [←r2]
 cases hq:r with
 | none => exact cT rfl rfl
 | some t =>
  obtain⟨c,b⟩:=t
  obtain⟨h8,l8,hb,hl,hs⟩:=found_val hv hT r1 hq
  refine cF rfl ?_
  unfold spec_l11Do.G
  refine(doS_l _ none (i:Int) hv c h8 l8 b hb hl c.length 0 sl1.n 0 (by omega) (by rw [rounds_n]; omega) (by omega)).trans ?_
  rw [List.drop_zero,List.drop_zero,hs,Int.toNat_natCast]
  exact cT (irT (by omega) (by omega)) (cT (irT (by omega) (by omega)) (cT (irT (by omega) (by omega)) rfl))
theorem mendS_N {β:Type} {kind:Int} {vals vers:List Int} {there:List Bool} (h:stripeV kind vals vers there=true) (i:Int) (hr:readL kind vers there=none) (K:List Int→List Int→List Bool→Int→Bool→Option β):
  spec_l21Mend.G sl1 kind vals vers there i K=K vals vers there kind false:=by
 obtain⟨hk,hf,h1,h2,h3,_⟩:=stripe_iff.1 h
 obtain⟨d',_,es⟩:=readS_E h
 rw [hr] at es
 unfold spec_l21Mend.G
 exact(copy_G (by omega) (by omega) (by omega) _).trans ((es _ _).trans (cT rfl rfl))
theorem ofL_sub (vers:List Int) (there:List Bool) (v:Int):(ofL vers there v).Sublist (List.range 8):=List.filter_sublist
theorem mendI_G {β:Type} {kind:Int} {vals vers:List Int} {there:List Bool} (h:stripeV kind vals vers there=true) {i:Nat} (hi:i<8) {v:Int} (hr:readL kind vers there=some v) {d:List Int} (hT:Told1 kind vals vers there v d) (K:List Int→List Int→List Bool→Int→Bool→Option β):
  impl_Stripe_mended.G sl1 kind vals vers there (i:Int) K=bif mendB kind vers there v i then K (vals.set i (dotM (rowS kind (i:Int)) d)) (vers.set i v) (there.set i true) kind true else K vals vers there kind false:=by
 obtain⟨hk,hf,h1,h2,h3,_⟩:=stripe_iff.1 h
 obtain⟨d',_,ei⟩:=readI_E h
 rw [hr] at ei
 have hv:L8 vals:=⟨h1,hf⟩
 obtain⟨r,r1,r2,r3⟩:=planOfI hk hi (ofL_sub vers there v)
 unfold impl_Stripe_mended.G
 refine(copied_G kind (by omega) (by omega) (by omega) _).trans ((ei _ _).trans (cF rfl ((ofI_G kind vals h2 h3 _ _).trans ((r3 _ _).trans ?_))))
 unfold mendB
 rw [←r2]
 cases hq:r with
 | none => exact cT rfl rfl
 | some t =>
  obtain⟨c,b⟩:=t
  obtain⟨h8,l8,hb,hl,hs⟩:=found_val hv hT r1 hq
  refine cF rfl ?_
  unfold impl_Plan_do.G impl_Stripe_put.G
  refine(doI_l _ none (i:Int) hv c h8 l8 b hb hl c.length 0 sl1.n 0 (by omega) (by rw [rounds_n]; omega) (by omega)).trans ?_
  rw [List.drop_zero,List.drop_zero,hs,Int.toNat_natCast]
  exact cT (irT (by omega) (by omega)) (cT (irT (by omega) (by omega)) (cT (irT (by omega) (by omega)) rfl))
theorem mendI_N {β:Type} {kind:Int} {vals vers:List Int} {there:List Bool} (h:stripeV kind vals vers there=true) (i:Int) (hr:readL kind vers there=none) (K:List Int→List Int→List Bool→Int→Bool→Option β):
  impl_Stripe_mended.G sl1 kind vals vers there i K=K vals vers there kind false:=by
 obtain⟨hk,hf,h1,h2,h3,_⟩:=stripe_iff.1 h
 obtain⟨d',_,ei⟩:=readI_E h
 rw [hr] at ei
 unfold impl_Stripe_mended.G
 exact(copied_G kind (by omega) (by omega) (by omega) _).trans ((ei _ _).trans (cT rfl rfl))
noncomputable def toldD (kind:Int) (vals vers:List Int) (there:List Bool):List Int:=by
 classical
 exact if h:∃ v d,readL kind vers there=some v∧Told1 kind vals vers there v d then Classical.choose (Classical.choose_spec h)else []
noncomputable def mendV (kind:Int) (vals vers:List Int) (there:List Bool) (at_:Int):(List Int×List Int×List Bool)×Int×Bool:=
 bif stripeV kind vals vers there&&inV at_ 0 7 then(match readL kind vers there with
  | some v => bif mendB kind vers there v at_.toNat then ((vals.set at_.toNat (dotM (rowS kind at_) (toldD kind vals vers there)), vers.set at_.toNat v, there.set at_.toNat true), kind, true) else ((vals, vers, there), kind, false)
  | none => ((vals, vers, there), kind, false)) else (([], [], []), 0, false)
theorem toldD_told {kind:Int} {vals vers:List Int} {there:List Bool} (h:stripeV kind vals vers there=true) {v:Int} (hr:readL kind vers there=some v):Told1 kind vals vers there v (toldD kind vals vers there):=by
 obtain⟨hk,_⟩:=stripe_iff.1 h
 obtain⟨d,d1,d2⟩:=told_of h (List.mem_of_find?_eq_some hr)
 have hex:∃ v d,readL kind vers there=some v∧Told1 kind vals vers there v d:=⟨v,d,hr,d1,d2⟩
 unfold toldD
 rw [dif_pos hex]
 have key:∀ (w:Int) (x:List Int),readL kind vers there=some w∧Told1 kind vals vers there w x→Told1 kind vals vers there v x:=fun w x ⟨q1,q2⟩=>by
  rw [hr] at q1
  obtain rfl:=Option.some.inj q1
  exact q2
 exact key _ _ (Classical.choose_spec (Classical.choose_spec hex))
theorem mend_G {kind:Int} {vals vers:List Int} {there:List Bool} (hl:vals.length≤1000000000) (at_:Int):
  (∀ (β:Type) (K:List Int→List Int→List Bool→Int→Bool→Option β),spec_StripeMend.G sl1 kind vals vers there at_ K=K (mendV kind vals vers there at_).1.1 (mendV kind vals vers there at_).1.2.1 (mendV kind vals vers there at_).1.2.2 (mendV kind vals vers there at_).2.1 (mendV kind vals vers there at_).2.2)∧
  ∀ (β:Type) (K:List Int→List Int→List Bool→Int→Bool→Option β),impl_StripeMend.G sl1 kind vals vers there at_ K=K (mendV kind vals vers there at_).1.1 (mendV kind vals vers there at_).1.2.1 (mendV kind vals vers there at_).1.2.2 (mendV kind vals vers there at_).2.1 (mendV kind vals vers there at_).2.2:=by
 refine⟨fun β K=>?_,fun β K=>?_⟩
 ·unfold spec_StripeMend.G mendV
  refine(stripeOk_G kind vals vers there hl _).trans ?_
  cases cs:stripeV kind vals vers there
  ·exact cT rfl rfl
  refine cF rfl ((spec_in _ _ _ _).trans ?_)
  cases ca:inV at_ 0 7
  ·exact cT rfl rfl
  obtain⟨a0,a1⟩:=inV_iff.1 ca
  obtain⟨i,rfl⟩:=Int.eq_ofNat_of_zero_le a0
  refine cF rfl ?_
  cases hr:readL kind vers there with
  | none => exact mendS_N cs _ hr _
  | some v =>
   refine(mendS_G cs (by omega) hr (toldD_told cs hr) _).trans ?_
   rw [Int.toNat_natCast]
   dsimp only [cond_true,Bool.and_self]
   cases mendB kind vers there v i <;> rfl
 ·unfold impl_StripeMend.G mendV
  refine(stripeI_G kind vals vers there _).trans ?_
  cases cs:stripeV kind vals vers there
  ·exact cT rfl rfl
  refine cF rfl ((shard_G _ _).trans ?_)
  cases ca:inV at_ 0 7
  ·exact cT rfl rfl
  obtain⟨a0,a1⟩:=inV_iff.1 ca
  obtain⟨i,rfl⟩:=Int.eq_ofNat_of_zero_le a0
  refine cF rfl ?_
  cases hr:readL kind vers there with
  | none => exact mendI_N cs _ hr _
  | some v =>
   refine(mendI_G cs (by omega) hr (toldD_told cs hr) _).trans ?_
   rw [Int.toNat_natCast]
   dsimp only [cond_true,Bool.and_self]
   cases mendB kind vers there v i <;> rfl
theorem mended_ok {kind:Int} {vals vers:List Int} {there:List Bool} (h:stripeV kind vals vers there=true) {i:Nat} (hi:i<8) {v:Int} (hr:readL kind vers there=some v) {d:List Int} (hT:Told1 kind vals vers there v d):
  stripeV kind (vals.set i (dotM (rowS kind (i:Int)) d)) (vers.set i v) (there.set i true)=true∧readL kind (vers.set i v) (there.set i true)=some v∧Told1 kind (vals.set i (dotM (rowS kind (i:Int)) d)) (vers.set i v) (there.set i true) v d:=by
 obtain⟨hk,hf,h1,h2,h3,ho⟩:=stripe_iff.1 h
 obtain⟨a0,ha0,ta0,va0⟩:=versL_mem.1 (List.mem_of_find?_eq_some hr)
 have hv99:=((ho a0 ha0).1 ta0).1
 rw [va0] at hv99
 have gv:∀ j,(vals.set i (dotM (rowS kind (i:Int)) d)).getD j 0=if i=j then dotM (rowS kind (i:Int)) d else vals.getD j 0:=fun j=>getD_set _ _ _ _ _ (by omega)
 have gw:∀ j,(vers.set i v).getD j 0=if i=j then v else vers.getD j 0:=fun j=>getD_set _ _ _ _ _ (by omega)
 have gt:∀ j,(there.set i true).getD j false=if i=j then true else there.getD j false:=fun j=>getD_set _ _ _ _ _ (by omega)
 have told:∀ b,b<8→(there.set i true).getD b false=true→(vers.set i v).getD b 0=v→(vals.set i (dotM (rowS kind (i:Int)) d)).getD b 0=dotM (rowS kind (b:Int)) d:=fun b hb tb vb=>by
  rw [gt] at tb
  rw [gw] at vb
  rw [gv]
  by_cases e:i=b
  ·subst e; rw [if_pos rfl]
  ·rw [if_neg e] at tb vb ⊢
   exact hT.2 b (ofL_mem'.2 ⟨hb,tb,vb⟩)
 have sub:∀ w,w≠v→∀ b∈ofL (vers.set i v) (there.set i true) w,b∈ofL vers there w:=fun w hw b hb=>by
  obtain⟨q1,q2,q3⟩:=ofL_mem'.1 hb
  rw [gt] at q2
  rw [gw] at q3
  by_cases e:i=b
  ·rw [if_pos e] at q3; exact absurd q3.symm hw
  ·rw [if_neg e] at q2 q3
   exact ofL_mem'.2 ⟨q1,q2,q3⟩
 refine⟨stripe_iff.2 ⟨hk,fun x hx=>?_,by rw [List.length_set]; exact h1,by rw [List.length_set]; exact h2,by rw [List.length_set]; exact h3,fun a ha=>?_⟩,?_,hT.1,fun a ha=>?_⟩
 ·rcases List.mem_or_eq_of_mem_set hx with h | rfl
  ·exact hf x h
  ·exact dotM_El _ _
 ·constructor
  ·intro ta
   by_cases c:(vers.set i v).getD a 0=v
   ·rw [c]
    exact⟨hv99,d,hT.1,fun b hb tb vb=>told b hb tb vb⟩
   ·rw [gw] at c
    rw [gt] at ta
    have e:¬(i=a):=fun e=>c (by rw [if_pos e])
    rw [if_neg e] at c ta
    obtain⟨o1,e',o2,o3⟩:=(ho a ha).1 ta
    rw [gw,if_neg e]
    refine⟨o1,e',o2,fun b hb tb vb=>?_⟩
    rw [gt] at tb
    rw [gw] at vb
    rw [gv]
    by_cases eb:i=b
    ·rw [if_pos eb] at vb; exact absurd vb.symm c
    ·rw [if_neg eb] at tb vb ⊢
     exact o3 b hb tb vb
  ·intro ta
   rw [gt] at ta
   by_cases e:i=a
   ·rw [if_pos e] at ta; cases ta
   ·rw [if_neg e] at ta
    rw [gv,gw,if_neg e,if_neg e]
    exact(ho a ha).2 ta
 ·have hc : covV kind (vers.set i v) (there.set i true) v = true := covL_mono (fun b hb => by
   obtain⟨q1,q2,q3⟩:=ofL_mem'.1 hb
   refine ofL_mem'.2 ⟨q1,?_,?_⟩
   ·rw [gt]; split
    ·rfl
    ·exact q2
   ·rw [gw]; split
    ·rfl
    ·exact q3) (List.find?_some hr:covV kind vers there v=true)
  obtain⟨w,hw,hle⟩:=readL_ge hk hc
  rw [hw]
  by_cases e:w=v
  ·rw [e]
  ·have hcw : covV kind (vers.set i v) (there.set i true) w = true := List.find?_some hw
   obtain⟨u,hu,hle'⟩:=readL_ge hk (vers:=vers) (there:=there) (v:=w) (covL_mono (sub w e) hcw)
   rw [hr] at hu
   obtain rfl:=Option.some.inj hu
   exact absurd (Int.le_antisymm hle' hle) e
 ·obtain ⟨q1, q2, q3⟩ := ofL_mem'.1 ha
  exact told a q1 q2 q3
noncomputable def invM (kind:Int):Bool:=(invT kind).all fun e=>eqN ((List.range 8).filter fun a=>e.1.any (Nat.beq a)) e.1&&(List.range 8).all fun l=>e.1.any (Nat.beq l)||anyT kind l e.1 4 1
theorem invM_1:invM 1=true:=by kernel_rfl
theorem invM_2:invM 2=true:=by kernel_rfl
theorem any_mono {kind:Int} {lost:Nat} {e sh:List Nat} (h:e.Sublist sh):∀ (k m:Nat),anyT kind lost e k m=true→anyT kind lost sh k m=true
 | 0, _, hx => by cases hx
 | k + 1, m, hx => by
  unfold anyT at hx ⊢
  rw [Bool.or_eq_true] at hx ⊢
  rcases hx with hx | hx
  ·obtain ⟨c, hc, hm⟩ := List.any_eq_true.1 hx
   exact .inl (List.any_eq_true.2 ⟨c,mem_combs.2 ⟨(mem_combs.1 hc).1.trans h,(mem_combs.1 hc).2⟩,hm⟩)
  ·exact .inr (any_mono h k (m+1) hx)
theorem cov_any {kind:Int} (hk:kind=1∨kind=2) {sh:List Nat} (hs:sh.Sublist (List.range 8)) (hc:covL kind sh=true) {lost:Nat} (hl:lost<8) (hn:lost ∉ sh):anyT kind lost sh 4 1=true:=by
 obtain⟨e,he,hb⟩:=covL_iff.1 hc
 have hi:invM kind=true:=by
  rcases hk with rfl | rfl
  ·exact invM_1
  ·exact invM_2
 have h:=List.all_eq_true.1 hi e he
 rw [Bool.and_eq_true] at h
 have e1:=eqN_eq h.1
 have hsub:e.1.Sublist sh:=by
  have e2:=filter_sub hs List.nodup_range
  have:sh.filter (fun a=>e.1.any (Nat.beq a))=e.1:=by
   rw [←e2,List.filter_filter]
   refine Eq.trans (List.filter_congr fun a ha=>?_) e1
   cases hx:e.1.any (Nat.beq a)
   ·rfl
   ·obtain ⟨b, hb1, hb2⟩ := List.any_eq_true.1 hx
    rw [Bool.true_and]
    exact List.any_eq_true.2 ⟨b,hb b hb1,hb2⟩
  rw [←this]; exact List.filter_sublist
 refine any_mono hsub 4 1 ?_
 have h2:=List.all_eq_true.1 h.2 lost (List.mem_range.2 hl)
 rw [Bool.or_eq_true] at h2
 rcases h2 with h2 | h2
 ·obtain ⟨b, hb1, hb2⟩ := List.any_eq_true.1 h2
  rw [Nat.eq_of_beq_eq_true hb2] at hn
  exact absurd (hb b hb1) hn
 ·exact h2
theorem mend_yes {kind:Int} {vals vers:List Int} {there:List Bool} (h:stripeV kind vals vers there=true) {v:Int} (hr:readL kind vers there=some v) {i:Nat} (hi:i<8) (hn:¬(there.getD i false=true∧vers.getD i 0=v)):mendB kind vers there v i=true:=by
 obtain⟨hk,_⟩:=stripe_iff.1 h
 have hno:i ∉ ofL vers there v:=fun hm=>hn (ofL_mem'.1 hm).2
 unfold mendB
 have e:(ofL vers there v).filter (fun a=>!(Nat.beq a i))=ofL vers there v:=List.filter_eq_self.2 fun a ha=>by
  cases hx:Nat.beq a i
  ·rfl
  ·rw [Nat.eq_of_beq_eq_true hx] at ha; exact absurd ha hno
 rw [e]
 exact cov_any hk (ofL_sub vers there v) (List.find?_some hr:covV kind vers there v=true) hi hno
theorem mendV_len {kind:Int} {vals vers:List Int} {there:List Bool} {at_:Int} {N:Nat} (h1:vals.length≤N) (h2:vers.length≤N) (h3:there.length≤N):
  (mendV kind vals vers there at_).1.1.length≤N∧(mendV kind vals vers there at_).1.2.1.length≤N∧(mendV kind vals vers there at_).1.2.2.length≤N:=by
 unfold mendV
 cases stripeV kind vals vers there&&inV at_ 0 7
 ·simp
 ·rw [cond_true]
  split
  ·rename_i v _
   cases mendB kind vers there v at_.toNat
   ·exact⟨h1,h2,h3⟩
   ·simp only [cond_true,List.length_set]; exact⟨h1,h2,h3⟩
  ·exact⟨h1,h2,h3⟩
theorem mendV_ok {kind:Int} {vals vers:List Int} {there:List Bool} {at_:Int} (h:(mendV kind vals vers there at_).2.2=true):∃ (i:Nat) (v:Int),at_=(i:Int)∧i<8∧stripeV kind vals vers there=true∧readL kind vers there=some v∧
  mendV kind vals vers there at_=((vals.set i (dotM (rowS kind (i:Int)) (toldD kind vals vers there)),vers.set i v,there.set i true),kind,true):=by
 unfold mendV at h ⊢
 cases c:stripeV kind vals vers there&&inV at_ 0 7
 ·rw [c] at h; cases h
 ·rw [c] at h
  rw [Bool.and_eq_true,inV_iff] at c
  obtain⟨i,rfl⟩:=Int.eq_ofNat_of_zero_le c.2.1
  rw [cond_true] at h ⊢
  rw [Int.toNat_natCast] at h ⊢
  cases hr:readL kind vers there with
  | none => rw [hr] at h; cases h
  | some v =>
   rw [hr] at h
   dsimp only at h ⊢
   cases hm:mendB kind vers there v i
   ·rw [hm] at h; cases h
   ·exact⟨i,v,rfl,by omega,c.1,rfl,rfl⟩
theorem mendV_yes {kind:Int} {vals vers:List Int} {there:List Bool} (cs:stripeV kind vals vers there=true) {i:Nat} (hi:i<8) {v:Int} (hr:readL kind vers there=some v) (hm:mendB kind vers there v i=true):
  mendV kind vals vers there (i:Int)=((vals.set i (dotM (rowS kind (i:Int)) (toldD kind vals vers there)),vers.set i v,there.set i true),kind,true):=by
 unfold mendV
 rw [cs,inV_iff.2 ⟨by omega,by omega⟩,Int.toNat_natCast,hr]
 dsimp only [Bool.and_self,cond_true]
 rw [hm]; rfl
theorem drawMend {l:List Int} (hl:∀ x∈l,0≤x∧x≤255):∃ kind vals vers there at_,Sd kind vals vers there∧0≤at_∧∀ (β:Type) (K:List Int→List Int→List Bool→Int→Int→Option β),spec_DrawStripeMend.G sl1 l K=K vals vers there kind at_:=by
 obtain⟨b,hb,ho⟩:=open_G hl
 obtain⟨q,kind,vals,vers,there,q0,q1,hs,h⟩:=stripe_S hb (p:=0) (by omega) (by omega)
 obtain⟨c,c0,c1,ec⟩:=pick_S hb (p:=q) 8
 obtain⟨f,f0,f1,ef⟩:=pick_S hb (p:=q+1) 24
 have hq:0≤Int.tdiv f 23∧Int.tdiv f 23≤1:=by
  rw [Int.tdiv_eq_ediv_of_nonneg f0]; omega
 exact⟨kind,vals,vers,there,_,hs,by rw [wE (a:=Int.tdiv f 23) (by omega) (by omega),wE (a:=Int.tdiv f 23*8) (by omega) (by omega),wE (by omega) (by omega)]; omega,fun β K=>(ho _ _).trans ((h _ _).trans ((ec _ _).trans (ef _ _)))⟩
def missN (C:List Bool):Nat→Nat→Int
 | 0, _ => 0
 | k + 1, i => (bif C.getD i false then 0 else 1) + missN C k (i + 1)
theorem missN_succ (C:List Bool) (k i:Nat):missN C (k+1) i=(bif C.getD i false then 0 else 1)+missN C k (i+1):=rfl
structure RotTo (kind:Int) (v:Int) (d B0:List Int) (C0:List Bool) (i:Nat) (A B:List Int) (C:List Bool):Prop where
 ok:stripeV kind A B C=true
 rd:readL kind B C=some v
 told:Told1 kind A B C v d
 left:∀ j,i≤j→j<8→C.getD j false=C0.getD j false
 done:∀ j,j<i→C.getD j false=true∧(C0.getD j false=false→B.getD j 0=v)
 kept:∀ j,j<8→C0.getD j false=true→B.getD j 0=B0.getD j 0
theorem RotTo.same {kind v:Int} {d B0:List Int} {C0:List Bool} {i:Nat} {A B:List Int} {C:List Bool} (h:RotTo kind v d B0 C0 i A B C) (hi:i<8) (hc:C0.getD i false=true):RotTo kind v d B0 C0 (i+1) A B C:=
 ⟨h.ok, h.rd, h.told, fun j h1 h2 => h.left j (by omega) h2, fun j hj => by
  by_cases e:j=i
  ·subst e; exact⟨by rw [h.left j (Nat.le_refl _) hi,hc],fun q=>by rw [hc] at q; cases q⟩
  ·exact h.done j (by omega),h.kept⟩
theorem RotTo.mend {kind v:Int} {d B0:List Int} {C0:List Bool} {i:Nat} {A B:List Int} {C:List Bool} (h:RotTo kind v d B0 C0 i A B C) (hi:i<8) (hc:C0.getD i false=false):
  RotTo kind v d B0 C0 (i+1) (A.set i (dotM (rowS kind (i:Int)) d)) (B.set i v) (C.set i true)∧mendB kind B C v i=true:=by
 obtain⟨hk,hf,h1,h2,h3,_⟩:=stripe_iff.1 h.ok
 have hm:=mend_yes h.ok h.rd hi (fun q=>by rw [h.left i (Nat.le_refl _) hi,hc] at q; cases q.1)
 obtain⟨o1,o2,o3⟩:=mended_ok h.ok hi h.rd h.told
 refine⟨⟨o1,o2,o3,fun j q1 q2=>?_,fun j hj=>?_,fun j q1 q2=>?_⟩,hm⟩
 ·rw [getD_set _ _ _ _ _ (by omega),if_neg (by omega)]; exact h.left j (by omega) q2
 ·rw [getD_set _ _ _ _ _ (by omega), getD_set _ _ _ _ _ (by omega)]
  by_cases e:i=j
  ·rw [if_pos e,if_pos e]; exact⟨rfl,fun _=>rfl⟩
  ·rw [if_neg e,if_neg e]; exact h.done j (by omega)
 ·rw [getD_set _ _ _ _ _ (by omega)]
  by_cases e:i=j
  ·subst e; rw [hc] at q2; cases q2
  ·rw [if_neg e]; exact h.kept j q1 q2
theorem cloneD_G {β:Type} {l:List Dk'} (h:l.length≤1048576) (K:List Dk'→Option β):slices_Clone_Simpl_Disk_impl_Disk.G sl1 l K=K l:=by
 unfold slices_Clone_Simpl_Disk_impl_Disk.G
 exact cT (fwT (by omega)) rfl
theorem clipD_G {β:Type} (l:List Dk') (K:List Dk'→Option β):slices_Clip_Simpl_Disk_impl_Disk_.G sl1 l K=K l:=by
 unfold slices_Clip_Simpl_Disk_impl_Disk_.G
 rw [Int.toNat_natCast,List.take_length]
 exact cT (by simp [leT]) rfl
theorem rotM_l {kind v:Int} {d B0:List Int} {C0:List Bool} (hC:C0.length=8) (l:List Dk') (k:Nat):∀ (i:Nat) (A B:List Int) (C:List Bool) (m:Int),i+k=8→0≤m→m+k≤1000→RotTo kind v d B0 C0 i A B C→
  ∃ (A' B':List Int) (C':List Bool),RotTo kind v d B0 C0 8 A' B' C'∧
   (∀ (β:Type) (n:Nat) (kx:Int→List Bool→List Int→List Int→Int→Option β) (kr:List Dk'→Int→Bool→Option β),k<n→impl_RotMend.l6 sl1 n kx kr kind C A B l m C0 (C0.length:Int) (i:Int)=kx kind C' A' B' (m+missN C0 k i))∧
   ∀ (β:Type) (n:Nat) (kx:Int→List Int→List Int→List Bool→Int→Option β) (kr:List Dk'→Int→Bool→Option β) (k0:Int) (a0 b0:List Int),k<n→spec_RotMend.l7 sl1 n kx kr k0 a0 b0 C0 kind A B C l m (i:Int)=kx kind A' B' C' (m+missN C0 k i):=by
 induction k with
 | zero =>
  intro i A B C m hi hm hm2 h
  obtain rfl:i=8:=by omega
  refine⟨A,B,C,h,fun β n kx kr hn=>?_,fun β n kx kr k0 a0 b0 hn=>?_⟩
  ·obtain ⟨n, rfl⟩ : ∃ m, n = m + 1 := ⟨n - 1, by omega⟩
   rw [impl_RotMend.t6,missN,Int.add_zero]; exact cF (ltF (by omega)) rfl
  ·obtain ⟨n, rfl⟩ : ∃ m, n = m + 1 := ⟨n - 1, by omega⟩
   rw [spec_RotMend.t7,missN,Int.add_zero]; exact cF (ltF (by omega)) rfl
 | succ k ih =>
  intro i A B C m hi hm hm2 h
  cases ct:C0.getD i false
  ·obtain ⟨q1, q2⟩ := h.mend (by omega) ct
   obtain⟨A',B',C',h',e1,e2⟩:=ih (i+1) _ _ _ (m+1) (by omega) (by omega) (by omega) q1
   have em:m+missN C0 (k+1) i=m+1+missN C0 k (i+1):=by rw [missN_succ,ct,cond_false]; omega
   refine⟨A',B',C',h',fun β n kx kr hn=>?_,fun β n kx kr k0 a0 b0 hn=>?_⟩
   ·obtain ⟨n, rfl⟩ : ∃ m, n = m + 1 := ⟨n - 1, by omega⟩
    rw [impl_RotMend.t6,em]
    unfold impl_RotMend.b6
    rw [w_succ (by omega),getC false,ct,wE (a:=m+1) (by omega) (by omega)]
    refine cT (ltT (by omega)) (cT (irT (by omega) (by omega)) (cF rfl ((mendI_G h.ok (by omega) h.rd h.told _).trans ?_)))
    rw [q2]
    exact cT rfl (cF rfl (e1 β n kx kr (by omega)))
   ·obtain ⟨n, rfl⟩ : ∃ m, n = m + 1 := ⟨n - 1, by omega⟩
    rw [spec_RotMend.t7,em]
    unfold spec_RotMend.b7
    rw [w_succ (by omega),getC false,ct,wE (a:=m+1) (by omega) (by omega)]
    refine cT (ltT (by omega)) (cT (irT (by omega) (by omega)) (cF rfl ((mendS_G h.ok (by omega) h.rd h.told _).trans ?_)))
    rw [q2]
    exact cT rfl (cF rfl (e2 β n kx kr k0 a0 b0 (by omega)))
  ·obtain ⟨A', B', C', h', e1, e2⟩ := ih (i + 1) A B C m (by omega) (by omega) (by omega) (h.same (by omega) ct)
   have em:m+missN C0 (k+1) i=m+missN C0 k (i+1):=by rw [missN_succ,ct,cond_true]; omega
   refine⟨A',B',C',h',fun β n kx kr hn=>?_,fun β n kx kr k0 a0 b0 hn=>?_⟩
   ·obtain ⟨n, rfl⟩ : ∃ m, n = m + 1 := ⟨n - 1, by omega⟩
    rw [impl_RotMend.t6,em]
    unfold impl_RotMend.b6
    rw [w_succ (by omega),getC false,ct]
    exact cT (ltT (by omega)) (cT (irT (by omega) (by omega)) (cT rfl (e1 β n kx kr (by omega))))
   ·obtain ⟨n, rfl⟩ : ∃ m, n = m + 1 := ⟨n - 1, by omega⟩
    rw [spec_RotMend.t7,em]
    unfold spec_RotMend.b7
    rw [w_succ (by omega),getC false,ct]
    exact cT (ltT (by omega)) (cT (irT (by omega) (by omega)) (cT rfl (e2 β n kx kr k0 a0 b0 (by omega))))
theorem rotN_l {kind:Int} {A B:List Int} {C:List Bool} (cs:stripeV kind A B C=true) (hr:readL kind B C=none) (hC:C.length=8) {l:List Dk'} (hl:l.length≤1048576) (m:Int) (k:Nat):∀ (i:Nat),i+k=8→
  ∃ b:Bool,
   (∀ (β:Type) (n:Nat) (kx:Int→List Bool→List Int→List Int→Int→Option β) (kr:List Dk'→Int→Bool→Option β),k<n→impl_RotMend.l6 sl1 n kx kr kind C A B l m C (C.length:Int) (i:Int)=bif b then kx kind C A B m else kr l 0 false)∧
   ∀ (β:Type) (n:Nat) (kx:Int→List Int→List Int→List Bool→Int→Option β) (kr:List Dk'→Int→Bool→Option β) (k0:Int) (a0 b0:List Int),k<n→spec_RotMend.l7 sl1 n kx kr k0 a0 b0 C kind A B C l m (i:Int)=bif b then kx kind A B C m else kr l 0 false:=by
 induction k with
 | zero =>
  intro i hi
  obtain rfl:i=8:=by omega
  refine⟨true,fun β n kx kr hn=>?_,fun β n kx kr k0 a0 b0 hn=>?_⟩
  ·obtain ⟨n, rfl⟩ : ∃ m, n = m + 1 := ⟨n - 1, by omega⟩
   rw [impl_RotMend.t6]; exact cF (ltF (by omega)) rfl
  ·obtain ⟨n, rfl⟩ : ∃ m, n = m + 1 := ⟨n - 1, by omega⟩
   rw [spec_RotMend.t7]; exact cF (ltF (by omega)) rfl
 | succ k ih =>
  intro i hi
  cases ct:C.getD i false
  ·refine ⟨false, fun β n kx kr hn => ?_, fun β n kx kr k0 a0 b0 hn => ?_⟩
   ·obtain ⟨n, rfl⟩ : ∃ m, n = m + 1 := ⟨n - 1, by omega⟩
    rw [impl_RotMend.t6]
    unfold impl_RotMend.b6
    rw [getC false,ct]
    exact cT (ltT (by omega)) (cT (irT (by omega) (by omega)) (cF rfl ((mendI_N cs _ hr _).trans (cT rfl ((cloneD_G hl _).trans ((clipD_G l _).trans rfl))))))
   ·obtain ⟨n, rfl⟩ : ∃ m, n = m + 1 := ⟨n - 1, by omega⟩
    rw [spec_RotMend.t7]
    unfold spec_RotMend.b7
    rw [getC false,ct,List.nil_append]
    exact cT (ltT (by omega)) (cT (irT (by omega) (by omega)) (cF rfl ((mendS_N cs _ hr _).trans (cT rfl (cT (fwT (by omega)) rfl)))))
  ·obtain ⟨b, e1, e2⟩ := ih (i + 1) (by omega)
   refine⟨b,fun β n kx kr hn=>?_,fun β n kx kr k0 a0 b0 hn=>?_⟩
   ·obtain ⟨n, rfl⟩ : ∃ m, n = m + 1 := ⟨n - 1, by omega⟩
    rw [impl_RotMend.t6]
    unfold impl_RotMend.b6
    rw [w_succ (by omega),getC false,ct]
    exact cT (ltT (by omega)) (cT (irT (by omega) (by omega)) (cT rfl (e1 β n kx kr (by omega))))
   ·obtain ⟨n, rfl⟩ : ∃ m, n = m + 1 := ⟨n - 1, by omega⟩
    rw [spec_RotMend.t7]
    unfold spec_RotMend.b7
    rw [w_succ (by omega),getC false,ct]
    exact cT (ltT (by omega)) (cT (irT (by omega) (by omega)) (cT rfl (e2 β n kx kr k0 a0 b0 (by omega))))
theorem rdV_yes {kind:Int} {l:List Dk'} (h:(rdV kind l).2.2.2.2=true):∃ (A B:List Int) (C:List Bool),stripeV kind A B C=true∧rdV kind l=(A,B,C,kind,true):=by
 unfold rdV at h ⊢
 cases c:(inV kind 1 2&&(decide (l.length=8)&&stripeV kind (rowN (rdA l) 8) (rowN (rdB l) 8) (rowN (rdC l) 8)))
 ·rw [c] at h; cases h
 ·simp only [Bool.and_eq_true] at c
  exact⟨_,_,_,c.2.2,rfl⟩
theorem rotM_some {kind v:Int} {l:List Dk'} (hl:l.length≤1048576) {A B d:List Int} {C:List Bool} (cs:stripeV kind A B C=true) (e:rdV kind l=(A,B,C,kind,true)) (hr:readL kind B C=some v) (hT:Told1 kind A B C v d):
  ∃ (A' B':List Int) (C':List Bool),RotTo kind v d B C 8 A' B' C'∧
   (∀ (β:Type) (K:List Dk'→Int→Bool→Option β),spec_RotMend.G sl1 kind l K=K (disksV A' B' C' 8) (missN C 8 0) true)∧
   ∀ (β:Type) (K:List Dk'→Int→Bool→Option β),impl_RotMend.G sl1 kind l K=K (disksV A' B' C' 8) (missN C 8 0) true:=by
 obtain⟨hk,hf,h1,h2,h3,_⟩:=stripe_iff.1 cs
 obtain⟨A',B',C',h',e1,e2⟩:=rotM_l (d:=d) (B0:=B) h3 l 8 0 A B C 0 (by omega) (by omega) (by omega) ⟨cs,hr,hT,fun j _ _=>rfl,fun j hj=>by omega,fun j _ _=>rfl⟩
 obtain⟨_,_,l1,_,_,_⟩:=stripe_iff.1 h'.ok
 rw [Int.zero_add] at e1 e2
 have ew:wrV kind A' B' C'=disksV A' B' C' 8:=by unfold wrV; rw [h'.ok]; rfl
 refine⟨A',B',C',h',fun β K=>?_,fun β K=>?_⟩
 ·unfold spec_RotMend.G
  refine(specRd_G kind hl _).trans ?_
  rw [e]
  refine cF rfl ((e2 β sl1.n _ _ kind A B (by rw [rounds_n]; omega)).trans ((specWr_G kind (by omega) _).trans ?_))
  rw [ew]
 ·unfold impl_RotMend.G
  refine(implRd_G kind hl _).trans ?_
  rw [e]
  exact cF rfl ((e1 β sl1.n _ _ (by rw [rounds_n]; omega)).trans (blocks_G h'.ok _))
theorem rotM_E (kind:Int) {l:List Dk'} (hl:l.length≤1048576):∃ (r:List Dk') (m:Int) (ok:Bool),r.length≤1048576∧
  (∀ (β:Type) (K:List Dk'→Int→Bool→Option β),spec_RotMend.G sl1 kind l K=K r m ok)∧
  ∀ (β:Type) (K:List Dk'→Int→Bool→Option β),impl_RotMend.G sl1 kind l K=K r m ok:=by
 cases ok:(rdV kind l).2.2.2.2
 ·refine ⟨[], 0, false, by simp, fun β K => ?_, fun β K => ?_⟩
  ·unfold spec_RotMend.G
   refine(specRd_G kind hl _).trans ?_
   rw [ok]; exact cT rfl rfl
  ·unfold impl_RotMend.G
   refine(implRd_G kind hl _).trans ?_
   rw [ok]; exact cT rfl rfl
 ·obtain ⟨A, B, C, cs, e⟩ := rdV_yes ok
  obtain⟨hk,hf,h1,h2,h3,_⟩:=stripe_iff.1 cs
  cases hr:readL kind B C with
  | some v =>
   obtain⟨A',B',C',_,e1,e2⟩:=rotM_some hl cs e hr (toldD_told cs hr)
   exact⟨_,_,_,by rw [disksV_len]; omega,e1,e2⟩
  | none =>
   obtain⟨b,e1,e2⟩:=rotN_l cs hr h3 hl 0 8 0 (by omega)
   have ew:wrV kind A B C=disksV A B C 8:=by unfold wrV; rw [cs]; rfl
   cases b
   ·refine ⟨l, 0, false, hl, fun β K => ?_, fun β K => ?_⟩
    ·unfold spec_RotMend.G
     refine(specRd_G kind hl _).trans ?_
     rw [e]
     exact cF rfl (e2 β sl1.n _ _ kind A B (by rw [rounds_n]; omega))
    ·unfold impl_RotMend.G
     refine(implRd_G kind hl _).trans ?_
     rw [e]
     exact cF rfl (e1 β sl1.n _ _ (by rw [rounds_n]; omega))
   ·refine ⟨disksV A B C 8, 0, true, by rw [disksV_len]; omega, fun β K => ?_, fun β K => ?_⟩
    ·unfold spec_RotMend.G
     refine(specRd_G kind hl _).trans ?_
     rw [e]
     refine cF rfl ((e2 β sl1.n _ _ kind A B (by rw [rounds_n]; omega)).trans (cT rfl ((specWr_G kind (by omega) _).trans ?_)))
     rw [ew]
    ·unfold impl_RotMend.G
     refine(implRd_G kind hl _).trans ?_
     rw [e]
     exact cF rfl ((e1 β sl1.n _ _ (by rw [rounds_n]; omega)).trans (cT rfl (blocks_G cs _)))
end Go.Proofs.YtnbighmbgmjbkaaGreat.E
end
