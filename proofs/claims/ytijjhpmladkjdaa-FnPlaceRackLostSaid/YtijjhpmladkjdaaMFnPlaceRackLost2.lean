/- Part 2 of the proof of the statement FnPlaceRackLost; the last part states it. No condition. -/
import Derived.Orders
import Derived.LoopN
import Derived.ChangeKeysEq
import Derived.Test.YtijjhpmladkjdaaProg
import Derived.SizedLaws
import Derived.Shelf.Small.Bits
import Derived.Test.YtijjhpmladkjdaaMFnPlaceRackLost1
set_option linter.unusedVariables false
set_option linter.unusedSimpArgs false
section
namespace Go.Proofs.Ytijjhpmladkjdaa.E
open Go Go.RowKit
def SimO:Obj'→Obj'→Prop
 | .buf t _ l, .buf t' _ l' => ∃ h : t = t', l.length = (h ▸ l' : List t.den).length
 | .box asq, .box bs => sameForm asq bs = true
 | .dead, .dead => True
 | _, _ => False
def Ren (V V':View) (π:Nat→Nat→Prop):Prop:=
 ∀ j i,π j i→∀ o,V.h i=some o→∃ o',V'.h j=some o'∧SimO o o'∧(o.isDead=false→V'.loc j=V.loc i)
theorem own_ren {V V':View} {π:Nat→Nat→Prop} (RN:Ren V V' π) {j i:Nat} (hp:π j i) {cs:List Value} (k:AtomR V (.own i) cs):AtomR V' (.own j) cs:=by
 simp only [AtomR] at k ⊢
 cases ho:V.h i with
 | none => rw [ho] at k; exact k.elim
 | some o =>
  obtain⟨o',h1,h2,h3⟩:=RN j i hp o ho
  rw [ho] at k; rw [h1]
  cases o with
  | dead => cases o' <;> first | exact k | exact h2.elim
  | box asq => exact k.elim
  | buf t fr l =>
   cases o' with
   | dead => exact h2.elim
   | box => exact h2.elim
   | buf t' fr' l' =>
    obtain⟨rfl,hl⟩:=h2
    simp only at hl
    simp only [h3 rfl]
    revert k
    cases V.loc i with
    | none => intro k; exact ⟨k.1, List.eq_nil_of_length_eq_zero (by rw [← hl, k.2]; rfl)⟩
    | some L => intro k; simp only at k ⊢; rw [← hl]; exact k
theorem ptr_ren {V V':View} {π:Nat→Nat→Prop} (RN:Ren V V' π) {j i:Nat} (hp:π j i) {cs:List Value} (k:AtomR V (.ptr i 0 0) cs):AtomR V' (.ptr j 0 0) cs:=by
 simp only [AtomR] at k ⊢
 cases ho:V.h i with
 | none => rw [ho] at k; exact k.elim
 | some o =>
  obtain⟨o',h1,h2,h3⟩:=RN j i hp o ho
  rw [ho] at k; rw [h1]
  cases o with
  | dead => cases o' <;> first | exact k | exact h2.elim
  | box asq => cases o' <;> first | (simp only [h3 rfl]; exact k) | exact h2.elim
  | buf t fr l =>
   cases o' with
   | dead => exact h2.elim
   | box => exact h2.elim
   | buf t' fr' l' =>
    obtain⟨rfl,hl⟩:=h2
    simp only at hl
    simp only [h3 rfl]
    rw [←hl]; exact k
theorem fn_ren {V V':View} {π:Nat→Nat→Prop} (RN:Ren V V' π) {f:Nat} {js is:List Nat} (hl:js.length=is.length) (hp:∀ (n j i:Nat),js[n]? = some j→is[n]? = some i→π j i) {cs:List Value} (k:AtomR V (.fn f is) cs):AtomR V' (.fn f js) cs:=by
 obtain⟨vs,e,h1,h2⟩:=k
 refine⟨vs,e,by rw [h1,hl],fun n j hj=>?_⟩
 have hlt:n<is.length:=by rw [←hl]; exact(List.getElem?_eq_some_iff.1 hj).1
 obtain⟨v,v1,v2⟩:=h2 n is[n] (List.getElem?_eq_getElem hlt)
 refine⟨v,v1,?_⟩
 have hpi:=hp n j is[n] hj (List.getElem?_eq_getElem hlt)
 cases ho:V.h is[n] with
 | none => rw [ho] at v2; exact v2.elim
 | some o =>
  obtain⟨o',k1,k2,k3⟩:=RN j _ hpi o ho
  rw [ho] at v2; rw [k1]
  cases o with
  | dead => cases o' <;> first | exact v2 | exact k2.elim
  | box asq => cases o' <;> first | (simp only [k3 rfl]; exact v2) | exact k2.elim
  | buf => exact v2.elim
structure DLe (d D:Dk):Prop where
 m:∀ j i,get j d.m=some i→get j D.m=some i
 fz:∀ i∈d.fz,i∈D.fz
 vt:∀ j,hasNat j d.vt=true→hasNat j D.vt=true
theorem DLe.refl (d:Dk):DLe d d:=⟨fun _ _ k=>k,fun _ k=>k,fun _ k=>k⟩
theorem DLe.trans {a b c:Dk} (k:DLe a b) (l:DLe b c):DLe a c:=⟨fun j i h=>l.m j i (k.m j i h),fun i h=>l.fz i (k.fz i h),fun j h=>l.vt j (k.vt j h)⟩
theorem get_cons_ne {α:Type} {k j:Nat} {v:α} {r:List (Nat×α)} (h:k≠j):get j ((k,v)::r)=get j r:=by simp only [get,beq_ne h]
theorem get_cons_eq {α:Type} {j:Nat} {v:α} {r:List (Nat×α)}:get j ((j,v)::r)=some v:=by simp only [get,Nat.beq_refl]
theorem bind_le {d d':Dk} {j i:Nat} (k:d.bind j i=some d'):DLe d d'∧get j d'.m=some i:=by
 simp only [Dk.bind] at k
 split at k
 ·cases k
 ·split at k
  ·rename_i hn
   obtain rfl:=Option.some.inj k
   refine⟨⟨fun j2 i2 h=>?_,fun _ k=>k,fun _ k=>k⟩,get_cons_eq⟩
   by_cases e:j=j2
   ·subst e; rw [hn] at h; cases h
   ·rw [get_cons_ne e]; exact h
  ·rename_i i2 hi
   split at k
   ·rename_i hb
    obtain rfl:=Option.some.inj k
    obtain rfl:=Nat.eq_of_beq_eq_true hb
    exact⟨DLe.refl d,hi⟩
   ·cases k
theorem void_le {d d':Dk} {j:Nat} (k:d.void j=some d'):DLe d d'∧hasNat j d'.vt=true:=by
 simp only [Dk.void] at k
 split at k
 ·obtain rfl := Option.some.inj k
  refine⟨⟨fun _ _ k=>k,fun _ k=>k,fun j2 h=>?_⟩,by simp [hasNat]⟩
  simp only [hasNat]
  split
  ·rfl
  ·exact h
 ·cases k
theorem binds_le:∀ {js is:List Nat} {d d':Dk},d.binds js is=some d'→DLe d d'∧js.length=is.length∧∀ (n j i:Nat),js[n]? = some j→is[n]? = some i→get j d'.m=some i
 | [], [], d, d', k => by obtain rfl := Option.some.inj k; exact ⟨DLe.refl d, rfl, by simp⟩
 | [], _ :: _, _, _, k => by cases k
 | _ :: _, [], _, _, k => by cases k
 | j :: js, i :: is, d, d', k => by
  simp only [Dk.binds] at k
  split at k
  ·rename_i d1 h1
   obtain⟨l1,m1⟩:=bind_le h1
   obtain⟨l2,e2,m2⟩:=binds_le k
   refine⟨l1.trans l2,by simp [e2],fun n j2 i2 hj hi=>?_⟩
   cases n with
   | zero =>
    obtain rfl:j=j2:=by simpa using hj
    obtain rfl:i=i2:=by simpa using hi
    exact l2.m _ _ m1
   | succ n => exact m2 n j2 i2 (by simpa using hj) (by simpa using hi)
  ·cases k
section
variable {P:Program} {B:Base} {h g:Nat→Option Obj'} {loc:Nat→Option Loc} {w:World}
theorem addfz_le (d:Dk) (ids:List Nat):DLe d { d with fz:=ids++d.fz }:=⟨fun _ _ k=>k,fun i k=>List.mem_append_right _ k,fun _ k=>k⟩
structure Into (B:Base) (w:World) (h:Nat→Option Obj') (loc:Nat→Option Loc) (V':View) (D:Dk):Prop where
 ren:Ren (viewOf B w h loc) V' (fun j i=>get j D.m=some i)
 vt:∀ j,hasNat j D.vt=true→(∃ t fr,V'.h j=some (.buf t fr []))∧V'.loc j=none
 sees:SeesM B w h loc D.fz V'
theorem Into.at {V':View} {D d:Dk} (I:Into B w h loc V' D) (k:DLe d D) {ids:List Nat} (hi:∀ i∈ids,i∈d.fz):SeesM B w h loc ids V':=
 ⟨I.sees.m,I.sees.mf,I.sees.sub,fun i hi'=>I.sees.fz i (k.fz i (hi i hi'))⟩
theorem Into.fr {V':View} {D:Dk} (I:Into B w h loc V' D) {fr f:Bool} (hf:frOk fr f=true) {t:Ty} {x:t.den} {cs:List Value} (k:Has (V'.mem f) t x cs):Has (V'.mem fr) t x cs:=by
 cases fr <;> cases f <;> first | exact k | exact k.mono I.sees.sub | cases hf
theorem void_R {V':View} {D:Dk} (I:Into B w h loc V' D) {j:Nat} (hj:hasNat j D.vt=true) {cs:List Value} (k:AtomR (viewOf B w h loc) .nils cs):AtomR V' (.own j) cs:=by
 obtain⟨⟨t,fr,h1⟩,h2⟩:=I.vt j hj
 simp only [AtomR,h1,h2]
 exact⟨⟨none,k⟩,trivial⟩
theorem decRef_le {d d':Dk} {a:RS} {x:Atom} (k:decRef d a x=some d'):DLe d d':=by
 cases a <;> cases x <;> simp only [decRef] at k <;> first
  | (cases k; done)
  | (obtain rfl := Option.some.inj k; exact DLe.refl _)
  | exact (bind_le k).1
  | exact (void_le k).1
  | (split at k <;> first | exact (bind_le k).1 | exact (binds_le k).1 | (cases k; done))
theorem decRef_R {V':View} {D:Dk} (I:Into B w h loc V' D) {d d':Dk} {a:RS} {x:Atom} {cs:List Value} (k:decRef d a x=some d') (l:DLe d' D) (h1:AtomR (viewOf B w h loc) x cs):AtomR V' (mkRef id a) cs:=by
 cases a with
 | own j => cases x <;> simp only [decRef] at k <;> first
  | (cases k; done)
  | exact own_ren I.ren (l.m _ _ (bind_le k).2) h1
  | exact void_R I (l.vt _ (void_le k).2) h1
 | ptr j => cases x <;> simp only [decRef] at k <;> first
  | (cases k; done)
  | (split at k
     ·exact ptr_ren I.ren (l.m _ _ (bind_le k).2) h1
     ·cases k)
 | fn f js => cases x <;> simp only [decRef] at k <;> first
  | (cases k; done)
  | (split at k
     ·rename_i hf
      obtain⟨b1,b2,b3⟩:=binds_le k
      obtain rfl:=Nat.eq_of_beq_eq_true hf
      simp only [mkRef,List.map_id]
      exact fn_ren I.ren b2 (fun n j i q1 q2=>l.m _ _ (b3 n j i q1 q2)) h1
     ·cases k)
 | e0 => cases x <;> simp only [decRef] at k <;> first
  | (cases k; done)
  | exact h1
  | exact ⟨none, h1⟩
 | np => cases x <;> simp only [decRef] at k <;> first
  | (cases k; done)
  | exact h1
theorem mkRef_size (ρ:Nat→Nat) (a:RS):(mkRef ρ a).size=1:=by cases a <;> rfl
theorem mkRef_noArr (ρ:Nat→Nat) (a:RS):match mkRef ρ a with | .arr _ _ _ _=>False | _=>True:=by cases a <;> trivial
theorem decRef_size {d d':Dk} {a:RS} {x:Atom} (k:decRef d a x=some d'):x.size=1:=by
 cases a <;> cases x <;> simp only [decRef] at k <;> first | rfl | cases k
theorem decA_le:∀ {asq:List AS} {d d':Dk} {xs:List Atom} {x:denA asq},decA g asq d xs=some (x,d')→DLe d d'
 | [], d, d', xs, x, k => by
  cases xs with
  | nil => simp only [decA, Option.some.injEq, Prod.mk.injEq] at k; obtain ⟨_, rfl⟩ := k; exact DLe.refl _
  | cons => cases k
 | .val t fr :: r, d, d', xs, x, k => by
  simp only [decA] at k
  split at k
  ·split at k
   ·split at k
    ·rename_i y d2 h2
     simp only [Option.some.injEq,Prod.mk.injEq] at k
     obtain⟨_,rfl⟩:=k
     exact(addfz_le d _).trans (decA_le h2)
    ·cases k
   ·cases k
  ·cases k
 | .ref a :: r, d, d', xs, x, k => by
  cases xs with
  | nil => cases k
  | cons y xs =>
   simp only [decA] at k
   split at k
   ·rename_i h1; exact(decRef_le h1).trans (decA_le k)
   ·cases k
theorem decA_R (R:HRel B h loc w) (hg:∀ id o,g id=some o→h id=some o) {V':View} {D:Dk} (I:Into B w h loc V' D):∀ {asq:List AS} {d d':Dk} {xs:List Atom} {x:denA asq} {cs:List Value},
  decA g asq d xs=some (x,d')→DLe d' D→AtomsR (viewOf B w h loc) xs cs→AtomsR V' (mkA id asq x) cs
 | [], d, d', xs, x, cs, k, _, hA => by
  cases xs with
  | nil => exact hA
  | cons => cases k
 | .val t fr :: r, d, d', xs, x, cs, k, l, hA => by
  simp only [decA] at k
  split at k
  ·rename_i y xs' hy
   split at k
   ·rename_i hfr
    split at k
    ·rename_i z d2 h2
     simp only [Option.some.injEq,Prod.mk.injEq] at k
     obtain⟨rfl,rfl⟩:=k
     have l2:=(decA_le h2).trans l
     obtain⟨c1,c2,rfl,k1,k2⟩:=asTy_R R hg hA hy (I.at l2 fun i hi=>List.mem_append_left _ hi)
     exact(atomsOf_R V' fr t y.x c1 (I.fr hfr k1)).append (decA_R R hg I h2 l k2)
    ·cases k
   ·cases k
  ·cases k
 | .ref a :: r, d, d', xs, x, cs, k, l, hA => by
  cases xs with
  | nil => cases k
  | cons y xs =>
   obtain⟨c1,c2,e,hs,h1,h2⟩:=hA
   simp only [decA] at k
   split at k
   ·rename_i d1 hb
    have l1:=(decA_le k).trans l
    exact⟨c1,c2,e,by rw [hs,decRef_size hb,mkRef_size],decRef_R I hb l1 h1,decA_R R hg I k l h2⟩
   ·cases k
theorem natEq_self (n:Nat):∃ k,natEq n n=some k:=⟨⟨rfl⟩,by simp [natEq]⟩
theorem tyEq_self (t:Ty):∃ k,Ty.eq? t t=some k:=by
 have kind:∀ k,∃ x,kindEq k k=some x:=fun k=>by cases k <;> exact⟨_,rfl⟩
 induction t with
 | int k => obtain ⟨x, hx⟩ := kind k; exact ⟨⟨rfl⟩, by simp only [Ty.eq?, hx]⟩
 | bool => exact ⟨_, rfl⟩
 | str => exact ⟨_, rfl⟩
 | unit => exact ⟨_, rfl⟩
 | sl t ih => obtain ⟨x, hx⟩ := ih; exact ⟨⟨rfl⟩, by simp only [Ty.eq?, hx]⟩
 | pair a b ih1 ih2 => obtain ⟨x, hx⟩ := ih1; obtain ⟨y, hy⟩ := ih2; exact ⟨⟨rfl⟩, by simp only [Ty.eq?, hx, hy]⟩
 | arr n t ih => obtain ⟨x, hx⟩ := ih; obtain ⟨y, hy⟩ := natEq_self n; exact ⟨⟨rfl⟩, by simp only [Ty.eq?, hx, hy]⟩
theorem sameForm_arr (n:Nat) (t:Ty) (f1 f2:Bool) (l1 l2:List t.den) {asq bs:List Atom} (hh:sameForm asq bs=true):sameForm (.arr n t f1 l1::asq) (.arr n t f2 l2::bs)=true:=by
 obtain⟨x,hx⟩:=natEq_self n
 obtain⟨y,hy⟩:=tyEq_self t
 simp only [sameForm,hx,hy,hh,Bool.and_self]
theorem sameForm_append:∀ {a b c d:List Atom},sameForm a b=true→sameForm c d=true→sameForm (a++c) (b++d)=true
 | [], [], _, _, _, k => k
 | [], _ :: _, _, _, h, _ => by cases h
 | x :: a, [], _, _, h, _ => by cases x <;> cases h
 | x :: a, y :: b, c, d, h, k => by
  cases x <;> cases y <;> first
   | exact sameForm_append (a := a) (b := b) h k
   | (cases h; done)
   | (simp only [sameForm, Bool.and_eq_true] at h
      obtain⟨h1,h2⟩:=h
      simp only [List.cons_append,sameForm,h1,sameForm_append h2 k,Bool.and_self])
theorem mkRef_form {g:Nat→Option Obj'} {d d':Dk} {a:RS} {x:Atom} (k:decRef d a x=some d') {asq bs:List Atom} (h:sameForm asq bs=true):sameForm (x::asq) (mkRef id a::bs)=true:=by
 cases a <;> cases x <;> simp only [decRef] at k <;> first | exact h | cases k
theorem asTy_form {g:Nat→Option Obj'} (fr:Bool):∀ {t:Ty} {asq rest:List Atom} {y:Got t},asTy g t asq=some (y,rest)→∃ pre,asq=pre++rest∧sameForm pre (atomsOf fr t y.x)=true:=by
 have leaf:∀ (t:Ty) (asq rest:List Atom) (y:Got t),(∀ a r,asq=a::r→asTy g t asq=match asAtom g t a with | some x=>some (x,r) | none=>none)→asTy g t []=none→
   (∀ (a:Atom) (z:Got t),asAtom g t a=some z→sameForm [a] (atomsOf fr t z.x)=true)→
   asTy g t asq=some (y,rest)→∃ pre,asq=pre++rest∧sameForm pre (atomsOf fr t y.x)=true:=by
  intro t asq rest y hcons hnil hat hy
  cases asq with
  | nil => rw [hnil] at hy; cases hy
  | cons a r =>
   rw [hcons a r rfl] at hy
   split at hy
   ·rename_i z hz
    simp only [Option.some.injEq,Prod.mk.injEq] at hy
    obtain⟨rfl,rfl⟩:=hy
    exact⟨[a],rfl,hat a _ hz⟩
   ·cases hy
 intro t
 induction t with
 | unit =>
  intro asq rest y hy
  simp only [asTy,Option.some.injEq,Prod.mk.injEq] at hy
  obtain⟨rfl,rfl⟩:=hy
  exact⟨[],rfl,rfl⟩
 | pair a b iha ihb =>
  intro asq rest y hy
  simp only [asTy] at hy
  split at hy
  ·rename_i y1 as' h1
   split at hy
   ·rename_i z as'' h2
    simp only [Option.some.injEq,Prod.mk.injEq] at hy
    obtain⟨rfl,rfl⟩:=hy
    obtain⟨p1,rfl,q1⟩:=iha h1
    obtain⟨p2,rfl,q2⟩:=ihb h2
    exact⟨p1++p2,by rw [List.append_assoc],sameForm_append q1 q2⟩
   ·cases hy
  ·cases hy
 | int k => intro asq rest y hy; exact leaf _ asq rest y (fun a r e => by subst e; rfl) rfl (fun a z hz => by cases a <;> first | rfl | cases hz) hy
 | bool => intro asq rest y hy; exact leaf _ asq rest y (fun a r e => by subst e; rfl) rfl (fun a z hz => by cases a <;> first | rfl | cases hz) hy
 | str => intro asq rest y hy; exact leaf _ asq rest y (fun a r e => by subst e; rfl) rfl (fun a z hz => by cases a <;> first | rfl | cases hz) hy
 | sl t _ => intro asq rest y hy; exact leaf _ asq rest y (fun a r e => by subst e; rfl) rfl (fun a z hz => by cases a <;> first | rfl | cases hz) hy
 | arr n t _ =>
  intro asq rest y hy
  refine leaf _ asq rest y (fun a r e=>by subst e; rfl) rfl (fun a z hz=>?_) hy
  cases a with
  | arr m u f l =>
   simp only [asAtom] at hz
   split at hz
   ·rename_i hn hu _ _
    obtain rfl:=hn.down
    subst hu
    exact sameForm_arr _ _ _ _ _ _ rfl
   ·cases hz
  | _ => cases hz
theorem decA_form {g:Nat→Option Obj'}:∀ {asq:List AS} {d d':Dk} {xs:List Atom} {x:denA asq},decA g asq d xs=some (x,d')→sameForm xs (mkA id asq x)=true
 | [], d, d', xs, x, k => by
  cases xs with
  | nil => rfl
  | cons => cases k
 | .val t fr :: r, d, d', xs, x, k => by
  simp only [decA] at k
  split at k
  ·rename_i y xs' hy
   split at k
   ·split at k
    ·rename_i h2
     simp only [Option.some.injEq,Prod.mk.injEq] at k
     obtain⟨rfl,rfl⟩:=k
     obtain⟨pre,rfl,q⟩:=asTy_form fr hy
     exact sameForm_append q (decA_form h2)
    ·cases k
   ·cases k
  ·cases k
 | .ref a :: r, d, d', xs, x, k => by
  cases xs with
  | nil => cases k
  | cons y xs =>
   simp only [decA] at k
   split at k
   ·rename_i h1; exact mkRef_form (g:=g) h1 (decA_form k)
   ·cases k
def AVsR (V:View):List AVal→List Value→Prop
 | [], us => us = []
 | x :: xs, us => ∃ u r, us = u :: r ∧ VR V x u ∧ AVsR V xs r
theorem decV_le:∀ {vs:List VS} {d d':Dk} {xs:List AVal} {x:denV vs},decV g vs d xs=some (x,d')→DLe d d'
 | [], d, d', xs, x, k => by
  cases xs with
  | nil => simp only [decV, Option.some.injEq, Prod.mk.injEq] at k; obtain ⟨_, rfl⟩ := k; exact DLe.refl _
  | cons => cases k
 | .one (.val t fr) :: r, d, d', xs, x, k => by
  simp only [decV] at k
  split at k
  ·split at k
   ·split at k
    ·split at k
     ·rename_i h2
      simp only [Option.some.injEq,Prod.mk.injEq] at k
      obtain⟨_,rfl⟩:=k
      exact(addfz_le d _).trans (decV_le h2)
     ·cases k
    ·cases k
   ·cases k
  ·cases k
 | .one (.ref a) :: r, d, d', xs, x, k => by
  simp only [decV] at k
  split at k
  ·split at k
   ·rename_i h1; exact(decRef_le h1).trans (decV_le k)
   ·cases k
  ·cases k
 | .agg asq :: r, d, d', xs, x, k => by
  simp only [decV] at k
  split at k
  ·split at k
   ·rename_i h1
    split at k
    ·rename_i h2
     simp only [Option.some.injEq,Prod.mk.injEq] at k
     obtain⟨_,rfl⟩:=k
     exact(decA_le h1).trans (decV_le h2)
    ·cases k
   ·cases k
  ·cases k
theorem asW_asV {t:Ty} {v:V1} {y:Got t} (hy:asW g t v=some y):asV g t v=some y∧((aggTy t=true∧∃ asq,v = .agg asq)∨(aggTy t=false∧∃ a,v = .one a)):=by
 simp only [asW] at hy
 split at hy
 ·rename_i h1; exact⟨hy,.inl ⟨h1,_,rfl⟩⟩
 ·rename_i h1; exact⟨hy,.inr ⟨h1,_,rfl⟩⟩
 ·cases hy
theorem asW_R (R:HRel B h loc w) (hg:∀ id o,g id=some o→h id=some o) {V':View} {t:Ty} {v:V1} {y:Got t} {u:Value} (hv:V1R (viewOf B w h loc) v u) (hy:asW g t v=some y) (S:SeesM B w h loc y.ids V') {fr:Bool}
  (hfr:Has (V'.mem y.fr) t y.x u.cells.toList→Has (V'.mem fr) t y.x u.cells.toList):V1R V' (toV fr t y.x) u:=by
 obtain⟨h1,h2⟩:=asW_asV hy
 refine toV_R (hfr (asV_R R hg hv h1 S)) ?_
 rcases h2 with ⟨h2,asq,rfl⟩ | ⟨h2,a,rfl⟩
 ·obtain ⟨cs, rfl, _⟩ := hv
  simp [Cells,h2,Value.cells]
 ·have := hv.2.1.one u (by simp)
  simp only [Cells,h2]
  cases u <;> first | rfl | cases this
theorem decV_R (R:HRel B h loc w) (hg:∀ id o,g id=some o→h id=some o) {V':View} {D:Dk} (I:Into B w h loc V' D):∀ {vs:List VS} {d d':Dk} {xs:List AVal} {x:denV vs} {us:List Value},
  decV g vs d xs=some (x,d')→DLe d' D→AVsR (viewOf B w h loc) xs us→V1sR V' (mkV id vs x) us
 | [], d, d', xs, x, us, k, _, hA => by
  cases xs with
  | nil => exact hA
  | cons => cases k
 | .one (.val t fr) :: r, d, d', xs, x, us, k, l, hA => by
  simp only [decV] at k
  split at k
  ·split at k
   ·rename_i y hy
    split at k
    ·rename_i hfr
     split at k
     ·rename_i h2
      simp only [Option.some.injEq,Prod.mk.injEq] at k
      obtain⟨rfl,rfl⟩:=k
      obtain⟨u,us',rfl,k1,k2⟩:=hA
      exact⟨u,us',rfl,asW_R R hg k1 hy (I.at ((decV_le h2).trans l) fun i hi=>List.mem_append_left _ hi) (fun k=>I.fr hfr k),decV_R R hg I h2 l k2⟩
     ·cases k
    ·cases k
   ·cases k
  ·cases k
 | .one (.ref a) :: r, d, d', xs, x, us, k, l, hA => by
  simp only [decV] at k
  split at k
  ·split at k
   ·rename_i h1
    obtain⟨u,us',rfl,k1,k2⟩:=hA
    exact⟨u,us',rfl,⟨mkRef_size _ _,decRef_R I h1 ((decV_le k).trans l) k1.2.1,mkRef_noArr _ _⟩,decV_R R hg I k l k2⟩
   ·cases k
  ·cases k
 | .agg asq :: r, d, d', xs, x, us, k, l, hA => by
  simp only [decV] at k
  split at k
  ·split at k
   ·rename_i h1
    split at k
    ·rename_i h2
     simp only [Option.some.injEq,Prod.mk.injEq] at k
     obtain⟨rfl,rfl⟩:=k
     obtain⟨u,us',rfl,⟨cs,e,k1⟩,k2⟩:=hA
     exact⟨_,us',rfl,⟨cs,e,decA_R R hg I h1 ((decV_le h2).trans l) k1⟩,decV_R R hg I h2 l k2⟩
    ·cases k
   ·cases k
  ·cases k
theorem decO_le:∀ {os:List OS} {n:Nat} {d d':Dk} {x:denO os},decO g os n d=some (x,d')→DLe d d'
 | [], n, d, d', x, k => by simp only [decO, Option.some.injEq, Prod.mk.injEq] at k; obtain ⟨_, rfl⟩ := k; exact DLe.refl _
 | .dead :: r, n, d, d', x, k => by
  simp only [decO] at k
  exact decO_le k
 | .buf t fr :: r, n, d, d', x, k => by
  simp only [decO] at k
  split at k
  ·split at k
   ·split at k
    ·rename_i h2
     simp only [Option.some.injEq,Prod.mk.injEq] at k
     obtain⟨_,rfl⟩:=k
     exact decO_le h2
    ·cases k
   ·cases k
  ·split at k
   ·split at k
    ·split at k
     ·rename_i h2
      simp only [Option.some.injEq,Prod.mk.injEq] at k
      obtain⟨_,rfl⟩:=k
      exact decO_le h2
     ·cases k
    ·cases k
   ·cases k
 | .box asq :: r, n, d, d', x, k => by
  simp only [decO] at k
  split at k
  ·cases k
  ·split at k
   ·split at k
    ·rename_i h1
     split at k
     ·rename_i h2
      simp only [Option.some.injEq,Prod.mk.injEq] at k
      obtain⟨_,rfl⟩:=k
      exact(decA_le h1).trans (decO_le h2)
     ·cases k
    ·cases k
   ·cases k
theorem decO_sim:∀ {os:List OS} {n:Nat} {d d':Dk} {x:denO os},decO g os n d=some (x,d')→∀ j,j<os.length→∃ o',(mkO id os x)[j]? = some o'∧
  ((∃ i o,get (n+j) d'.m=some i∧g i=some o∧SimO o o')∨(hasNat (n+j) d'.vt=true∧∃ t fr,o' = .buf t fr [])∨(o' = .dead∧os[j]? = some .dead))
 | [], n, d, d', x, k, j, hj => by simp at hj
 | .dead :: r, n, d, d', x, k, j, hj => by
  simp only [decO] at k
  cases j with
  | zero => exact ⟨.dead, rfl, .inr (.inr ⟨rfl, rfl⟩)⟩
  | succ j =>
   obtain⟨o',h1,h2⟩:=decO_sim k j (by simpa using hj)
   rw [show n+1+j=n+(j+1) by omega] at h2
   exact⟨o',by simpa [mkO] using h1,by simpa using h2⟩
 | .buf t fr :: r, n, d, d', x, k, j, hj => by
  simp only [decO] at k
  split at k
  ·split at k
   ·rename_i hvt
    split at k
    ·rename_i h2
     simp only [Option.some.injEq,Prod.mk.injEq] at k
     obtain⟨rfl,rfl⟩:=k
     cases j with
     | zero => exact ⟨.buf t fr [], rfl, .inr (.inl ⟨(decO_le h2).vt _ hvt, t, fr, rfl⟩)⟩
     | succ j =>
      obtain⟨o',h3,h4⟩:=decO_sim h2 j (by simpa using hj)
      rw [show n+1+j=n+(j+1) by omega] at h4
      exact⟨o',by simpa [mkO] using h3,by simpa using h4⟩
    ·cases k
   ·cases k
  ·rename_i i hi
   split at k
   ·rename_i u fr' l hgi
    split at k
    ·rename_i he _ _
     split at k
     ·rename_i h2
      simp only [Option.some.injEq,Prod.mk.injEq] at k
      obtain⟨rfl,rfl⟩:=k
      subst he
      cases j with
      | zero => exact ⟨.buf u fr l, rfl, .inl ⟨i, _, (decO_le h2).m _ _ hi, hgi, ⟨rfl, rfl⟩⟩⟩
      | succ j =>
       obtain⟨o',h3,h4⟩:=decO_sim h2 j (by simpa using hj)
       rw [show n+1+j=n+(j+1) by omega] at h4
       exact⟨o',by simpa [mkO] using h3,by simpa using h4⟩
     ·cases k
    ·cases k
   ·cases k
 | .box asq :: r, n, d, d', x, k, j, hj => by
  simp only [decO] at k
  split at k
  ·cases k
  ·rename_i i hi
   split at k
   ·rename_i xs hgi
    split at k
    ·rename_i y d1 h1
     split at k
     ·rename_i h2
      simp only [Option.some.injEq,Prod.mk.injEq] at k
      obtain⟨rfl,rfl⟩:=k
      cases j with
      | zero => exact ⟨.box (mkA id asq y), rfl, .inl ⟨i, _, (decO_le h2).m _ _ ((decA_le h1).m _ _ hi), hgi, decA_form h1⟩⟩
      | succ j =>
       obtain⟨o',h3,h4⟩:=decO_sim h2 j (by simpa using hj)
       rw [show n+1+j=n+(j+1) by omega] at h4
       exact⟨o',by simpa [mkO] using h3,by simpa using h4⟩
     ·cases k
    ·cases k
   ·cases k
theorem decO_R (R : HRel B h loc w) (hg : ∀ id o, g id = some o → h id = some o) {V' : View} {D : Dk} (I : Into B w h loc V' D) : ∀ {os : List OS} {n : Nat} {d d' : Dk} {x : denO os},
  decO g os n d=some (x,d')→DLe d' D→∀ j o',(mkO id os x)[j]? = some o'→ObjR V' w (n+j) o'
 | [], n, d, d', x, k, _, j, o', hj => by simp [mkO] at hj
 | .dead :: r, n, d, d', x, k, l, j, o', hj => by
  simp only [decO] at k
  cases j with
  | zero => obtain rfl : .dead = o' := by simpa [mkO] using hj
            trivial
  | succ j => rw [show n + (j + 1) = n + 1 + j by omega]; exact decO_R R hg I k l j o' (by simpa [mkO] using hj)
 | .buf t fr :: r, n, d, d', x, k, l, j, o', hj => by
  simp only [decO] at k
  split at k
  ·split at k
   ·rename_i hvt
    split at k
    ·rename_i h2
     simp only [Option.some.injEq,Prod.mk.injEq] at k
     obtain⟨rfl,rfl⟩:=k
     cases j with
     | zero =>
      obtain rfl:.buf t fr []=o':=by simpa [mkO] using hj
      exact ObjR.mkNone (I.vt n (l.vt _ ((decO_le h2).vt _ hvt))).2
     | succ j => rw [show n + (j + 1) = n + 1 + j by omega]; exact decO_R R hg I h2 l j o' (by simpa [mkO] using hj)
    ·cases k
   ·cases k
  ·rename_i i hi
   split at k
   ·rename_i u fr' ll hgi
    split at k
    ·rename_i he _ hfr
     split at k
     ·rename_i h2
      simp only [Option.some.injEq,Prod.mk.injEq] at k
      obtain⟨rfl,rfl⟩:=k
      subst he
      cases j with
      | zero =>
       obtain rfl:.buf u fr ll=o':=by simpa [mkO] using hj
       have hh:=hg _ _ hgi
       obtain⟨o2,_,_,hl0⟩:=I.ren n i (l.m _ _ ((decO_le h2).m _ _ hi)) _ hh
       have hl:V'.loc n=(viewOf B w h loc).loc i:=hl0 rfl
       clear hl0
       have hob:=R.objs i _ hh
       cases hL:loc i with
       | none =>
        simp only [ObjR,show(viewOf B w h loc).loc i=none from hL] at hob
        subst hob
        exact ObjR.mkNone (hl.trans hL)
       | some L =>
        obtain⟨c,e,q1,q2,q3,q4⟩:=hob.buf hL
        exact ObjR.mkBuf (hl.trans hL) ⟨c,e,q1,q2,q3,fun i x hx=>I.fr hfr ((q4 i x hx).mono (I.sees.mem fr'))⟩
      | succ j => rw [show n + (j + 1) = n + 1 + j by omega]; exact decO_R R hg I h2 l j o' (by simpa [mkO] using hj)
     ·cases k
    ·cases k
   ·cases k
 | .box asq :: r, n, d, d', x, k, l, j, o', hj => by
  simp only [decO] at k
  split at k
  ·cases k
  ·rename_i i hi
   split at k
   ·rename_i xs hgi
    split at k
    ·rename_i y d1 h1
     split at k
     ·rename_i h2
      simp only [Option.some.injEq,Prod.mk.injEq] at k
      obtain⟨rfl,rfl⟩:=k
      cases j with
      | zero =>
       obtain rfl:.box (mkA id asq y)=o':=by simpa [mkO] using hj
       have hh:=hg _ _ hgi
       have l2:=(decO_le h2).trans l
       obtain⟨o2,_,_,hl⟩:=I.ren n i (l2.m _ _ ((decA_le h1).m _ _ hi)) _ hh
       obtain⟨L,c,e,cs,q0,q1,q2,q3,q4,q5⟩:=R.objs i _ hh
       exact⟨L,c,e,cs,(hl rfl).trans q0,q1,q2,q3,q4,decA_R R hg I h1 l2 q5⟩
      | succ j => rw [show n + (j + 1) = n + 1 + j by omega]; exact decO_R R hg I h2 l j o' (by simpa [mkO] using hj)
     ·cases k
    ·cases k
   ·cases k
end
end Go.Proofs.Ytijjhpmladkjdaa.E
end
section
namespace Go.Proofs.Ytijjhpmladkjdaa.E
open Go Go.RowKit
theorem get_hpOf:∀ (l:List Obj') (k j:Nat),get j (hpOf id k l)=if j<k then none else l[j-k]?
 | [], k, j => by simp [hpOf, get]
 | o :: r, k, j => by
  simp only [hpOf,id]
  by_cases e:k=j
  ·subst e; rw [get_cons_eq,if_neg (by omega),Nat.sub_self]; rfl
  ·rw [get_cons_ne e, get_hpOf r (k + 1) j]
   by_cases h1:j<k
   ·rw [if_pos (by omega),if_pos h1]
   ·rw [if_neg (by omega),if_neg h1,show j-k=(j-(k+1))+1 by omega]; rfl
theorem get_hp0 (l:List Obj') (j:Nat):get j (hpOf id 0 l)=l[j]?:=by rw [get_hpOf]; simp
theorem mkO_length (ρ:Nat→Nat):∀ (os:List OS) (x:denO os),(mkO ρ os x).length=os.length
 | [], _ => rfl
 | .dead :: r, x => congrArg (· + 1) (mkO_length ρ r x)
 | .buf t fr :: r, x => congrArg (· + 1) (mkO_length ρ r x.2)
 | .box asq :: r, x => congrArg (· + 1) (mkO_length ρ r x.2)
def hOf (s:Sig) (x:s.den):Nat→Option Obj':=fun j=>get j (hpOf id 0 (mkO id s.objs x.1))
theorem hOf_eq (s:Sig) (x:s.den) (j:Nat):hOf s x j=(mkO id s.objs x.1)[j]?:=get_hp0 _ _
section
variable {P:Program} {B:Base} {h g:Nat→Option Obj'} {loc:Nat→Option Loc} {w:World}
def locOf (h:Nat→Option Obj') (loc:Nat→Option Loc) (D:Dk) (j:Nat):Option Loc:=
 match get j D.m with
 | none => none
 | some i => match h i with
  | none => none
  | some o => match o.isDead with | true => none | false => loc i
theorem hasNat_mem {i:Nat}:∀ {l:List Nat},hasNat i l=true↔i∈l
 | [] => by simp [hasNat]
 | j :: r => by
  simp only [hasNat,List.mem_cons]
  by_cases e:j=i
  ·subst e; simp
  ·rw [beq_ne e]; simp only [hasNat_mem (l:=r)]; exact⟨.inr,fun k=>k.resolve_left fun e'=>e e'.symm⟩
theorem get_in {α:Type}:∀ {l:List (Nat×α)} {j:Nat} {v:α},get j l=some v→(j,v)∈l
 | (k, u) :: r, j, v, h => by
  by_cases e:k=j
  ·subst e; rw [get_cons_eq] at h; obtain rfl:=Option.some.inj h; exact List.mem_cons_self
  ·rw [get_cons_ne e] at h; exact List.mem_cons_of_mem _ (get_in h)
theorem noDup_inj : ∀ {l : List (Nat × Nat)} {j j' i : Nat}, noDup (l.map (·.2)) = true → get j l = some i → get j' l = some i → j = j'
 | (k, u) :: r, j, j', i, hn, h1, h2 => by
  simp only [List.map_cons,noDup] at hn
  split at hn
  ·cases hn
  ·rename_i hno
   have nin:∀ j,get j r=some u→False:=fun j h=>by
    have : hasNat u (r.map (·.2)) = true := hasNat_mem.2 (List.mem_map.2 ⟨(j, u), get_in h, rfl⟩)
    rw [this] at hno; cases hno
   by_cases e:k=j
   ·by_cases e' : k = j'
    ·rw [←e,←e']
    ·subst e; rw [get_cons_eq] at h1; obtain rfl:=Option.some.inj h1; rw [get_cons_ne e'] at h2; exact(nin _ h2).elim
   ·by_cases e' : k = j'
    ·subst e'; rw [get_cons_eq] at h2; obtain rfl:=Option.some.inj h2; rw [get_cons_ne e] at h1; exact(nin _ h1).elim
    ·rw [get_cons_ne e] at h1; rw [get_cons_ne e'] at h2; exact noDup_inj hn h1 h2
theorem apartL_spec:∀ {a b:List Nat},apartL a b=true→∀ i∈a,i ∉ b
 | x :: a, b, h, i, hi => by
  simp only [apartL] at h
  split at h
  ·cases h
  ·rename_i hx
   rcases List.mem_cons.1 hi with rfl | hi
   ·exact fun k=>by rw [hasNat_mem.2 k] at hx; cases hx
   ·exact apartL_spec h i hi
structure Read (g:Nat→Option Obj') (s:Sig) (m:List (Nat×Nat)) (xs:List AVal) (x:s.den) (D:Dk):Prop where
 V:∃ d,decV g s.vals ⟨m,[],[]⟩ xs=some (x.2,d)∧DLe d D
 O:∃ d,decO g s.objs 0 d=some (x.1,D)
 le:DLe ⟨m,[],[]⟩ D
 inj:∀ j j' i,get j D.m=some i→get j' D.m=some i→j=j'
 apart:∀ i∈D.fz,∀ j,get j D.m≠some i
 lt:∀ j i,get j D.m=some i→j<s.objs.length
 vlt:∀ j,hasNat j D.vt=true→j<s.objs.length∧get j D.m=none
 dead:∀ j,s.objs[j]? = some .dead→(get j D.m=none∧hasNat j D.vt=false)∨∃ i,get j D.m=some i∧g i=some .dead
theorem deadOk_spec {d:Dk}:∀ {os:List OS} {n:Nat},deadOk g d os n=true→∀ j,os[j]? = some .dead→(get (n+j) d.m=none∧hasNat (n+j) d.vt=false)∨∃ i,get (n+j) d.m=some i∧g i=some .dead
 | [], n, h, j, hj => by simp at hj
 | o :: r, n, h, j, hj => by
  cases j with
  | succ j =>
   have h':deadOk g d r (n+1)=true:=by
    cases o <;> simp only [deadOk,Bool.and_eq_true] at h <;> first | exact h | exact h.2
   have:=deadOk_spec h' j (by simpa using hj)
   rwa [show n+1+j=n+(j+1) by omega] at this
  | zero =>
   obtain rfl:o = .dead:=by simpa using hj
   simp only [deadOk,Bool.and_eq_true] at h
   have h1:=h.1
   rw [Nat.add_zero]
   split at h1
   ·rename_i hn; exact .inl ⟨hn,by simpa using h1⟩
   ·rename_i i hi
    split at h1
    ·rename_i hd; exact .inr ⟨i,hi,hd⟩
    ·cases h1
theorem dec_read {s:Sig} {m:List (Nat×Nat)} {xs:List AVal} {x:s.den} {D:Dk} (k:dec g s m xs=some (x,D)):Read g s m xs x D:=by
 simp only [dec] at k
 split at k
 ·rename_i y d1 h1
  split at k
  ·rename_i z d2 h2
   split at k
   ·rename_i c1 c2 c3 c4
    simp only [Option.some.injEq,Prod.mk.injEq] at k
    obtain⟨rfl,rfl⟩:=k
    simp only [keysLt,Bool.and_eq_true,List.all_eq_true] at c3
    refine⟨⟨d1,h1,decO_le h2⟩,⟨d1,h2⟩,(decV_le h1).trans (decO_le h2),fun j j' i=>noDup_inj c1,fun i hi j hj=>?_,fun j i hj=>?_,fun j hj=>?_,fun j hj=>by have:=deadOk_spec c4 j hj; rwa [Nat.zero_add] at this⟩
    ·exact apartL_spec c2 i hi (List.mem_map.2 ⟨(j,i),get_in hj,rfl⟩)
    ·have:=c3.1 _ (get_in hj); simpa using this
    ·have := c3.2 j (hasNat_mem.1 hj)
     refine⟨by simpa using this.1,?_⟩
     revert this
     cases get j d2.m with
     | none => intro _; rfl
     | some i => intro h; cases h.2
   ·cases k
  ·cases k
 ·cases k
theorem Read.sim {s:Sig} {m:List (Nat×Nat)} {xs:List AVal} {x:s.den} {D:Dk} (k:Read g s m xs x D) {j:Nat} (hj:j<s.objs.length):
  ∃ o',hOf s x j=some o'∧((∃ i o,get j D.m=some i∧g i=some o∧SimO o o')∨(hasNat j D.vt=true∧∃ t fr,o' = .buf t fr [])∨(o' = .dead∧get j D.m=none∧hasNat j D.vt=false)):=by
 obtain⟨d,h2⟩:=k.O
 obtain⟨o',h3,h4⟩:=decO_sim h2 j hj
 rw [Nat.zero_add] at h4
 refine⟨o',by rw [hOf_eq]; exact h3,?_⟩
 rcases h4 with h4 | h4 | ⟨rfl,h4⟩
 ·exact .inl h4
 ·exact .inr (.inl h4)
 ·rcases k.dead j h4 with ⟨h5, h6⟩ | ⟨i, h5, h6⟩
  ·exact .inr (.inr ⟨rfl,h5,h6⟩)
  ·exact .inl ⟨i,.dead,h5,h6,trivial⟩
theorem Read.into {s:Sig} {m:List (Nat×Nat)} {xs:List AVal} {x:s.den} {D:Dk} (k:Read g s m xs x D) (hg:∀ id o,g id=some o→h id=some o) {V':View} (hh:V'.h=hOf s x) (hl:V'.loc=locOf h loc D)
  (S:SeesM B w h loc D.fz V'):Into B w h loc V' D:=by
 refine⟨fun j i hj o ho=>?_,fun j hj=>?_,S⟩
 ·replace hj : get j D.m = some i := hj
  obtain⟨o',h1,h2⟩:=k.sim (k.lt j i hj)
  refine⟨o',by rw [hh]; exact h1,?_,fun hd=>?_⟩
  ·rcases h2 with ⟨i', o2, q1, q2, q3⟩ | ⟨q1, _⟩ | ⟨_, q1, _⟩
   ·obtain rfl := Option.some.inj (hj.symm.trans q1)
    obtain rfl:=Option.some.inj ((hg _ _ q2).symm.trans (show h i=some o from ho))
    exact q3
   ·rw [(k.vlt j q1).2] at hj; cases hj
   ·rw [q1] at hj; cases hj
  ·rw [hl]; simp only [locOf,hj,show h i=some o from ho,hd]; rfl
 ·obtain ⟨h1, h2⟩ := k.vlt j hj
  obtain⟨o',h3,h4⟩:=k.sim h1
  refine⟨?_,by rw [hl]; simp only [locOf,h2]⟩
  rcases h4 with ⟨i',_,q1,_⟩ | ⟨_,t,fr,rfl⟩ | ⟨_,_,q1⟩
  ·rw [h2] at q1; cases q1
  ·exact⟨t,fr,by rw [hh]; exact h3⟩
  ·rw [hj] at q1; cases q1
theorem SimO.dead {o o':Obj'} (k:SimO o o'):o'.isDead=o.isDead:=by
 cases o <;> cases o' <;> first | rfl | exact k.elim
theorem Read.lives {s:Sig} {m:List (Nat×Nat)} {xs:List AVal} {x:s.den} {D:Dk} (k:Read g s m xs x D) (hg:∀ id o,g id=some o→h id=some o) {j b:Nat} (hl:LivesAt (hOf s x) (locOf h loc D) j b):
  ∃ i,get j D.m=some i∧LivesAt h loc i b:=by
 obtain⟨o',L,h1,h2,h3,h4⟩:=hl
 simp only [locOf] at h3
 split at h3
 ·cases h3
 ·rename_i i hi
  split at h3
  ·cases h3
  ·rename_i o ho
   split at h3
   ·cases h3
   ·rename_i hd
    exact⟨i,hi,o,L,ho,hd,h3,h4⟩
theorem Read.canon {s:Sig} {m:List (Nat×Nat)} {xs:List AVal} {x:s.den} {D:Dk} (k:Read g s m xs x D) (hmap:∀ j,j<B.nx→(∀ o,hOf s x j=some o→o.isDead=false)→get j m=some j) (hg:∀ id o,g id=some o→h id=some o) (R:HRel B h loc w) {us:List Value} (hv:AVsR (viewOf B w h loc) xs us):
  HRel B (hOf s x) (locOf h loc D) w∧V1sR (viewOf B w (hOf s x) (locOf h loc D)) (mkV id s.vals x.2) us:=by
 have mem:∀ b c,memOf B w h loc b c→memOf B w (hOf s x) (locOf h loc D) b c:=fun b c ⟨h1,h2,h3⟩=>⟨h1,fun j hl=>by
  obtain⟨i,_,hl⟩:=k.lives hg hl
  exact h2 i hl,h3⟩
 have S:SeesM B w h loc D.fz (viewOf B w (hOf s x) (locOf h loc D)):=by
  refine⟨mem,fun b c ⟨h1,h2⟩=>⟨mem b c h1,h2⟩,fun b c h1=>h1.1,fun i hi b c hl hc=>?_⟩
  have hb:=R.blk i b hl
  have m:memOf B w (hOf s x) (locOf h loc D) b c:=⟨hc,fun j hl'=>by
   obtain⟨i2,h1,h2⟩:=k.lives hg hl'
   exact k.apart i hi j (R.inj i i2 b hl h2 ▸ h1),fun hlt=>.inr (hb.2.resolve_left (by omega))⟩
  exact⟨m,m,hb.2⟩
 have I:Into B w h loc (viewOf B w (hOf s x) (locOf h loc D)) D:=k.into hg rfl rfl S
 obtain⟨d1,h1,l1⟩:=k.V
 obtain⟨d2,h2⟩:=k.O
 refine⟨⟨R.os,R.tape,R.output,R.size,R.old,fun j o ho=>?_,fun j b hl=>?_,fun j j' b hl hl'=>?_,fun j hj ⟨o,ho,hd⟩=>?_⟩,decV_R R hg I h1 l1 hv⟩
 ·have := decO_R R hg I h2 (DLe.refl D) j o (by rw [← hOf_eq]; exact ho)
  rwa [Nat.zero_add] at this
 ·obtain ⟨i, _, hl⟩ := k.lives hg hl
  exact R.blk i b hl
 ·obtain ⟨i, q1, hl⟩ := k.lives hg hl
  obtain⟨i',q2,hl'⟩:=k.lives hg hl'
  have e:=R.inj i i' b hl hl'
  exact k.inj j j' i q1 (e ▸ q2)
 ·have hm : get j m = some j := hmap j hj fun o' ho' => by rw [ho] at ho'; obtain rfl := Option.some.inj ho'; exact hd
  have hmD:=k.le.m j j hm
  obtain⟨o',q1,q2⟩:=k.sim (k.lt j j hmD)
  obtain rfl:=Option.some.inj (ho.symm.trans q1)
  rcases q2 with ⟨i,o2,r1,r2,r3⟩ | ⟨r1,_⟩ | ⟨r1,_⟩
  ·obtain rfl := Option.some.inj (hmD.symm.trans r1)
   have ho2:=hg _ _ r2
   have hd2:o2.isDead=false:=by rw [←r3.dead]; exact hd
   simp only [locOf,hmD,ho2,hd2]
   exact R.ext j hj ⟨o2,ho2,hd2⟩
  ·rw [(k.vlt j r1).2] at hmD; cases hmD
  ·rw [r1] at hd; cases hd
end
def ResR (V:View) (xs:List V1) (u:Value):Prop:=VR V (match xs with | []=>.any | [x]=>.v x | xs=>.tup xs) u
def CallOk (P:Program) (f:Nat) (sin sout:Sig) (s:sin.den) (r:sout.den):Prop:=
 ∀ (w : World) (ok : Nat → Prop) (loc : Nat → Option Loc) (args : List Value),
  HRel ⟨w,ok,sin.objs.length,loc⟩ (hOf sin s) loc w→(∀ b,ok b→∀ i,¬ LivesAt (hOf sin s) loc i b)→
  V1sR (viewOf ⟨w,ok,sin.objs.length,loc⟩ w (hOf sin s) loc) (mkV id sin.vals s.2) args→
  Calls P f args.toArray w fun e w'=>∃ v loc',e = .returned v∧HRel ⟨w,ok,sin.objs.length,loc⟩ (hOf sout r) loc' w'∧
   (∀ j o,hOf sin s j=some o→∃ o',hOf sout r j=some o'∧Turns o o'∧(o' = .dead∨loc' j=loc j))∧
   ResR (viewOf ⟨w,ok,sin.objs.length,loc⟩ w' (hOf sout r) loc') (mkV id sout.vals r.2) v
def AS.plain:AS→Bool
 | .val _ fr => !fr | .ref _ => true
def Sig.plain (s:Sig):Bool:=
 s.vals.all (fun | .one a=>a.plain | .agg asq=>asq.all AS.plain)&&s.objs.all (fun | .buf _ fr=>!fr | .box asq=>asq.all AS.plain | .dead=>false)
theorem plain_alive:∀ {os:List OS} {x:denO os} {j:Nat} {o:Obj'},os.all (fun | .buf _ fr=>!fr | .box asq=>asq.all AS.plain | .dead=>false)=true→(mkO id os x)[j]? = some o→o≠.dead:=by
 intro os
 induction os with
 | nil => intro x j o _ hj; simp [mkO] at hj
 | cons s r ih =>
  intro x j o hp hj
  simp only [List.all_cons,Bool.and_eq_true] at hp
  cases s with
  | dead => exact (Bool.false_ne_true hp.1).elim
  | buf t fr =>
   cases j with
   | zero => obtain rfl : .buf t fr x.1 = o := by simpa [mkO] using hj
             intro e; cases e
   | succ j => exact ih (x := x.2) (j := j) hp.2 (by simpa [mkO] using hj)
  | box asq =>
   cases j with
   | zero => obtain rfl : .box (mkA id asq x.1) = o := by simpa [mkO] using hj
             intro e; cases e
   | succ j => exact ih (x := x.2) (j := j) hp.2 (by simpa [mkO] using hj)
structure OracOk (P:Program) (o:Orac):Prop where
 plain:o.sin.plain=true
 le:o.sin.objs.length≤o.sout.objs.length
 nat:∀ {β:Type} (s:o.sin.den) (K:o.sout.den→Option β),o.F s K=(o.F s some).bind K
 ok:∀ s r,o.F s some=some r→CallOk P o.f o.sin o.sout s r
 body : ∃ fn, P.funcs[o.f]? = some fn ∧ fn.body.isSome = true ∧ (fn.name == "runtime.NumGoroutine") = false
end Go.Proofs.Ytijjhpmladkjdaa.E
end
section
namespace Go.Proofs.Ytijjhpmladkjdaa.E
open Go Go.RowKit
theorem Has.nosl {m m':Mem}:∀ {t:Ty} {x:t.den} {cs:List Value},AS.foreign.hasSl t=false→Has m t x cs→Has m' t x cs
 | .int _, _, _, _, h => h
 | .bool, _, _, _, h => h
 | .str, _, _, _, h => h
 | .unit, _, _, _, h => h
 | .pair a b, _, _, hs, ⟨c1, c2, e, h1, h2⟩ => by
  simp only [AS.foreign.hasSl,Bool.or_eq_false_iff] at hs
  exact⟨c1,c2,e,h1.nosl hs.1,h2.nosl hs.2⟩
 | .arr _ _, _, _, hs, ⟨h1, h2, h3⟩ => ⟨h1, h2, fun i x hx => (h3 i x hx).nosl hs⟩
 | .sl _, _, _, hs, _ => by cases hs
def MemTo (V V':View) (full:Prop):Prop:=(∀ b c,V.mf b c→V'.mf b c)∧(full→∀ b c,V.m b c→V'.m b c)
theorem Has.to {V V':View} {full:Prop} (M:MemTo V V' full) {fr:Bool} {t:Ty} (hf:full∨(!fr&&AS.foreign.hasSl t)=false) {x:t.den} {cs:List Value} (k:Has (V.mem fr) t x cs):Has (V'.mem fr) t x cs:=by
 cases fr with
 | true => exact k.mono M.1
 | false =>
  rcases hf with hf | hf
  ·exact k.mono (M.2 hf)
  ·exact k.nosl (by simpa using hf)
theorem atomsOf_to {V V':View} {full:Prop} (M:MemTo V V' full) {fr:Bool}:∀ {t:Ty} {x:t.den} {cs:List Value},(full∨(!fr&&AS.foreign.hasSl t)=false)→AtomsR V (atomsOf fr t x) cs→AtomsR V' (atomsOf fr t x) cs:=by
 have leaf:∀ {t:Ty} {x:t.den} {cs:List Value} {a:Atom},(AtomR V a cs→AtomR V' a cs)→AtomsR V [a] cs→AtomsR V' [a] cs:=by
  rintro t x cs a ha ⟨c1,c2,e,h1,h2,h3⟩
  obtain rfl:c2 = []:=h3
  rw [List.append_nil] at e
  subst e
  exact⟨cs,[],by simp,h1,ha h2,rfl⟩
 intro t
 induction t with
 | int k => intro x cs _ h; exact leaf (t := .int k) (x := x) (fun k => k) h
 | bool => intro x cs _ h; exact leaf (t := .bool) (x := x) (fun k => k) h
 | str => intro x cs _ h; exact leaf (t := .str) (x := x) (fun k => k) h
 | unit => intro x cs _ h; exact h
 | sl t _ => intro x cs hf h; exact leaf (t := .sl t) (x := x) (fun k => Has.to M hf k) h
 | arr n t _ => intro x cs hf h; exact leaf (t := .arr n t) (x := x) (fun k => Has.to M hf k) h
 | pair a b iha ihb =>
  intro x cs hf h
  obtain⟨c1,c2,rfl,h1,h2⟩:=AtomsR.split h
  have hf':(full∨(!fr&&AS.foreign.hasSl a)=false)∧(full∨(!fr&&AS.foreign.hasSl b)=false):=by
   rcases hf with hf | hf
   ·exact⟨.inl hf,.inl hf⟩
   ·simp only [AS.foreign.hasSl] at hf
    cases fr <;> simp at hf ⊢
    exact⟨.inr hf.1,.inr hf.2⟩
  exact(iha hf'.1 h1).append (ihb hf'.2 h2)
structure Renamed (V V':View) (ρ:Nat→Nat) (n:Nat):Prop where
 lt:∀ j o,V.h j=some o→j<n
 h:∀ j o,V.h j=some o→∃ o',V'.h (ρ j)=some o'∧SimO o o'∧(o.isDead=false→V'.loc (ρ j)=V.loc j)
theorem Renamed.ren {V V':View} {ρ:Nat→Nat} {n:Nat} (k:Renamed V V' ρ n):Ren V V' (fun i j=>i=ρ j):=by
 rintro i j rfl o ho
 exact k.h j o ho
theorem ref_to {V V':View} {ρ:Nat→Nat} {n:Nat} (RN:Renamed V V' ρ n):∀ {a:RS} {cs:List Value},AtomR V (mkRef id a) cs→AtomR V' (mkRef ρ a) cs
 | .own j, cs, k => own_ren (π := fun i j => i = ρ j) RN.ren rfl k
 | .ptr j, cs, k => ptr_ren (π := fun i j => i = ρ j) RN.ren rfl k
 | .fn f js, cs, k => by
  simp only [mkRef,List.map_id] at k
  exact fn_ren (π:=fun i j=>i=ρ j) RN.ren (by simp) (fun n j i h1 h2=>by
   rw [List.getElem?_map,h2] at h1; exact(Option.some.inj h1).symm) k
 | .e0, cs, k => k
 | .np, cs, k => k
def AS.free (full:Prop) (a:AS):Prop:=full∨a.foreign=false
theorem mkA_to {V V':View} {ρ:Nat→Nat} {n:Nat} {full:Prop} (RN:Renamed V V' ρ n) (M:MemTo V V' full):∀ {asq:List AS} {x:denA asq} {cs:List Value},(∀ a∈asq,AS.free full a)→AtomsR V (mkA id asq x) cs→AtomsR V' (mkA ρ asq x) cs
 | [], _, _, _, k => k
 | .val t fr :: r, x, cs, hf, k => by
  obtain⟨c1,c2,rfl,h1,h2⟩:=AtomsR.split k
  exact(atomsOf_to M (hf (.val t fr) (by simp)) h1).append (mkA_to RN M (fun a ha=>hf a (by simp [ha])) h2)
 | .ref a :: r, x, cs, hf, ⟨c1, c2, e, h1, h2, h3⟩ => ⟨c1, c2, e, by rw [h1, mkRef_size, mkRef_size], ref_to RN h2, mkA_to RN M (fun a ha => hf a (by simp [ha])) h3⟩
def VS.free (full:Prop):VS→Prop
 | .one a => a.free full | .agg asq => ∀ a ∈ asq, a.free full
theorem toV_to {V V':View} {full:Prop} (M:MemTo V V' full) {fr:Bool} {t:Ty} {x:t.den} {u:Value} (hf:full∨(!fr&&AS.foreign.hasSl t)=false) (k:V1R V (toV fr t x) u):V1R V' (toV fr t x) u:=by
 have one:∀ {a:Atom},(AtomR V a [u]→AtomR V' a [u])→V1R V (.one a) u→V1R V' (.one a) u:=fun ha ⟨h1,h2,h3⟩=>⟨h1,ha h2,h3⟩
 cases t with
 | int k' => exact k
 | bool => exact k
 | str => exact k
 | sl t => exact one (fun k => Has.to M hf k) k
 | unit => obtain ⟨cs, e, k⟩ := k; exact ⟨cs, e, k⟩
 | pair a b => obtain ⟨cs, e, k⟩ := k; exact ⟨cs, e, atomsOf_to M hf k⟩
 | arr n t => obtain ⟨cs, e, k⟩ := k; exact ⟨cs, e, atomsOf_to M hf k⟩
theorem mkV_to {V V':View} {ρ:Nat→Nat} {n:Nat} {full:Prop} (RN:Renamed V V' ρ n) (M:MemTo V V' full):∀ {vs:List VS} {x:denV vs} {us:List Value},(∀ v∈vs,VS.free full v)→V1sR V (mkV id vs x) us→V1sR V' (mkV ρ vs x) us
 | [], _, _, _, k => k
 | .one (.val t fr) :: r, x, us, hf, ⟨u, s, e, k1, k2⟩ => ⟨u, s, e, toV_to M (hf (.one (.val t fr)) (by simp)) k1, mkV_to RN M (fun v hv => hf v (by simp [hv])) k2⟩
 | .one (.ref a) :: r, x, us, hf, ⟨u, s, e, k1, k2⟩ => ⟨u, s, e, ⟨mkRef_size _ _, ref_to RN k1.2.1, mkRef_noArr _ _⟩, mkV_to RN M (fun v hv => hf v (by simp [hv])) k2⟩
 | .agg asq :: r, x, us, hf, ⟨u, s, e, ⟨cs, e2, k1⟩, k2⟩ => ⟨u, s, e, ⟨cs, e2, mkA_to RN M (hf (.agg asq) (by simp)) k1⟩, mkV_to RN M (fun v hv => hf v (by simp [hv])) k2⟩
theorem V1sR_length {V:View}:∀ {xs:List V1} {us:List Value},V1sR V xs us→us.length=xs.length
 | [], _, h => by cases h; rfl
 | _ :: _, _, ⟨_, _, e, _, h⟩ => by rw [e]; exact congrArg (· + 1) (V1sR_length h)
theorem mkV_len (ρ:Nat→Nat):∀ (vs:List VS) (x:denV vs),(mkV ρ vs x).length=vs.length
 | [], _ => rfl
 | .one (.val _ _) :: r, x => congrArg (· + 1) (mkV_len ρ r x.2)
 | .one (.ref _) :: r, x => congrArg (· + 1) (mkV_len ρ r x)
 | .agg _ :: r, x => congrArg (· + 1) (mkV_len ρ r x.2)
theorem res_to {V V':View} {ρ:Nat→Nat} {n:Nat} {full:Prop} (RN:Renamed V V' ρ n) (M:MemTo V V' full) {vs:List VS} {x:denV vs} {u:Value} (hf:∀ v∈vs,VS.free full v) (k:ResR V (mkV id vs x) u):VR V' (resVal (mkV ρ vs x)) u:=by
 have hl1:=mkV_len id vs x
 have hl2:=mkV_len ρ vs x
 simp only [ResR] at k
 cases vs with
 | nil => trivial
 | cons v r =>
  cases r with
  | nil =>
   obtain⟨a,ha⟩:∃ a,mkV id [v] x = [a]:=List.length_eq_one_iff.1 hl1
   obtain⟨b,hb⟩:∃ b,mkV ρ [v] x = [b]:=List.length_eq_one_iff.1 hl2
   rw [ha] at k
   have:=mkV_to RN M hf (x:=x) (us:=[u]) (by rw [ha]; exact⟨u,[],rfl,k,rfl⟩)
   rw [hb] at this ⊢
   obtain⟨u',s,e,h1,_⟩:=this
   obtain⟨rfl,_⟩:=List.cons.inj e
   exact h1
  | cons v2 r =>
   have two:∀ (l:List V1),l.length=(v::v2::r).length→∃ a b s,l=a::b::s:=by
    intro l hl
    rcases l with _ | ⟨a,_ | ⟨b,s⟩⟩
    ·simp at hl
    ·simp at hl
    ·exact⟨a,b,s,rfl⟩
   obtain⟨a,b,s,ha⟩:=two _ hl1
   obtain⟨a',b',s',hb⟩:=two _ hl2
   rw [ha] at k
   obtain⟨us,e,k⟩:=k
   rw [←ha] at k
   have:=mkV_to RN M hf k
   rw [hb] at this ⊢
   exact⟨us,e,this⟩
theorem plain_A {V V':View} (hh:V'.h=V.h) (hl:V'.loc=V.loc) (hm:V'.m=V.m):∀ {asq:List AS} {x:denA asq} {cs:List Value},asq.all AS.plain=true→AtomsR V (mkA id asq x) cs→AtomsR V' (mkA id asq x) cs:=by
 have atom:∀ {a:Atom} {cs:List Value},(match a with | .ro _ fr _=>fr=false | .arr _ _ fr _=>fr=false | .rp _ fr _=>fr=false | _=>True)→AtomR V a cs→AtomR V' a cs:=by
  intro a cs hf k
  cases a with
  | ro t fr l => obtain rfl := hf; simp only [AtomR, View.mem, hm]; exact k
  | arr n t fr l => obtain rfl := hf; simp only [AtomR, View.mem, hm]; exact k
  | rp t fr x => obtain rfl := hf; simp only [AtomR, View.mem, hm]; exact k
  | own => simp only [AtomR, hh, hl]; exact k
  | sub => simp only [AtomR, hh, hl]; exact k
  | av => simp only [AtomR, hh, hl]; exact k
  | bel => simp only [AtomR, hh, hl]; exact k
  | rk => exact ⟨by rw [hm]; exact k.1, k.2⟩
  | ptr => simp only [AtomR, hh, hl]; exact k
  | pel => simp only [AtomR, hh, hl]; exact k
  | fn => simp only [AtomR, hh, hl]; exact k
  | _ => exact k
 have typed:∀ {t:Ty} {x:t.den} {cs:List Value},AtomsR V (atomsOf false t x) cs→AtomsR V' (atomsOf false t x) cs:=by
  have leaf:∀ {cs:List Value} {a:Atom},(AtomR V a cs→AtomR V' a cs)→AtomsR V [a] cs→AtomsR V' [a] cs:=by
   rintro cs a ha ⟨c1,c2,e,h1,h2,h3⟩
   obtain rfl:c2 = []:=h3
   rw [List.append_nil] at e
   subst e
   exact⟨cs,[],by simp,h1,ha h2,rfl⟩
  intro t
  induction t with
  | int k => intro x cs h; exact leaf (fun k => k) h
  | bool => intro x cs h; exact leaf (fun k => k) h
  | str => intro x cs h; exact leaf (fun k => k) h
  | unit => intro x cs h; exact h
  | sl t _ => intro x cs h; exact leaf (atom rfl) h
  | arr n t _ => intro x cs h; exact leaf (atom rfl) h
  | pair a b iha ihb =>
   intro x cs h
   obtain⟨c1,c2,rfl,h1,h2⟩:=AtomsR.split h
   exact(iha h1).append (ihb h2)
 intro asq
 induction asq with
 | nil => intro x cs _ k; exact k
 | cons a r ih =>
  intro x cs hp k
  simp only [List.all_cons,Bool.and_eq_true] at hp
  cases a with
  | val t fr =>
   obtain rfl:fr=false:=by simpa [AS.plain] using hp.1
   obtain⟨c1,c2,rfl,h1,h2⟩:=AtomsR.split k
   exact(typed h1).append (ih hp.2 h2)
  | ref a =>
   obtain⟨c1,c2,e,h1,h2,h3⟩:=k
   exact⟨c1,c2,e,h1,atom (by cases a <;> trivial) h2,ih hp.2 h3⟩
theorem plain_V {V V':View} (hh:V'.h=V.h) (hl:V'.loc=V.loc) (hm:V'.m=V.m):∀ {vs:List VS} {x:denV vs} {us:List Value},vs.all (fun | .one a=>a.plain | .agg asq=>asq.all AS.plain)=true→V1sR V (mkV id vs x) us→V1sR V' (mkV id vs x) us:=by
 intro vs
 induction vs with
 | nil => intro x us _ k; exact k
 | cons v r ih =>
  intro x us hp k
  simp only [List.all_cons,Bool.and_eq_true] at hp
  cases v with
  | agg asq =>
   obtain⟨u,s,e,⟨cs,e2,k1⟩,k2⟩:=k
   exact⟨u,s,e,⟨cs,e2,plain_A hh hl hm hp.1 k1⟩,ih hp.2 k2⟩
  | one a =>
   cases a with
   | ref a =>
    obtain⟨u,s,e,⟨k0,k1,k3⟩,k2⟩:=k
    have:=plain_A hh hl hm (asq:=[.ref a]) (x:=()) (cs:=[u]) (by simp [AS.plain]) ⟨[u],[],by simp,(mkRef_size _ _).symm,k1,rfl⟩
    obtain⟨c1,c2,e1,_,q,rfl⟩:=this
    rw [List.append_nil] at e1
    exact⟨u,s,e,⟨k0,e1 ▸ q,k3⟩,ih hp.2 k2⟩
   | val t fr =>
    obtain rfl:fr=false:=by simpa [AS.plain] using hp.1
    obtain⟨u,s,e,k1,k2⟩:=k
    refine⟨u,s,e,?_,ih hp.2 k2⟩
    have all:∀ {cs:List Value},AtomsR V (atomsOf false t x.1) cs→AtomsR V' (atomsOf false t x.1) cs:=fun {cs} q=>by
     have:=plain_A hh hl hm (asq:=[.val t false]) (x:=(x.1,())) (cs:=cs) (by simp [AS.plain]) (by simpa [mkA] using q)
     simpa [mkA] using this
    have one:∀ {a:Atom},atomsOf false t x.1 = [a]→V1R V (.one a) u→V1R V' (.one a) u:=fun {a} ha ⟨h1,h2,h3⟩=>by
     have:=all (cs:=[u]) (by rw [ha]; exact⟨[u],[],by simp,h1.symm,h2,rfl⟩)
     rw [ha] at this
     obtain⟨c1,c2,e1,_,q,rfl⟩:=this
     rw [List.append_nil] at e1
     exact⟨h1,e1 ▸ q,h3⟩
    revert k1
    cases t with
    | int k' => intro k1; exact one rfl k1
    | bool => intro k1; exact one rfl k1
    | str => intro k1; exact one rfl k1
    | sl t => intro k1; exact one rfl k1
    | unit => rintro ⟨cs, e, k⟩; exact ⟨cs, e, k⟩
    | pair a b => rintro ⟨cs, e, k⟩; exact ⟨cs, e, all k⟩
    | arr n t => rintro ⟨cs, e, k⟩; exact ⟨cs, e, all k⟩
theorem plain_O {V V':View} {w:World} (hh:V'.h=V.h) (hl:V'.loc=V.loc) (hm:V'.m=V.m):∀ {os:List OS} {x:denO os} {j n:Nat} {o:Obj'},os.all (fun | .buf _ fr=>!fr | .box asq=>asq.all AS.plain | .dead=>false)=true→
  (mkO id os x)[j]? = some o→ObjR V w n o→ObjR V' w n o:=by
 intro os
 induction os with
 | nil => intro x j n o _ hj _; simp [mkO] at hj
 | cons s r ih =>
  intro x j n o hp hj k
  simp only [List.all_cons,Bool.and_eq_true] at hp
  cases s with
  | dead =>
   cases j with
   | zero => obtain rfl : .dead = o := by simpa [mkO] using hj
             trivial
   | succ j => exact ih (x := x) (j := j) hp.2 (by simpa [mkO] using hj) k
  | buf t fr =>
   cases j with
   | zero =>
    obtain rfl:.buf t fr x.1=o:=by simpa [mkO] using hj
    obtain rfl:fr=false:=by simpa using hp.1
    simp only [ObjR,hl,View.mem,hm] at k ⊢
    exact k
   | succ j => exact ih (x := x.2) (j := j) hp.2 (by simpa [mkO] using hj) k
  | box asq =>
   cases j with
   | zero =>
    obtain rfl:.box (mkA id asq x.1)=o:=by simpa [mkO] using hj
    obtain⟨L,c,e,cs,q0,q1,q2,q3,q4,q5⟩:=k
    exact⟨L,c,e,cs,by rw [hl]; exact q0,q1,q2,q3,q4,plain_A hh hl hm hp.1 q5⟩
   | succ j => exact ih (x := x.2) (j := j) hp.2 (by simpa [mkO] using hj) k
theorem hpOf_get {ρ:Nat→Nat}:∀ {l:List Obj'} {k j:Nat},(∀ a b,k≤a→a<k+l.length→k≤b→b<k+l.length→ρ a=ρ b→a=b)→k≤j→j<k+l.length→get (ρ j) (hpOf ρ k l)=l[j-k]?
 | [], k, j, _, h1, h2 => by simp at h2; omega
 | o :: r, k, j, hi, h1, h2 => by
  simp only [hpOf]
  simp only [List.length_cons] at hi h2
  by_cases e:k=j
  ·subst e; rw [get_cons_eq,Nat.sub_self]; rfl
  ·rw [get_cons_ne (fun h => e (hi k j (by omega) (by omega) h1 h2 h)), hpOf_get (fun a b q1 q2 q3 q4 => hi a b (by omega) (by omega) (by omega) (by omega)) (by omega) (by omega), show j - k = (j - (k + 1)) + 1 by omega]
   rfl
theorem hpOf_keys {ρ:Nat→Nat}:∀ {l:List Obj'} {k i:Nat},(∃ o,get i (hpOf ρ k l)=some o)→∃ j,k≤j∧j<k+l.length∧i=ρ j
 | [], k, i, h => by obtain ⟨o, h⟩ := h; cases h
 | o :: r, k, i, h => by
  by_cases e:ρ k=i
  ·exact⟨k,Nat.le_refl _,by simp,e.symm⟩
  ·obtain ⟨o, h⟩ := h
   simp only [hpOf] at h
   rw [get_cons_ne e] at h
   obtain⟨j,h1,h2,h3⟩:=hpOf_keys ⟨o,h⟩
   exact⟨j,by omega,by simp; omega,h3⟩
theorem mkO_form (ρ:Nat→Nat):∀ {os:List OS} {x:denO os} {j:Nat} {o:Obj'},(mkO id os x)[j]? = some o→∃ o',(mkO ρ os x)[j]? = some o'∧SimO o o':=by
 have refA:∀ (a:RS) {asq bs:List Atom},sameForm asq bs=true→sameForm (mkRef id a::asq) (mkRef ρ a::bs)=true:=fun a=>by cases a <;> intro asq bs h <;> exact h
 have formV:∀ (fr:Bool) (t:Ty) (x:t.den),sameForm (atomsOf fr t x) (atomsOf fr t x)=true:=by
  intro fr t
  induction t with
  | pair a b iha ihb => intro x; exact sameForm_append (iha x.1) (ihb x.2)
  | arr n t _ => intro x; exact sameForm_arr _ _ _ _ _ _ rfl
  | _ => intro x; rfl
 have formA:∀ (asq:List AS) (x:denA asq),sameForm (mkA id asq x) (mkA ρ asq x)=true:=by
  intro asq
  induction asq with
  | nil => intro x; rfl
  | cons a r ih =>
   intro x
   cases a with
   | val t fr => exact sameForm_append (formV fr t x.1) (ih x.2)
   | ref a => exact refA a (ih x)
 intro os
 induction os with
 | nil => intro x j o hj; simp [mkO] at hj
 | cons s r ih =>
  intro x j o hj
  cases s with
  | dead =>
   cases j with
   | zero => obtain rfl : .dead = o := by simpa [mkO] using hj
             exact⟨.dead,rfl,trivial⟩
   | succ j => exact ih (x := x) (by simpa [mkO] using hj)
  | buf t fr =>
   cases j with
   | zero => obtain rfl : .buf t fr x.1 = o := by simpa [mkO] using hj
             exact⟨.buf t fr x.1,rfl,rfl,rfl⟩
   | succ j => exact ih (x := x.2) (by simpa [mkO] using hj)
  | box asq =>
   cases j with
   | zero => obtain rfl : .box (mkA id asq x.1) = o := by simpa [mkO] using hj
             exact⟨.box (mkA ρ asq x.1),rfl,formA asq x.1⟩
   | succ j => exact ih (x := x.2) (by simpa [mkO] using hj)
theorem mkO_to {V V':View} {ρ:Nat→Nat} {n:Nat} {full:Prop} {w:World} (RN:Renamed V V' ρ n) (M:MemTo V V' full):∀ {os:List OS} {x:denO os} {k j:Nat} {o o':Obj'},
  (∀ s∈os,match s with | .buf t fr=>full∨(!fr&&AS.foreign.hasSl t)=false | .box asq=>∀ a∈asq,AS.free full a | .dead=>True)→
  (mkO id os x)[j]? = some o→(mkO ρ os x)[j]? = some o'→(o.isDead=false→V'.loc (ρ (k+j))=V.loc (k+j))→ObjR V w (k+j) o→ObjR V' w (ρ (k+j)) o':=by
 intro os
 induction os with
 | nil => intro x k j o o' _ hj; simp [mkO] at hj
 | cons s r ih =>
  intro x k j o o' hf hj hj' hl hk
  cases s with
  | dead =>
   cases j with
   | zero => obtain rfl : .dead = o' := by simpa [mkO] using hj'
             trivial
   | succ j =>
    rw [show k+(j+1)=k+1+j by omega] at hl hk ⊢
    exact ih (x:=x) (fun s hs=>hf s (by simp [hs])) (by simpa [mkO] using hj) (by simpa [mkO] using hj') hl hk
  | buf t fr =>
   cases j with
   | zero =>
    obtain rfl:.buf t fr x.1=o:=by simpa [mkO] using hj
    obtain rfl:.buf t fr x.1=o':=by simpa [mkO] using hj'
    have hl:=hl rfl
    simp only [ObjR,hl] at hk ⊢
    split
    ·rename_i e; rw [e] at hk; exact hk
    ·rename_i L e
     rw [e] at hk
     obtain⟨c,e',q1,q2,q3,q4⟩:=hk
     exact⟨c,e',q1,q2,q3,fun i y hy=>Has.to M (hf (.buf t fr) (by simp)) (q4 i y hy)⟩
   | succ j =>
    rw [show k+(j+1)=k+1+j by omega] at hl hk ⊢
    exact ih (x:=x.2) (fun s hs=>hf s (by simp [hs])) (by simpa [mkO] using hj) (by simpa [mkO] using hj') hl hk
  | box asq =>
   cases j with
   | zero =>
    obtain rfl:.box (mkA id asq x.1)=o:=by simpa [mkO] using hj
    obtain rfl:.box (mkA ρ asq x.1)=o':=by simpa [mkO] using hj'
    have hl:=hl rfl
    obtain⟨L,c,e,cs,q0,q1,q2,q3,q4,q5⟩:=hk
    exact⟨L,c,e,cs,hl.trans q0,q1,q2,q3,q4,mkA_to RN M (hf (.box asq) (by simp)) q5⟩
   | succ j =>
    rw [show k+(j+1)=k+1+j by omega] at hl hk ⊢
    exact ih (x:=x.2) (fun s hs=>hf s (by simp [hs])) (by simpa [mkO] using hj) (by simpa [mkO] using hj') hl hk
theorem turns_sim {o o1 o2 o3:Obj'} (h1:SimO o o1) (h2:Turns o1 o2) (h3:SimO o2 o3):Turns o o3:=by
 cases o3 with
 | dead => cases o <;> trivial
 | buf t3 f3 l3 =>
  cases o2 with
  | dead => exact h3.elim
  | box => exact h3.elim
  | buf t2 f2 l2 =>
   obtain⟨rfl,e3⟩:=h3
   cases o1 with
   | dead => exact h2.elim
   | box => exact h2.elim
   | buf t1 f1 l1 =>
    obtain⟨rfl,e2⟩:=h2
    cases o with
    | dead => exact h1.elim
    | box => exact h1.elim
    | buf t f l =>
     obtain⟨rfl,e1⟩:=h1
     exact⟨rfl,e1.trans (e2.trans e3)⟩
 | box as3 =>
  cases o2 with
  | dead => exact h3.elim
  | buf => exact h3.elim
  | box as2 =>
   cases o1 with
   | dead => exact h2.elim
   | buf => exact h2.elim
   | box as1 =>
    cases o with
    | dead => exact h1.elim
    | buf => exact h1.elim
    | box asq =>
     intro off p n t fr l qq hc
     obtain⟨_,_,_,_,hc⟩:=sameForm_cut h1 hc
     obtain⟨_,_,_,_,hc⟩:=h2 _ _ _ _ _ _ _ hc
     exact sameForm_cut h3 hc
theorem freeFrom_spec {g:Nat→Option Obj'} {nid:Nat}:∀ {n:Nat},freeFrom g nid n=true→∀ j,j<n→g (nid+j)=none
 | 0, _, j, hj => by omega
 | n + 1, h, j, hj => by
  simp only [freeFrom] at h
  split at h
  ·rename_i hn
   by_cases e:j=n
   ·subst e; exact hn
   ·exact freeFrom_spec h j (by omega)
  ·cases h
theorem foreign_free {s:Sig} (h:s.foreign=false):(∀ v∈s.vals,VS.free False v)∧(∀ o∈s.objs,match o with | .buf t fr=>False∨(!fr&&AS.foreign.hasSl t)=false | .box asq=>∀ a∈asq,AS.free False a | .dead=>True):=by
 simp only [Sig.foreign,Bool.or_eq_false_iff,List.any_eq_false] at h
 obtain⟨h1,h2⟩:=h
 refine⟨fun v hv=>?_,fun o ho=>?_⟩
 ·have := h1 v hv
  cases v with
  | one a => exact .inr (by simpa using this)
  | agg asq => intro a ha; simp only [List.any_eq_true, not_exists, not_and] at this; exact .inr (by simpa using this a ha)
 ·have := h2 o ho
  cases o with
  | buf t fr => exact .inr (by simpa using this)
  | box asq => intro a ha; simp only [List.any_eq_true, not_exists, not_and] at this; exact .inr (by simpa using this a ha)
  | dead => trivial
theorem full_free (s:Sig):(∀ v∈s.vals,VS.free True v)∧(∀ o∈s.objs,match o with | .buf t fr=>True∨(!fr&&AS.foreign.hasSl t)=false | .box asq=>∀ a∈asq,AS.free True a | .dead=>True):=by
 refine⟨fun v _=>?_,fun o _=>?_⟩
 ·cases v with
  | one a => exact .inl trivial
  | agg asq => intro a _; exact .inl trivial
 ·cases o with
  | buf t fr => exact .inl trivial
  | box asq => intro a _; exact .inl trivial
  | dead => trivial
section
variable {P:Program} {B:Base} {h g:Nat→Option Obj'} {loc:Nat→Option Loc} {w:World}
theorem keys_get {hs:Hp} {i:Nat} {o:Obj'} (k:get i hs=some o):i∈keys hs:=List.mem_map.2 ⟨(i,o),get_in k,rfl⟩
set_option maxHeartbeats 1000000 in
theorem call_R {o:Orac} (hO:OracOk P o) {args:List AVal} {nid:Nat} {s:o.sin.den} {D:Dk} (hdec:dec g o.sin [] args=some (s,D)) (hvt:D.vt = []) (hfor:D.fz = []∨o.sout.foreign=false)
  (hfree:freeFrom g nid (o.sout.objs.length-o.sin.objs.length)=true) {r:o.sout.den} (hr:o.F s some=some r) (R:HRel B h loc w) (hg:∀ id o,g id=some o→h id=some o) (hnx:B.nx≤nid)
  (hfr:∀ i∈keys (hpOf (place D.m o.sin.objs.length nid) 0 (mkO (place D.m o.sin.objs.length nid) o.sout.objs r.1)),g i=none→h i=none) {us:List Value} (hv:AVsR (viewOf B w h loc) args us):
  Calls P o.f us.toArray w fun e w'=>∃ u,e = .returned u∧After B h loc w (resVal (mkV (place D.m o.sin.objs.length nid) o.sout.vals r.2)) (hpOf (place D.m o.sin.objs.length nid) 0 (mkO (place D.m o.sin.objs.length nid) o.sout.objs r.1)) u w':=by
 have k:=dec_read hdec
 have bound:∀ j,j<o.sin.objs.length→∃ i o1 o2,get j D.m=some i∧g i=some o1∧hOf o.sin s j=some o2∧SimO o1 o2:=by
  intro j hj
  obtain⟨o',h1,h2⟩:=k.sim hj
  rcases h2 with ⟨i,o1,q1,q2,q3⟩ | ⟨q1,_⟩ | ⟨q1,_⟩
  ·exact⟨i,o1,o',q1,q2,h1,q3⟩
  ·rw [hvt] at q1; cases q1
  ·have hp := hO.plain
   simp only [Sig.plain,Bool.and_eq_true] at hp
   exact(plain_alive hp.2 (by rw [←hOf_eq]; exact h1) q1).elim
 have old:∀ j i,get j D.m=some i→place D.m o.sin.objs.length nid j=i:=by
  intro j i hj
  have hlt:=k.lt j i hj
  have:Nat.blt j o.sin.objs.length=true:=by simpa using hlt
  simp only [place,this,hj]
 have new:∀ j,¬ j<o.sin.objs.length→place D.m o.sin.objs.length nid j=nid+(j-o.sin.objs.length):=by
  intro j hj
  have:Nat.blt j o.sin.objs.length=false:=by rw [Bool.eq_false_iff]; exact fun e=>hj (by simpa using e)
  simp only [place,this]
 have newNone:∀ j,¬ j<o.sin.objs.length→j<o.sout.objs.length→g (place D.m o.sin.objs.length nid j)=none:=by
  intro j h1 h2
  rw [new j h1]
  exact freeFrom_spec hfree _ (by omega)
 generalize hρ:place D.m o.sin.objs.length nid=ρ at *
 have inj:∀ a b,a<o.sout.objs.length→b<o.sout.objs.length→ρ a=ρ b→a=b:=by
  intro a b ha hb e
  by_cases h1:a<o.sin.objs.length <;> by_cases h2:b<o.sin.objs.length
  ·obtain ⟨i, _, _, q1, _⟩ := bound a h1
   obtain⟨i',_,_,q2,_⟩:=bound b h2
   rw [old a i q1,old b i' q2] at e
   exact k.inj a b i q1 (e ▸ q2)
  ·obtain ⟨i, o1, _, q1, q2, _⟩ := bound a h1
   have:=newNone b h2 hb
   rw [←e,old a i q1,q2] at this; cases this
  ·obtain ⟨i, o1, _, q1, q2, _⟩ := bound b h2
   have:=newNone a h1 ha
   rw [e,old b i q1,q2] at this; cases this
  ·rw [new a h1,new b h2] at e; omega
 let okc:Nat→Prop:=fun b=>(∃ c,memOf B w h loc b c)∨∃ i∈D.fz,LivesAt h loc i b
 let Bc:Base:=⟨w,okc,o.sin.objs.length,locOf h loc D⟩
 have livesC:∀ {j b},LivesAt (hOf o.sin s) (locOf h loc D) j b→∃ i,get j D.m=some i∧LivesAt h loc i b:=fun hl=>k.lives hg hl
 have memC:∀ b c,memOf B w h loc b c→memOf Bc w (hOf o.sin s) (locOf h loc D) b c:=fun b c hm=>⟨hm.1,fun j hl=>by
  obtain⟨i,_,hl⟩:=livesC hl
  exact hm.2.1 i hl,fun _=>.inl (.inl ⟨c,hm⟩)⟩
 have hokc:∀ b,okc b→∀ i,¬ LivesAt (hOf o.sin s) (locOf h loc D) i b:=by
  intro b hb j hl
  obtain⟨i,hj,hl⟩:=livesC hl
  rcases hb with ⟨c,hm⟩ | ⟨i',hi',hl'⟩
  ·exact hm.2.1 i hl
  ·exact k.apart i' hi' j (R.inj i' i b hl' hl ▸ hj)
 let V2:View:=⟨hOf o.sin s,locOf h loc D,memOf Bc w (hOf o.sin s) (locOf h loc D),memOf Bc w (hOf o.sin s) (locOf h loc D)⟩
 have S2:SeesM B w h loc D.fz V2:=⟨memC,fun b c hm=>memC b c hm.1,fun _ _ k=>k,fun i hi b c hl hc=>by
  have m:memOf Bc w (hOf o.sin s) (locOf h loc D) b c:=⟨hc,hokc b (.inr ⟨i,hi,hl⟩),fun _=>.inl (.inr ⟨i,hi,hl⟩)⟩
  exact⟨m,m⟩⟩
 have I2:Into B w h loc V2 D:=k.into hg rfl rfl S2
 obtain⟨d1,hd1,l1⟩:=k.V
 obtain⟨d2,hd2⟩:=k.O
 have plain:=hO.plain
 simp only [Sig.plain,Bool.and_eq_true] at plain
 have extC:∀ b,Bc.ext b→∃ j i,j<o.sin.objs.length∧get j D.m=some i∧LivesAt h loc i b:=by
  rintro b ⟨j,hj,L,hL,rfl⟩
  have hL':locOf h loc D j=some L:=hL
  simp only [locOf] at hL'
  split at hL'
  ·cases hL'
  ·rename_i i hi
   split at hL'
   ·cases hL'
   ·rename_i o1 ho1
    split at hL'
    ·cases hL'
    ·rename_i hd
     exact⟨j,i,hj,hi,o1,L,ho1,hd,hL',rfl⟩
 have RC:HRel Bc (hOf o.sin s) (locOf h loc D) w:=by
  refine⟨rfl,rfl,rfl,Nat.le_refl _,fun _ _ _=>rfl,fun j ob ho=>?_,fun j b hl=>?_,fun j j' b hl hl'=>?_,fun j _ _=>rfl⟩
  ·have hj : (mkO id o.sin.objs s.1)[j]? = some ob := by rw [← hOf_eq]; exact ho
   have:=decO_R R hg I2 hd2 (DLe.refl D) j ob hj
   rw [Nat.zero_add] at this
   exact plain_O (V:=V2) (V':=viewOf Bc w (hOf o.sin s) (locOf h loc D)) rfl rfl rfl plain.2 hj this
  ·obtain ⟨i, hi, hl2⟩ := livesC hl
   refine⟨(R.blk i b hl2).1,.inr ⟨j,k.lt j i hi,?_⟩⟩
   obtain⟨_,L,_,_,q3,q4⟩:=hl
   exact⟨L,q3,q4⟩
  ·obtain ⟨i, q1, hl⟩ := livesC hl
   obtain⟨i',q2,hl'⟩:=livesC hl'
   exact k.inj j j' i q1 (R.inj i i' b hl hl' ▸ q2)
 have args2:V1sR (viewOf Bc w (hOf o.sin s) (locOf h loc D)) (mkV id o.sin.vals s.2) us:=
  plain_V (V:=V2) (V':=viewOf Bc w (hOf o.sin s) (locOf h loc D)) rfl rfl rfl plain.1 (decV_R R hg I2 hd1 l1 hv)
 refine(hO.ok s r hr w okc (locOf h loc D) us RC hokc args2).mono ?_
 rintro e w' ⟨u,locc',rfl,RC',turns,res⟩
 refine⟨u,rfl,?_⟩
 let hs:=hpOf ρ 0 (mkO ρ o.sout.objs r.1)
 have hlen:(mkO ρ o.sout.objs r.1).length=o.sout.objs.length:=mkO_length _ _ _
 have getρ:∀ j,j<o.sout.objs.length→get (ρ j) hs=(mkO ρ o.sout.objs r.1)[j]?:=fun j hj=>
  hpOf_get (fun a b _ h1 _ h2 e=>inj a b (by omega) (by omega) e) (Nat.zero_le _) (by omega)
 let M:Nat→Prop:=fun i=>∃ j,j<o.sout.objs.length∧i=ρ j
 let loc':Nat→Option Loc:=fun i=>match (List.range o.sout.objs.length).find? (fun j=>Nat.beq (ρ j) i) with | some j=>locc' j | none=>loc i
 have locM:∀ j,j<o.sout.objs.length→loc' (ρ j)=locc' j:=by
  intro j hj
  have:(List.range o.sout.objs.length).find? (fun j'=>Nat.beq (ρ j') (ρ j))=some j:=by
   rw [List.find?_eq_some_iff_getElem]
   refine⟨by simp,j,by simpa using hj,by simp,fun j' hj'=>?_⟩
   simp only [List.getElem_range]
   rw [beq_ne (fun e=>by have:=inj j' j (by omega) hj e; omega)]; rfl
  simp only [loc',this]
 have locN:∀ i,¬ M i→loc' i=loc i:=by
  intro i hi
  have:(List.range o.sout.objs.length).find? (fun j'=>Nat.beq (ρ j') i)=none:=by
   rw [List.find?_eq_none]
   intro j hj e
   exact hi ⟨j,by simpa using hj,(Nat.eq_of_beq_eq_true e).symm⟩
  simp only [loc',this]
 have updM:∀ j,j<o.sout.objs.length→∃ o2 o3,hOf o.sout r j=some o2∧upd hs h (ρ j)=some o3∧(mkO ρ o.sout.objs r.1)[j]? = some o3∧SimO o2 o3:=by
  intro j hj
  have h1:∃ o2,(mkO id o.sout.objs r.1)[j]? = some o2:=⟨_,List.getElem?_eq_getElem (by rw [mkO_length]; exact hj)⟩
  obtain⟨o2,h1⟩:=h1
  obtain⟨o3,h2,h3⟩:=mkO_form ρ h1
  exact⟨o2,o3,by rw [hOf_eq]; exact h1,by simp only [upd,getρ j hj,h2],h2,h3⟩
 have updN:∀ i,¬ M i→upd hs h i=h i:=by
  intro i hi
  cases hgi:get i hs with
  | none => simp only [upd, hgi]
  | some ob =>
   obtain⟨j,_,q2,q3⟩:=hpOf_keys ⟨ob,hgi⟩
   exact(hi ⟨j,by omega,q3⟩).elim
 have keyM:∀ j,j<o.sout.objs.length→ρ j∈keys hs:=by
  intro j hj
  obtain⟨o2,o3,_,_,q,_⟩:=updM j hj
  exact keys_get (by rw [getρ j hj]; exact q)
 have freshN:∀ j,¬ j<o.sin.objs.length→j<o.sout.objs.length→h (ρ j)=none:=fun j h1 h2=>hfr _ (keyM j h2) (newNone j h1 h2)
 have livesM:∀ j b,j<o.sout.objs.length→LivesAt (upd hs h) loc' (ρ j) b→LivesAt (hOf o.sout r) locc' j b:=by
  rintro j b hj ⟨o3,L,q1,q2,q3,q4⟩
  obtain⟨o2,o3',p1,p2,_,p3⟩:=updM j hj
  obtain rfl:=Option.some.inj (q1.symm.trans p2)
  exact⟨o2,L,p1,by rw [←p3.dead]; exact q2,by rw [←locM j hj]; exact q3,q4⟩
 have St : Step w h loc M w' (upd hs h) loc' := by
  refine⟨RC'.os,RC'.tape,RC'.output,RC'.size,fun b hb hnl=>?_,fun i hi=>⟨updN i hi,locN i hi⟩,?_,?_,?_⟩
  ·refine RC'.old b hb fun hex => ?_
   obtain⟨j,i,h1,h2,h3⟩:=extC b hex
   exact hnl i ⟨j,Nat.lt_of_lt_of_le h1 hO.le,(old j i h2).symm⟩ h3
  ·rintro i ⟨j, hj, rfl⟩ ob hob
   by_cases h1:j<o.sin.objs.length
   ·obtain ⟨i, o1, o1', q1, q2, q3, q4⟩ := bound j h1
    have e:=old j i q1
    obtain rfl:=Option.some.inj (hob.symm.trans (e ▸ hg _ _ q2))
    obtain⟨o2,o3,p1,p2,_,p3⟩:=updM j hj
    obtain⟨o2',t1,t2,t3⟩:=turns j o1' q3
    obtain rfl:=Option.some.inj (p1.symm.trans t1)
    refine⟨o3,p2,turns_sim q4 t2 p3,?_⟩
    rcases t3 with rfl | t3
    ·left; cases o3 <;> first | rfl | exact p3.elim
    ·by_cases hd : ob.isDead = true
     ·left
      have:o1'.isDead=true:=by rw [q4.dead]; exact hd
      cases o1' <;> first | cases this | skip
      cases o2 <;> first | exact t2.elim | skip
      cases o3 <;> first | rfl | exact p3.elim
     ·right
      rw [locM j hj,t3,e]
      have hd:ob.isDead=false:=by simpa using hd
      have:h i=some ob:=e ▸ hob
      simp only [locOf,q1,this,hd]
   ·rw [freshN j h1 hj] at hob; cases hob
  ·rintro i b ⟨j, hj, rfl⟩ hl
   obtain⟨q1,q2⟩:=RC'.blk j b (livesM j b hj hl)
   refine⟨q1,q2.imp (fun x=>x) fun hex=>?_⟩
   obtain⟨j',i',h1,h2,h3⟩:=extC b hex
   exact⟨i',⟨j',Nat.lt_of_lt_of_le h1 hO.le,(old j' i' h2).symm⟩,h3⟩
  ·rintro i i' b ⟨j, hj, rfl⟩ ⟨j', hj', rfl⟩ hl hl'
   rw [RC'.inj j j' b (livesM j b hj hl) (livesM j' b hj' hl')]
 let V1:=viewOf Bc w' (hOf o.sout r) locc'
 let V':=viewOf B w' (upd hs h) loc'
 have RN:Renamed V1 V' ρ o.sout.objs.length:=by
  have lt:∀ j ob,hOf o.sout r j=some ob→j<o.sout.objs.length:=fun j ob hj=>by
   rw [hOf_eq] at hj
   have:=(List.getElem?_eq_some_iff.1 hj).1
   rwa [mkO_length] at this
  refine⟨lt,fun j ob hj=>?_⟩
  have hlt:=lt j ob hj
  obtain⟨o2,o3,p1,p2,_,p3⟩:=updM j hlt
  obtain rfl:=Option.some.inj (p1.symm.trans hj)
  exact⟨o3,p2,p3,fun _=>locM j hlt⟩
 have notlive:∀ b c,memOf Bc w' (hOf o.sout r) locc' b c→(w.heap.size≤b∨Bc.ext b∨∃ c,memOf B w h loc b c)→∀ i,¬ LivesAt (upd hs h) loc' i b:=by
  intro b c hm hor i hl
  by_cases hM:M i
  ·obtain ⟨j, hj, rfl⟩ := hM
   exact hm.2.1 j (livesM j b hj hl)
  ·have hl2 := hl.congr (updN i hM) (locN i hM)
   rcases hor with h1 | h1 | ⟨c,h1⟩
   ·have:=(R.blk i b hl2).1; omega
   ·obtain ⟨j', i', q1, q2, q3⟩ := extC b h1
    exact hM ⟨j',Nat.lt_of_lt_of_le q1 hO.le,by rw [old j' i' q2]; exact R.inj i i' b hl2 q3⟩
   ·exact h1.2.1 i hl2
 have extB:∀ b,Bc.ext b→B.n0≤b∨B.ext b:=fun b hex=>by
  obtain⟨j',i',_,_,q3⟩:=extC b hex
  exact(R.blk i' b q3).2
 have M2:MemTo V1 V' (D.fz = []):=by
  refine⟨fun b c ⟨hm,hf⟩=>?_,fun hfz b c hm=>?_⟩
  ·have hf' : w.heap.size ≤ b ∨ Bc.ext b := hf
   have q:B.n0≤b∨B.ext b:=hf'.elim (fun hb=>.inl (Nat.le_trans R.size hb)) (extB b)
   refine⟨⟨hm.1,notlive b c hm (hf'.imp (fun x=>x) .inl),fun hlt=>.inr (q.resolve_left (by omega))⟩,q⟩
  ·by_cases hb : b < w.heap.size
   ·rcases hm.2.2 hb with hok | hex
    ·rcases (show okc b from hok) with ⟨c0, h1⟩ | ⟨i, hi, _⟩
     ·exact⟨hm.1,notlive b c hm (.inr (.inr ⟨c0,h1⟩)),h1.2.2⟩
     ·rw [hfz] at hi; cases hi
    ·exact⟨hm.1,notlive b c hm (.inr (.inl hex)),fun hlt=>.inr ((extB b hex).resolve_left (by omega))⟩
   ·exact⟨hm.1,notlive b c hm (.inl (by omega)),fun hlt=>absurd (Nat.lt_of_lt_of_le hlt R.size) hb⟩
 have free:(∀ v∈o.sout.vals,VS.free (D.fz = []) v)∧(∀ s∈o.sout.objs,match s with | .buf t fr=>(D.fz = [])∨(!fr&&AS.foreign.hasSl t)=false | .box asq=>∀ a∈asq,AS.free (D.fz = []) a | .dead=>True):=by
  rcases hfor with hfz | hff
  ·have := full_free o.sout
   simp only [hfz]; exact this
  ·have := foreign_free hff
   have lift:∀ a:AS,AS.free False a→AS.free (D.fz = []) a:=fun a h=>.inr (h.resolve_left (fun h=>h))
   refine⟨fun v hv=>?_,fun ob ho=>?_⟩
   ·have := this.1 v hv
    cases v with
    | one a => exact lift a this
    | agg asq => exact fun a ha => lift a (this a ha)
   ·have := this.2 ob ho
    cases ob with
    | buf t fr => exact .inr (this.resolve_left (fun h => h))
    | box asq => exact fun a ha => lift a (this a ha)
    | dead => trivial
 refine⟨loc',St.le,R.step St (fun i hi ob hob=>?_) (fun j hj hM hex=>?_),res_to RN M2 free.1 res⟩
 ·obtain ⟨j, hj, rfl⟩ := hi
  obtain⟨o2,o3,p1,p2,p3,p4⟩:=updM j hj
  obtain rfl:=Option.some.inj (hob.symm.trans p2)
  have hk:=RC'.objs j o2 p1
  have:=mkO_to (k:=0) RN M2 free.2 (by rw [←hOf_eq]; exact p1) p3 (fun _=>by rw [Nat.zero_add]; exact locM j hj) (by rw [Nat.zero_add]; exact hk)
  rwa [Nat.zero_add] at this
 ·obtain ⟨j', hj', rfl⟩ := hM
  obtain⟨ob,hob,hd⟩:=hex
  by_cases h1:j'<o.sin.objs.length
  ·obtain ⟨o2, o3, p1, p2, _, p4⟩ := updM j' hj'
   obtain rfl:=Option.some.inj (hob.symm.trans p2)
   have hd2:o2.isDead=false:=by rw [←p4.dead]; exact hd
   obtain⟨i,o1,o1',q1,q2,q3,q4⟩:=bound j' h1
   obtain⟨o2',t1,t2,t3⟩:=turns j' o1' q3
   obtain rfl:=Option.some.inj (p1.symm.trans t1)
   have hd1:o1.isDead=false:=by
    cases o1 <;> first | rfl | skip
    cases o1' <;> first | exact q4.elim | skip
    cases o2 <;> first | exact t2.elim | cases hd2
   rw [locM j' hj',RC'.ext j' h1 ⟨o2,p1,hd2⟩]
   have e:=old j' i q1
   have hi:h i=some o1:=hg _ _ q2
   have:locOf h loc D j'=loc i:=by simp only [locOf,q1,hi,hd1]
   rw [e]
   exact(show Bc.lx j'=loc i from this).trans (R.ext i (by rw [←e]; exact hj) ⟨o1,hi,hd1⟩)
  ·exfalso
   rw [new j' h1] at hj
   omega
end
end Go.Proofs.Ytijjhpmladkjdaa.E
end
section
namespace Go.Proofs.Ytijjhpmladkjdaa.E
open Go Go.RowKit
structure CtxOk (P:Program) (C:Ctx):Prop where
 T:∀ t d,C.T t=some d→TOk P t d
 O:∀ o∈C.O,OracOk P o
section
variable {P:Program} {C:Ctx}
theorem constVal_R (V:View) (c:Value):VR V (constVal c) c:=by
 unfold constVal
 split
 ·exact⟨rfl,rfl,trivial⟩
 ·exact⟨rfl,rfl,trivial⟩
 ·exact⟨rfl,rfl,trivial⟩
 ·exact⟨rfl,rfl,trivial⟩
 ·exact⟨rfl,⟨_,rfl,rfl⟩,trivial⟩
 ·trivial
structure EnvR (V:View) (nt:Nat) (e:Nat→Option AVal) (a:Act):Prop where
 defers:a.defers = []
 size:a.tmps.size=nt
 at_:∀ t v,e t=some v→VR V v (a.tmps.getD t undef)
theorem EnvR.mono {V V':View} (hV:V.Le V') {nt:Nat} {e:Nat→Option AVal} {a:Act} (k:EnvR V nt e a):EnvR V' nt e a:=⟨k.defers,k.size,fun t v h=>(k.at_ t v h).mono hV⟩
theorem EnvR.val {V:View} {nt:Nat} {env:En} {a:Act} (k:EnvR V nt (fun t=>get t env) a) (x:Operand):VR V (St.val env x) (a.eval x):=by
 cases x with
 | tmp t =>
  simp only [St.val,envVal]
  split
  ·rename_i v hv; exact k.at_ t v hv
  ·trivial
 | const c => exact constVal_R V c
 | func f => exact ⟨rfl, ⟨[], rfl, rfl, by simp⟩, trivial⟩
 | global g => trivial
theorem EnvR.keepVal {V:View} {nt:Nat} {env:En} {a:Act} (k:EnvR V nt (fun t=>get t env) a) (ts:List Nat) (x:Operand):VR V (keepVal ts env x) (a.eval x):=by
 cases x with
 | tmp t =>
  simp only [E.keepVal]
  split
  ·exact k.val (.tmp t)
  ·trivial
 | const c => exact k.val (.const c)
 | func f => exact k.val (.func f)
 | global g => exact k.val (.global g)
theorem EnvR.put {V:View} {nt:Nat} {e e':Nat→Option AVal} {a:Act} (k:EnvR V nt e a) {dst:Option Nat} (hd:dstIn nt dst=true) {v:AVal} {u:Value} (hv:VR V v u)
  (he:∀ t,e' t=match (generalizing:=false) dst with | some d=>if d=t then some v else e t | none=>e t):EnvR V nt e' (a.put dst u):=by
 cases dst with
 | none =>
  have:e'=e:=funext fun t=>he t
  rw [this]; exact k
 | some d =>
  have hlt:d<nt:=by simpa [dstIn] using hd
  refine⟨k.defers,by simp [Act.put,k.size],fun t x hx=>?_⟩
  rw [he t] at hx
  simp only at hx
  by_cases e0:d=t
  ·subst e0
   rw [if_pos rfl] at hx
   obtain rfl:=Option.some.inj hx
   simp [Act.put,k.size,hlt]
   exact hv
  ·rw [if_neg e0] at hx
   have:=k.at_ t x hx
   simp only [Act.put,Array.getD_eq_getD_getElem?,Array.getElem?_setIfInBounds_ne e0] at this ⊢
   exact this
theorem putE_get (dst:Option Nat) (v:AVal) (env:En) (t:Nat):get t (putE dst v env)=match dst with | some d=>if d=t then some v else get t env | none=>get t env:=by
 cases dst with
 | none => rfl
 | some d =>
  simp only [putE]
  by_cases e:d=t
  ·subst e; rw [get_cons_eq,if_pos rfl]
  ·rw [get_cons_ne e,if_neg e]
def OpSpec (P:Program) (C:Ctx) (o:Oper) (val:Operand→AVal) (g:Nat→Option Obj') (nid:Nat) (v:AVal) (hs:Hp):Prop:=
 ∀ (B:Base) (h:Nat→Option Obj') (loc:Nat→Option Loc) (w:World) (a:Act),Hyp P B h g loc w C.T val a.eval nid→(∀ i∈keys hs,g i=none→h i=none)→
  ∀ (next:Act→World→Prop) (Q:Exit→Act→World→Prop),(∀ u w',After B h loc w v hs u w'→next (a.put o.dst u) w')→o.wp P a w next Q
theorem AVsR_append {V:View}:∀ {xs ys:List AVal} {us vs:List Value},AVsR V xs us→AVsR V ys vs→AVsR V (xs++ys) (us++vs)
 | [], _, _, _, h, k => by cases h; exact k
 | _ :: _, _, _, _, ⟨u, r, e, h1, h2⟩, k => ⟨u, r ++ _, by rw [e]; rfl, h1, AVsR_append h2 k⟩
theorem AVsR_map {V:View} {val:Operand→AVal} {ρ:Operand→Value} (hv:∀ x,VR V (val x) (ρ x)):∀ (xs:List Operand),AVsR V (xs.map val) (xs.map ρ)
 | [] => rfl
 | x :: xs => ⟨ρ x, xs.map ρ, rfl, hv x, AVsR_map hv xs⟩
theorem caps_R {V : View} {caps : List Nat} {vs : List Value} (hl : vs.length = caps.length) (hc : ∀ (n i : Nat), caps[n]? = some i → ∃ v, vs[n]? = some v ∧ match V.h i with
        | some (.box _) => ∃ L, V.loc i = some L ∧ v = L.ptr 0
        | some .dead => v.oneCell' = true
        | _ => False) : AVsR V (caps.map fun i => one (.ptr i 0 0)) vs := by
 induction caps generalizing vs with
 | nil => exact List.eq_nil_of_length_eq_zero hl
 | cons i r ih =>
  cases vs with
  | nil => simp at hl
  | cons v vs =>
   refine⟨v,vs,rfl,⟨rfl,?_,trivial⟩,ih (by simpa using hl) fun n j hj=>by simpa using hc (n+1) j (by simpa using hj)⟩
   obtain⟨v',h1,h2⟩:=hc 0 i rfl
   obtain rfl:v=v':=by simpa using h1
   simp only [AtomR]
   cases ho:V.h i with
   | none => rw [ho] at h2; exact h2.elim
   | some o =>
    rw [ho] at h2
    cases o with
    | dead => exact ⟨v, rfl, h2⟩
    | buf => exact h2.elim
    | box asq => obtain ⟨L, hL, e⟩ := h2; exact ⟨L, hL, by rw [e]⟩
def CallSpec (P:Program) (f:Nat) (args:List AVal) (g:Nat→Option Obj') (nid:Nat) (v:AVal) (hs:Hp):Prop:=
 (∃ fn, P.funcs[f]? = some fn ∧ fn.body.isSome = true ∧ (fn.name == "runtime.NumGoroutine") = false) ∧
  ∀ (B:Base) (h:Nat→Option Obj') (loc:Nat→Option Loc) (w:World) (us:List Value),HRel B h loc w→(∀ id o,g id=some o→h id=some o)→B.nx≤nid→(∀ i∈keys hs,g i=none→h i=none)→
   AVsR (viewOf B w h loc) args us→Calls P f us.toArray w fun e w'=>∃ u,e = .returned u∧After B h loc w v hs u w'
theorem evalCall_spec {β:Type}:∀ {O:List Orac} {f:Nat} {args:List AVal} {g:Nat→Option Obj'} {nid:Nat} {K:AVal→Hp→Option β} {y:β},(∀ o∈O,OracOk P o)→evalCall O f args g nid K=some y→
  ∃ v hs,K v hs=some y∧CallSpec P f args g nid v hs
 | [], _, _, _, _, _, _, _, hk => by cases hk
 | o :: r, f, args, g, nid, K, y, hO, hk => by
  simp only [evalCall] at hk
  split at hk
  ·exact evalCall_spec (fun o ho=>hO o (by simp [ho])) hk
  ·rename_i hf
   obtain rfl:=Nat.eq_of_beq_eq_true hf
   split at hk
   ·exact evalCall_spec (fun o ho=>hO o (by simp [ho])) hk
   ·rename_i s D hdec
    have hok:=hO o (by simp)
    have fin:D.vt = []→(D.fz = []∨o.sout.foreign=false)→(match freeFrom g nid (o.sout.objs.length-o.sin.objs.length) with
      | false => none
      | true => o.F s fun y => K (resVal (mkV (place D.m o.sin.objs.length nid) o.sout.vals y.2)) (hpOf (place D.m o.sin.objs.length nid) 0 (mkO (place D.m o.sin.objs.length nid) o.sout.objs y.1))) = some y → ∃ v hs, K v hs = some y ∧ CallSpec P o.f args g nid v hs := by
     intro hvt hfor hk
     split at hk
     ·cases hk
     ·rename_i hfree
      rw [hok.nat] at hk
      cases hr:o.F s some with
      | none => rw [hr] at hk; cases hk
      | some r =>
       rw [hr] at hk
       exact⟨_,_,hk,hok.body,fun B h loc w us R hg hnx hfr hv=>call_R hok hdec hvt hfor hfree hr R hg hnx hfr hv⟩
    split at hk
    ·cases hk
    ·cases hk
    ·rename_i hvt hor
     have hvt':D.vt = []:=by
      cases hD:D.vt with
      | nil => rfl
      | cons a l => exact (hvt a l hD).elim
     have hfor:D.fz = []∨o.sout.foreign=false:=by
      cases hD:D.fz with
      | nil => exact .inl rfl
      | cons a l =>
       cases hs:o.sout.foreign with
       | false => exact .inr rfl
       | true => exact (hor a l hD hs).elim
     exact fin hvt' hfor hk
theorem act_spec {β:Type} (hC:CtxOk P C) {o:Oper} {val:Operand→AVal} {g:Nat→Option Obj'} {nid:Nat} {K:AVal→Hp→Option β} {y:β}
  (hk:(match act C.T o.op val g nid with | .fail=>none | .ok c v hs=>bif c then K v hs else none)=some y) (hfresh:∀ c v hs,act C.T o.op val g nid = .ok c v hs→nid∈keys hs→True):
  ∃ v hs,K v hs=some y∧OpSpec P C o val g nid v hs:=by
 cases ha:act C.T o.op val g nid with
 | fail => rw [ha] at hk; cases hk
 | ok c v hs =>
  rw [ha] at hk
  cases c with
  | false => cases hk
  | true =>
   refine⟨v,hs,hk,fun B h loc w a H hfr next Q hn=>?_⟩
   obtain⟨u,w',hr,hA⟩:=act_R H ha rfl (fun k1 k2=>hfr _ k1 k2)
   unfold Oper.wp
   rcases hr with hr | ⟨hr,rfl⟩
   ·rw [hr]; exact hn u w' hA
   ·rw [hr]; exact hn undef w' hA
theorem evalOp_spec {β:Type} (hC:CtxOk P C) {o:Oper} {val:Operand→AVal} {g:Nat→Option Obj'} {nid:Nat} {K:AVal→Hp→Option β} {y:β} (hk:evalOp C o.op val g nid K=some y):
  ∃ v hs,K v hs=some y∧OpSpec P C o val g nid v hs:=by
 by_cases hcall:∃ x asq ts,o.op = .call { callee:=.value x,args:=asq,argTypes:=ts }
 ·obtain ⟨x, asq, ts, ho⟩ := hcall
  rw [ho] at hk
  simp only [evalOp] at hk
  split at hk
  ·rename_i f caps hf
   obtain⟨v,hs,h1,⟨fn,hfn,hbody,hname⟩,h2⟩:=evalCall_spec hC.O hk
   refine⟨v,hs,h1,fun B h loc w a H hfr next Q hn=>?_⟩
   have hx:∃ ids,val x = .v (.one (.fn f ids))∧caps=ids.map fun i=>one (.ptr i 0 0):=by
    revert hf
    cases val x with
    | v y => cases y with
     | one a => cases a with
      | fn f' ids =>
       intro hf
       simp only [fnArgs,Option.some.injEq,Prod.mk.injEq] at hf
       obtain⟨rfl,rfl⟩:=hf
       exact⟨ids,rfl,rfl⟩
      | _ => intro hf; cases hf
     | agg asq => intro hf; cases hf
    | tup xs => intro hf; cases hf
    | any => intro hf; cases hf
    | und => intro hf; cases hf
   obtain⟨ids,hx,rfl⟩:=hx
   obtain⟨vs,e,e1,e2⟩:=H.lit hx
   obtain e3:a.eval x = .func (.func f) #[] vs.toArray:=by simpa using e
   have hargs:AVsR (viewOf B w h loc) (asq.toList.map val++ids.map fun i=>one (.ptr i 0 0)) (asq.toList.map a.eval++vs):=AVsR_append (AVsR_map H.hv _) (caps_R e1 e2)
   have hc:=h2 B h loc w _ H.R H.hg H.hnx hfr hargs
   have hrun:(execOp a.eval o).run P w = .ok (.enter f (asq.toList.map a.eval++vs).toArray) w:=by
    have hb:¬ fn.body=none:=fun h=>by rw [h] at hbody; cases hbody
    have harr:(asq.map a.eval++vs.toArray)=(asq.toList.map a.eval++vs).toArray:=by apply Array.ext'; simp
    have hname' : ¬ fn.name = "runtime.NumGoroutine" := by simpa using hname
    simp [execOp,ho,resolve,Deferred.ofValue,e3,invoke,callFunc,hfn,hname',hb,harr]
   unfold Oper.wp
   rw [hrun,Oper.upon_enter]
   refine hc.mono ?_
   rintro e w' ⟨u,rfl,hA⟩
   exact hn u w' hA
  ·cases hk
 ·refine act_spec hC (o := o) ?_ (fun _ _ _ _ _ => trivial)
  revert hk
  unfold evalOp
  split
  ·rename_i x asq ts ho; exact(hcall ⟨x,asq,ts,ho⟩).elim
  ·exact fun hk=>hk
end
end Go.Proofs.Ytijjhpmladkjdaa.E
end
section
namespace Go.Proofs.Ytijjhpmladkjdaa.E
open Go Go.RowKit
theorem Turns.trans {o1 o2 o3:Obj'} (h1:Turns o1 o2) (h2:Turns o2 o3):Turns o1 o3:=by
 cases o3 with
 | dead => cases o1 <;> trivial
 | buf t3 f3 l3 =>
  cases o2 with
  | dead => exact h2.elim
  | box => exact h2.elim
  | buf t2 f2 l2 =>
   obtain⟨rfl,e2⟩:=h2
   cases o1 with
   | dead => exact h1.elim
   | box => exact h1.elim
   | buf t f l =>
    obtain⟨rfl,e1⟩:=h1
    exact⟨rfl,e1.trans e2⟩
 | box as3 =>
  cases o2 with
  | dead => exact h2.elim
  | buf => exact h2.elim
  | box as2 =>
   cases o1 with
   | dead => exact h1.elim
   | buf => exact h1.elim
   | box as1 =>
    intro off p n t fr l qq hc
    obtain⟨_,_,_,_,hc⟩:=h1 _ _ _ _ _ _ _ hc
    exact h2 _ _ _ _ _ _ _ hc
def Kept (hE h:Nat→Option Obj'):Prop:=∀ j o,hE j=some o→∃ o',h j=some o'∧Turns o o'
theorem Kept.refl (h:Nat→Option Obj'):Kept h h:=fun _ o ho=>⟨o,ho,Turns.refl o⟩
theorem Kept.le {hE:Nat→Option Obj'} {V V':View} (k:Kept hE V.h) (l:V.Le V'):Kept hE V'.h:=fun j o ho=>by
 obtain⟨o1,h1,t1⟩:=k j o ho
 obtain⟨o2,h2,t2,_⟩:=l.h j o1 h1
 exact⟨o2,h2,t1.trans t2⟩
structure HK (B:Base) (hE h:Nat→Option Obj') (loc:Nat→Option Loc) (w:World):Prop where
 R:HRel B h loc w
 K:Kept hE h
theorem HK.step {B:Base} {hE h h':Nat→Option Obj'} {loc loc':Nat→Option Loc} {w w':World} (k:HK B hE h loc w) (l:(viewOf B w h loc).Le (viewOf B w' h' loc')) (R:HRel B h' loc' w'):HK B hE h' loc' w':=
 ⟨R,Kept.le (V:=viewOf B w h loc) (V':=viewOf B w' h' loc') k.K l⟩
section
variable {P:Program} {C:Ctx}
def Wants (ops:List Oper) (o:Oper) (e:Nat→Option AVal) (b:Bool):Prop:=
 ∀ (V:View) (a:Act),(∀ t v,t∈looksAt ops o→e t=some v→VR V v (a.tmps.getD t undef))→Region.wanted o (yielded ops.toArray a.tmps)=b
theorem looks_guard {ops:List Oper} {o:Oper} {j t:Nat} {b:Bool} (hg:o.guard=some (j,b)) (hd:dstOf ops j=some t):t∈looksAt ops o:=by
 simp [looksAt,hg,hd]
theorem yielded_bool {ops:List Oper} {j t:Nat} {b:Bool} {tmps:Array Value} (hd:dstOf ops j=some t) (ht:tmps.getD t undef = .bool b):yielded ops.toArray tmps j=some b:=by
 have h1 : (ops.toArray[j]?).bind (·.dst) = some t := by
  simp only [dstOf] at hd
  simp only [List.getElem?_toArray]
  cases ho:ops[j]? with
  | none => rw [ho] at hd; cases hd
  | some o => rw [ho] at hd; exact hd
 have h2:tmps[t]? = some (.bool b):=by
  rw [Array.getD_eq_getD_getElem?] at ht
  cases hx:tmps[t]? with
  | none => rw [hx] at ht; cases ht
  | some v => rw [hx] at ht; exact congrArg some ht
 simp only [yielded,h1,Option.bind_some,h2]
theorem yielded_und {ops:List Oper} {j t:Nat} {tmps:Array Value} (hd:dstOf ops j=some t) (ht:tmps.getD t undef=undef):yielded ops.toArray tmps j=none:=by
 have h1 : (ops.toArray[j]?).bind (·.dst) = some t := by
  simp only [dstOf] at hd
  simp only [List.getElem?_toArray]
  cases ho:ops[j]? with
  | none => rw [ho] at hd; cases hd
  | some o => rw [ho] at hd; exact hd
 simp only [yielded,h1,Option.bind_some]
 cases hx:tmps[t]? with
 | none => rfl
 | some v =>
  rw [Array.getD_eq_getD_getElem?,hx] at ht
  obtain rfl:v=undef:=ht
  rfl
theorem same_cons {env:En} {t:Nat} {v:AVal} (h:get t env=some v):∀ t',get t' ((t,v)::env)=get t' env:=by
 intro t'
 by_cases e:t=t'
 ·subst e; rw [get_cons_eq,h]
 ·rw [get_cons_ne e]
theorem envVal_get {env:En} {t:Nat} {v:AVal} (h:envVal env t=v) (hv:v≠.any):get t env=some v:=by
 simp only [envVal] at h
 split at h
 ·rename_i x hx; rw [hx,h]
 ·exact(hv h.symm).elim
noncomputable def runOp {β:Type} (C:Ctx) (draw:Bool) (ops:List Oper) (base:Nat) (env:En) (heap:Hp) (es:List Ent) (K:En→Hp→List Ent→Option β) (o:Oper) (r:List Oper) (i:Nat):Option β:=
 match draw with
 | false => evalOp C o.op (St.val env) (fun j => get j heap) (base + 16 * i) fun v hs => evalOps C draw ops base (putE o.dst v env) (hs ++ heap) es K r (i + 1)
 | true => evalOp C o.op (keepVal (tmpsOf o.op) env) (keep (touch o.op (fun j => get j heap) (o.op.operands.toList.map (St.val env))) (fun j => get j heap)) (base + 16 * i) fun v hs =>
   match freeHs (touch o.op (fun j=>get j heap) (o.op.operands.toList.map (St.val env))) (fun j=>get j heap) hs with
   | true => evalOps C draw ops base (putE o.dst v env) (hs ++ heap) (⟨i, o.dst, v, hs, touch o.op (fun j => get j heap) (o.op.operands.toList.map (St.val env))⟩ :: es) K r (i + 1)
   | false => none
theorem evalOps_cons {β:Type} {draw:Bool} {ops:List Oper} {base:Nat} {env:En} {heap:Hp} {es:List Ent} {K:En→Hp→List Ent→Option β} {o:Oper} {r:List Oper} {i:Nat}:
  evalOps C draw ops base env heap es K (o::r) i=(match dstIn C.nt o.dst with
  | false => none
  | true => match o.guard with
   | none => runOp C draw ops base env heap es K o r i
   | some (j, want) => match dstOf ops j with
    | none => none
    | some t => match envVal env t with
     | .v (.one (.bool b)) => match want with
      | true => bif b then runOp C draw ops base ((t, one (.bool true)) :: env) heap es K o r i else evalOps C draw ops base (putE o.dst .und ((t, one (.bool false)) :: env)) heap (⟨i, o.dst, .und, [], []⟩ :: es) K r (i + 1)
      | false => bif b then evalOps C draw ops base (putE o.dst .und ((t, one (.bool true)) :: env)) heap (⟨i, o.dst, .und, [], []⟩ :: es) K r (i + 1) else runOp C draw ops base ((t, one (.bool false)) :: env) heap es K o r i
     | .und => evalOps C draw ops base (putE o.dst .und env) heap (⟨i, o.dst, .und, [], []⟩ :: es) K r (i + 1)
     | _ => none) := by cases draw <;> rfl
theorem evalOps_step {β:Type} {draw:Bool} {ops:List Oper} {base:Nat} {env:En} {heap:Hp} {es:List Ent} {K:En→Hp→List Ent→Option β} {y:β} {o:Oper} {r:List Oper} {i:Nat}
  (hk : evalOps C draw ops base env heap es K (o :: r) i = some y) : dstIn C.nt o.dst = true ∧ ∃ env', (∀ t, get t env' = get t env) ∧
   ((Wants ops o (fun t => get t env) true ∧ runOp C draw ops base env' heap es K o r i = some y) ∨
    (Wants ops o (fun t=>get t env) false∧evalOps C draw ops base (putE o.dst .und env') heap (⟨i,o.dst,.und,[],[]⟩::es) K r (i+1)=some y)):=by
 rw [evalOps_cons] at hk
 split at hk
 ·cases hk
 ·rename_i hd
  refine⟨hd,?_⟩
  split at hk
  ·rename_i hg
   exact⟨env,fun _=>rfl,.inl ⟨fun V a _=>by simp only [Region.wanted,hg],hk⟩⟩
  ·rename_i j want hg
   split at hk
   ·cases hk
   ·rename_i t hdst
    split at hk
    ·rename_i b hb
     have hget:get t env=some (.v (.one (.bool b))):=envVal_get hb (by simp)
     have wants:Wants ops o (fun t=>get t env) (b==want):=fun V a hE=>by
      have:=yielded_bool (tmps:=a.tmps) hdst (hE t _ (looks_guard hg hdst) hget).bool
      simp only [Region.wanted,hg,this]
      cases b <;> cases want <;> rfl
     cases want <;> cases b <;> simp only [cond_true,cond_false] at hk
     ·exact⟨_,same_cons hget,.inl ⟨wants,hk⟩⟩
     ·exact⟨_,same_cons hget,.inr ⟨wants,hk⟩⟩
     ·exact⟨_,same_cons hget,.inr ⟨wants,hk⟩⟩
     ·exact⟨_,same_cons hget,.inl ⟨wants,hk⟩⟩
    ·rename_i hb
     have hget:get t env=some .und:=envVal_get hb (by simp)
     refine⟨env,fun _=>rfl,.inr ⟨fun V a hE=>?_,hk⟩⟩
     have:=yielded_und (tmps:=a.tmps) hdst (hE t _ (looks_guard hg hdst) hget)
     simp only [Region.wanted,hg,this]
     cases want <;> rfl
    ·cases hk
variable {B:Base} {hE:Nat→Option Obj'}
theorem EnvR.congr {V:View} {nt:Nat} {e e':Nat→Option AVal} {a:Act} (k:EnvR V nt e a) (h:∀ t,e' t=e t):EnvR V nt e' a:=by
 have:e'=e:=funext h
 rw [this]; exact k
theorem ops_R {β:Type} (hC:CtxOk P C) {ops:List Oper} {base:Nat} {K:En→Hp→List Ent→Option β} {y:β} {Q:Exit→Act→World→Prop} (hb:B.nx≤base)
  (hQ:∀ env heap es a w loc,K env heap es=some y→HK B hE (fun j=>get j heap) loc w→EnvR (viewOf B w (fun j=>get j heap) loc) C.nt (fun t=>get t env) a→Q .normal a w):
  ∀ (r:List Oper) (i:Nat) (env:En) (heap:Hp) (es:List Ent),evalOps C false ops base env heap es K r i=some y→ops.drop i=r→
   ∀ a w loc,HK B hE (fun j=>get j heap) loc w→EnvR (viewOf B w (fun j=>get j heap) loc) C.nt (fun t=>get t env) a→wpOps P ops.toArray Q (List.range' i r.length) a w
 | [], i, env, heap, es, hk, _, a, w, loc, R, hE => by
  rw [evalOps] at hk
  exact hQ env heap es a w loc hk R hE
 | o :: r, i, env, heap, es, hk, hd, a, w, loc, R, hE => by
  obtain⟨hdst,env',hsame,hor⟩:=evalOps_step hk
  have ho:ops.toArray[i]? = some o:=by
   simp only [List.getElem?_toArray]
   rw [←List.head?_drop,hd]; rfl
  have hd':ops.drop (i+1)=r:=by rw [←List.drop_drop,hd]; rfl
  have hE':=hE.congr (e':=fun t=>get t env') hsame
  simp only [List.length_cons,List.range'_succ,wpOps,ho]
  rcases hor with ⟨hw,hk⟩ | ⟨hw,hk⟩
  ·rw [if_pos (hw _ _ fun t v _ => hE.at_ t v)]
   left
   obtain⟨v,hs,hk2,hspec⟩:=evalOp_spec hC (o:=o) hk
   refine hspec B (fun j=>get j heap) loc w a ⟨hC.T,R.R,fun _ _ h=>h,by omega,fun x=>hE'.val x,fun _=>rfl⟩ (fun _ _ h=>h) _ Q fun u w' ⟨loc',hle,R',hv⟩=>?_
   rw [←upd_append] at hle R' hv
   have R':=R.step hle R'
   exact ops_R hC hb hQ r (i+1) _ _ _ hk2 hd' _ w' loc' R' ((hE'.mono hle).put hdst hv (putE_get _ _ _))
  ·rw [hw _ _ fun t v _ => hE.at_ t v, if_neg (by simp)]
   exact ops_R hC hb hQ r (i+1) _ _ _ hk hd' _ w loc R (hE'.put hdst (v:=.und) rfl (putE_get _ _ _))
end
end Go.Proofs.Ytijjhpmladkjdaa.E
end
section
namespace Go.Proofs.Ytijjhpmladkjdaa.E
open Go Go.RowKit
section
variable {P:Program} {C:Ctx} {B:Base}
def envAt (e0:Nat→Option AVal) (S:Nat→Bool):List Ent→Nat→Option AVal
 | [], t => e0 t
 | e :: r, t => match S e.i, e.dst with
  | true, some d => if d = t then some e.v else envAt e0 S r t
  | _, _ => envAt e0 S r t
def heapAt (h0:Nat→Option Obj') (S:Nat→Bool):List Ent→Nat→Option Obj'
 | [], k => h0 k
 | e :: r, k => match S e.i with
  | true => match get k e.hs with | some o => some o | none => heapAt h0 S r k
  | false => heapAt h0 S r k
theorem envAt_congr {e0:Nat→Option AVal} {S S':Nat→Bool} {t:Nat}:∀ {es:List Ent},(∀ e∈es,e.dst=some t→S e.i=S' e.i)→envAt e0 S es t=envAt e0 S' es t
 | [], _ => rfl
 | e :: r, h => by
  have ih:=envAt_congr (e0:=e0) (S:=S) (S':=S') (t:=t) (es:=r) fun x hx=>h x (List.mem_cons_of_mem _ hx)
  simp only [envAt]
  cases hd:e.dst with
  | none => cases S e.i <;> cases S' e.i <;> exact ih
  | some d =>
   by_cases hdt:d=t
   ·subst hdt; rw [h e List.mem_cons_self hd]; cases S' e.i <;> simp [ih]
   ·cases S e.i <;> cases S' e.i <;> simp [hdt,ih]
theorem get_keys {k:Nat} {hs:Hp} {o:Obj'} (h:get k hs=some o):k∈keys hs:=List.mem_map.2 ⟨(k,o),get_in h,rfl⟩
theorem heapAt_congr {h0:Nat→Option Obj'} {S S':Nat→Bool} {k:Nat}:∀ {es:List Ent},(∀ e∈es,∀ o,get k e.hs=some o→S e.i=S' e.i)→heapAt h0 S es k=heapAt h0 S' es k
 | [], _ => rfl
 | e :: r, h => by
  have ih:=heapAt_congr (h0:=h0) (S:=S) (S':=S') (k:=k) (es:=r) fun x hx=>h x (List.mem_cons_of_mem _ hx)
  simp only [heapAt]
  cases hg:get k e.hs with
  | none => cases S e.i <;> cases S' e.i <;> exact ih
  | some o => rw [h e List.mem_cons_self o hg]; cases S' e.i <;> simp [ih]
theorem envAt_skip {e0:Nat→Option AVal} {S:Nat→Bool} {t:Nat} {q:List Ent}:∀ {p:List Ent},(∀ e∈p,e.dst=some t→S e.i=false)→envAt e0 S (p++q) t=envAt e0 S q t
 | [], _ => rfl
 | e :: r, h => by
  have ih:=envAt_skip (e0:=e0) (S:=S) (t:=t) (q:=q) (p:=r) fun x hx=>h x (List.mem_cons_of_mem _ hx)
  simp only [List.cons_append,envAt]
  split
  ·rename_i d h1 h2
   by_cases hdt:d=t
   ·subst hdt; rw [h e List.mem_cons_self h2] at h1; cases h1
   ·rw [if_neg hdt,ih]
  ·exact ih
theorem heapAt_skip {h0:Nat→Option Obj'} {S:Nat→Bool} {k:Nat} {q:List Ent}:∀ {p:List Ent},(∀ e∈p,∀ o,get k e.hs=some o→S e.i=false)→heapAt h0 S (p++q) k=heapAt h0 S q k
 | [], _ => rfl
 | e :: r, h => by
  have ih:=heapAt_skip (h0:=h0) (S:=S) (k:=k) (q:=q) (p:=r) fun x hx=>h x (List.mem_cons_of_mem _ hx)
  simp only [List.cons_append,heapAt]
  split
  ·rename_i h1
   cases hg:get k e.hs with
   | none => simp only [ih]
   | some o => rw [h e List.mem_cons_self o hg] at h1; cases h1
  ·exact ih
def allB:Nat→Bool:=fun _=>true
structure Fact (P:Program) (C:Ctx) (ops:List Oper) (base:Nat) (e0:Nat→Option AVal) (h0:Nat→Option Obj') (e:Ent) (r:List Ent):Prop where
 i:e.i=r.length
 ex:∃ o env g,ops[e.i]? = some o∧e.dst=o.dst∧dstIn C.nt o.dst=true∧(∀ t,get t env=envAt e0 allB r t)∧(∀ k,g k=heapAt h0 allB r k)∧
  ((Wants ops o (fun t => get t env) true ∧ OpSpec P C o (keepVal (tmpsOf o.op) env) (keep e.R g) (base + 16 * e.i) e.v e.hs ∧ freeHs e.R g e.hs = true) ∨
   (Wants ops o (fun t=>get t env) false∧e.v = .und∧e.hs = []))
def Facts (P:Program) (C:Ctx) (ops:List Oper) (base:Nat) (e0:Nat→Option AVal) (h0:Nat→Option Obj'):List Ent→Prop
 | [] => True
 | e :: r => Fact P C ops base e0 h0 e r ∧ Facts P C ops base e0 h0 r
theorem Wants.congr {ops:List Oper} {o:Oper} {e e':Nat→Option AVal} {b:Bool} (h:Wants ops o e b) (k:∀ t∈looksAt ops o,e' t=e t):Wants ops o e' b:=
 fun V a ha=>h V a fun t v ht hv=>ha t v ht (by rw [k t ht]; exact hv)
theorem ops_facts {β:Type} (hC:CtxOk P C) {ops:List Oper} {base:Nat} {K:En→Hp→List Ent→Option β} {y:β} {e0:Nat→Option AVal} {h0:Nat→Option Obj'}:
  ∀ (r:List Oper) (i:Nat) (env:En) (heap:Hp) (es:List Ent),evalOps C true ops base env heap es K r i=some y→ops.drop i=r→i≤ops.length→es.length=i→Facts P C ops base e0 h0 es→
   (∀ t,get t env=envAt e0 allB es t)→(∀ k,get k heap=heapAt h0 allB es k)→
   ∃ env heap es,K env heap es=some y∧es.length=ops.length∧Facts P C ops base e0 h0 es∧(∀ t,get t env=envAt e0 allB es t)∧(∀ k,get k heap=heapAt h0 allB es k)
 | [], i, env, heap, es, hk, hd, hi, hl, F, he, hh => by
  rw [evalOps] at hk
  have:ops.length≤i:=by have:=congrArg List.length hd; simp at this; omega
  exact⟨env,heap,es,hk,by omega,F,he,hh⟩
 | o :: r, i, env, heap, es, hk, hd, hi, hl, F, he, hh => by
  obtain⟨hdst,env',hsame,hor⟩:=evalOps_step hk
  have ho:ops[i]? = some o:=by rw [←List.head?_drop,hd]; rfl
  have hd':ops.drop (i+1)=r:=by rw [←List.drop_drop,hd]; rfl
  have hi':i+1≤ops.length:=(List.getElem?_eq_some_iff.1 ho).1
  have hfe:(fun t=>get t env')=fun t=>get t env:=funext hsame
  have put:∀ (v:AVal) (R:List Nat) (hs:Hp) (t:Nat),get t (putE o.dst v env')=envAt e0 allB (⟨i,o.dst,v,hs,R⟩::es) t:=fun v R hs t=>by
   rw [putE_get]
   cases hod:o.dst with
   | none => simp only [envAt, allB]; rw [hsame, he]
   | some d => simp only [envAt, allB]; rw [hsame, he]
  have put2:∀ (v:AVal) (R:List Nat) (hs:Hp) (k:Nat),get k (hs++heap)=heapAt h0 allB (⟨i,o.dst,v,hs,R⟩::es) k:=fun v R hs k=>by
   rw [get_append]; simp only [heapAt,allB]; rw [hh]; cases get k hs <;> rfl
  rcases hor with ⟨hw,hk⟩ | ⟨hw,hk⟩
  ·simp only [runOp] at hk
   obtain⟨v,hs,hk2,hspec⟩:=evalOp_spec hC (o:=o) hk
   split at hk2
   ·rename_i hfree
    refine ops_facts hC r (i+1) _ _ _ hk2 hd' hi' (by simp [hl]) ⟨⟨hl.symm,o,env',fun k=>get k heap,ho,rfl,hdst,fun t=>by rw [hsame,he],hh,.inl ⟨by rw [hfe]; exact hw,hspec,hfree⟩⟩,F⟩ (put _ _ _) (put2 _ _ _)
   ·cases hk2
  ·exact ops_facts hC r (i+1) _ _ _ hk hd' hi' (by simp [hl]) ⟨⟨hl.symm,o,env',fun k=>get k heap,ho,rfl,hdst,fun t=>by rw [hsame,he],hh,.inr ⟨by rw [hfe]; exact hw,rfl,rfl⟩⟩,F⟩ (put _ _ _) (put2 _ _ [])
theorem binds_hard (e:Edge):Region.binds .any e=hard e:=by
 unfold Region.binds hard; cases e.ground <;> rfl
theorem foldl_bits {ms:List Nat} {a:Nat}:∀ (l:List Edge) (s:Nat),Nat.testBit (l.foldl (fun s e=>match hard e with | true=>s ||| 2 ^ e.on ||| ms.getD e.on 0 | false=>s) s) a=true→
  Nat.testBit s a=true∨∃ e∈l,hard e=true∧(a=e.on∨Nat.testBit (ms.getD e.on 0) a=true)
 | [], s, h => .inl h
 | e :: l, s, h => by
  simp only [List.foldl_cons] at h
  rcases foldl_bits l _ h with h | ⟨e',he,h⟩
  ·split at h
   ·rename_i hh
    simp only [Nat.testBit_or,Bool.or_eq_true] at h
    rcases h with (h | h) | h
    ·exact .inl h
    ·rw [Nat.testBit_two_pow] at h
     exact .inr ⟨e,List.mem_cons_self,hh,.inl (by simpa using (of_decide_eq_true h).symm)⟩
    ·exact .inr ⟨e,List.mem_cons_self,hh,.inr h⟩
   ·exact .inl h
  ·exact .inr ⟨e',List.mem_cons_of_mem _ he,h⟩
theorem masks_prefix:∀ (r:List Oper) (acc:List Nat),∃ l,masks r acc=acc++l
 | [], acc => ⟨[], by simp [masks]⟩
 | o :: r, acc => by
  obtain⟨l,h⟩:=masks_prefix r (acc ++ [maskOf acc o])
  exact⟨maskOf acc o::l,by rw [masks,h,List.append_assoc]; rfl⟩
theorem getD_prefix {acc l:List Nat} {j a:Nat} (h:Nat.testBit (acc.getD j 0) a=true):Nat.testBit ((acc++l).getD j 0) a=true:=by
 by_cases hj:j<acc.length
 ·simpa [List.getD_eq_getElem?_getD,List.getElem?_append_left hj] using h
 ·simp [List.getD_eq_getElem?_getD,List.getElem?_eq_none (Nat.le_of_not_lt hj)] at h
theorem masks_bits {a j:Nat}:∀ (r:List Oper) (acc:List Nat),Nat.testBit ((masks r acc).getD j 0) a=true→
  (j<acc.length)∨∃ o,r[j-acc.length]? = some o∧∃ e∈o.after,hard e=true∧(a=e.on∨Nat.testBit ((masks r acc).getD e.on 0) a=true)
 | [], acc, h => by
  by_cases hj:j<acc.length
  ·exact .inl hj
  ·simp [masks,List.getD_eq_getElem?_getD,List.getElem?_eq_none (Nat.le_of_not_lt hj)] at h
 | o :: r, acc, h => by
  by_cases hj:j<acc.length
  ·exact .inl hj
  ·right
   rw [masks] at h ⊢
   by_cases hj2:j=acc.length
   ·obtain ⟨l, hl⟩ := masks_prefix r (acc ++ [maskOf acc o])
    rw [hl] at h ⊢
    subst hj2
    rw [List.getD_eq_getElem?_getD,List.append_assoc,List.getElem?_append_right (Nat.le_refl _),Nat.sub_self] at h
    simp only [List.cons_append,List.getElem?_cons_zero,Option.getD_some] at h
    refine⟨o,by simp,?_⟩
    unfold maskOf at h
    rcases foldl_bits _ _ h with h | ⟨e,he,hh,h⟩
    ·simp at h
    ·refine ⟨e, by simpa using he, hh, h.imp id fun h => ?_⟩
     rw [List.append_assoc]; exact getD_prefix h
   ·rcases masks_bits r _ h with h | ⟨o', h1, h2⟩
    ·simp at h; omega
    ·refine ⟨o', ?_, h2⟩
     simp at h1
     rw [show j-acc.length=(j-(acc.length+1))+1 by omega,List.getElem?_cons_succ]; exact h1
def Closed (ms:List Nat) (S:Nat→Bool):Prop:=∀ a b,ordB ms a b=true→S b=true→S a=true
theorem ready_before {ops:List Oper} {S:Nat→Bool} {i:Nat} {o:Oper} (ho:ops[i]? = some o) (hc:Closed (masks ops []) S) (hr:∀ e∈o.after,hard e=true→S e.on=true) {a:Nat} (h:ordB (masks ops []) a i=true):S a=true:=by
 rcases masks_bits ops [] h with h | ⟨o',h1,e,he,hh,h⟩
 ·simp at h
 ·simp at h1
  obtain rfl:=Option.some.inj (ho.symm.trans h1)
  rcases h with rfl | h
  ·exact hr e he hh
  ·exact hc a e.on h (hr e he hh)
theorem backs_spec (r:List Oper):∀ (i j:Nat) (o:Oper),backs r i=true→r[j]? = some o→∀ e∈o.after,hard e=true→e.on<i+j:=by
 induction r with
 | nil => intro i j o _ h; simp at h
 | cons o r ih =>
  intro i j o' h ho e he hh
  rw [backs,Bool.and_eq_true] at h
  cases j with
  | zero =>
   obtain rfl:o=o':=by simpa using ho
   have h1:=h.1
   rw [back,List.all_eq_true] at h1
   have h2:=h1 e (by simpa using he)
   rw [hh] at h2
   simpa using h2
  | succ j =>
   have:=ih (i+1) j o' h.2 (by simpa using ho) e he hh
   omega
theorem loose_spec {ops:List Oper} {ms:List Nat} {a b:Ent} (h:loose ops ms a b=true) (hn:ordB ms b.i a.i=false) {oa ob:Oper} (ha:ops[a.i]? = some oa) (hb:ops[b.i]? = some ob):
  (∀ d, a.dst = some d → b.dst ≠ some d) ∧ (∀ d, a.dst = some d → d ∉ looksAt ops ob) ∧ (∀ d, b.dst = some d → d ∉ looksAt ops oa) ∧
   (∀ k∈keys a.hs,k ∉ keys b.hs)∧(∀ k∈keys a.hs,k ∉ b.R)∧(∀ k∈keys b.hs,k ∉ a.R):=by
 unfold loose at h
 rw [hn,Bool.false_or,ha,hb] at h
 rw [Bool.and_eq_true,Bool.and_eq_true,Bool.and_eq_true,Bool.and_eq_true,Bool.and_eq_true] at h
 obtain⟨h1,h2,h3,h4,h5,h6⟩:=h
 refine⟨fun d hd hd'=>?_,fun d hd hm=>?_,fun d hd hm=>?_,apartL_spec h4,apartL_spec h5,apartL_spec h6⟩
 ·rw [hd,hd'] at h1; simp [otherDst] at h1
 ·rw [hd] at h2; simp [unseen,hasNat_mem.2 hm] at h2
 ·rw [hd] at h3; simp [unseen,hasNat_mem.2 hm] at h3
theorem Facts.mem {ops:List Oper} {base:Nat} {e0:Nat→Option AVal} {h0:Nat→Option Obj'}:∀ {es:List Ent},Facts P C ops base e0 h0 es→∀ {p q:List Ent} {e:Ent},es=p++e::q→Fact P C ops base e0 h0 e q∧Facts P C ops base e0 h0 q
 | _, F, [], q, e, h => by subst h; exact F
 | _, F, _ :: p, q, e, h => by subst h; exact Facts.mem F.2 rfl
theorem Facts.lt {ops:List Oper} {base:Nat} {e0:Nat→Option AVal} {h0:Nat→Option Obj'}:∀ {es:List Ent},Facts P C ops base e0 h0 es→∀ e∈es,e.i<es.length∧∃ o,ops[e.i]? = some o
 | e :: r, F, x, hx => by
  rcases List.mem_cons.1 hx with rfl | hx
  ·obtain ⟨h, o, _, _, ho, _⟩ := F.1
   exact⟨by simp [h],o,ho⟩
  ·obtain ⟨h, o⟩ := Facts.lt F.2 x hx
   exact⟨by simp; omega,o⟩
theorem allLoose_mem {ops:List Oper} {ms:List Nat}:∀ {es:List Ent},allLoose ops ms es=true→∀ {p q:List Ent} {e:Ent},es=p++e::q→(∀ x∈q,loose ops ms e x=true)∧(∀ x∈p,loose ops ms x e=true)
 | _, h, [], q, e, hs => by
  subst hs
  simp only [List.nil_append,allLoose,Bool.and_eq_true,List.all_eq_true] at h
  exact⟨h.1,by simp⟩
 | _, h, a :: p, q, e, hs => by
  subst hs
  simp only [List.cons_append,allLoose,Bool.and_eq_true,List.all_eq_true] at h
  obtain⟨h1,h2⟩:=allLoose_mem h.2 rfl
  refine⟨h1,fun x hx=>?_⟩
  rcases List.mem_cons.1 hx with rfl | hx
  ·exact h.1 e (by simp)
  ·exact h2 x hx
theorem Facts.at {ops:List Oper} {base:Nat} {e0:Nat→Option AVal} {h0:Nat→Option Obj'}:∀ {es:List Ent},Facts P C ops base e0 h0 es→∀ {i:Nat},i<es.length→∃ p e q,es=p++e::q∧e.i=i
 | e :: r, F, i, h => by
  by_cases hi:i=r.length
  ·exact⟨[],e,r,rfl,by rw [F.1.i,hi]⟩
  ·obtain ⟨p, e', q, h1, h2⟩ := Facts.at F.2 (i := i) (by simp at h; omega)
   exact⟨e::p,e',q,by rw [h1]; rfl,h2⟩
theorem Facts.before {ops:List Oper} {base:Nat} {e0:Nat→Option AVal} {h0:Nat→Option Obj'} {es:List Ent} (F:Facts P C ops base e0 h0 es) {p q:List Ent} {e:Ent} (h:es=p++e::q):
  (∀ x∈q,x.i<e.i)∧(∀ x∈p,e.i<x.i):=by
 obtain⟨f,fq⟩:=F.mem h
 refine⟨fun x hx=>by rw [f.i]; exact(fq.lt x hx).1,fun x hx=>?_⟩
 obtain⟨p1,p2,rfl⟩:=List.append_of_mem hx
 obtain⟨f2,_⟩:=F.mem (p:=p1) (e:=x) (q:=p2++e::q) (by rw [h]; simp)
 rw [f2.i,f.i]; simp; omega
end
end Go.Proofs.Ytijjhpmladkjdaa.E
end
section
namespace Go.Proofs.Ytijjhpmladkjdaa.E
open Go Go.RowKit
section
variable {P:Program} {C:Ctx} {B:Base} {ops:List Oper} {base:Nat} {e0:Nat→Option AVal} {h0 hX:Nat→Option Obj'}
def also (S:Nat→Bool) (i:Nat) (j:Nat):Bool:=S j||Nat.beq j i
theorem also_self (S:Nat→Bool) (i:Nat):also S i i=true:=by simp [also]
theorem also_ne {S:Nat→Bool} {i j:Nat} (h:j≠i):also S i j=S j:=by simp [also,h]
structure Next (ops:List Oper) (S:Nat→Bool) (es p q:List Ent) (e:Ent) (o:Oper):Prop where
 split:es=p++e::q
 before:∀ x∈q,x.i<e.i
 behind:∀ x∈p,e.i<x.i
 not:S e.i=false
 dst:∀ x,(x∈q∧S x.i=false)∨(x∈p∧S x.i=true)→∀ d,x.dst=some d→e.dst≠some d∧d ∉ looksAt ops o
 hs:∀ x,(x∈q∧S x.i=false)∨(x∈p∧S x.i=true)→∀ k o,get k x.hs=some o→k ∉ e.R∧k ∉ keys e.hs
theorem next_of {S:Nat→Bool} {es:List Ent} (F:Facts P C ops base e0 h0 es) (hok:drawOk ops es=true) (hc:Closed (masks ops []) S) {i:Nat} {o:Oper} (ho:ops[i]? = some o) (hi:i<es.length) (hS:S i=false)
  (hr:∀ e∈o.after,hard e=true→S e.on=true):∃ p e q,e.i=i∧Next ops S es p q e o:=by
 obtain⟨p,e,q,hs,rfl⟩:=F.at hi
 rw [drawOk,Bool.and_eq_true] at hok
 obtain⟨l1,l2⟩:=allLoose_mem hok.2 hs
 obtain⟨b1,b2⟩:=F.before hs
 have at_:∀ x∈es,∃ o,ops[x.i]? = some o:=fun x hx=>(F.lt x hx).2
 have sp:∀ x,(x∈q∧S x.i=false)∨(x∈p∧S x.i=true)→(∀ d,x.dst=some d→e.dst≠some d∧d ∉ looksAt ops o)∧(∀ k o,get k x.hs=some o→k ∉ e.R∧k ∉ keys e.hs):=by
  rintro x (⟨hx,hf⟩ | ⟨hx,ht⟩)
  ·obtain ⟨ox, hox⟩ := at_ x (by rw [hs]; simp [hx])
   have hn:ordB (masks ops []) x.i e.i=false:=by
    cases hb:ordB (masks ops []) x.i e.i with
    | false => rfl
    | true => rw [ready_before ho hc hr hb] at hf; cases hf
   obtain⟨k1,k2,k3,k4,k5,k6⟩:=loose_spec (l1 x hx) hn ho hox
   exact⟨fun d hd=>⟨fun h=>k1 d h hd,k3 d hd⟩,fun k o hk=>⟨k6 k (get_keys hk),fun h=>k4 k h (get_keys hk)⟩⟩
  ·obtain ⟨ox, hox⟩ := at_ x (by rw [hs]; simp [hx])
   have hn:ordB (masks ops []) e.i x.i=false:=by
    cases hb:ordB (masks ops []) e.i x.i with
    | false => rfl
    | true => rw [hc _ _ hb ht] at hS; cases hS
   obtain⟨k1,k2,k3,k4,k5,k6⟩:=loose_spec (l2 x hx) hn hox ho
   exact⟨fun d hd=>⟨k1 d hd,k2 d hd⟩,fun k o hk=>⟨k5 k (get_keys hk),k4 k (get_keys hk)⟩⟩
 exact⟨p,e,q,rfl,hs,b1,b2,hS,fun x hx=>(sp x hx).1,fun x hx=>(sp x hx).2⟩
section
variable {S:Nat→Bool} {es p q:List Ent} {e:Ent} {o:Oper} (N:Next ops S es p q e o)
include N
theorem Next.env {t:Nat} (ht:t∈looksAt ops o):envAt e0 S es t=envAt e0 allB q t:=by
 rw [N.split,show p++e::q=(p ++ [e])++q by simp]
 rw [envAt_skip (p:=p ++ [e])]
 ·refine envAt_congr fun x hx hd => ?_
  cases hS:S x.i with
  | true => rfl
  | false => exact ((N.dst x (.inl ⟨hx, hS⟩) t hd).2 ht).elim
 ·intro x hx hd
  rcases List.mem_append.1 hx with hx | hx
  ·cases hS : S x.i with
   | false => rfl
   | true => exact ((N.dst x (.inr ⟨hx, hS⟩) t hd).2 ht).elim
  ·obtain rfl : x = e := by simpa using hx
   exact N.not
theorem Next.heap {k:Nat} (hk:k∈e.R∨k∈keys e.hs):heapAt h0 S es k=heapAt h0 allB q k:=by
 have no:∀ x,(x∈q∧S x.i=false)∨(x∈p∧S x.i=true)→∀ o,get k x.hs=some o→False:=fun x hx o ho=>by
  obtain⟨h1,h2⟩:=N.hs x hx k o ho
  exact hk.elim h1 h2
 rw [N.split,show p++e::q=(p ++ [e])++q by simp]
 rw [heapAt_skip (p:=p ++ [e])]
 ·refine heapAt_congr fun x hx o ho => ?_
  cases hS:S x.i with
  | true => rfl
  | false => exact (no x (.inl ⟨hx, hS⟩) o ho).elim
 ·intro x hx o ho
  rcases List.mem_append.1 hx with hx | hx
  ·cases hS : S x.i with
   | false => rfl
   | true => exact (no x (.inr ⟨hx, hS⟩) o ho).elim
  ·obtain rfl : x = e := by simpa using hx
   exact N.not
theorem Next.ne {x:Ent} (hx:x∈es):x=e∨x.i≠e.i:=by
 rw [N.split] at hx
 rcases List.mem_append.1 hx with hx | hx
 ·exact .inr (Nat.ne_of_gt (N.behind x hx))
 ·rcases List.mem_cons.1 hx with rfl | hx
  ·exact .inl rfl
  ·exact .inr (Nat.ne_of_lt (N.before x hx))
theorem Next.put (t:Nat):envAt e0 (also S e.i) es t=match (generalizing:=false) e.dst with | some d=>if d=t then some e.v else envAt e0 S es t | none=>envAt e0 S es t:=by
 have other:e.dst≠some t→envAt e0 (also S e.i) es t=envAt e0 S es t:=fun hne=>envAt_congr fun x hx hd=>by
  rcases N.ne hx with rfl | h
  ·exact(hne hd).elim
  ·exact also_ne h
 cases hd:e.dst with
 | none => exact other (by rw [hd]; simp)
 | some d =>
  by_cases hdt:d=t
  ·subst hdt
   simp only [if_true]
   rw [N.split,envAt_skip]
   ·simp only [envAt,also_self,hd,if_true]
   ·intro x hx hxd
    rw [also_ne (Nat.ne_of_gt (N.behind x hx))]
    cases hS:S x.i with
    | false => rfl
    | true => exact ((N.dst x (.inr ⟨hx, hS⟩) d hxd).1 hd).elim
  ·simp only [if_neg hdt]
   exact other (by rw [hd]; simpa using hdt)
theorem Next.upd:heapAt h0 (also S e.i) es=upd e.hs (heapAt h0 S es):=by
 funext k
 cases hg:get k e.hs with
 | some o =>
  simp only [E.upd,hg]
  rw [N.split,heapAt_skip]
  ·simp only [heapAt,also_self,hg]
  ·intro x hx o' hk
   rw [also_ne (Nat.ne_of_gt (N.behind x hx))]
   cases hS:S x.i with
   | false => rfl
   | true => exact ((N.hs x (.inr ⟨hx, hS⟩) k o' hk).2 (get_keys hg)).elim
 | none =>
  simp only [E.upd,hg]
  exact heapAt_congr fun x hx o' hk=>by
   rcases N.ne hx with rfl | h
   ·rw [hg] at hk; cases hk
   ·exact also_ne h
end
theorem freeHs_spec {R:List Nat} {g:Nat→Option Obj'}:∀ {hs:Hp},freeHs R g hs=true→∀ k∈keys hs,k∈R∨g k=none
 | (i, o) :: r, h, k, hk => by
  simp only [freeHs,Bool.and_eq_true] at h
  simp only [keys,List.map_cons,List.mem_cons] at hk
  rcases hk with rfl | hk
  ·cases hR : hasNat k R with
   | true => exact .inl (hasNat_mem.1 hR)
   | false =>
    right
    have:=h.1
    rw [hR] at this
    cases hg:g k with
    | none => rfl
    | some x => rw [hg] at this; simp at this
  ·exact freeHs_spec h.2 k hk
theorem drawn_step {Q:Exit→Act→World→Prop} {T:Act→World→Prop} {S:Nat→Bool} {es:List Ent} (hC:CtxOk P C) (hb:B.nx≤base) (F:Facts P C ops base e0 h0 es) (hok:drawOk ops es=true) (hc:Closed (masks ops []) S) {i:Nat} {o:Oper} (ho:ops[i]? = some o) (hi:i<es.length) (hS:S i=false)
  (hr:∀ e∈o.after,hard e=true→S e.on=true) {a:Act} {w:World} {loc:Nat→Option Loc} (R:HK B hX (heapAt h0 S es) loc w) (hE:EnvR (viewOf B w (heapAt h0 S es) loc) C.nt (envAt e0 S es) a)
  (hT:∀ a' w' loc',HK B hX (heapAt h0 (also S i) es) loc' w'→EnvR (viewOf B w' (heapAt h0 (also S i) es) loc') C.nt (envAt e0 (also S i) es) a'→T a' w'):wpOp P ops.toArray Q i T a w:=by
 obtain⟨p,e,q,rfl,N⟩:=next_of F hok hc ho hi hS hr
 obtain⟨f,_⟩:=F.mem N.split
 obtain⟨_,o',env,g,ho',hdst,hin,henv,hg,hor⟩:=f
 obtain rfl:=Option.some.inj (ho.symm.trans ho')
 have ho2:ops.toArray[e.i]? = some o:=by simpa using ho
 have hup:=N.upd (h0:=h0)
 have hput:=N.put (e0:=e0)
 rw [hdst] at hput
 unfold wpOp
 rw [ho2]
 dsimp only
 rcases hor with ⟨hw,hspec,hfree⟩ | ⟨hw,hv,hh⟩
 ·rw [show Region.wanted o (yielded ops.toArray a.tmps) = true from hw _ _ fun t v ht hv => hE.at_ t v (by rw [N.env ht, ← henv]; exact hv)]
  rw [if_pos rfl]
  left
  refine hspec B (heapAt h0 S es) loc w a ⟨hC.T,R.R,fun k x hk=>?_,by omega,fun x=>?_,fun _=>rfl⟩ (fun k hk hn=>?_) T Q fun u w' ⟨loc',hle,R',hv⟩=>?_
  ·simp only [keep] at hk
   split at hk
   ·rename_i hR
    rw [N.heap (.inl (hasNat_mem.1 hR)),←hg]; exact hk
   ·cases hk
  ·cases x with
   | const c => exact constVal_R _ c
   | func f => exact ⟨rfl, ⟨[], rfl, rfl, by simp⟩, trivial⟩
   | global g => trivial
   | tmp t =>
    simp only [E.keepVal]
    split
    ·rename_i ht
     simp only [envVal]
     split
     ·rename_i v hv
      exact hE.at_ t v (by rw [N.env (by simp [looksAt,hasNat_mem.1 ht]),←henv]; exact hv)
     ·trivial
    ·trivial
  ·rcases freeHs_spec hfree k hk with h | h
   ·simp only [keep, hasNat_mem.2 h] at hn
    rw [N.heap (.inl h),←hg]; exact hn
   ·rw [N.heap (.inr hk),←hg]; exact h
  ·rw [← hup] at hle R' hv
   exact hT _ _ loc' (R.step hle R') ((hE.mono hle).put hin hv hput)
 ·rw [show Region.wanted o (yielded ops.toArray a.tmps) = false from hw _ _ fun t v ht hv => hE.at_ t v (by rw [N.env ht, ← henv]; exact hv)]
  rw [if_neg (show ¬ (false=true) by simp)]
  have hup':heapAt h0 (also S e.i) es=heapAt h0 S es:=by rw [hup,hh]; rfl
  refine hT _ _ loc (by rw [hup']; exact R) ?_
  rw [hup']
  exact hE.put hin (v:=.und) rfl (by rw [hv] at hput; exact hput)
def listedB (listed:Array Bool) (j:Nat):Bool:=listed.getD j false
theorem listed_set {listed:Array Bool} {i:Nat} (hi:i<listed.size):listedB (listed.setIfInBounds i true)=also (listedB listed) i:=by
 funext j
 by_cases e:j=i
 ·subst e; simp [listedB,also,hi]
 ·rw [also_ne e]; simp only [listedB]; rw [getD_set_ne false (Ne.symm e)]
theorem count_set {listed:Array Bool} {i:Nat} (hi:i<listed.size) (h:listedB listed i=false):(listed.setIfInBounds i true).toList.count false+1=listed.toList.count false:=by
 have hl:i<listed.toList.length:=by simpa using hi
 have hx:listed.toList[i]=false:=by
  simp only [listedB,Array.getD_eq_getD_getElem?,Array.getElem?_eq_getElem hi,Option.getD_some] at h
  simpa using h
 have hp:0<listed.toList.count false:=List.count_pos_iff.2 (hx ▸ List.getElem_mem hl)
 simp only [Array.toList_setIfInBounds]
 rw [List.count_set hl,hx]
 simp only [beq_self_eq_true,if_true,show(true==false)=false from rfl]
 simp only [if_neg (show ¬ (false=true) by simp)]
 omega
theorem drawn_all {Q:Exit→Act→World→Prop} {es:List Ent} (hC:CtxOk P C) (hb:B.nx≤base) (F:Facts P C ops base e0 h0 es) (hok:drawOk ops es=true) (hl:es.length=ops.length)
  (hQ:∀ a w loc,HK B hX (heapAt h0 allB es) loc w→EnvR (viewOf B w (heapAt h0 allB es) loc) C.nt (envAt e0 allB es) a→Q .normal a w):
  ∀ (fuel:Nat) (listed:Array Bool) (a:Act) (w:World) (loc:Nat→Option Loc),listed.size=ops.length→Closed (masks ops []) (listedB listed)→listed.toList.count false≤fuel→
   HK B hX (heapAt h0 (listedB listed) es) loc w→EnvR (viewOf B w (heapAt h0 (listedB listed) es) loc) C.nt (envAt e0 (listedB listed) es) a→wpAny P .any ops.toArray Q fuel listed a w:=by
 have backs_ok:backs ops 0=true:=by rw [drawOk,Bool.and_eq_true] at hok; exact hok.1
 have least : ∀ (listed : Array Bool), listed.size = ops.length → Region.ready .any ops.toArray listed = [] → ∀ j, j < listed.size → listedB listed j = true := fun listed hsz hr j => by
  induction j using Nat.strongRecOn with
  | _ j ih =>
   intro hj
   cases hL:listedB listed j with
   | true => rfl
   | false =>
    have ho:ops[j]? = some (ops[j]'(by omega)):=List.getElem?_eq_getElem _
    have:j∈Region.ready .any ops.toArray listed:=by
     rw [mem_ready]
     refine⟨?_,ops[j]'(by omega),by simp,fun e he hb=>?_⟩
     ·simp only [listedB,Array.getD_eq_getD_getElem?,Array.getElem?_eq_getElem hj,Option.getD_some] at hL ⊢; exact hL
     ·rw [binds_hard] at hb
      have:=backs_spec ops 0 j _ backs_ok ho e he hb
      exact ih e.on (by omega) (by omega)
    rw [hr] at this; cases this
 have final:∀ (listed:Array Bool) (a:Act) (w:World) (loc:Nat→Option Loc),listed.size=ops.length→(∀ j,j<listed.size→listedB listed j=true)→HK B hX (heapAt h0 (listedB listed) es) loc w→EnvR (viewOf B w (heapAt h0 (listedB listed) es) loc) C.nt (envAt e0 (listedB listed) es) a→Q .normal a w:=fun listed a w loc hsz hall R hE=>by
  have h1:heapAt h0 (listedB listed) es=heapAt h0 allB es:=funext fun k=>heapAt_congr fun x hx o _=>by
   rw [hall x.i (by have:=(F.lt x hx).1; omega)]; rfl
  have h2:envAt e0 (listedB listed) es=envAt e0 allB es:=funext fun k=>envAt_congr fun x hx _=>by
   rw [hall x.i (by have:=(F.lt x hx).1; omega)]; rfl
  rw [h1] at R hE; rw [h2] at hE
  exact hQ a w loc R hE
 intro fuel
 induction fuel with
 | zero =>
  intro listed a w loc hsz _ hcnt R hE
  have hall:∀ j,j<listed.size→listedB listed j=true:=fun j hj=>by
   cases hL:listedB listed j with
   | true => rfl
   | false => have := count_set hj hL; omega
  refine⟨?_,final listed a w loc hsz hall R hE⟩
  refine List.eq_nil_iff_forall_not_mem.2 fun j hj=>?_
  rw [mem_ready] at hj
  obtain⟨h1,o,ho,_⟩:=hj
  have hj:j<listed.size:=by
   have:j<ops.length:=by
    simp only [List.getElem?_toArray] at ho
    exact(List.getElem?_eq_some_iff.1 ho).1
   omega
  have:=hall j hj
  simp only [listedB,Array.getD_eq_getD_getElem?,Array.getElem?_eq_getElem hj,Option.getD_some] at this h1
  rw [this] at h1; cases h1
 | succ fuel ih =>
  intro listed a w loc hsz hc hcnt R hE
  refine⟨fun hr=>final listed a w loc hsz (least listed hsz hr) R hE,fun i hi=>?_⟩
  rw [mem_ready] at hi
  obtain⟨h1,o,ho,hready⟩:=hi
  have ho':ops[i]? = some o:=by simpa using ho
  have hi:i<ops.length:=(List.getElem?_eq_some_iff.1 ho').1
  have hi':i<listed.size:=by omega
  have hS:listedB listed i=false:=by
   simp only [listedB,Array.getD_eq_getD_getElem?,Array.getElem?_eq_getElem hi',Option.getD_some] at h1 ⊢; exact h1
  have hr:∀ e∈o.after,hard e=true→listedB listed e.on=true:=fun e he hh=>hready e he (by rw [binds_hard]; exact hh)
  refine drawn_step hC hb F hok hc ho' (by omega) hS hr R hE fun a' w' loc' R' hE'=>?_
  have hs:=listed_set hi'
  refine ih (listed.setIfInBounds i true) a' w' loc' (by simpa using hsz) ?_ ?_ (by rw [hs]; exact R') (by rw [hs]; exact hE')
  ·rw [hs]
   intro x y hxy hy
   by_cases hyi:y=i
   ·subst hyi
    have:=ready_before ho' hc hr hxy
    by_cases hx:x=y
    ·rw [hx]; exact also_self _ _
    ·rw [also_ne hx]; exact this
   ·rw [also_ne hyi] at hy
    have:=hc x y hxy hy
    by_cases hx:x=i
    ·rw [hx]; exact also_self _ _
    ·rw [also_ne hx]; exact this
  ·have:=count_set hi' hS; omega
end
end Go.Proofs.Ytijjhpmladkjdaa.E
end
section
namespace Go.Proofs.Ytijjhpmladkjdaa.E
open Go Go.RowKit
section
variable {P:Program} {C:Ctx} {B:Base} {hX:Nat→Option Obj'}
def StR (B:Base) (C:Ctx) (hX:Nat→Option Obj') (st:St) (a:Act) (w:World):Prop:=
 B.nx≤st.next∧∃ loc,HK B hX (fun i=>get i st.heap) loc w∧EnvR (viewOf B w (fun i=>get i st.heap) loc) C.nt (fun t=>get t st.env) a
theorem listed_none (n:Nat):listedB (Array.replicate n false)=fun _=>false:=by
 funext j
 simp only [listedB,Array.getD_eq_getD_getElem?,Array.getElem?_replicate]
 split <;> rfl
theorem envAt_none (e0:Nat→Option AVal):∀ es,envAt e0 (fun _=>false) es=e0
 | [] => rfl
 | e :: r => by funext t; simp only [envAt]; exact congrFun (envAt_none e0 r) t
theorem heapAt_none (h0:Nat→Option Obj'):∀ es,heapAt h0 (fun _=>false) es=h0
 | [] => rfl
 | e :: r => by funext t; simp only [heapAt]; exact congrFun (heapAt_none h0 r) t
theorem region_R {β:Type} (hm:P.follows .mixedOrders=true) (hC:CtxOk P C) {id:Nat} {ops:Array Oper} {draw:Bool} {st:St} {K:St→Option β} {y:β} {Q:Exit→Act→World→Prop} {a:Act} {w:World}
  (hk:evalRegion C ops.toList draw st K=some y) (hs:StR B C hX st a w) (hQ:∀ st a w,K st=some y→StR B C hX st a w→Q .normal a w):(Code.region id ops draw).wp P Q a w:=by
 obtain⟨hn,loc,R,E⟩:=hs
 unfold evalRegion at hk
 cases draw with
 | false =>
  refine wp_region ?_
  have:=ops_R (Q:=Q) hC (B:=B) (hE:=hX) (base:=st.next) hn (fun env heap es a w loc hk R E=>hQ _ a w hk ⟨Nat.le_trans hn (Nat.le_add_right _ _),loc,R,E⟩) ops.toList 0 st.env st.heap [] hk rfl a w loc R E
  rw [List.range_eq_range']
  simpa using this
 | true =>
  refine wp_region_any hm ?_
  obtain⟨env,heap,es,hk2,hl,F,he,hh⟩:=ops_facts hC (e0:=fun t=>get t st.env) (h0:=fun k=>get k st.heap) ops.toList 0 st.env st.heap [] hk rfl (Nat.zero_le _) rfl trivial (fun _=>rfl) (fun _=>rfl)
  dsimp only at hk2
  split at hk2
  ·rename_i hok
   have he':envAt (fun t=>get t st.env) allB es=fun t=>get t env:=(funext he).symm
   have hh':heapAt (fun k=>get k st.heap) allB es=fun k=>get k heap:=(funext hh).symm
   have:=drawn_all (Q:=Q) (hX:=hX) hC hn F hok hl (fun a w loc R E=>hQ _ a w hk2 ⟨Nat.le_trans hn (Nat.le_add_right _ _),loc,by rw [hh'] at R; exact R,by rw [hh',he'] at E; exact E⟩)
    ops.size (Array.replicate ops.size false) a { w with drawn:=w.drawn+1 } loc (by simp) (by rw [listed_none]; intro _ _ _ h; cases h) (by simp)
    (by rw [listed_none,heapAt_none]; exact⟨(HRel.drawn R.R _).1,R.K⟩) (by rw [listed_none,heapAt_none,envAt_none]; exact E.mono (HRel.drawn R.R _).2)
   simpa using this
  ·cases hk2
def Ex.to:Ex→Exit
 | .nrm => .normal | .exit id => .exit id | .ret => .ret
def loopsOf:Code→List Code
 | .seq a b => loopsOf a ++ loopsOf b
 | .cond _ a b => loopsOf a ++ loopsOf b
 | .block _ a => loopsOf a
 | .loop a => a :: loopsOf a
 | _ => []
def LoopSound (P:Program) (C:Ctx) (h:LoopH) (b:Code):Prop:=
 ∀ (B:Base) (hX:Nat→Option Obj'),B.nx=C.nx→(∀ j,B.nx≤j→hX j=none)→∀ (β:Type) (s:h.head.sig.den) (kx:h.x1.sig.den→Option β) (kr:h.x2.sig.den→Option β) (y:β) (Q:Exit→Act→World→Prop) (a:Act) (w:World),
  h.F s kx kr=some y→StR B C hX (mkSt h.head s) a w→(∀ s a w,kx s=some y→StR B C hX (mkSt h.x1 s) a w→Q (.exit h.id) a w)→(∀ s a w,kr s=some y→StR B C hX (mkSt h.x2 s) a w→Q .ret a w)→
  (Code.loop b).wp P Q a w
theorem SimO.turns {o o':Obj'} (h:SimO o o'):Turns o o':=by
 cases o <;> cases o' <;> first | trivial | exact h.elim | exact h | skip
 intro off p n t fr l q hc
 exact sameForm_cut h hc
theorem zipE_R {V:View} {f:Nat→Value}:∀ {ts:List Nat} {vs:List V1},V1sR V vs (ts.map f)→∀ {t:Nat} {v:AVal},get t (zipE ts vs)=some v→VR V v (f t)
 | [], vs, _, t, v, h => by cases vs <;> cases h
 | t0 :: ts, [], k, t, v, h => by cases h
 | t0 :: ts, x :: vs, ⟨u, r, e, k1, k2⟩, t, v, h => by
  simp only [List.map_cons,List.cons.injEq] at e
  obtain⟨rfl,rfl⟩:=e
  simp only [zipE] at h
  by_cases e:t0=t
  ·subst e; rw [get_cons_eq] at h; obtain rfl:=Option.some.inj h; exact k1
  ·rw [get_cons_ne e] at h; exact zipE_R k2 h
theorem EnvR.vals {V:View} {nt:Nat} {env:En} {a:Act} (k:EnvR V nt (fun t=>get t env) a):∀ (ts:List Nat),AVsR V (ts.map (envVal env)) (ts.map fun t=>a.tmps.getD t undef)
 | [] => rfl
 | t :: ts => ⟨_, _, rfl, k.val (.tmp t), EnvR.vals k ts⟩
theorem canon_kept {g:Nat→Option Obj'} {s:Sig} {m:List (Nat×Nat)} {xs:List AVal} {x:s.den} {D:Dk} (k:Read g s m xs x D) (hmap:∀ j,j<B.nx→(∀ o,hOf s x j=some o→o.isDead=false)→get j m=some j) (hle:B.nx≤s.objs.length) (hXn:∀ j,B.nx≤j→hX j=none) (hK:Kept hX g):Kept hX (hOf s x)∧B.nx≤s.objs.length:=by
 have lt:∀ j,j<B.nx→j<s.objs.length:=fun j hj=>by omega
 refine⟨fun j o ho=>?_,?_⟩
 ·have hj : j < B.nx := by
   rcases Nat.lt_or_ge j B.nx with h | h
   ·exact h
   ·rw [hXn j h] at ho; cases ho
  obtain⟨o1,h1,t1⟩:=hK j o ho
  obtain⟨o',h2,h3⟩:=k.sim (lt j hj)
  refine⟨o',h2,?_⟩
  cases hdd:o'.isDead with
  | true => cases o' <;> first | (cases hdd; done) | (cases o <;> trivial)
  | false =>
  have hm:=k.le.m j j (hmap j hj fun o2 ho2=>by rw [h2] at ho2; obtain rfl:=Option.some.inj ho2; exact hdd)
  rcases h3 with ⟨i,o2,q1,q2,q3⟩ | ⟨q1,_⟩ | ⟨q1,_⟩
  ·obtain rfl := Option.some.inj (hm.symm.trans q1)
   obtain rfl:=Option.some.inj (h1.symm.trans q2)
   exact t1.trans q3.turns
  ·rw [(k.vlt j q1).2] at hm; cases hm
  ·rw [q1] at hdd; cases hdd
 ·exact hle
theorem get_liveMap:∀ {n:Nat} {os:List OS} {i j:Nat},j<n→os[j]?≠some .dead→get (i+j) (liveMap n os i)=some (i+j)
 | 0, os, i, j, h, _ => by omega
 | n + 1, [], i, j, h, hd => by
  simp only [liveMap]
  cases j with
  | zero => exact get_cons_eq
  | succ j =>
   rw [get_cons_ne (by omega),show i+(j+1)=i+1+j by omega]
   exact get_liveMap (by omega) (by simp)
 | n + 1, o :: r, i, j, h, hd => by
  cases j with
  | zero =>
   cases o with
   | dead => exact (hd rfl).elim
   | buf => exact get_cons_eq
   | box => exact get_cons_eq
  | succ j =>
   have ih:=get_liveMap (n:=n) (os:=r) (i:=i+1) (j:=j) (by omega) (by simpa using hd)
   rw [show i+1+j=i+(j+1) by omega] at ih
   cases o with
   | dead => exact ih
   | buf => simp only [liveMap]; rw [get_cons_ne (by omega)]; exact ih
   | box => simp only [liveMap]; rw [get_cons_ne (by omega)]; exact ih
theorem liveMap_ok {s:Sig} {x:s.den} {n:Nat}:∀ j,j<n→n≤s.objs.length→(∀ o,hOf s x j=some o→o.isDead=false)→get j (liveMap n s.objs 0)=some j:=fun j hj hle ha=>by
 have hne:s.objs[j]?≠some .dead:=fun e=>by
  have : hOf s x j = some .dead := by
   rw [hOf_eq]
   have gen:∀ {os:List OS} {x:denO os} {j:Nat},os[j]? = some .dead→(mkO id os x)[j]? = some .dead:=by
    intro os
    induction os with
    | nil => intro x j h; simp at h
    | cons o r ih =>
     intro x j h
     cases j with
     | zero => obtain rfl : o = .dead := by simpa using h
               rfl
     | succ j => cases o <;> exact ih (by simpa using h)
   exact gen e
  have:=ha _ this
  cases this
 have:=get_liveMap (i:=0) hj hne
 rwa [Nat.zero_add] at this
theorem StR.canon {ss:SS} {st:St} {s:ss.sig.den} {a:Act} {w:World} (hnx:B.nx=C.nx) (hXn:∀ j,B.nx≤j→hX j=none) (hd:decSt C.nx ss st=some s) (h:StR B C hX st a w):StR B C hX (mkSt ss s) a w:=by
 obtain⟨hn,loc,R,E⟩:=h
 unfold decSt at hd
 split at hd
 ·rename_i x D hdec hlen
  obtain rfl:=Option.some.inj hd
  have k:=dec_read hdec
  rw [←hnx] at k hlen
  have hle:B.nx≤ss.sig.objs.length:=Nat.le_of_ble_eq_true hlen
  obtain⟨h1,h2⟩:=k.canon (fun j hj ha=>liveMap_ok j hj hle ha) (fun _ _ h=>h) R.R (E.vals ss.tmps)
  obtain⟨h3,h4⟩:=canon_kept k (fun j hj ha=>liveMap_ok j hj hle ha) hle hXn R.K
  exact⟨h4,_,⟨h1,h3⟩,E.defers,E.size,fun t v hv=>zipE_R h2 hv⟩
 ·cases hd
theorem evalLoop_in {β:Type} {nx k:Nat} {st:St} {K:Ex→St→Option β} {y:β}:∀ {L:List LoopH},evalLoop nx k st K L=some y→∃ h∈L,h.key=k∧∃ s,decSt nx h.head st=some s∧h.F s (fun a=>K (.exit h.id) (mkSt h.x1 a)) (fun b=>K .ret (mkSt h.x2 b))=some y
 | [], hk => by cases hk
 | h :: r, hk => by
  rw [evalLoop] at hk
  split at hk
  ·obtain ⟨h', m, q⟩ := evalLoop_in hk
   exact⟨h',List.mem_cons_of_mem _ m,q⟩
  ·rename_i e
   split at hk
   ·cases hk
   ·rename_i s hs
    exact⟨h,List.mem_cons_self,Nat.eq_of_beq_eq_true e,s,hs,hk⟩
theorem code_R {β:Type} (hm:P.follows .mixedOrders=true) (hC:CtxOk P C) (hnx:B.nx=C.nx) (hXn:∀ j,B.nx≤j→hX j=none):
  ∀ (c:Code),(∀ b∈loopsOf c,∀ h∈C.L,h.key=keyOf b→LoopSound P C h b)→∀ (st:St) (K:Ex→St→Option β) (y:β) (Q:Exit→Act→World→Prop) (a:Act) (w:World),evalCode C c st K=some y→StR B C hX st a w→
   (∀ e st a w,K e st=some y→StR B C hX st a w→Q e.to a w)→c.wp P Q a w:=by
 intro c
 induction c with
 | skip => intro _ st K y Q a w hk hs hQ; exact wp_skip (hQ .nrm st a w hk hs)
 | region id ops draw =>
  intro _ st K y Q a w hk hs hQ
  exact region_R hm hC hk hs (fun st a w hk hs=>hQ .nrm st a w hk hs)
 | seq a b iha ihb =>
  intro hL st K y Q act w hk hs hQ
  refine wp_seq (iha (fun b' hb=>hL b' (by simp [loopsOf,hb])) st _ y _ act w hk hs fun e st a w hk hs=>?_)
  cases e with
  | nrm => exact ihb (fun b' hb => hL b' (by simp [loopsOf, hb])) st K y Q a w hk hs hQ
  | exit id => exact hQ (.exit id) st a w hk hs
  | ret => exact hQ .ret st a w hk hs
 | cond c a b iha ihb =>
  intro hL st K y Q act w hk hs hQ
  simp only [evalCode] at hk
  split at hk
  ·rename_i t ht
   have hv:act.eval c = .bool t:=by
    obtain⟨_,loc,_,E⟩:=hs
    have:=E.val c
    rw [ht] at this
    exact this.bool
   cases t with
   | true => exact wp_cond_true hv (iha (fun b' hb => hL b' (by simp [loopsOf, hb])) st K y Q act w hk hs hQ)
   | false => exact wp_cond_false hv (ihb (fun b' hb => hL b' (by simp [loopsOf, hb])) st K y Q act w hk hs hQ)
  ·cases hk
 | block id a iha =>
  intro hL st K y Q act w hk hs hQ
  refine wp_block (iha (fun b' hb=>hL b' hb) st _ y _ act w hk hs fun e st a w hk hs=>?_)
  cases e with
  | nrm => exact hQ .nrm st a w hk hs
  | ret => exact hQ .ret st a w hk hs
  | exit i =>
   dsimp only at hk
   simp only [Ex.to,Exit.inBlock]
   split at hk
   ·rename_i e
    rw [if_pos (Nat.eq_of_beq_eq_true e)]
    exact hQ .nrm st a w hk hs
   ·rename_i e
    rw [if_neg (fun h=>by rw [h,Nat.beq_refl] at e; cases e)]
    exact hQ (.exit i) st a w hk hs
 | loop a _ =>
  intro hL st K y Q act w hk hs hQ
  simp only [evalCode] at hk
  obtain⟨h,hm,hkey,s,hd,hF⟩:=evalLoop_in hk
  exact hL a (by simp [loopsOf]) h hm hkey B hX hnx hXn β s _ _ y Q act w hF (hs.canon hnx hXn hd) (fun s a w hk hs=>hQ (.exit h.id) _ a w hk hs) (fun s a w hk hs=>hQ .ret _ a w hk hs)
 | exit id => intro _ st K y Q a w hk hs hQ; exact wp_exit (hQ (.exit id) st a w hk hs)
 | ret => intro _ st K y Q a w hk hs hQ; exact wp_ret (hQ .ret st a w hk hs)
 | _ => intros; rename_i hk _ _; simp [evalCode] at hk
theorem loop_sound (hm:P.follows .mixedOrders=true) (hC:CtxOk P C) {h:LoopH} {b:Code} {N:Nat}
  {Bf:{β:Type}→(h.head.sig.den→Option β)→(h.x1.sig.den→Option β)→(h.x2.sig.den→Option β)→h.head.sig.den→Option β}
  (hF:∀ (β:Type) s (kx:_→Option β) kr,h.F s kx kr=rounds Bf kx kr N s)
  (heq:∀ (β:Type) L (kx:_→Option β) kr s,evalBody C b h.id h.head h.x1 h.x2 L kx kr s=Bf L kx kr s)
  (inner:∀ b'∈loopsOf b,∀ h'∈C.L,h'.key=keyOf b'→LoopSound P C h' b'):LoopSound P C h b:=by
 intro B hX hnx hXn β s kx kr y Q a w hk hs hx hr
 rw [hF] at hk
 refine wp_loop_rounds N ?_
 clear hF
 induction N generalizing s a w with
 | zero => cases hk
 | succ n ih =>
  rw [rounds,←heq] at hk
  unfold evalBody at hk
  refine code_R hm hC hnx hXn b inner _ _ y _ a w hk hs fun e st a w hk hs=>?_
  cases e with
  | nrm =>
   dsimp only at hk
   split at hk
   ·rename_i s' hd
    exact ih s' a w hk (hs.canon hnx hXn hd)
   ·cases hk
  | exit i =>
   dsimp only at hk
   split at hk
   ·rename_i e
    split at hk
    ·rename_i s' hd
     obtain rfl:=Nat.eq_of_beq_eq_true e
     exact hx s' a w hk (hs.canon hnx hXn hd)
    ·cases hk
   ·cases hk
  | ret =>
   dsimp only at hk
   split at hk
   ·rename_i s' hd
    exact hr s' a w hk (hs.canon hnx hXn hd)
   ·cases hk
end
end Go.Proofs.Ytijjhpmladkjdaa.E
end
section
namespace Go.Proofs.Ytijjhpmladkjdaa.E
open Go Go.RowKit
def ONat (o:Orac):Prop:=∀ (β γ:Type) (φ:β→Option γ) (s:o.sin.den) (K:o.sout.den→Option β),(o.F s K).bind φ=o.F s (fun y=>(K y).bind φ)
def LNat (h:LoopH):Prop:=∀ (β γ:Type) (φ:β→Option γ) (s:h.head.sig.den) (kx:h.x1.sig.den→Option β) (kr:h.x2.sig.den→Option β),(h.F s kx kr).bind φ=h.F s (fun y=>(kx y).bind φ) (fun y=>(kr y).bind φ)
structure CtxNat (C:Ctx):Prop where
 O:∀ o∈C.O,ONat o
theorem ONat.of {o:Orac} (h:∀ {β:Type} (s:o.sin.den) (K:o.sout.den→Option β),o.F s K=(o.F s some).bind K):ONat o:=fun β γ φ s K=>by
 rw [h,h s fun y=>(K y).bind φ,Option.bind_assoc]
theorem bif_bind {β γ:Type} (φ:β→Option γ) (b:Bool) (x y:Option β):(bif b then x else y).bind φ=bif b then x.bind φ else y.bind φ:=by cases b <;> rfl
section
variable {β γ:Type} (φ:β→Option γ)
theorem evalCall_nat {O:List Orac} (hO:∀ o∈O,ONat o) (f:Nat) (args:List AVal) (g:Nat→Option Obj') (nid:Nat) (K:AVal→Hp→Option β):
  (evalCall O f args g nid K).bind φ=evalCall O f args g nid (fun v hs=>(K v hs).bind φ):=by
 induction O with
 | nil => rfl
 | cons o r ih =>
  have ih:=ih fun o ho=>hO o (List.mem_cons_of_mem _ ho)
  simp only [evalCall]
  split
  ·exact ih
  ·split
   ·exact ih
   ·split
    ·rfl
    ·rfl
    ·split
     ·rfl
     ·exact hO o List.mem_cons_self _ _ _ _ _
theorem evalOp_nat {C:Ctx} (hC:CtxNat C) (op:Op) (val:Operand→AVal) (g:Nat→Option Obj') (nid:Nat) (K:AVal→Hp→Option β):
  (evalOp C op val g nid K).bind φ=evalOp C op val g nid (fun v hs=>(K v hs).bind φ):=by
 unfold evalOp
 split
 ·split
  ·exact evalCall_nat φ hC.O _ _ _ _ _
  ·rfl
 ·split
  ·rfl
  ·exact bif_bind φ _ _ _
theorem evalOps_nat {C:Ctx} (hC:CtxNat C) (draw:Bool) (ops:List Oper) (base:Nat) (K:En→Hp→List Ent→Option β):∀ (r:List Oper) (i:Nat) (env:En) (heap:Hp) (es:List Ent),
  (evalOps C draw ops base env heap es K r i).bind φ=evalOps C draw ops base env heap es (fun a b c=>(K a b c).bind φ) r i
 | [], i, env, heap, es => rfl
 | o :: r, i, env, heap, es => by
  have ih:=evalOps_nat hC draw ops base K r (i+1)
  have run:∀ env,(runOp C draw ops base env heap es K o r i).bind φ=runOp C draw ops base env heap es (fun a b c=>(K a b c).bind φ) o r i:=fun env=>by
   unfold runOp
   cases draw with
   | false =>
    dsimp only
    rw [evalOp_nat φ hC]
    simp only [ih]
   | true =>
    dsimp only
    rw [evalOp_nat φ hC]
    congr 1
    funext v hs
    split
    ·rw [ih]
    ·rfl
  rw [evalOps_cons,evalOps_cons]
  split
  ·rfl
  ·split
   ·exact run _
   ·split
    ·rfl
    ·split
     ·split
      ·rw [bif_bind,run,ih]
      ·rw [bif_bind,run,ih]
     ·exact ih _ _ _
     ·rfl
theorem evalRegion_nat {C:Ctx} (hC:CtxNat C) (ops:List Oper) (draw:Bool) (st:St) (K:St→Option β):(evalRegion C ops draw st K).bind φ=evalRegion C ops draw st (fun s=>(K s).bind φ):=by
 unfold evalRegion
 rw [evalOps_nat φ hC]
 congr 1
 funext env heap es
 cases draw with
 | false => rfl
 | true => dsimp only; split <;> rfl
theorem evalLoop_nat (nx k:Nat) (st:St) (K:Ex→St→Option β):∀ {L:List LoopH},(∀ h∈L,h.key=k→LNat h)→(evalLoop nx k st K L).bind φ=evalLoop nx k st (fun e s=>(K e s).bind φ) L
 | [], _ => rfl
 | h :: r, hL => by
  rw [evalLoop,evalLoop]
  split
  ·exact evalLoop_nat nx k st K fun h hm=>hL h (List.mem_cons_of_mem _ hm)
  ·rename_i e
   split
   ·rfl
   ·exact hL h List.mem_cons_self (Nat.eq_of_beq_eq_true e) _ _ _ _ _ _
def LsNat (C:Ctx) (c:Code):Prop:=∀ b∈loopsOf c,∀ h∈C.L,h.key=keyOf b→LNat h
theorem evalCode_nat {C:Ctx} (hC:CtxNat C):∀ (c:Code),LsNat C c→∀ (st:St) (K:Ex→St→Option β),(evalCode C c st K).bind φ=evalCode C c st (fun e s=>(K e s).bind φ):=by
 intro c
 induction c with
 | skip => intro _ st K; rfl
 | region id ops draw => intro _ st K; exact evalRegion_nat φ hC _ _ _ _
 | seq a b iha ihb =>
  intro hL st K
  simp only [evalCode]
  rw [iha fun b' hb=>hL b' (by simp [loopsOf,hb])]
  congr 1
  funext e s
  cases e with
  | nrm => exact ihb (fun b' hb => hL b' (by simp [loopsOf, hb])) s K
  | exit => rfl
  | ret => rfl
 | cond c a b iha ihb =>
  intro hL st K
  simp only [evalCode]
  split
  ·rename_i t _
   cases t
   ·exact ihb (fun b' hb=>hL b' (by simp [loopsOf,hb])) st K
   ·exact iha (fun b' hb=>hL b' (by simp [loopsOf,hb])) st K
  ·rfl
 | block id a iha =>
  intro hL st K
  simp only [evalCode]
  rw [iha fun b' hb=>hL b' hb]
  congr 1
  funext e s
  cases e with
  | nrm => rfl
  | ret => rfl
  | exit i => dsimp only; split <;> rfl
 | loop a _ =>
  intro hL st K
  exact evalLoop_nat φ _ _ _ _ fun h hm hk=>hL a (by simp [loopsOf]) h hm hk
 | exit id => intro _ st K; rfl
 | ret => intro _ st K; rfl
 | _ => intros; rfl
theorem evalFn_nat {C:Ctx} (hC:CtxNat C) (fn:Func) (hL:∀ c,fn.body=some c→LsNat C c) (sin sout:Sig) (s:sin.den) (K:sout.den→Option β):(evalFn C fn sin sout s K).bind φ=evalFn C fn sin sout s (fun y=>(K y).bind φ):=by
 unfold evalFn evalFnV
 split
 ·rfl
 ·rename_i c hc
  rw [evalCode_nat φ hC c (hL c hc)]
  congr 1
  funext e st
  split
  ·rfl
  ·split
   ·rfl
   ·split <;> rfl
theorem evalBody_nat {C:Ctx} (hC:CtxNat C) (c:Code) (hL:LsNat C c) (id:Nat) (head x1 x2:SS) (L:head.sig.den→Option β) (kx:x1.sig.den→Option β) (kr:x2.sig.den→Option β) (s:head.sig.den):
  (evalBody C c id head x1 x2 L kx kr s).bind φ=evalBody C c id head x1 x2 (fun s=>(L s).bind φ) (fun s=>(kx s).bind φ) (fun s=>(kr s).bind φ) s:=by
 unfold evalBody
 rw [evalCode_nat φ hC c hL]
 congr 1
 funext e st
 cases e with
 | nrm => dsimp only; split <;> rfl
 | ret => dsimp only; split <;> rfl
 | exit i =>
  dsimp only
  split
  ·split <;> rfl
  ·rfl
end
theorem loop_nat {C:Ctx} (hC:CtxNat C) {h:LoopH} {b:Code} (hL:LsNat C b) {N:Nat}
  {Bf:{β:Type}→(h.head.sig.den→Option β)→(h.x1.sig.den→Option β)→(h.x2.sig.den→Option β)→h.head.sig.den→Option β}
  (hF:∀ (β:Type) s (kx:_→Option β) kr,h.F s kx kr=rounds Bf kx kr N s)
  (heq:∀ (β:Type) L (kx:_→Option β) kr s,evalBody C b h.id h.head h.x1 h.x2 L kx kr s=Bf L kx kr s):LNat h:=by
 intro β γ φ s kx kr
 rw [hF,hF]
 clear hF
 induction N generalizing s with
 | zero => rfl
 | succ n ih =>
  rw [rounds,rounds,←heq,←heq,evalBody_nat φ hC b hL]
  simp only [ih]
end Go.Proofs.Ytijjhpmladkjdaa.E
end
section
namespace Go.Proofs.Ytijjhpmladkjdaa.E
open Go Go.RowKit
section
variable {P:Program} {C:Ctx} {B:Base} {hX:Nat→Option Obj'}
def resRun (tmps:Array Value):ResultVar→Sem Value
 | .tmp t => pure (tmps.getD t undef)
 | .cell a t => do loadVar t (← asAddr (tmps.getD a undef))
def retOf:List Value→Value
 | [x] => x | us => .tuple us.toArray
theorem results_eq (fn:Func) (tmps:Array Value):results fn tmps=(do let us ←fn.results.toList.mapM (resRun tmps); pure (retOf us)):=by
 have key:∀ f:ResultVar→Sem Value,(∀ x,f x=resRun tmps x)→(do let vs ←fn.results.mapM f; pure (if h:vs.size=1 then vs[0] else .tuple vs))=(do let us ←fn.results.toList.mapM (resRun tmps); pure (retOf us)):=by
  intro f hf
  obtain rfl:f=resRun tmps:=funext hf
  rw [Array.mapM_eq_mapM_toList]
  simp only [map_eq_pure_bind,bind_assoc,pure_bind]
  congr 1
  funext us
  congr 1
  match us with
  | [] => rfl
  | [x] => rfl
  | x :: y :: us => simp [retOf]
 exact key _ fun x=>by cases x <;> rfl
theorem resOf_R (hC:CtxOk P C) {st:St} {a:Act} {w:World} {loc:Nat→Option Loc} (R:HRel B (fun i=>get i st.heap) loc w) (E:EnvR (viewOf B w (fun i=>get i st.heap) loc) C.nt (fun t=>get t st.env) a):
  ∀ (l:List ResultVar) (vs:List AVal),resOf C st l=some vs→∃ us,(l.mapM (resRun a.tmps)).run P w = .ok us w∧AVsR (viewOf B w (fun i=>get i st.heap) loc) vs us
 | [], vs, h => by
  obtain rfl:=Option.some.inj h
  exact⟨[],by simp,rfl⟩
 | .tmp t :: r, vs, h => by
  rw [resOf] at h
  split at h
  ·rename_i vs' h'
   obtain rfl:=Option.some.inj h
   obtain⟨us,h1,h2⟩:=resOf_R hC R E r vs' h'
   refine⟨a.tmps.getD t undef::us,?_,_,us,rfl,E.val (.tmp t),h2⟩
   rw [List.mapM_cons]
   simp only [resRun,pure_bind,Sem.run_bind,h1,Result.andThen_ok]
   rfl
  ·cases h
 | .cell x t :: r, vs, h => by
  rw [resOf] at h
  split at h
  ·rename_i d p vs' h1 h2 h3
   split at h
   ·rename_i v hs hl
    obtain rfl:=Option.some.inj h
    obtain⟨us,h4,h5⟩:=resOf_R hC R E r vs' h3
    have hp:AtomR (viewOf B w (fun i=>get i st.heap) loc) p [a.tmps.getD x undef]:=by
     have:=E.val (.tmp x)
     simp only [St.val,h2] at this
     exact this.2.1
    obtain⟨_,_,b,o,u,y,e1,e2,rfl,e4⟩:=loadAt_R R (fun _ _ h=>h) (hC.T t d h1) hp hl
    obtain e1:a.tmps.getD x undef = .pointer (some ⟨b,o,none⟩):=by simpa [IsPtr] using e1
    refine⟨u::us,?_,_,us,rfl,e4,h5⟩
    rw [List.mapM_cons]
    simp only [resRun,e1,asAddr,pure_bind,Sem.run_bind,e2,h4,Result.andThen_ok]
    rfl
   ·cases h
  ·cases h
theorem mkV_length (ρ:Nat→Nat):∀ (vs:List VS) (x:denV vs),(mkV ρ vs x).length=vs.length
 | [], _ => rfl
 | .one (.val _ _) :: r, x => congrArg (· + 1) (mkV_length ρ r x.2)
 | .one (.ref _) :: r, x => congrArg (· + 1) (mkV_length ρ r x)
 | .agg _ :: r, x => congrArg (· + 1) (mkV_length ρ r x.2)
def LS (P:Program) (C:Ctx) (h:LoopH) (bs:List Code):Prop:=∀ b∈bs,h.key=keyOf b→LNat h∧LoopSound P C h b
theorem all0 {α:Type 1} {Q:α→Prop}:∀ x∈([]:List α),Q x:=by simp
theorem all1 {α:Type 1} {Q:α→Prop} {a:α} {l:List α} (h:Q a) (r:∀ x∈l,Q x):∀ x∈a::l,Q x:=List.forall_mem_cons.2 ⟨h,r⟩
theorem LS.none {h:LoopH} {bs:List Code} (k:(bs.all fun b=>!Nat.beq h.key (keyOf b))=true):LS P C h bs:=fun b hb e=>by
 rw [List.all_eq_true] at k
 have:=k b hb
 rw [e,Nat.beq_refl] at this
 cases this
theorem loopsOf_sub:∀ (c:Code) {b b':Code},b∈loopsOf c→b'∈loopsOf b→b'∈loopsOf c:=by
 intro c
 induction c with
 | seq x y ihx ihy =>
  intro b b' h h'
  simp only [loopsOf,List.mem_append] at h ⊢
  exact h.imp (fun h=>ihx h h') (fun h=>ihy h h')
 | cond x a b iha ihb =>
  intro b b' h h'
  simp only [loopsOf,List.mem_append] at h ⊢
  exact h.imp (fun h=>iha h h') (fun h=>ihb h h')
 | block id a iha => intro b b' h h'; exact iha h h'
 | loop a iha =>
  intro b b' h h'
  simp only [loopsOf,List.mem_cons] at h ⊢
  rcases h with rfl | h
  ·exact .inr h'
  ·exact .inr (iha h h')
 | _ => intro b b' h h'; simp [loopsOf] at h
def nthC (bs:List Code) (i:Nat):Code:=match bs[i]? with | some b=>b | none=>.skip
def bodyC (fn:Func):Code:=match fn.body with | some c=>c | none=>.skip
def onlyAt (k:Nat):List Code→Nat→Bool
 | [], _ => true
 | _ :: r, 0 => r.all fun b => !Nat.beq k (keyOf b)
 | b :: r, i + 1 => (!Nat.beq k (keyOf b)) && onlyAt k r i
theorem onlyAt_spec {k:Nat}:∀ {bs:List Code} {i:Nat},onlyAt k bs i=true→∀ b∈bs,k=keyOf b→b=nthC bs i
 | b0 :: r, 0, h, b, hb, hk => by
  rcases List.mem_cons.1 hb with rfl | hb
  ·rfl
  ·rw [onlyAt, List.all_eq_true] at h
   have:=h b hb
   rw [hk,Nat.beq_refl] at this; cases this
 | b0 :: r, i + 1, h, b, hb, hk => by
  rw [onlyAt,Bool.and_eq_true] at h
  rcases List.mem_cons.1 hb with rfl | hb
  ·have := h.1
   rw [hk,Nat.beq_refl] at this; cases this
  ·have := onlyAt_spec h.2 b hb hk
   rw [this]; simp [nthC]
theorem LS.at {h:LoopH} {bs:List Code} {i:Nat} (k:onlyAt h.key bs i=true) (s:LNat h∧LoopSound P C h (nthC bs i)):LS P C h bs:=fun b hb e=>by
 rw [onlyAt_spec k b hb e]; exact s
theorem LS.sub {h:LoopH} {c b:Code} (l:LS P C h (loopsOf c)) (hb:b∈loopsOf c):LS P C h (loopsOf b):=fun b' hb' e=>l b' (loopsOf_sub c hb hb') e
theorem nthC_mem {bs:List Code} {i:Nat} (h:Nat.blt i bs.length=true):nthC bs i∈bs:=by
 have hi:i<bs.length:=by simpa using h
 simp [nthC,List.getElem?_eq_getElem hi]
theorem loop_good (hm:P.follows .mixedOrders=true) (hC:CtxOk P C) (hN:CtxNat C) {h:LoopH} {b:Code} {N:Nat}
  {Bf:{β:Type}→(h.head.sig.den→Option β)→(h.x1.sig.den→Option β)→(h.x2.sig.den→Option β)→h.head.sig.den→Option β}
  (hF:∀ (β:Type) s (kx:_→Option β) kr,h.F s kx kr=rounds Bf kx kr N s)
  (heq:∀ (β:Type) L (kx:_→Option β) kr s,evalBody C b h.id h.head h.x1 h.x2 L kx kr s=Bf L kx kr s)
  (inner:∀ h'∈C.L,LS P C h' (loopsOf b)):LNat h∧LoopSound P C h b:=
 ⟨loop_nat hN (fun b' hb h' hm hk=>(inner h' hm b' hb hk).1) hF heq,loop_sound hm hC hF heq fun b' hb h' hm hk=>(inner h' hm b' hb hk).2⟩
theorem ctx_nat (hC:CtxOk P C):CtxNat C:=⟨fun o ho=>ONat.of (hC.O o ho).nat⟩
theorem fn_run (hm:P.follows .mixedOrders=true) {f:Nat} {sin sout:Sig} {fn:Func} (hf:P.funcs[f]? = some fn) (hC:CtxOk P C) {c:Code} (hc:fn.body=some c)
  (loops:∀ h∈C.L,LS P C h (loopsOf c)) (hnt:C.nt=fn.ntmps) (hnx:C.nx=sin.objs.length) (hple:(fn.params.size+fn.nfree)≤fn.ntmps) (le:sin.objs.length≤sout.objs.length)
  {s:sin.den} {r:sout.den} {vs0:List V1} (hpar:(fn.params.size+fn.nfree)=vs0.length) (hk:evalFnV C fn sin sout s vs0 some=some r):
  ∀ (w:World) (ok:Nat→Prop) (loc:Nat→Option Loc) (args:List Value),
  HRel ⟨w,ok,sin.objs.length,loc⟩ (hOf sin s) loc w→(∀ b,ok b→∀ i,¬ LivesAt (hOf sin s) loc i b)→
  V1sR (viewOf ⟨w,ok,sin.objs.length,loc⟩ w (hOf sin s) loc) vs0 args→
  Calls P f args.toArray w fun e w'=>∃ v loc',e = .returned v∧HRel ⟨w,ok,sin.objs.length,loc⟩ (hOf sout r) loc' w'∧
   (∀ j o,hOf sin s j=some o→∃ o',hOf sout r j=some o'∧Turns o o'∧(o' = .dead∨loc' j=loc j))∧
   ResR (viewOf ⟨w,ok,sin.objs.length,loc⟩ w' (hOf sout r) loc') (mkV id sout.vals r.2) v:=by
 intro w ok loc args R _ hv
 have hal:args.length=vs0.length:=V1sR_length hv
 have hXn:∀ j,sin.objs.length≤j→hOf sin s j=none:=fun j hj=>by
  rw [hOf_eq,List.getElem?_eq_none]; rw [mkO_length]; exact hj
 unfold evalFnV at hk
 rw [hc] at hk
 refine calls_of_wp hf hc (code_R (B:=⟨w,ok,sin.objs.length,loc⟩) (hX:=hOf sin s) hm hC hnx.symm hXn c (fun b hb h hm hk=>(loops h hm b hb hk).2) _ _ r _ _ w hk ⟨Nat.le_refl _,loc,⟨R,Kept.refl _⟩,rfl,?_,fun t v ht=>?_⟩ fun e st a w' hk hs=>?_)
 ·simp only [Array.size_append,Array.size_replicate,List.size_toArray,hnt]; omega
 ·have hargs : args = (List.range (fn.params.size + fn.nfree)).map fun t => (args.toArray ++ Array.replicate (fn.ntmps - args.toArray.size) undef).getD t undef := by
   apply List.ext_getElem
   ·simp [hpar,hal]
   ·intro i h1 h2
    simp [Array.getElem?_append,h1]
  rw [hargs] at hv
  exact zipE_R hv ht
 ·have hk' : ∃ vs D, resOf C st fn.results.toList = some vs ∧ dec (fun i => get i st.heap) sout (liveMap sin.objs.length sout.objs 0) vs = some (r, D) := by
   cases e with
   | exit i => cases hk
   | nrm =>
    dsimp only at hk
    split at hk
    ·cases hk
    ·rename_i vs hres
     split at hk
     ·cases hk
     ·rename_i y D hdec
      obtain rfl:=Option.some.inj hk
      exact⟨vs,D,hres,hdec⟩
   | ret =>
    dsimp only at hk
    split at hk
    ·cases hk
    ·rename_i vs hres
     split at hk
     ·cases hk
     ·rename_i y D hdec
      obtain rfl:=Option.some.inj hk
      exact⟨vs,D,hres,hdec⟩
  have fin:a.defers = []∧∃ v,(results fn a.tmps).run P w' = .ok v w'∧∃ v' loc',Ending.returned v = .returned v'∧HRel ⟨w,ok,sin.objs.length,loc⟩ (hOf sout r) loc' w'∧
     (∀ j o',hOf sin s j=some o'→∃ o'',hOf sout r j=some o''∧Turns o' o''∧(o'' = .dead∨loc' j=loc j))∧
     ResR (viewOf ⟨w,ok,sin.objs.length,loc⟩ w' (hOf sout r) loc') (mkV id sout.vals r.2) v':=by
   obtain⟨vs,D,hres,hdec⟩:=hk'
   obtain⟨_,loc1,RK,E⟩:=hs
   obtain⟨us,h1,h2⟩:=resOf_R hC RK.R E _ _ hres
   have k:=dec_read hdec
   obtain⟨h3,h4⟩:=Read.canon (B:=⟨w,ok,sin.objs.length,loc⟩) k (fun j hj ha=>liveMap_ok j hj le ha) (fun _ _ h=>h) RK.R h2
   obtain⟨h5,_⟩:=canon_kept (B:=⟨w,ok,sin.objs.length,loc⟩) k (fun j hj ha=>liveMap_ok j hj le ha) le hXn RK.K
   refine⟨E.defers,retOf us,?_,_,_,rfl,h3,fun j o' hj=>?_,?_⟩
   ·rw [results_eq,Sem.run_bind,h1]; rfl
   ·obtain ⟨o'', q1, q2⟩ := h5 j o' hj
    refine⟨o'',q1,q2,?_⟩
    have hlt:j<sin.objs.length:=by
     rcases Nat.lt_or_ge j sin.objs.length with h | h
     ·exact h
     ·rw [hXn j h] at hj; cases hj
    cases hd:o''.isDead with
    | true => left; cases o'' <;> first | rfl | cases hd
    | false => right; exact h3.ext j hlt ⟨o'', q1, hd⟩
   ·have last : ∀ (V : View) (xs : List V1) (us : List Value), V1sR V xs us → ResR V xs (retOf us) := fun V xs us h => by
     unfold ResR
     match xs,us,h with
     | [], _, _ => trivial
     | [x], _, ⟨_, _, rfl, q, rfl⟩ => exact q
     | x :: x' :: xs, _, ⟨_, _, rfl, q, ⟨_, _, rfl, q', q2⟩⟩ => exact ⟨_, rfl, _, _, rfl, q, _, _, rfl, q', q2⟩
    exact last _ _ _ h4
  cases e with
  | exit i => cases hk
  | nrm => exact fin
  | ret => exact fin
theorem fn_ok (hm : P.follows .mixedOrders = true) {o : Orac} {fn : Func} (hf : P.funcs[o.f]? = some fn) (hname : (fn.name == "runtime.NumGoroutine") = false) (hC : CtxOk P C) {c : Code} (hc : fn.body = some c)
  (loops:∀ h∈C.L,LS P C h (loopsOf c)) (hnt:C.nt=fn.ntmps) (hnx:C.nx=o.sin.objs.length) (hpar:(fn.params.size+fn.nfree)=o.sin.vals.length) (hple:(fn.params.size+fn.nfree)≤fn.ntmps)
  (heq:∀ (β:Type) s (K:_→Option β),evalFn C fn o.sin o.sout s K=o.F s K) (plain:o.sin.plain=true) (le:o.sin.objs.length≤o.sout.objs.length):OracOk P o:=by
 have nat:ONat o:=fun β γ φ s K=>by rw [←heq,←heq,evalFn_nat φ (ctx_nat hC) fn (fun c' hc' b hb h hm hk=>by obtain rfl:=Option.some.inj (hc.symm.trans hc'); exact(loops h hm b hb hk).1)]
 refine⟨plain,le,fun s K=>(nat _ _ K s some).symm,fun s r hk=>?_,⟨fn,hf,by rw [hc]; rfl,hname⟩⟩
 rw [←heq] at hk
 exact fn_run hm hf hC hc loops hnt hnx hple le (by rw [mkV_length]; exact hpar) hk
theorem clone_ok (hm : P.follows .mixedOrders = true) {f : Nat} {t : Ty} {fn : Func} (hf : P.funcs[f]? = some fn) (hname : (fn.name == "runtime.NumGoroutine") = false) (hC : CtxOk P C) {c : Code} (hc : fn.body = some c)
  (loops:∀ h∈C.L,LS P C h (loopsOf c)) (hnt:C.nt=fn.ntmps) (hnx:C.nx=0) (hpar:(fn.params.size+fn.nfree)=1) (hple:(fn.params.size+fn.nfree)≤fn.ntmps)
  (h1:∀ l:List t.den,evalFnV C fn ⟨[],[.one (.val (.sl t) false)]⟩ ⟨[.buf t false],[.one (.ref (.own 0))]⟩ ((),(l,())) [.one (.rk t false l)] some=bif fewer l.length then some ((l,()),())else none)
  (h2:evalFnV C fn ⟨[],[.one (.val (.sl t) false)]⟩ ⟨[.buf t false],[.one (.ref (.own 0))]⟩ ((),(([]:List t.den),())) [.one (.rk t true [])] some=some ((([]:List t.den),()),())):
  OracOk P ⟨f,⟨[],[.one (.val (.sl t) false)]⟩,⟨[.buf t false],[.one (.ref (.own 0))]⟩,fun s K=>bif fewer (List.length (α:=t.den) s.2.1)then K ((s.2.1,()),())else none⟩ where
 plain:=rfl
 le:=Nat.zero_le _
 nat:=fun s K=>by
  show(bif fewer (List.length (α:=t.den) s.2.1)then K ((s.2.1,()),())else none)=(bif fewer (List.length (α:=t.den) s.2.1)then some ((s.2.1,()),())else none).bind K
  cases fewer (List.length (α:=t.den) s.2.1) <;> rfl
 ok := fun s r hr => by
  obtain⟨⟨⟩,l,⟨⟩⟩:=s
  have hr:(bif fewer (List.length (α:=t.den) l)then some ((l,()),())else none)=some r:=hr
  intro w ok loc args R hok hv
  obtain⟨v,rest,rfl,⟨_,hA,_⟩,rfl⟩:=hv
  obtain⟨A,cap,e,k1,k2⟩:=id hA
  cases A with
  | none =>
   have hl:l = []:=by
    rcases k2 with k2 | ⟨b,o,c,k3,_⟩
    ·exact List.eq_nil_of_length_eq_zero k2
    ·cases k3
   subst hl
   have hr:some ((([]:List t.den),()),())=some r:=by
    cases hfw:fewer (List.length (α:=t.den) []) with
    | true => rw [hfw] at hr; exact hr
    | false => rw [hfw] at hr; cases hr
   exact fn_run (sin:=⟨[],[.one (.val (.sl t) false)]⟩) (sout:=⟨[.buf t false],[.one (.ref (.own 0))]⟩) (vs0:=[.one (.rk t true [])]) hm hf hC hc loops hnt hnx hple (Nat.zero_le _) hpar (h2.trans hr) w ok loc [v] R hok ⟨v,[],rfl,⟨rfl,⟨hA,_,_,e⟩,trivial⟩,rfl⟩
  | some a =>
   exact fn_run (sin:=⟨[],[.one (.val (.sl t) false)]⟩) (sout:=⟨[.buf t false],[.one (.ref (.own 0))]⟩) (vs0:=[.one (.rk t false l)]) hm hf hC hc loops hnt hnx hple (Nat.zero_le _) hpar ((h1 l).trans hr) w ok loc [v] R hok ⟨v,[],rfl,⟨rfl,⟨hA,_,_,_,e⟩,trivial⟩,rfl⟩
 body:=⟨fn,hf,by rw [hc]; rfl,hname⟩
theorem pure1_ok {f : Nat} {k k2 : IntKind} {fn : Func} (hf : P.funcs[f]? = some fn) (hb : fn.body.isSome = true) (hname : (fn.name == "runtime.NumGoroutine") = false) {ask : Int → Bool} {F : Int → Int}
  (h:∀ (x:Int) (w:World),ask x=true→Calls P f #[.int k x] w fun e w'=>e = .returned (.int k2 (F x))∧w'=w):
  OracOk P ⟨f,⟨[],[.one (.val (.int k) false)]⟩,⟨[],[.one (.val (.int k2) false)]⟩,fun s K=>bif ask s.2.1 then K ((),(F s.2.1,()))else none⟩ where
 plain:=rfl
 le:=Nat.zero_le _
 nat:=fun s K=>by
  show(bif ask s.2.1 then K ((),(F s.2.1,()))else none)=(bif ask s.2.1 then some ((),(F s.2.1,()))else none).bind K
  cases ask s.2.1 <;> rfl
 ok:=fun s r hr=>by
  obtain⟨⟨⟩,x,⟨⟩⟩:=s
  have hr:(bif ask x then some ((),(F x,()))else none)=some r:=hr
  cases ha:ask x with
  | false => rw [ha] at hr; cases hr
  | true =>
   rw [ha] at hr
   obtain rfl:=Option.some.inj hr
   intro w ok loc args R hok hv
   obtain⟨v,rest,rfl,⟨_,hA,_⟩,rfl⟩:=hv
   obtain rfl:v = .int k x:=by simpa [AtomR] using hA
   refine(h x w ha).mono ?_
   rintro e w' ⟨rfl,rfl⟩
   exact⟨_,loc,rfl,R,fun j o hj=>by rw [hOf_eq] at hj; simp [mkO] at hj,rfl,rfl,trivial⟩
 body:=⟨fn,hf,hb,hname⟩
end
end Go.Proofs.Ytijjhpmladkjdaa.E
end
section
namespace Go.Proofs.Ytijjhpmladkjdaa.E
open Go Go.RowKit
def zeroIs:List Value→List Value→Bool
 | [], [] => true
 | .int k n :: r, .int l m :: q => (match kindEq k l with | some _ => true | none => false) && (decide (n = m) && zeroIs r q)
 | .bool a :: r, .bool b :: q => (match a, b with | true, true => true | false, false => true | _, _ => false) && zeroIs r q
 | .string a :: r, .string b :: q => (match a.data.toList, b.data.toList with | [], [] => true | _, _ => false) && zeroIs r q
 | .slice none 0 0 :: r, .slice none 0 0 :: q => zeroIs r q
 | _, _ => false
theorem bytes_nil {a:ByteArray} (h:a.data.toList = []):a=ByteArray.empty:=by
 cases a with
 | mk d => cases d with
  | mk l => obtain rfl : l = [] := h; rfl
theorem zeroIs_spec:∀ {a b:List Value},zeroIs a b=true→a=b:=by
 intro a b
 fun_induction zeroIs a b with
 | case1 => intro _; rfl
 | case2 k n r l m q ih =>
  intro h
  simp only [Bool.and_eq_true,decide_eq_true_eq] at h
  obtain⟨h1,rfl,h2⟩:=h
  rw [ih h2]
  split at h1
  ·rename_i e _; obtain⟨rfl⟩:=e; rfl
  ·cases h1
 | case3 a r b q ih =>
  intro h
  simp only [Bool.and_eq_true] at h
  rw [ih h.2]
  cases a <;> cases b <;> first | rfl | cases h.1
 | case4 a r b q ih =>
  intro h
  simp only [Bool.and_eq_true] at h
  obtain⟨h1,h2⟩:=h
  rw [ih h2]
  split at h1
  ·rename_i e1 e2
   rw [bytes_nil e1,bytes_nil e2]
  ·cases h1
 | case5 r q ih => intro h; rw [ih h]
 | case6 => intro h; cases h
section
variable (P:Program)
def scU (t:TypeId):Ty→Bool
 | .int k => (match P.underlying t with | some (.int l) => (match kindEq k l with | some _ => true | none => false) | _ => false)
 | .bool => (match P.underlying t with | some .bool => true | _ => false)
 | _ => false
def scFields:List Field→Ty→Nat→Bool
 | [], .unit, _ => true
 | f :: r, .pair a b, o => (decide (f.name ≠ "_") && Nat.beq f.offset o) && (scU P f.type a && scFields r b (o + 1))
 | _, _, _ => false
def eqB (t:TypeId):Ty→Bool
 | .arr n (.int k) => !P.eqGuardType P.depth t && (match P.underlying t with
  | some (.array m te) => Nat.beq n m && (scU P te (.int k) && Nat.beq (P.cellsOf te) 1 && (match P.info? te with | some _ => true | none => false))
  | _ => false)
 | ty => !P.eqGuardType P.depth t && (match P.underlying t with | some (.struct fields) => !P.stoodInHeld t && scFields P fields.toList ty 0 | _ => false)
theorem scU_spec {t:TypeId} {ty:Ty} (h:scU P t ty=true):(∃ d,P.underlying t=some d∧aggD d=false)∧ty.size=1∧∀ (m m':Mem) (x y:ty.den) (cs ds:List Value) (w:World) (d:Nat),Has m ty x cs→Has m' ty y ds→
  ∃ u v,cs = [u]∧ds = [v]∧(Op.equalIn (d+1) t u v).run P w = .ok (eqSc ty x y) w:=by
 cases ty with
 | int k =>
  simp only [scU] at h
  split at h
  ·rename_i l hl
   split at h
   ·rename_i e _
    obtain⟨rfl⟩:=e
    refine⟨⟨_,hl,rfl⟩,rfl,fun m m' x y cs ds w d hx hy=>⟨_,_,hx,hy,?_⟩⟩
    rw [run_equalIn_int w d t k k x y hl]
    exact congrArg (fun b=>Result.ok b w) (ieq_eq x y).symm
   ·cases h
  ·cases h
 | bool =>
  simp only [scU] at h
  split at h
  ·rename_i hl
   refine⟨⟨_,hl,rfl⟩,rfl,fun m m' x y cs ds w d hx hy=>⟨_,_,hx,hy,?_⟩⟩
   rw [_root_.Go.run_equalIn_bool w d t x y hl,eqSc]
   cases (show Bool from x) <;> cases (show Bool from y) <;> rfl
  ·cases h
 | _ => cases h
theorem run_partSc {t:TypeId} {d:TypeDesc} (hu:P.underlying t=some d) (ha:aggD d=false) {cs:Array Value} {o:Nat} {v:Value} (hv:cs[o]? = some v) (w:World):(part t cs o).run P w = .ok v w:=by
 simp [part,run_isAgg hu,ha,hv]
theorem scFields_spec {xs ys:Array Value} (d:Nat) (w:World):∀ {fs:List Field} {ty:Ty} {o:Nat},scFields P fs ty o=true→∀ (m m':Mem) (x y:ty.den) (cs ds:List Value),Has m ty x cs→Has m' ty y ds→xs.toList.drop o=cs→ys.toList.drop o=ds→
  (Op.eqFields (d+1) xs ys fs).run P w = .ok (eqV ty x y) w:=by
 intro fs
 induction fs with
 | nil =>
  intro ty o h m m' x y cs ds _ _ _ _
  cases ty <;> first | (simp [scFields] at h; done) | simp [Op.eqFields,eqV]
 | cons f r ih =>
  intro ty o h m m' x y cs ds hx hy ex ey
  cases ty <;> simp only [scFields,Bool.and_eq_true,decide_eq_true_eq,Bool.false_eq_true] at h
  rename_i a b
  obtain⟨⟨h1,h2⟩,h3,h4⟩:=h
  obtain⟨⟨de,u1,u2⟩,u3,u4⟩:=scU_spec P h3
  obtain⟨c1,c2,rfl,k1,k2⟩:=hx
  obtain⟨d1,d2,rfl,l1,l2⟩:=hy
  obtain⟨u,v,rfl,rfl,hr⟩:=u4 m m' _ _ _ _ w d k1 l1
  have hxo:xs[o]? = some u:=by
   have:=congrArg (fun l=>l[0]?) ex
   simpa [List.getElem?_drop] using this
  have hyo:ys[o]? = some v:=by
   have:=congrArg (fun l=>l[0]?) ey
   simpa [List.getElem?_drop] using this
  have ex':xs.toList.drop (o+1)=c2:=by rw [←List.drop_drop,ex]; rfl
  have ey':ys.toList.drop (o+1)=d2:=by rw [←List.drop_drop,ey]; rfl
  have ih:=ih h4 m m' _ _ _ _ k2 l2 ex' ey'
  have ho:f.offset=o:=Nat.eq_of_beq_eq_true h2
  simp only [Op.eqFields,if_pos h1,ho,Sem.run_bind,run_partSc P u1 u2 hxo,run_partSc P u1 u2 hyo,hr,Result.andThen_ok,eqV]
  cases eqSc a x.1 y.1
  ·simp
  ·simp only [Bool.not_true, Bool.false_eq_true, if_false, Bool.true_and]
   exact ih
theorem eqItems_spec {te:TypeId} {k:IntKind} (hu:scU P te (.int k)=true) (hc:P.cellsOf te=1) {n:Nat} {m m':Mem} {x y:List Int} {cs ds:List Value} (hx:Has m (.arr n (.int k)) x cs) (hy:Has m' (.arr n (.int k)) y ds) (d:Nat) (w:World):
  ∀ (is:List Nat),(∀ i∈is,i<n)→(Op.eqItems (d+1) te (P.cellsOf te) cs.toArray ds.toArray is).run P w = .ok (is.all fun i=>x[i]? == y[i]?) w:=by
 obtain⟨⟨de,u1,u2⟩,u3,u4⟩:=scU_spec P hu
 obtain⟨x1,x2,x3⟩:=hx
 obtain⟨y1,y2,y3⟩:=hy
 have x1:x.length=n:=x1
 have y1:y.length=n:=y1
 have s1:(Ty.int k).size=1:=rfl
 intro is
 induction is with
 | nil => intro _; simp [Op.eqItems]
 | cons i r ih =>
  intro hi
  have ih:=ih fun j hj=>hi j (List.mem_cons_of_mem _ hj)
  have hin:i<n:=hi i List.mem_cons_self
  have e1:=List.getElem?_eq_getElem (l:=x) (by omega:i<x.length)
  have e2:=List.getElem?_eq_getElem (l:=y) (by omega:i<y.length)
  have f1:=x3 i _ e1
  have f2:=y3 i _ e2
  have g1:cs[i]? = some (.int k x[i]):=by
   have:=congrArg (fun l=>l[0]?) f1
   simpa [List.getElem?_take,List.getElem?_drop,s1] using this
  have g2:ds[i]? = some (.int k y[i]):=by
   have:=congrArg (fun l=>l[0]?) f2
   simpa [List.getElem?_take,List.getElem?_drop,s1] using this
  obtain⟨u,v,q1,q2,hr⟩:=u4 m m' x[i] y[i] _ _ w d (rfl:Has m (.int k) _ [.int k x[i]]) (rfl:Has m' (.int k) _ [.int k y[i]])
  obtain rfl:=(List.cons.inj q1).1
  obtain rfl:=(List.cons.inj q2).1
  simp only [Op.eqItems,hc,Nat.mul_one,Sem.run_bind,run_partSc P u1 u2 (cs:=cs.toArray) (by simpa using g1),run_partSc P u1 u2 (cs:=ds.toArray) (by simpa using g2),hr,Result.andThen_ok]
  rw [hc] at ih
  have hq:eqSc (.int k) x[i] y[i]=(x[i]==y[i]):=ieq_eq _ _
  rw [List.all_cons,e1,e2,hq]
  by_cases h:x[i]=y[i]
  ·simp [h,ih]
  ·simp [h]
theorem all_get (n:Nat) (x y:List Int) (hx:x.length=n) (hy:y.length=n):((List.range n).all fun i=>x[i]? == y[i]?)=(x==y):=by
 rw [Bool.eq_iff_iff,List.all_eq_true,beq_iff_eq]
 constructor
 ·intro h
  apply List.ext_getElem?
  intro i
  by_cases hi:i<n
  ·simpa using h i (List.mem_range.2 hi)
  ·rw [List.getElem?_eq_none (by omega),List.getElem?_eq_none (by omega)]
 ·rintro rfl i _; simp
theorem eqB_spec {t:TypeId} {ty:Ty} (hty:eqTy ty=true) (h:eqB P t ty=true):EqOk P t ty:=by
 have main:(!P.eqGuardType P.depth t&&(match P.underlying t with | some (.struct fields)=>!P.stoodInHeld t&&scFields P fields.toList ty 0 | _=>false))=true→EqOk P t ty:=by
  intro h
  rw [Bool.and_eq_true,Bool.not_eq_true'] at h
  obtain⟨h1,h2⟩:=h
  refine⟨h1,fun m m' x y cs ds w hx hy=>?_⟩
  split at h2
  ·rename_i fields hf
   rw [Bool.and_eq_true,Bool.not_eq_true'] at h2
   have hfs:P.fieldsOf t=fields:=by simp [Program.fieldsOf,hf]
   show(Op.equalIn (9999+1) t _ _).run P w=_
   rw [run_equalIn_agg w 9999 t _ _ (by rw [hfs]; exact hf) h2.1,hfs]
   exact scFields_spec P 9998 w h2.2 m m' x y cs ds hx hy (by simp) (by simp)
  ·cases h2
 match ty,hty,h with
 | .pair a b, _, h => exact main h
 | .unit, _, h => exact main h
 | .arr n (.int k), _, h =>
  simp only [eqB,Bool.and_eq_true,Bool.not_eq_true'] at h
  obtain⟨h1,h2⟩:=h
  refine⟨h1,fun m m' x y cs ds w hx hy=>?_⟩
  split at h2
  ·rename_i mm te hf
   simp only [Bool.and_eq_true] at h2
   obtain⟨h3,⟨h4,h5⟩,h6⟩:=h2
   split at h6
   ·rename_i i hi
    obtain rfl:=Nat.eq_of_beq_eq_true h3
    show(Op.equalIn (9999+1) t _ _).run P w=_
    rw [run_equalIn_array w 9999 _ _ hf hi,eqItems_spec P h4 (Nat.eq_of_beq_eq_true h5) hx hy 9998 w _ (fun i hi=>List.mem_range.1 hi),all_get n x y hx.1 hy.1]
    exact congrArg (fun b=>Result.ok b w) (leq_eq x y).symm
   ·cases h6
  ·cases h2
def iokB (t:TypeId) (ty:Ty):Bool:=
 (match P.info? t with
  | some i => Nat.beq i.size ty.size && (match i.zero with
   | some z => zeroIs z.cells.toList (zeroCells ty) && (match aggTy ty, z with | true, .agg _ => true | true, _ => false | false, _ => true)
   | none => false)
  | none => false) &&
 ((match P.underlying t with | some d=>(match aggD d,aggTy ty with | true,true=>true | false,false=>true | _,_=>false) | none=>false)&&(bif eqTy ty then eqB P t ty else true))
theorem iokB_spec {t:TypeId} {ty:Ty} (h:iokB P t ty=true):IOk P t ty:=by
 unfold iokB at h
 rw [Bool.and_eq_true] at h
 obtain⟨h1,h2⟩:=h
 rw [Bool.and_eq_true] at h2
 obtain⟨h2,h2e⟩:=h2
 refine⟨?_,?_,fun he=>eqB_spec P he (by rw [he] at h2e; exact h2e)⟩
 ·split at h1
  ·rename_i i hi
   rw [Bool.and_eq_true] at h1
   obtain⟨h3,h4⟩:=h1
   split at h4
   ·rename_i z hz
    rw [Bool.and_eq_true] at h4
    refine⟨i,z,hi,Nat.eq_of_beq_eq_true h3,hz,zeroIs_spec h4.1,fun ha=>?_⟩
    have h5:=h4.2
    rw [ha] at h5
    cases z with
    | agg c => exact ⟨c, rfl⟩
    | _ => cases h5
   ·cases h4
  ·cases h1
 ·split at h2
  ·rename_i d hd
   refine⟨d,hd,?_⟩
   revert h2
   cases aggD d <;> cases aggTy ty <;> intro h <;> first | rfl | cases h
  ·cases h2
def fieldsB (fs0:List Ty):List Field→List Ty→Nat→Bool
 | [], [], _ => true
 | f :: r, _ :: q, i => (match fieldTy fs0 i with | some (o, u) => Nat.beq f.offset o && iokB P f.type u | none => false) && fieldsB fs0 r q (i + 1)
 | _, _, _ => false
theorem fieldsB_spec {fs0:List Ty}:∀ {l:List Field} {q:List Ty} {i:Nat},fieldsB P fs0 l q i=true→l.length=q.length∧∀ j f,l[j]? = some f→∃ o u,fieldTy fs0 (i+j)=some (o,u)∧f.offset=o∧IOk P f.type u
 | [], [], _, _ => ⟨rfl, by simp⟩
 | f :: r, _ :: q, i, h => by
  rw [fieldsB,Bool.and_eq_true] at h
  obtain⟨h1,h2⟩:=h
  obtain⟨h3,h4⟩:=fieldsB_spec h2
  refine ⟨congrArg (· + 1) h3, fun j f' hj => ?_⟩
  cases j with
  | zero =>
   obtain rfl:f=f':=by simpa using hj
   split at h1
   ·rename_i o u hf
    rw [Bool.and_eq_true] at h1
    exact⟨o,u,hf,Nat.eq_of_beq_eq_true h1.1,iokB_spec P h1.2⟩
   ·cases h1
  | succ j =>
   have:=h4 j f' (by simpa using hj)
   rwa [show i+1+j=i+(j+1) by omega] at this
 | [], _ :: _, _, h => by cases h
 | _ :: _, [], _, h => by cases h
def scB (t:TypeId):Ty→Bool
 | .int k => (match P.underlying t with | some (.int l) => (match kindEq k l with | some _ => true | none => false) | _ => false)
 | .bool => (match P.underlying t with | some .bool => true | _ => false)
 | .str => true | .sl _ => true | _ => false
def nilIs:Option Value→Bool
 | some (.pointer none) => true | some .nilFunc => true | _ => false
theorem nilIs_spec:∀ {z:Option Value},nilIs z=true→∃ y v,z=some y∧y.cells.toList = [v]∧v.oneCell'=true
 | some (.pointer none), _ => ⟨_, _, rfl, rfl, rfl⟩
 | some .nilFunc, _ => ⟨_, _, rfl, rfl, rfl⟩
def tokB (t:TypeId):TD→Bool
 | .sc ty => iokB P t ty && scB P t ty
 | .sl e b => iokB P t (.sl e) && (match P.underlying t with | some (.slice te) => iokB P te e && (match P.info? te with | some i => Nat.beq i.bytes b | none => false) | _ => false)
 | .st fs => iokB P t (tys fs) && (match P.underlying t with | some (.struct fields) => fieldsB P fs fields.toList fs 0 | _ => false)
 | .ar n e => iokB P t (.arr n e) && (match P.underlying t with | some (.array m te) => Nat.beq n m && iokB P te e | _ => false)
 | .pa n e => (match P.info? t, P.underlying t with | some i, some d => Nat.beq i.size 1 && !aggD d | _, _ => false) && (match P.underlying t with | some (.pointer ta) => (match P.underlying ta with | some (.array m te) => Nat.beq n m && iokB P te e | _ => false) | _ => false)
 | .cell => (match P.info? t, P.underlying t with | some i, some d => Nat.beq i.size 1 && !aggD d && nilIs i.zero | _, _ => false)
 | .vw _ => (match P.info? t, P.underlying t with | some i, some d => Nat.beq i.size 1 && !aggD d | _, _ => false)
theorem tokB_spec {t:TypeId}:∀ {d:TD},tokB P t d=true→TOk P t d
 | .sc ty, h => by
  rw [tokB,Bool.and_eq_true] at h
  obtain⟨h1,h2⟩:=h
  refine⟨iokB_spec P h1,?_,fun k e=>?_,fun e=>?_⟩
  ·cases ty <;> first | rfl | cases h2
  ·subst e
   rw [scB] at h2
   split at h2
   ·rename_i l hl
    split at h2
    ·rename_i e _; obtain⟨rfl⟩:=e; exact hl
    ·cases h2
   ·cases h2
  ·subst e
   rw [scB] at h2
   split at h2
   ·assumption
   ·cases h2
 | .sl e b, h => by
  rw [tokB,Bool.and_eq_true] at h
  obtain⟨h1,h2⟩:=h
  refine⟨iokB_spec P h1,?_⟩
  split at h2
  ·rename_i te hte
   rw [Bool.and_eq_true] at h2
   obtain⟨h3,h4⟩:=h2
   split at h4
   ·rename_i i hi
    exact⟨te,i,hte,iokB_spec P h3,hi,Nat.eq_of_beq_eq_true h4⟩
   ·cases h4
  ·cases h2
 | .st fs, h => by
  rw [tokB,Bool.and_eq_true] at h
  obtain⟨h1,h2⟩:=h
  refine⟨iokB_spec P h1,?_⟩
  split at h2
  ·rename_i fields hf
   obtain⟨h3,h4⟩:=fieldsB_spec P h2
   refine⟨fields,hf,by simpa using h3,fun i f hi=>?_⟩
   have:=h4 i f (by simpa using hi)
   rwa [Nat.zero_add] at this
  ·cases h2
 | .ar n e, h => by
  rw [tokB,Bool.and_eq_true] at h
  obtain⟨h1,h2⟩:=h
  refine⟨iokB_spec P h1,?_⟩
  split at h2
  ·rename_i m te hte
   rw [Bool.and_eq_true] at h2
   obtain rfl:=Nat.eq_of_beq_eq_true h2.1
   exact⟨te,hte,iokB_spec P h2.2⟩
  ·cases h2
 | .pa n e, h => by
  rw [tokB,Bool.and_eq_true] at h
  obtain⟨h1,h2⟩:=h
  refine⟨?_,?_⟩
  ·split at h1
   ·rename_i i d hi hd
    rw [Bool.and_eq_true] at h1
    exact⟨i,d,hi,Nat.eq_of_beq_eq_true h1.1,hd,by simpa using h1.2⟩
   ·cases h1
  ·split at h2
   ·rename_i ta hta
    split at h2
    ·rename_i m te hte
     rw [Bool.and_eq_true] at h2
     obtain rfl:=Nat.eq_of_beq_eq_true h2.1
     exact⟨ta,te,hta,hte,iokB_spec P h2.2⟩
    ·cases h2
   ·cases h2
 | .cell, h => by
  rw [tokB] at h
  split at h
  ·rename_i i d hi hd
   rw [Bool.and_eq_true,Bool.and_eq_true] at h
   obtain⟨z,v,z1,z2,z3⟩:=nilIs_spec h.2
   exact⟨i,d,hi,Nat.eq_of_beq_eq_true h.1.1,hd,by simpa using h.1.2,z,v,z1,z2,z3⟩
  ·cases h
 | .vw _, h => by
  rw [tokB] at h
  split at h
  ·rename_i i d hi hd
   rw [Bool.and_eq_true] at h
   exact⟨i,d,hi,Nat.eq_of_beq_eq_true h.1,hd,by simpa using h.2⟩
  ·cases h
theorem tbl_ok {tbl:List (Nat×TD)} (h:tbl.all (fun p=>tokB P p.1 p.2)=true):∀ t d,get t tbl=some d→TOk P t d:=fun t d hd=>by
 rw [List.all_eq_true] at h
 exact tokB_spec P (h _ (get_in hd))
end
end Go.Proofs.Ytijjhpmladkjdaa.E
end
section
namespace Go.Proofs.Ytijjhpmladkjdaa.E
open Go Go.RowKit
set_option maxRecDepth 100000
abbrev I:Ty:=Ty.int IntKind.i64
def tbl:List (Nat×TD):=[(3,.sc I),
 (4,.sc .bool),
 (5,.sc (.int .u8)),
 (9,.sc .str),
 (22,.sl (.int .u8) 1),
 (23,.sl (.sl I) 24),
 (31,.sl I 8),
 (33,.st [I,(.sl I),(.sl I)]),
 (35,.sl (.pair I (.pair I (.pair I .unit))) 24),
 (44,.sl (.pair I (.pair I (.pair I .unit))) 24),
 (51,.st [I,I,I]),
 (55,.sl .bool 1),
 (74,.st [I,I,I]),
 (78,.sc I),
 (87,.ar 5 I),
 (97,.st [(.sl (.int .u8)),I]),
 (99,.sl .str 16),
 (104,.sl I 8),
 (116,.sl (.arr 4 I) 32),
 (122,.sc (.int .u64)),
 (125,.sl (.pair (.arr 4 I) (.pair (.arr 8 I) .unit)) 96),
 (127,.st [(.sl (.pair (.arr 4 I) (.pair (.arr 8 I) .unit))),(.sl I)]),
 (131,.ar 4 I),
 (135,.sc I),
 (142,.sc (.int .u32)),
 (145,.ar 8 I),
 (147,.st [(.arr 4 I),(.arr 8 I)]),
 (155,.sc (.int .u64))]
def tyT:Nat→Option TD:=fun t=>get t tbl
theorem tyOk:∀ t d,tyT t=some d→TOk Try.prog t d:=tbl_ok Try.prog (by kernel_rfl)
theorem mixed:Try.prog.follows .mixedOrders=true:=by kernel_rfl
structure Sl where
 lt:Int→Int→Bool
 le:Int→Int→Bool
 eq:Int→Int→Bool
 w:Int→Int
 wr:IntKind→Int→Int
 ir:Int→Nat→Bool
 fw:Nat→Bool
 xr:IntKind→Int→Int→Int
 mx:Int→Int→Int
 lq:List Int→List Int→Bool
 n:Nat
noncomputable def nS:{ n:Nat // n=4294967296 }:=Classical.choice ⟨⟨_,rfl⟩⟩
noncomputable def sl0:Sl:=⟨ilt,ile,ieq,iwrap .i64,iwrap,inRange,fewer,ixor,imax,leq,nS.1⟩
def sl1:Sl:=⟨fun a b=>decide (a<b),fun a b=>decide (a≤b),fun a b=>a==b,fun a=>IntKind.i64.wrap a,fun k a=>k.wrap a,fun i n=>decide (0≤i)&&decide (i<(n:Int)),fun n=>Nat.blt n 1073741824,fun k a b=>k.wrap ((BitVec.ofInt k.bits a ^^^ BitVec.ofInt k.bits b).toNat:Int),fun a b=>if b > a then b else a,fun a b=>a==b,4294967296⟩
theorem sl_eq:sl0=sl1:=by
 unfold sl0 sl1
 congr 1 <;> first | exact nS.2 | (funext) <;> first | exact ilt_eq _ _ | exact ile_eq _ _ | exact ieq_eq _ _ | exact iwrap_eq _ _ | exact inRange_eq _ _ | exact fewer_eq _ | exact ixor_eq _ _ _ | exact imax_eq _ _ | exact leq_eq _ _
end Go.Proofs.Ytijjhpmladkjdaa.E
end
section
namespace Go.Proofs.Ytijjhpmladkjdaa.E
open Go Go.RowKit
def IsRowK (k:IntKind) (w:World) (a:Option Addr) (len cap:Nat) (zs:List Int):Prop:=
 (a=none∧len=0∧cap=0∧zs = [])∨
 ∃ x,a=some x∧len≤cap∧zs.length=cap∧(∀ i,i<zs.length→w.cell? (x.add i)=some (.int k (zs.getD i 0)))
theorem cell_block {w:World} {x:Addr} {v:Value} (h:w.cell? x=some v):∃ c e fz,w.heap[x.block]? = some (.cells c e fz)∧x.spot=none∧c[x.off]? = some v:=by
 unfold World.cell? at h
 split at h
 ·rename_i c e fz hc
  split at h
  ·cases h
  ·rename_i hs
   refine⟨c,e,fz,hc,?_,h⟩
   cases hx:x.spot with
   | none => rfl
   | some y => rw [hx] at hs; simp at hs
 ·cases h
theorem has_row {w:World} {m:Mem} (hm:∀ b c,cellsAt w b c→m b c) {k:IntKind} {a:Option Addr} {len cap:Nat} {zs:List Int} (h:IsRowK k w a len cap zs):Has m (.sl (.int k)) (zs.take len) [.slice a len cap]:=by
 rcases h with ⟨rfl,rfl,rfl,rfl⟩ | ⟨x,rfl,h1,h2,h3⟩
 ·exact⟨none,0,rfl,Nat.le_refl _,.inl rfl⟩
 ·have hl : List.length (zs.take len) = len := by rw [List.length_take]; omega
  refine⟨some x,cap,?_,?_,?_⟩
  ·show _ = [Value.slice (some x) (List.length (zs.take len)) cap]
   rw [hl]
  ·show List.length (zs.take len) ≤ cap
   omega
  ·rcases Nat.eq_zero_or_pos len with h0 | h0
   ·left
    show List.length (zs.take len)=0
    omega
   ·right
    obtain⟨c,e,fz,hc,hs,_⟩:=cell_block (h3 0 (by omega))
    have hx0:x.add 0=x:=by simp [Addr.add]
    rw [hx0] at hc hs
    refine⟨x.block,x.off,c,by rw [←hs],hm _ _ ⟨e,fz,hc⟩,fun i y hy=>?_⟩
    have hy':(zs.take len)[i]? = some y:=hy
    obtain⟨hi,hiy⟩:=List.getElem?_eq_some_iff.1 hy'
    have hil:i<len:=by omega
    obtain⟨c',e',fz',hc',hs',hv⟩:=cell_block (h3 i (by omega))
    have hb:(x.add i).block=x.block∧(x.add i).off=x.off+i:=by unfold Addr.add; split <;> simp_all
    rw [hb.1,hc] at hc'
    obtain⟨rfl,_,_⟩:=by simpa using hc'
    rw [hb.2] at hv
    have hz:zs.getD i 0=y:=by
     rw [List.getElem?_take_of_lt hil] at hy'
     rw [List.getD_eq_getElem?_getD,hy']; rfl
    rw [hz] at hv
    show((c.toList.drop (x.off+i*1)).take 1) = [.int k y]
    rw [Nat.mul_one]
    have:=List.drop_eq_getElem_cons (l:=c.toList) (i:=x.off+i) (by
     have:=(Array.getElem?_eq_some_iff.1 hv).1; rw [Array.length_toList]; exact this)
    rw [this,List.take_succ_cons,List.take_zero]
    have h4:=(Array.getElem?_eq_some_iff.1 hv)
    obtain⟨h5,h6⟩:=h4
    rw [Array.getElem_toList,h6]
theorem byte_wf {x:Int} (h:(Lit.int .u8 x).wf=true):0≤x∧x≤255:=by
 have h1:IntKind.u8.min=0:=by decide
 have h2:IntKind.u8.max=255:=by decide
 simp only [Lit.wf,h1,h2,Bool.and_eq_true,decide_eq_true_eq] at h
 exact h
section
variable {P:Program} {f:Nat}
theorem hrel_start (w:World) (ok:Nat→Prop) (h:Nat→Option Obj') (hh:∀ j,h j=none):HRel ⟨w,ok,0,fun _=>none⟩ h (fun _=>none) w where
 os:=rfl
 tape:=rfl
 output:=rfl
 size:=Nat.le_refl _
 old:=fun _ _ _=>rfl
 objs:=fun id o k=>by rw [hh] at k; cases k
 blk:=fun id b k=>by obtain⟨o,L,k1,_⟩:=k; rw [hh] at k1; cases k1
 inj:=fun id id' b k=>by obtain⟨o,L,k1,_⟩:=k; rw [hh] at k1; cases k1
 ext:=fun j k=>absurd k (Nat.not_lt_zero _)
theorem below_of {w w':World} {ok:Nat→Prop} {h:Nat→Option Obj'} {loc:Nat→Option Loc} (R:HRel ⟨w,ok,0,fun _=>none⟩ h loc w'):Below w.heap.size w w':=
 ⟨R.os,R.tape,R.output,R.size,fun b hb=>R.old b hb fun⟨j,hj,_⟩=>absurd hj (Nat.not_lt_zero _)⟩
theorem mem_start {w:World} {h:Nat→Option Obj'} (hh:∀ j,h j=none):∀ b c,cellsAt w b c→(viewOf ⟨w,fun _=>True,0,fun _=>none⟩ w h (fun _=>none)).m b c:=
 fun b c hc=>⟨hc,⟨fun id k=>(by obtain⟨o,L,k1,_⟩:=k; rw [hh] at k1; cases k1),fun _=>.inl trivial⟩⟩
theorem law_of {sin sout:Sig} {F:{β:Type}→sin.den→(sout.den→Option β)→Option β} (hO:OracOk P ⟨f,sin,sout,F⟩) (hs:sin.objs = []) {s:sin.den} {r:sout.den} (h:F s some=some r)
  {w:World} {args:List Value} (hv:V1sR (viewOf ⟨w,fun _=>True,0,fun _=>none⟩ w (hOf sin s) (fun _=>none)) (mkV id sin.vals s.2) args)
  {b:Bool} (hr:∀ V v,ResR V (mkV id sout.vals r.2) v→v = .bool b):Calls P f args.toArray w fun e w'=>e = .returned (.bool b)∧Below w.heap.size w w':=by
 have hh:∀ j,hOf sin s j=none:=fun j=>by
  rw [hOf_eq]
  exact List.getElem?_eq_none (by rw [mkO_length,hs]; exact Nat.zero_le _)
 have e0:sin.objs.length=0:=by rw [hs]; rfl
 have k:=hO.ok s r h w (fun _=>True) (fun _=>none) args
 simp only [e0] at k
 refine(k (hrel_start w _ _ hh) (fun b _ i k=>by obtain⟨o,L,k1,_⟩:=k; rw [hh] at k1; cases k1) hv).mono ?_
 rintro e w' ⟨v,loc',rfl,R,_,hres⟩
 rw [hr _ _ hres]
 exact⟨rfl,below_of R⟩
theorem res_bool {b:Bool} (V:View) (v:Value) (h:ResR V [.one (.bool b)] v):v = .bool b:=VR.bool h
theorem law_bytes2 {F:{β:Type}→(Sig.mk [] [.one (.val (.sl (.int .u8)) false),.one (.val (.sl (.int .u8)) false)]).den→((Sig.mk [] [.one (.val .bool false)]).den→Option β)→Option β} (hO:OracOk P ⟨f,⟨[],[.one (.val (.sl (.int .u8)) false),.one (.val (.sl (.int .u8)) false)]⟩,⟨[],[.one (.val .bool false)]⟩,F⟩)
  {w:World} {a0 a1:Option Addr} {len0 cap0 len1 cap1:Nat} {z0 z1:List Int} (w0:IsRowK .u8 w a0 len0 cap0 z0) (w1:IsRowK .u8 w a1 len1 cap1 z1) (h:F ((),(z0.take len0,(z1.take len1,()))) some=some ((),(true,()))):
  Calls P f #[.slice a0 len0 cap0,.slice a1 len1 cap1] w fun e w'=>e = .returned (.bool true)∧Below w.heap.size w w':=by
 have hh:∀ j,hOf (Sig.mk [] [.one (.val (.sl (.int .u8)) false),.one (.val (.sl (.int .u8)) false)]) ((),(z0.take len0,(z1.take len1,()))) j=none:=fun j=>by rw [hOf_eq]; rfl
 exact law_of (args:=[.slice a0 len0 cap0,.slice a1 len1 cap1]) hO rfl h ⟨_,_,rfl,⟨rfl,has_row (mem_start hh) w0,trivial⟩,_,[],rfl,⟨rfl,has_row (mem_start hh) w1,trivial⟩,rfl⟩ (fun V v=>res_bool V v)
end
end Go.Proofs.Ytijjhpmladkjdaa.E
end
section
namespace Go.Proofs.Ytijjhpmladkjdaa.E
open Go Go.RowKit
set_option maxRecDepth 100000
namespace impl_elementOf
def sin:Sig:=⟨[],[.one (.val I false)]⟩
def sout:Sig:=⟨[],[.one (.val I false)]⟩
noncomputable def G {β:Type}(S:Sl)(a0:Int)(K:Int→Option β):Option β:=K (Int.tmod (S.w ((Int.tmod a0 31)+31)) 31)
noncomputable def o:Orac:=⟨107,sin,sout,fun s K=>G sl0 s.2.1 (fun x0=>K ((),(x0,())))⟩
noncomputable def C:Ctx:=⟨tyT,[],[],7,0⟩
theorem ctx:CtxOk Try.prog C:=⟨tyOk,all0⟩
theorem eG (β:Type)(s:sin.den)(K:sout.den→Option β):evalFn C Try.f107 sin sout s K=o.F s K:=by kernel_rfl
theorem ok:OracOk Try.prog o:=fn_ok mixed Try.func107 (by kernel_rfl) ctx (c:=bodyC Try.f107) (by kernel_rfl) (all0) (by kernel_rfl) (by kernel_rfl) (by kernel_rfl) (Nat.le_of_ble_eq_true (by kernel_rfl)) eG (by kernel_rfl) (Nat.le_of_ble_eq_true (by kernel_rfl))
end impl_elementOf
namespace impl_element_inverse
def sin:Sig:=⟨[],[.one (.val I false)]⟩
def sout:Sig:=⟨[],[.one (.val I false)]⟩
def h3:SS:=⟨[3,4,5,6],⟨[],[.one (.val I false),.one (.val I false),.one (.val I false),.one (.val I false)]⟩⟩
def x3:SS:=⟨[5],⟨[],[.one (.val I false)]⟩⟩
def y3:SS:=⟨[],⟨[],[]⟩⟩
noncomputable def b3 {β:Type}(S:Sl)(L:Int→Int→Int→Int→Option β)(kx:Int→Option β)(kr:Option β)(s0:Int)(s1:Int)(s2:Int)(s3:Int):Option β:=bif(!S.eq s1 0)then(bif(!(s1==0))then(L s1 (S.w (s0-(S.w ((S.w (Int.tdiv s0 s1))*s1)))) s3 (S.w (s2-(S.w ((S.w (Int.tdiv s0 s1))*s3)))))else(none))else(kx s2)
noncomputable def r3 {β:Type}(S:Sl)(n:Nat)(kx:x3.sig.den→Option β)(kr:y3.sig.den→Option β)(s:h3.sig.den):Option β:=rounds (fun L kx kr s=>b3 S (fun x0 x1 x2 x3=>L ((),(x0,(x1,(x2,(x3,())))))) (fun x0=>kx ((),(x0,()))) (kr ((),())) s.2.1 s.2.2.1 s.2.2.2.1 s.2.2.2.2.1) kx kr n s
noncomputable def l3 {β:Type}(S:Sl)(n:Nat)(kx:Int→Option β)(kr:Option β)(s0:Int)(s1:Int)(s2:Int)(s3:Int):Option β:=r3 S n (fun s=>kx s.2.1) (fun s=>kr) ((),(s0,(s1,(s2,(s3,())))))
theorem t3 {β:Type}(S:Sl)(n:Nat)(kx:Int→Option β)(kr:Option β)(s0:Int)(s1:Int)(s2:Int)(s3:Int):l3 S (n+1) kx kr s0 s1 s2 s3=b3 S (l3 S n kx kr) kx kr s0 s1 s2 s3:=by kernel_rfl
noncomputable def G {β:Type}(S:Sl)(a0:Int)(K:Int→Option β):Option β:=l3 S S.n (fun y1=>impl_elementOf.G S y1 (fun y2=>K y2)) none 31 a0 0 1
noncomputable def o:Orac:=⟨128,sin,sout,fun s K=>G sl0 s.2.1 (fun x0=>K ((),(x0,())))⟩
noncomputable def C:Ctx:=⟨tyT,[impl_elementOf.o],[⟨3,0,h3,x3,y3,fun s kx kr=>r3 sl0 sl0.n kx kr s⟩],28,0⟩
theorem ctx:CtxOk Try.prog C:=⟨tyOk,all1 impl_elementOf.ok (all0)⟩
theorem e3 (β:Type)(L:h3.sig.den→Option β)(kx:x3.sig.den→Option β)(kr:y3.sig.den→Option β)(s:h3.sig.den):evalBody C (nthC (loopsOf (bodyC Try.f128)) 0) 0 h3 x3 y3 L kx kr s=b3 sl0 (fun x0 x1 x2 x3=>L ((),(x0,(x1,(x2,(x3,())))))) (fun x0=>kx ((),(x0,()))) (kr ((),())) s.2.1 s.2.2.1 s.2.2.2.1 s.2.2.2.2.1:=by kernel_rfl
theorem g3:LS Try.prog C ⟨3,0,h3,x3,y3,fun s kx kr=>r3 sl0 sl0.n kx kr s⟩ (loopsOf (bodyC Try.f128)):=LS.at (i:=0) (by kernel_rfl) (loop_good mixed ctx (ctx_nat ctx) (N:=sl0.n) (fun _ _ _ _=>rfl) e3 (all1 (LS.none (by kernel_rfl)) (all0)))
theorem eG (β:Type)(s:sin.den)(K:sout.den→Option β):evalFn C Try.f128 sin sout s K=o.F s K:=by kernel_rfl
theorem ok:OracOk Try.prog o:=fn_ok mixed Try.func128 (by kernel_rfl) ctx (c:=bodyC Try.f128) (by kernel_rfl) (all1 g3 (all0)) (by kernel_rfl) (by kernel_rfl) (by kernel_rfl) (Nat.le_of_ble_eq_true (by kernel_rfl)) eG (by kernel_rfl) (Nat.le_of_ble_eq_true (by kernel_rfl))
end impl_element_inverse
namespace impl_element_times
def sin:Sig:=⟨[],[.one (.val I false),.one (.val I false)]⟩
def sout:Sig:=⟨[],[.one (.val I false)]⟩
noncomputable def G {β:Type}(S:Sl)(a0:Int)(a1:Int)(K:Int→Option β):Option β:=impl_elementOf.G S (S.w (a0*a1)) (fun y1=>K y1)
noncomputable def o:Orac:=⟨83,sin,sout,fun s K=>G sl0 s.2.1 s.2.2.1 (fun x0=>K ((),(x0,())))⟩
noncomputable def C:Ctx:=⟨tyT,[impl_elementOf.o],[],9,0⟩
theorem ctx:CtxOk Try.prog C:=⟨tyOk,all1 impl_elementOf.ok (all0)⟩
theorem eG (β:Type)(s:sin.den)(K:sout.den→Option β):evalFn C Try.f83 sin sout s K=o.F s K:=by kernel_rfl
theorem ok:OracOk Try.prog o:=fn_ok mixed Try.func83 (by kernel_rfl) ctx (c:=bodyC Try.f83) (by kernel_rfl) (all0) (by kernel_rfl) (by kernel_rfl) (by kernel_rfl) (Nat.le_of_ble_eq_true (by kernel_rfl)) eG (by kernel_rfl) (Nat.le_of_ble_eq_true (by kernel_rfl))
end impl_element_times
namespace impl_element_minus
def sin:Sig:=⟨[],[.one (.val I false),.one (.val I false)]⟩
def sout:Sig:=⟨[],[.one (.val I false)]⟩
noncomputable def G {β:Type}(S:Sl)(a0:Int)(a1:Int)(K:Int→Option β):Option β:=impl_elementOf.G S (S.w (a0-a1)) (fun y1=>K y1)
noncomputable def o:Orac:=⟨140,sin,sout,fun s K=>G sl0 s.2.1 s.2.2.1 (fun x0=>K ((),(x0,())))⟩
noncomputable def C:Ctx:=⟨tyT,[impl_elementOf.o],[],9,0⟩
theorem ctx:CtxOk Try.prog C:=⟨tyOk,all1 impl_elementOf.ok (all0)⟩
theorem eG (β:Type)(s:sin.den)(K:sout.den→Option β):evalFn C Try.f140 sin sout s K=o.F s K:=by kernel_rfl
theorem ok:OracOk Try.prog o:=fn_ok mixed Try.func140 (by kernel_rfl) ctx (c:=bodyC Try.f140) (by kernel_rfl) (all0) (by kernel_rfl) (by kernel_rfl) (by kernel_rfl) (Nat.le_of_ble_eq_true (by kernel_rfl)) eG (by kernel_rfl) (Nat.le_of_ble_eq_true (by kernel_rfl))
end impl_element_minus
namespace impl_vector_lead_1
def sin:Sig:=⟨[],[.one (.val I false)]⟩
def sout:Sig:=⟨[],[.one (.val .bool false)]⟩
noncomputable def G {β:Type}(S:Sl)(a0:Int)(K:Bool→Option β):Option β:=K (!S.eq a0 0)
noncomputable def o:Orac:=⟨142,sin,sout,fun s K=>G sl0 s.2.1 (fun x0=>K ((),(x0,())))⟩
noncomputable def C:Ctx:=⟨tyT,[],[],5,0⟩
theorem ctx:CtxOk Try.prog C:=⟨tyOk,all0⟩
theorem eG (β:Type)(s:sin.den)(K:sout.den→Option β):evalFn C Try.f142 sin sout s K=o.F s K:=by kernel_rfl
theorem ok:OracOk Try.prog o:=fn_ok mixed Try.func142 (by kernel_rfl) ctx (c:=bodyC Try.f142) (by kernel_rfl) (all0) (by kernel_rfl) (by kernel_rfl) (by kernel_rfl) (Nat.le_of_ble_eq_true (by kernel_rfl)) eG (by kernel_rfl) (Nat.le_of_ble_eq_true (by kernel_rfl))
end impl_vector_lead_1
namespace slices_IndexFunc_Simpl_element_impl_element
def sin:Sig:=⟨[],[.one (.val (.sl I) false),.one (.ref (.fn 142 []))]⟩
def sout:Sig:=⟨[],[.one (.val I false)]⟩
def h2:SS:=⟨[0,1,7,8],⟨[],[.one (.val (.sl I) false),.one (.ref (.fn 142 [])),.one (.val I false),.one (.val I false)]⟩⟩
def x2:SS:=⟨[],⟨[],[]⟩⟩
def y2:SS:=⟨[4],⟨[],[.one (.val I false)]⟩⟩
noncomputable def b2 {β:Type}(S:Sl)(L:(List Int)→Int→Int→Option β)(kx:Option β)(kr:Int→Option β)(s0:(List Int))(s1:Int)(s2:Int):Option β:=bif(S.lt s2 s1)then(bif(S.ir s2 s0.length)then(impl_vector_lead_1.G S (List.getD s0 (Int.toNat s2) 0) (fun y1=>bif y1 then(kr s2)else(L s0 s1 (S.w (s2+1)))))else(none))else(kx)
noncomputable def r2 {β:Type}(S:Sl)(n:Nat)(kx:x2.sig.den→Option β)(kr:y2.sig.den→Option β)(s:h2.sig.den):Option β:=rounds (fun L kx kr s=>b2 S (fun x0 x1 x2=>L ((),(x0,(x1,(x2,()))))) (kx ((),())) (fun x0=>kr ((),(x0,()))) s.2.1 s.2.2.1 s.2.2.2.1) kx kr n s
noncomputable def l2 {β:Type}(S:Sl)(n:Nat)(kx:Option β)(kr:Int→Option β)(s0:(List Int))(s1:Int)(s2:Int):Option β:=r2 S n (fun s=>kx) (fun s=>kr s.2.1) ((),(s0,(s1,(s2,()))))
theorem t2 {β:Type}(S:Sl)(n:Nat)(kx:Option β)(kr:Int→Option β)(s0:(List Int))(s1:Int)(s2:Int):l2 S (n+1) kx kr s0 s1 s2=b2 S (l2 S n kx kr) kx kr s0 s1 s2:=by kernel_rfl
noncomputable def G {β:Type}(S:Sl)(a0:(List Int))(K:Int→Option β):Option β:=l2 S S.n (K (-1)) (fun y1=>K y1) a0 (a0.length:Int) 0
noncomputable def o:Orac:=⟨141,sin,sout,fun s K=>G sl0 s.2.1 (fun x0=>K ((),(x0,())))⟩
noncomputable def C:Ctx:=⟨tyT,[impl_vector_lead_1.o],[⟨2,0,h2,x2,y2,fun s kx kr=>r2 sl0 sl0.n kx kr s⟩],19,0⟩
theorem ctx:CtxOk Try.prog C:=⟨tyOk,all1 impl_vector_lead_1.ok (all0)⟩
theorem e2 (β:Type)(L:h2.sig.den→Option β)(kx:x2.sig.den→Option β)(kr:y2.sig.den→Option β)(s:h2.sig.den):evalBody C (nthC (loopsOf (bodyC Try.f141)) 0) 0 h2 x2 y2 L kx kr s=b2 sl0 (fun x0 x1 x2=>L ((),(x0,(x1,(x2,()))))) (kx ((),())) (fun x0=>kr ((),(x0,()))) s.2.1 s.2.2.1 s.2.2.2.1:=by kernel_rfl
theorem g2:LS Try.prog C ⟨2,0,h2,x2,y2,fun s kx kr=>r2 sl0 sl0.n kx kr s⟩ (loopsOf (bodyC Try.f141)):=LS.at (i:=0) (by kernel_rfl) (loop_good mixed ctx (ctx_nat ctx) (N:=sl0.n) (fun _ _ _ _=>rfl) e2 (all1 (LS.none (by kernel_rfl)) (all0)))
theorem eG (β:Type)(s:sin.den)(K:sout.den→Option β):evalFn C Try.f141 sin sout s K=o.F s K:=by kernel_rfl
theorem ok:OracOk Try.prog o:=fn_ok mixed Try.func141 (by kernel_rfl) ctx (c:=bodyC Try.f141) (by kernel_rfl) (all1 g2 (all0)) (by kernel_rfl) (by kernel_rfl) (by kernel_rfl) (Nat.le_of_ble_eq_true (by kernel_rfl)) eG (by kernel_rfl) (Nat.le_of_ble_eq_true (by kernel_rfl))
end slices_IndexFunc_Simpl_element_impl_element
namespace impl_vector_lead
def sin:Sig:=⟨[],[.one (.val (.arr 4 I) false)]⟩
def sout:Sig:=⟨[],[.one (.val I false)]⟩
noncomputable def G {β:Type}(S:Sl)(a0:(List Int))(K:Int→Option β):Option β:=slices_IndexFunc_Simpl_element_impl_element.G S a0 (fun y1=>K y1)
noncomputable def o:Orac:=⟨127,sin,sout,fun s K=>G sl0 s.2.1 (fun x0=>K ((),(x0,())))⟩
noncomputable def C:Ctx:=⟨tyT,[slices_IndexFunc_Simpl_element_impl_element.o],[],5,0⟩
theorem ctx:CtxOk Try.prog C:=⟨tyOk,all1 slices_IndexFunc_Simpl_element_impl_element.ok (all0)⟩
theorem eG (β:Type)(s:sin.den)(K:sout.den→Option β):evalFn C Try.f127 sin sout s K=o.F s K:=by kernel_rfl
theorem ok:OracOk Try.prog o:=fn_ok mixed Try.func127 (by kernel_rfl) ctx (c:=bodyC Try.f127) (by kernel_rfl) (all0) (by kernel_rfl) (by kernel_rfl) (by kernel_rfl) (Nat.le_of_ble_eq_true (by kernel_rfl)) eG (by kernel_rfl) (Nat.le_of_ble_eq_true (by kernel_rfl))
end impl_vector_lead
namespace impl_element_plus
def sin:Sig:=⟨[],[.one (.val I false),.one (.val I false)]⟩
def sout:Sig:=⟨[],[.one (.val I false)]⟩
noncomputable def G {β:Type}(S:Sl)(a0:Int)(a1:Int)(K:Int→Option β):Option β:=impl_elementOf.G S (S.w (a0+a1)) (fun y1=>K y1)
noncomputable def o:Orac:=⟨82,sin,sout,fun s K=>G sl0 s.2.1 s.2.2.1 (fun x0=>K ((),(x0,())))⟩
noncomputable def C:Ctx:=⟨tyT,[impl_elementOf.o],[],9,0⟩
theorem ctx:CtxOk Try.prog C:=⟨tyOk,all1 impl_elementOf.ok (all0)⟩
theorem eG (β:Type)(s:sin.den)(K:sout.den→Option β):evalFn C Try.f82 sin sout s K=o.F s K:=by kernel_rfl
theorem ok:OracOk Try.prog o:=fn_ok mixed Try.func82 (by kernel_rfl) ctx (c:=bodyC Try.f82) (by kernel_rfl) (all0) (by kernel_rfl) (by kernel_rfl) (by kernel_rfl) (Nat.le_of_ble_eq_true (by kernel_rfl)) eG (by kernel_rfl) (Nat.le_of_ble_eq_true (by kernel_rfl))
end impl_element_plus
namespace impl_vector_plus
def sin:Sig:=⟨[],[.one (.val (.arr 4 I) false),.one (.val (.arr 4 I) false)]⟩
def sout:Sig:=⟨[],[.agg [.val (.arr 4 I) false]]⟩
def h2:SS:=⟨[2,3,4,6],⟨[.box [.val (.arr 4 I) false],.box [.val (.arr 4 I) false],.box [.val (.arr 4 I) false]],[.one (.ref (.ptr 0)),.one (.ref (.ptr 1)),.one (.ref (.ptr 2)),.one (.val I false)]⟩⟩
def x2:SS:=⟨[2,4],⟨[.box [.val (.arr 4 I) false],.box [.val (.arr 4 I) false]],[.one (.ref (.ptr 0)),.one (.ref (.ptr 1))]⟩⟩
def y2:SS:=⟨[],⟨[],[]⟩⟩
noncomputable def b2 {β:Type}(S:Sl)(L:(List Int)→(List Int)→(List Int)→Int→Option β)(kx:(List Int)→(List Int)→Option β)(kr:Option β)(s0:(List Int))(s1:(List Int))(s2:(List Int))(s3:Int):Option β:=bif(S.lt s3 4)then(bif(S.ir s3 4)then(bif(S.ir s3 4)then(impl_element_plus.G S (List.getD s0 (Int.toNat s3) 0) (List.getD s1 (Int.toNat s3) 0) (fun y1=>bif(S.ir s3 4)then(L (List.set s0 (Int.toNat s3) y1) s1 s2 (S.w (s3+1)))else(none)))else(none))else(none))else(kx s0 s2)
noncomputable def r2 {β:Type}(S:Sl)(n:Nat)(kx:x2.sig.den→Option β)(kr:y2.sig.den→Option β)(s:h2.sig.den):Option β:=rounds (fun L kx kr s=>b2 S (fun x0 x1 x2 x3=>L (((x0,()),((x1,()),((x2,()),()))),(x3,()))) (fun x0 x1=>kx (((x0,()),((x1,()),())),())) (kr ((),())) s.1.1.1 s.1.2.1.1 s.1.2.2.1.1 s.2.1) kx kr n s
noncomputable def l2 {β:Type}(S:Sl)(n:Nat)(kx:(List Int)→(List Int)→Option β)(kr:Option β)(s0:(List Int))(s1:(List Int))(s2:(List Int))(s3:Int):Option β:=r2 S n (fun s=>kx s.1.1.1 s.1.2.1.1) (fun s=>kr) (((s0,()),((s1,()),((s2,()),()))),(s3,()))
theorem t2 {β:Type}(S:Sl)(n:Nat)(kx:(List Int)→(List Int)→Option β)(kr:Option β)(s0:(List Int))(s1:(List Int))(s2:(List Int))(s3:Int):l2 S (n+1) kx kr s0 s1 s2 s3=b2 S (l2 S n kx kr) kx kr s0 s1 s2 s3:=by kernel_rfl
noncomputable def G {β:Type}(S:Sl)(a0:(List Int))(a1:(List Int))(K:(List Int)→Option β):Option β:=l2 S S.n (fun y1 y2=>K y1) none a0 a1 (List.replicate 4 0) 0
noncomputable def o:Orac:=⟨132,sin,sout,fun s K=>G sl0 s.2.1 s.2.2.1 (fun x0=>K ((),((x0,()),())))⟩
noncomputable def C:Ctx:=⟨tyT,[impl_element_plus.o],[⟨2,0,h2,x2,y2,fun s kx kr=>r2 sl0 sl0.n kx kr s⟩],20,0⟩
theorem ctx:CtxOk Try.prog C:=⟨tyOk,all1 impl_element_plus.ok (all0)⟩
theorem e2 (β:Type)(L:h2.sig.den→Option β)(kx:x2.sig.den→Option β)(kr:y2.sig.den→Option β)(s:h2.sig.den):evalBody C (nthC (loopsOf (bodyC Try.f132)) 0) 0 h2 x2 y2 L kx kr s=b2 sl0 (fun x0 x1 x2 x3=>L (((x0,()),((x1,()),((x2,()),()))),(x3,()))) (fun x0 x1=>kx (((x0,()),((x1,()),())),())) (kr ((),())) s.1.1.1 s.1.2.1.1 s.1.2.2.1.1 s.2.1:=by kernel_rfl
theorem g2:LS Try.prog C ⟨2,0,h2,x2,y2,fun s kx kr=>r2 sl0 sl0.n kx kr s⟩ (loopsOf (bodyC Try.f132)):=LS.at (i:=0) (by kernel_rfl) (loop_good mixed ctx (ctx_nat ctx) (N:=sl0.n) (fun _ _ _ _=>rfl) e2 (all1 (LS.none (by kernel_rfl)) (all0)))
theorem eG (β:Type)(s:sin.den)(K:sout.den→Option β):evalFn C Try.f132 sin sout s K=o.F s K:=by kernel_rfl
theorem ok:OracOk Try.prog o:=fn_ok mixed Try.func132 (by kernel_rfl) ctx (c:=bodyC Try.f132) (by kernel_rfl) (all1 g2 (all0)) (by kernel_rfl) (by kernel_rfl) (by kernel_rfl) (Nat.le_of_ble_eq_true (by kernel_rfl)) eG (by kernel_rfl) (Nat.le_of_ble_eq_true (by kernel_rfl))
end impl_vector_plus
namespace impl_vector_times
def sin:Sig:=⟨[],[.one (.val (.arr 4 I) false),.one (.val I false)]⟩
def sout:Sig:=⟨[],[.agg [.val (.arr 4 I) false]]⟩
def h2:SS:=⟨[1,2,4,6],⟨[.box [.val (.arr 4 I) false],.box [.val (.arr 4 I) false]],[.one (.val I false),.one (.ref (.ptr 0)),.one (.ref (.ptr 1)),.one (.val I false)]⟩⟩
def x2:SS:=⟨[2,4],⟨[.box [.val (.arr 4 I) false],.box [.val (.arr 4 I) false]],[.one (.ref (.ptr 0)),.one (.ref (.ptr 1))]⟩⟩
def y2:SS:=⟨[],⟨[],[]⟩⟩
noncomputable def b2 {β:Type}(S:Sl)(L:(List Int)→(List Int)→Int→Int→Option β)(kx:(List Int)→(List Int)→Option β)(kr:Option β)(s0:(List Int))(s1:(List Int))(s2:Int)(s3:Int):Option β:=bif(S.lt s3 4)then(bif(S.ir s3 4)then(impl_element_times.G S (List.getD s0 (Int.toNat s3) 0) s2 (fun y1=>bif(S.ir s3 4)then(L (List.set s0 (Int.toNat s3) y1) s1 s2 (S.w (s3+1)))else(none)))else(none))else(kx s0 s1)
noncomputable def r2 {β:Type}(S:Sl)(n:Nat)(kx:x2.sig.den→Option β)(kr:y2.sig.den→Option β)(s:h2.sig.den):Option β:=rounds (fun L kx kr s=>b2 S (fun x0 x1 x2 x3=>L (((x0,()),((x1,()),())),(x2,(x3,())))) (fun x0 x1=>kx (((x0,()),((x1,()),())),())) (kr ((),())) s.1.1.1 s.1.2.1.1 s.2.1 s.2.2.1) kx kr n s
noncomputable def l2 {β:Type}(S:Sl)(n:Nat)(kx:(List Int)→(List Int)→Option β)(kr:Option β)(s0:(List Int))(s1:(List Int))(s2:Int)(s3:Int):Option β:=r2 S n (fun s=>kx s.1.1.1 s.1.2.1.1) (fun s=>kr) (((s0,()),((s1,()),())),(s2,(s3,())))
theorem t2 {β:Type}(S:Sl)(n:Nat)(kx:(List Int)→(List Int)→Option β)(kr:Option β)(s0:(List Int))(s1:(List Int))(s2:Int)(s3:Int):l2 S (n+1) kx kr s0 s1 s2 s3=b2 S (l2 S n kx kr) kx kr s0 s1 s2 s3:=by kernel_rfl
noncomputable def G {β:Type}(S:Sl)(a0:(List Int))(a1:Int)(K:(List Int)→Option β):Option β:=l2 S S.n (fun y1 y2=>K y1) none a0 (List.replicate 4 0) a1 0
noncomputable def o:Orac:=⟨129,sin,sout,fun s K=>G sl0 s.2.1 s.2.2.1 (fun x0=>K ((),((x0,()),())))⟩
noncomputable def C:Ctx:=⟨tyT,[impl_element_times.o],[⟨2,0,h2,x2,y2,fun s kx kr=>r2 sl0 sl0.n kx kr s⟩],18,0⟩
theorem ctx:CtxOk Try.prog C:=⟨tyOk,all1 impl_element_times.ok (all0)⟩
theorem e2 (β:Type)(L:h2.sig.den→Option β)(kx:x2.sig.den→Option β)(kr:y2.sig.den→Option β)(s:h2.sig.den):evalBody C (nthC (loopsOf (bodyC Try.f129)) 0) 0 h2 x2 y2 L kx kr s=b2 sl0 (fun x0 x1 x2 x3=>L (((x0,()),((x1,()),())),(x2,(x3,())))) (fun x0 x1=>kx (((x0,()),((x1,()),())),())) (kr ((),())) s.1.1.1 s.1.2.1.1 s.2.1 s.2.2.1:=by kernel_rfl
theorem g2:LS Try.prog C ⟨2,0,h2,x2,y2,fun s kx kr=>r2 sl0 sl0.n kx kr s⟩ (loopsOf (bodyC Try.f129)):=LS.at (i:=0) (by kernel_rfl) (loop_good mixed ctx (ctx_nat ctx) (N:=sl0.n) (fun _ _ _ _=>rfl) e2 (all1 (LS.none (by kernel_rfl)) (all0)))
theorem eG (β:Type)(s:sin.den)(K:sout.den→Option β):evalFn C Try.f129 sin sout s K=o.F s K:=by kernel_rfl
theorem ok:OracOk Try.prog o:=fn_ok mixed Try.func129 (by kernel_rfl) ctx (c:=bodyC Try.f129) (by kernel_rfl) (all1 g2 (all0)) (by kernel_rfl) (by kernel_rfl) (by kernel_rfl) (Nat.le_of_ble_eq_true (by kernel_rfl)) eG (by kernel_rfl) (Nat.le_of_ble_eq_true (by kernel_rfl))
end impl_vector_times
namespace impl_vector_minus
def sin:Sig:=⟨[],[.one (.val (.arr 4 I) false),.one (.val (.arr 4 I) false)]⟩
def sout:Sig:=⟨[],[.agg [.val (.arr 4 I) false]]⟩
noncomputable def G {β:Type}(S:Sl)(a0:(List Int))(a1:(List Int))(K:(List Int)→Option β):Option β:=impl_elementOf.G S (-1) (fun y1=>impl_vector_times.G S a1 y1 (fun y2=>impl_vector_plus.G S a0 y2 (fun y3=>K y3)))
noncomputable def o:Orac:=⟨139,sin,sout,fun s K=>G sl0 s.2.1 s.2.2.1 (fun x0=>K ((),((x0,()),())))⟩
noncomputable def C:Ctx:=⟨tyT,[impl_elementOf.o,impl_vector_plus.o,impl_vector_times.o],[],10,0⟩
theorem ctx:CtxOk Try.prog C:=⟨tyOk,all1 impl_elementOf.ok (all1 impl_vector_plus.ok (all1 impl_vector_times.ok (all0)))⟩
theorem eG (β:Type)(s:sin.den)(K:sout.den→Option β):evalFn C Try.f139 sin sout s K=o.F s K:=by kernel_rfl
theorem ok:OracOk Try.prog o:=fn_ok mixed Try.func139 (by kernel_rfl) ctx (c:=bodyC Try.f139) (by kernel_rfl) (all0) (by kernel_rfl) (by kernel_rfl) (by kernel_rfl) (Nat.le_of_ble_eq_true (by kernel_rfl)) eG (by kernel_rfl) (Nat.le_of_ble_eq_true (by kernel_rfl))
end impl_vector_minus
namespace impl_span_less__
def sin:Sig:=⟨[.box [.ref (.own 1),.ref (.own 2)],.buf (.pair (.arr 4 I) (.pair (.arr 8 I) .unit)) false,.buf I false],[.one (.ref (.ptr 0)),.agg [.val (.arr 4 I) false,.val (.arr 8 I) false]]⟩
def sout:Sig:=⟨[.box [.ref (.own 1),.ref (.own 2)],.buf (.pair (.arr 4 I) (.pair (.arr 8 I) .unit)) false,.buf I false],[.agg [.val (.arr 4 I) false,.val (.arr 8 I) false]]⟩
def h7:SS:=⟨[3,4,6,7,12,13,14,32],⟨[.box [.ref (.own 1),.ref (.own 2)],.buf (.pair (.arr 4 I) (.pair (.arr 8 I) .unit)) false,.buf I false,.box [.val (.arr 4 I) false,.val (.arr 8 I) false],.box [.val (.arr 4 I) false,.val (.arr 8 I) false],.box [.val (.arr 4 I) false,.val (.arr 8 I) false]],[.one (.ref (.ptr 3)),.one (.ref (.ptr 4)),.one (.ref (.ptr 5)),.one (.val I false),.one (.ref (.own 1)),.one (.val I false),.one (.val I false),.one (.val I false)]⟩⟩
def x7:SS:=⟨[3,4,12,13,14],⟨[.box [.ref (.own 1),.ref (.own 2)],.buf (.pair (.arr 4 I) (.pair (.arr 8 I) .unit)) false,.buf I false,.box [.val (.arr 4 I) false,.val (.arr 8 I) false],.box [.val (.arr 4 I) false,.val (.arr 8 I) false]],[.one (.ref (.ptr 3)),.one (.ref (.ptr 4)),.one (.ref (.own 1)),.one (.val I false),.one (.val I false)]⟩⟩
def y7:SS:=⟨[],⟨[],[]⟩⟩
noncomputable def b7 {β:Type}(S:Sl)(L:(List ((List Int)×((List Int)×Unit)))→(List Int)→(List Int)→(List Int)→(List Int)→(List Int)→(List Int)→(List Int)→Int→Int→Int→Int→Option β)(kx:(List ((List Int)×((List Int)×Unit)))→(List Int)→(List Int)→(List Int)→(List Int)→(List Int)→Int→Int→Option β)(kr:Option β)(s0:(List ((List Int)×((List Int)×Unit))))(s1:(List Int))(s2:(List Int))(s3:(List Int))(s4:(List Int))(s5:(List Int))(s6:(List Int))(s7:(List Int))(s8:Int)(s9:Int)(s10:Int)(s11:Int):Option β:=bif(S.lt s11 8)then(bif(S.ir s11 8)then(bif(S.ir s11 8)then(impl_element_times.G S (List.getD s7 (Int.toNat s11) 0) s8 (fun y1=>impl_element_minus.G S (List.getD s3 (Int.toNat s11) 0) y1 (fun y2=>bif(S.ir s11 8)then(L s0 s1 s2 (List.set s3 (Int.toNat s11) y2) s4 s5 s6 s7 s8 s9 s10 (S.w (s11+1)))else(none))))else(none))else(none))else(kx s0 s1 s2 s3 s4 s5 s9 s10)
noncomputable def r7 {β:Type}(S:Sl)(n:Nat)(kx:x7.sig.den→Option β)(kr:y7.sig.den→Option β)(s:h7.sig.den):Option β:=rounds (fun L kx kr s=>b7 S (fun x0 x1 x2 x3 x4 x5 x6 x7 x8 x9 x10 x11=>L (((),(x0,(x1,((x2,(x3,())),((x4,(x5,())),((x6,(x7,())),())))))),(x8,(x9,(x10,(x11,())))))) (fun x0 x1 x2 x3 x4 x5 x6 x7=>kx (((),(x0,(x1,((x2,(x3,())),((x4,(x5,())),()))))),(x6,(x7,())))) (kr ((),())) s.1.2.1 s.1.2.2.1 s.1.2.2.2.1.1 s.1.2.2.2.1.2.1 s.1.2.2.2.2.1.1 s.1.2.2.2.2.1.2.1 s.1.2.2.2.2.2.1.1 s.1.2.2.2.2.2.1.2.1 s.2.1 s.2.2.1 s.2.2.2.1 s.2.2.2.2.1) kx kr n s
noncomputable def l7 {β:Type}(S:Sl)(n:Nat)(kx:(List ((List Int)×((List Int)×Unit)))→(List Int)→(List Int)→(List Int)→(List Int)→(List Int)→Int→Int→Option β)(kr:Option β)(s0:(List ((List Int)×((List Int)×Unit))))(s1:(List Int))(s2:(List Int))(s3:(List Int))(s4:(List Int))(s5:(List Int))(s6:(List Int))(s7:(List Int))(s8:Int)(s9:Int)(s10:Int)(s11:Int):Option β:=r7 S n (fun s=>kx s.1.2.1 s.1.2.2.1 s.1.2.2.2.1.1 s.1.2.2.2.1.2.1 s.1.2.2.2.2.1.1 s.1.2.2.2.2.1.2.1 s.2.1 s.2.2.1) (fun s=>kr) (((),(s0,(s1,((s2,(s3,())),((s4,(s5,())),((s6,(s7,())),())))))),(s8,(s9,(s10,(s11,())))))
theorem t7 {β:Type}(S:Sl)(n:Nat)(kx:(List ((List Int)×((List Int)×Unit)))→(List Int)→(List Int)→(List Int)→(List Int)→(List Int)→Int→Int→Option β)(kr:Option β)(s0:(List ((List Int)×((List Int)×Unit))))(s1:(List Int))(s2:(List Int))(s3:(List Int))(s4:(List Int))(s5:(List Int))(s6:(List Int))(s7:(List Int))(s8:Int)(s9:Int)(s10:Int)(s11:Int):l7 S (n+1) kx kr s0 s1 s2 s3 s4 s5 s6 s7 s8 s9 s10 s11=b7 S (l7 S n kx kr) kx kr s0 s1 s2 s3 s4 s5 s6 s7 s8 s9 s10 s11:=by kernel_rfl
def h2:SS:=⟨[3,4,12,13,14],⟨[.box [.ref (.own 1),.ref (.own 2)],.buf (.pair (.arr 4 I) (.pair (.arr 8 I) .unit)) false,.buf I false,.box [.val (.arr 4 I) false,.val (.arr 8 I) false],.box [.val (.arr 4 I) false,.val (.arr 8 I) false]],[.one (.ref (.ptr 3)),.one (.ref (.ptr 4)),.one (.ref (.own 1)),.one (.val I false),.one (.val I false)]⟩⟩
def x2:SS:=⟨[3,4],⟨[.box [.ref (.own 1),.ref (.own 2)],.buf (.pair (.arr 4 I) (.pair (.arr 8 I) .unit)) false,.buf I false,.box [.val (.arr 4 I) false,.val (.arr 8 I) false],.box [.val (.arr 4 I) false,.val (.arr 8 I) false]],[.one (.ref (.ptr 3)),.one (.ref (.ptr 4))]⟩⟩
def y2:SS:=⟨[],⟨[],[]⟩⟩
noncomputable def b2 {β:Type}(S:Sl)(L:(List ((List Int)×((List Int)×Unit)))→(List Int)→(List Int)→(List Int)→(List Int)→(List Int)→Int→Int→Option β)(kx:(List ((List Int)×((List Int)×Unit)))→(List Int)→(List Int)→(List Int)→(List Int)→(List Int)→Option β)(kr:Option β)(s0:(List ((List Int)×((List Int)×Unit))))(s1:(List Int))(s2:(List Int))(s3:(List Int))(s4:(List Int))(s5:(List Int))(s6:Int)(s7:Int):Option β:=bif(S.lt s7 s6)then(bif(S.ir s7 s0.length)then(impl_vector_lead.G S ((List.getD s0 (Int.toNat s7) ((List.replicate 4 0),((List.replicate 8 0),()))).1) (fun y1=>bif(S.ir y1 4)then(impl_vector_times.G S ((List.getD s0 (Int.toNat s7) ((List.replicate 4 0),((List.replicate 8 0),()))).1) (List.getD s2 (Int.toNat y1) 0) (fun y2=>impl_vector_minus.G S s2 y2 (fun y3=>l7 S S.n (fun y4 y5 y6 y7 y8 y9 y10 y11=>L y4 y5 y6 y7 y8 y9 y10 (S.w (y11+1))) none s0 s1 y3 s3 s4 s5 ((List.getD s0 (Int.toNat s7) ((List.replicate 4 0),((List.replicate 8 0),()))).1) ((List.getD s0 (Int.toNat s7) ((List.replicate 4 0),((List.replicate 8 0),()))).2.1) (List.getD s2 (Int.toNat y1) 0) s6 s7 0)))else(none)))else(none))else(kx s0 s1 s2 s3 s4 s5)
noncomputable def r2 {β:Type}(S:Sl)(n:Nat)(kx:x2.sig.den→Option β)(kr:y2.sig.den→Option β)(s:h2.sig.den):Option β:=rounds (fun L kx kr s=>b2 S (fun x0 x1 x2 x3 x4 x5 x6 x7=>L (((),(x0,(x1,((x2,(x3,())),((x4,(x5,())),()))))),(x6,(x7,())))) (fun x0 x1 x2 x3 x4 x5=>kx (((),(x0,(x1,((x2,(x3,())),((x4,(x5,())),()))))),())) (kr ((),())) s.1.2.1 s.1.2.2.1 s.1.2.2.2.1.1 s.1.2.2.2.1.2.1 s.1.2.2.2.2.1.1 s.1.2.2.2.2.1.2.1 s.2.1 s.2.2.1) kx kr n s
noncomputable def l2 {β:Type}(S:Sl)(n:Nat)(kx:(List ((List Int)×((List Int)×Unit)))→(List Int)→(List Int)→(List Int)→(List Int)→(List Int)→Option β)(kr:Option β)(s0:(List ((List Int)×((List Int)×Unit))))(s1:(List Int))(s2:(List Int))(s3:(List Int))(s4:(List Int))(s5:(List Int))(s6:Int)(s7:Int):Option β:=r2 S n (fun s=>kx s.1.2.1 s.1.2.2.1 s.1.2.2.2.1.1 s.1.2.2.2.1.2.1 s.1.2.2.2.2.1.1 s.1.2.2.2.2.1.2.1) (fun s=>kr) (((),(s0,(s1,((s2,(s3,())),((s4,(s5,())),()))))),(s6,(s7,())))
theorem t2 {β:Type}(S:Sl)(n:Nat)(kx:(List ((List Int)×((List Int)×Unit)))→(List Int)→(List Int)→(List Int)→(List Int)→(List Int)→Option β)(kr:Option β)(s0:(List ((List Int)×((List Int)×Unit))))(s1:(List Int))(s2:(List Int))(s3:(List Int))(s4:(List Int))(s5:(List Int))(s6:Int)(s7:Int):l2 S (n+1) kx kr s0 s1 s2 s3 s4 s5 s6 s7=b2 S (l2 S n kx kr) kx kr s0 s1 s2 s3 s4 s5 s6 s7:=by kernel_rfl
noncomputable def G {β:Type}(S:Sl)(a0:(List ((List Int)×((List Int)×Unit))))(a1:(List Int))(a2:(List Int))(a3:(List Int))(K:(List ((List Int)×((List Int)×Unit)))→(List Int)→(List Int)→(List Int)→Option β):Option β:=l2 S S.n (fun y1 y2 y3 y4 y5 y6=>K y1 y2 y3 y4) none a0 a1 a2 a3 (List.replicate 4 0) (List.replicate 8 0) (a0.length:Int) 0
noncomputable def o:Orac:=⟨126,sin,sout,fun s K=>G sl0 s.1.2.1 s.1.2.2.1 s.2.1.1 s.2.1.2.1 (fun x0 x1 x2 x3=>K (((),(x0,(x1,()))),((x2,(x3,())),())))⟩
noncomputable def C:Ctx:=⟨tyT,[impl_element_minus.o,impl_element_times.o,impl_vector_lead.o,impl_vector_minus.o,impl_vector_times.o],[⟨2,0,h2,x2,y2,fun s kx kr=>r2 sl0 sl0.n kx kr s⟩,⟨7,2,h7,x7,y7,fun s kx kr=>r7 sl0 sl0.n kx kr s⟩],52,3⟩
theorem ctx:CtxOk Try.prog C:=⟨tyOk,all1 impl_element_minus.ok (all1 impl_element_times.ok (all1 impl_vector_lead.ok (all1 impl_vector_minus.ok (all1 impl_vector_times.ok (all0)))))⟩
theorem e7 (β:Type)(L:h7.sig.den→Option β)(kx:x7.sig.den→Option β)(kr:y7.sig.den→Option β)(s:h7.sig.den):evalBody C (nthC (loopsOf (bodyC Try.f126)) 1) 2 h7 x7 y7 L kx kr s=b7 sl0 (fun x0 x1 x2 x3 x4 x5 x6 x7 x8 x9 x10 x11=>L (((),(x0,(x1,((x2,(x3,())),((x4,(x5,())),((x6,(x7,())),())))))),(x8,(x9,(x10,(x11,())))))) (fun x0 x1 x2 x3 x4 x5 x6 x7=>kx (((),(x0,(x1,((x2,(x3,())),((x4,(x5,())),()))))),(x6,(x7,())))) (kr ((),())) s.1.2.1 s.1.2.2.1 s.1.2.2.2.1.1 s.1.2.2.2.1.2.1 s.1.2.2.2.2.1.1 s.1.2.2.2.2.1.2.1 s.1.2.2.2.2.2.1.1 s.1.2.2.2.2.2.1.2.1 s.2.1 s.2.2.1 s.2.2.2.1 s.2.2.2.2.1:=by kernel_rfl
theorem g7:LS Try.prog C ⟨7,2,h7,x7,y7,fun s kx kr=>r7 sl0 sl0.n kx kr s⟩ (loopsOf (bodyC Try.f126)):=LS.at (i:=1) (by kernel_rfl) (loop_good mixed ctx (ctx_nat ctx) (N:=sl0.n) (fun _ _ _ _=>rfl) e7 (all1 (LS.none (by kernel_rfl)) (all1 (LS.none (by kernel_rfl)) (all0))))
theorem e2 (β:Type)(L:h2.sig.den→Option β)(kx:x2.sig.den→Option β)(kr:y2.sig.den→Option β)(s:h2.sig.den):evalBody C (nthC (loopsOf (bodyC Try.f126)) 0) 0 h2 x2 y2 L kx kr s=b2 sl0 (fun x0 x1 x2 x3 x4 x5 x6 x7=>L (((),(x0,(x1,((x2,(x3,())),((x4,(x5,())),()))))),(x6,(x7,())))) (fun x0 x1 x2 x3 x4 x5=>kx (((),(x0,(x1,((x2,(x3,())),((x4,(x5,())),()))))),())) (kr ((),())) s.1.2.1 s.1.2.2.1 s.1.2.2.2.1.1 s.1.2.2.2.1.2.1 s.1.2.2.2.2.1.1 s.1.2.2.2.2.1.2.1 s.2.1 s.2.2.1:=by kernel_rfl
theorem g2:LS Try.prog C ⟨2,0,h2,x2,y2,fun s kx kr=>r2 sl0 sl0.n kx kr s⟩ (loopsOf (bodyC Try.f126)):=LS.at (i:=0) (by kernel_rfl) (loop_good mixed ctx (ctx_nat ctx) (N:=sl0.n) (fun _ _ _ _=>rfl) e2 (all1 (LS.none (by kernel_rfl)) (all1 ((g7).sub (nthC_mem (by kernel_rfl))) (all0))))
theorem eG (β:Type)(s:sin.den)(K:sout.den→Option β):evalFn C Try.f126 sin sout s K=o.F s K:=by kernel_rfl
theorem ok:OracOk Try.prog o:=fn_ok mixed Try.func126 (by kernel_rfl) ctx (c:=bodyC Try.f126) (by kernel_rfl) (all1 g2 (all1 g7 (all0))) (by kernel_rfl) (by kernel_rfl) (by kernel_rfl) (Nat.le_of_ble_eq_true (by kernel_rfl)) eG (by kernel_rfl) (Nat.le_of_ble_eq_true (by kernel_rfl))
end impl_span_less__
namespace impl_spanOf
def sin:Sig:=⟨[],[.one (.val (.sl (.arr 4 I)) false)]⟩
def sout:Sig:=⟨[.box [.ref (.own 1),.ref (.own 2)],.buf (.pair (.arr 4 I) (.pair (.arr 8 I) .unit)) false,.buf I false],[.one (.ref (.ptr 0))]⟩
def h13:SS:=⟨[3,4,6,8,12,13,14,42],⟨[.box [.ref (.own 2),.ref (.own 3)],.box [.val (.arr 4 I) false,.val (.arr 8 I) false],.buf (.pair (.arr 4 I) (.pair (.arr 8 I) .unit)) false,.buf I false],[.one (.ref (.ptr 0)),.one (.val I false),.one (.ref (.ptr 1)),.one (.val I false),.one (.val (.sl (.arr 4 I)) false),.one (.val I false),.one (.val I false),.one (.val I false)]⟩⟩
def x13:SS:=⟨[3,4,6,12,13,14],⟨[.box [.ref (.own 2),.ref (.own 3)],.box [.val (.arr 4 I) false,.val (.arr 8 I) false],.buf (.pair (.arr 4 I) (.pair (.arr 8 I) .unit)) false,.buf I false],[.one (.ref (.ptr 0)),.one (.val I false),.one (.ref (.ptr 1)),.one (.val (.sl (.arr 4 I)) false),.one (.val I false),.one (.val I false)]⟩⟩
def y13:SS:=⟨[],⟨[],[]⟩⟩
noncomputable def b13 {β:Type}(S:Sl)(L:(List Int)→(List Int)→(List ((List Int)×((List Int)×Unit)))→(List Int)→Int→Int→(List (List Int))→Int→Int→Int→Option β)(kx:(List Int)→(List Int)→(List ((List Int)×((List Int)×Unit)))→(List Int)→Int→(List (List Int))→Int→Int→Option β)(kr:Option β)(s0:(List Int))(s1:(List Int))(s2:(List ((List Int)×((List Int)×Unit))))(s3:(List Int))(s4:Int)(s5:Int)(s6:(List (List Int)))(s7:Int)(s8:Int)(s9:Int):Option β:=bif(S.lt s9 8)then(bif(S.ir s9 8)then(impl_element_times.G S (List.getD s1 (Int.toNat s9) 0) s5 (fun y1=>bif(S.ir s9 8)then(L s0 (List.set s1 (Int.toNat s9) y1) s2 s3 s4 s5 s6 s7 s8 (S.w (s9+1)))else(none)))else(none))else(kx s0 s1 s2 s3 s4 s6 s7 s8)
noncomputable def r13 {β:Type}(S:Sl)(n:Nat)(kx:x13.sig.den→Option β)(kr:y13.sig.den→Option β)(s:h13.sig.den):Option β:=rounds (fun L kx kr s=>b13 S (fun x0 x1 x2 x3 x4 x5 x6 x7 x8 x9=>L (((),((x0,(x1,())),(x2,(x3,())))),(x4,(x5,(x6,(x7,(x8,(x9,())))))))) (fun x0 x1 x2 x3 x4 x5 x6 x7=>kx (((),((x0,(x1,())),(x2,(x3,())))),(x4,(x5,(x6,(x7,())))))) (kr ((),())) s.1.2.1.1 s.1.2.1.2.1 s.1.2.2.1 s.1.2.2.2.1 s.2.1 s.2.2.1 s.2.2.2.1 s.2.2.2.2.1 s.2.2.2.2.2.1 s.2.2.2.2.2.2.1) kx kr n s
noncomputable def l13 {β:Type}(S:Sl)(n:Nat)(kx:(List Int)→(List Int)→(List ((List Int)×((List Int)×Unit)))→(List Int)→Int→(List (List Int))→Int→Int→Option β)(kr:Option β)(s0:(List Int))(s1:(List Int))(s2:(List ((List Int)×((List Int)×Unit))))(s3:(List Int))(s4:Int)(s5:Int)(s6:(List (List Int)))(s7:Int)(s8:Int)(s9:Int):Option β:=r13 S n (fun s=>kx s.1.2.1.1 s.1.2.1.2.1 s.1.2.2.1 s.1.2.2.2.1 s.2.1 s.2.2.1 s.2.2.2.1 s.2.2.2.2.1) (fun s=>kr) (((),((s0,(s1,())),(s2,(s3,())))),(s4,(s5,(s6,(s7,(s8,(s9,())))))))
theorem t13 {β:Type}(S:Sl)(n:Nat)(kx:(List Int)→(List Int)→(List ((List Int)×((List Int)×Unit)))→(List Int)→Int→(List (List Int))→Int→Int→Option β)(kr:Option β)(s0:(List Int))(s1:(List Int))(s2:(List ((List Int)×((List Int)×Unit))))(s3:(List Int))(s4:Int)(s5:Int)(s6:(List (List Int)))(s7:Int)(s8:Int)(s9:Int):l13 S (n+1) kx kr s0 s1 s2 s3 s4 s5 s6 s7 s8 s9=b13 S (l13 S n kx kr) kx kr s0 s1 s2 s3 s4 s5 s6 s7 s8 s9:=by kernel_rfl
def h3:SS:=⟨[3,12,13,14],⟨[.box [.ref (.own 1),.ref (.own 2)],.buf (.pair (.arr 4 I) (.pair (.arr 8 I) .unit)) false,.buf I false],[.one (.ref (.ptr 0)),.one (.val (.sl (.arr 4 I)) false),.one (.val I false),.one (.val I false)]⟩⟩
def x3:SS:=⟨[3],⟨[.box [.ref (.own 1),.ref (.own 2)],.buf (.pair (.arr 4 I) (.pair (.arr 8 I) .unit)) false,.buf I false],[.one (.ref (.ptr 0))]⟩⟩
def y3:SS:=⟨[],⟨[],[]⟩⟩
noncomputable def b3 {β:Type}(S:Sl)(L:(List ((List Int)×((List Int)×Unit)))→(List Int)→(List (List Int))→Int→Int→Option β)(kx:(List ((List Int)×((List Int)×Unit)))→(List Int)→Option β)(kr:Option β)(s0:(List ((List Int)×((List Int)×Unit))))(s1:(List Int))(s2:(List (List Int)))(s3:Int)(s4:Int):Option β:=bif(S.lt s4 s3)then(bif(S.ir s4 s2.length)then(bif(S.ir s4 8)then(impl_span_less__.G S s0 s1 (List.getD s2 (Int.toNat s4) (List.replicate 4 0)) (List.set (List.replicate 8 0) (Int.toNat s4) 1) (fun y1 y2 y3 y4=>impl_vector_lead.G S y3 (fun y5=>bif(S.lt y5 0)then(L y1 y2 s2 s3 (S.w (s4+1)))else(bif(S.ir y5 4)then(impl_element_inverse.G S (List.getD y3 (Int.toNat y5) 0) (fun y6=>impl_vector_times.G S y3 y6 (fun y7=>l13 S S.n (fun y8 y9 y10 y11 y12 y13 y14 y15=>bif(S.fw (y10 ++ [(y8,(y9,()))]).length)then(bif(S.fw (y11 ++ [y12]).length)then(L (y10 ++ [(y8,(y9,()))]) (y11 ++ [y12]) y13 y14 (S.w (y15+1)))else(none))else(none)) none y7 y4 y1 y2 s4 y6 s2 s3 s4 0)))else(none)))))else(none))else(none))else(kx s0 s1)
noncomputable def r3 {β:Type}(S:Sl)(n:Nat)(kx:x3.sig.den→Option β)(kr:y3.sig.den→Option β)(s:h3.sig.den):Option β:=rounds (fun L kx kr s=>b3 S (fun x0 x1 x2 x3 x4=>L (((),(x0,(x1,()))),(x2,(x3,(x4,()))))) (fun x0 x1=>kx (((),(x0,(x1,()))),())) (kr ((),())) s.1.2.1 s.1.2.2.1 s.2.1 s.2.2.1 s.2.2.2.1) kx kr n s
noncomputable def l3 {β:Type}(S:Sl)(n:Nat)(kx:(List ((List Int)×((List Int)×Unit)))→(List Int)→Option β)(kr:Option β)(s0:(List ((List Int)×((List Int)×Unit))))(s1:(List Int))(s2:(List (List Int)))(s3:Int)(s4:Int):Option β:=r3 S n (fun s=>kx s.1.2.1 s.1.2.2.1) (fun s=>kr) (((),(s0,(s1,()))),(s2,(s3,(s4,()))))
theorem t3 {β:Type}(S:Sl)(n:Nat)(kx:(List ((List Int)×((List Int)×Unit)))→(List Int)→Option β)(kr:Option β)(s0:(List ((List Int)×((List Int)×Unit))))(s1:(List Int))(s2:(List (List Int)))(s3:Int)(s4:Int):l3 S (n+1) kx kr s0 s1 s2 s3 s4=b3 S (l3 S n kx kr) kx kr s0 s1 s2 s3 s4:=by kernel_rfl
noncomputable def G {β:Type}(S:Sl)(a0:(List (List Int)))(K:(List ((List Int)×((List Int)×Unit)))→(List Int)→Option β):Option β:=l3 S S.n (fun y1 y2=>K y1 y2) none [] [] a0 (a0.length:Int) 0
noncomputable def o:Orac:=⟨113,sin,sout,fun s K=>G sl0 s.2.1 (fun x0 x1=>K (((),(x0,(x1,()))),()))⟩
noncomputable def C:Ctx:=⟨tyT,[impl_element_inverse.o,impl_element_times.o,impl_span_less__.o,impl_vector_lead.o,impl_vector_times.o],[⟨3,0,h3,x3,y3,fun s kx kr=>r3 sl0 sl0.n kx kr s⟩,⟨13,2,h13,x13,y13,fun s kx kr=>r13 sl0 sl0.n kx kr s⟩],77,0⟩
theorem ctx:CtxOk Try.prog C:=⟨tyOk,all1 impl_element_inverse.ok (all1 impl_element_times.ok (all1 impl_span_less__.ok (all1 impl_vector_lead.ok (all1 impl_vector_times.ok (all0)))))⟩
theorem e13 (β:Type)(L:h13.sig.den→Option β)(kx:x13.sig.den→Option β)(kr:y13.sig.den→Option β)(s:h13.sig.den):evalBody C (nthC (loopsOf (bodyC Try.f113)) 1) 2 h13 x13 y13 L kx kr s=b13 sl0 (fun x0 x1 x2 x3 x4 x5 x6 x7 x8 x9=>L (((),((x0,(x1,())),(x2,(x3,())))),(x4,(x5,(x6,(x7,(x8,(x9,())))))))) (fun x0 x1 x2 x3 x4 x5 x6 x7=>kx (((),((x0,(x1,())),(x2,(x3,())))),(x4,(x5,(x6,(x7,())))))) (kr ((),())) s.1.2.1.1 s.1.2.1.2.1 s.1.2.2.1 s.1.2.2.2.1 s.2.1 s.2.2.1 s.2.2.2.1 s.2.2.2.2.1 s.2.2.2.2.2.1 s.2.2.2.2.2.2.1:=by kernel_rfl
theorem g13:LS Try.prog C ⟨13,2,h13,x13,y13,fun s kx kr=>r13 sl0 sl0.n kx kr s⟩ (loopsOf (bodyC Try.f113)):=LS.at (i:=1) (by kernel_rfl) (loop_good mixed ctx (ctx_nat ctx) (N:=sl0.n) (fun _ _ _ _=>rfl) e13 (all1 (LS.none (by kernel_rfl)) (all1 (LS.none (by kernel_rfl)) (all0))))
theorem e3 (β:Type)(L:h3.sig.den→Option β)(kx:x3.sig.den→Option β)(kr:y3.sig.den→Option β)(s:h3.sig.den):evalBody C (nthC (loopsOf (bodyC Try.f113)) 0) 0 h3 x3 y3 L kx kr s=b3 sl0 (fun x0 x1 x2 x3 x4=>L (((),(x0,(x1,()))),(x2,(x3,(x4,()))))) (fun x0 x1=>kx (((),(x0,(x1,()))),())) (kr ((),())) s.1.2.1 s.1.2.2.1 s.2.1 s.2.2.1 s.2.2.2.1:=by kernel_rfl
theorem g3:LS Try.prog C ⟨3,0,h3,x3,y3,fun s kx kr=>r3 sl0 sl0.n kx kr s⟩ (loopsOf (bodyC Try.f113)):=LS.at (i:=0) (by kernel_rfl) (loop_good mixed ctx (ctx_nat ctx) (N:=sl0.n) (fun _ _ _ _=>rfl) e3 (all1 (LS.none (by kernel_rfl)) (all1 ((g13).sub (nthC_mem (by kernel_rfl))) (all0))))
theorem eG (β:Type)(s:sin.den)(K:sout.den→Option β):evalFn C Try.f113 sin sout s K=o.F s K:=by kernel_rfl
theorem ok:OracOk Try.prog o:=fn_ok mixed Try.func113 (by kernel_rfl) ctx (c:=bodyC Try.f113) (by kernel_rfl) (all1 g3 (all1 g13 (all0))) (by kernel_rfl) (by kernel_rfl) (by kernel_rfl) (Nat.le_of_ble_eq_true (by kernel_rfl)) eG (by kernel_rfl) (Nat.le_of_ble_eq_true (by kernel_rfl))
end impl_spanOf
namespace impl_rank
def sin:Sig:=⟨[],[.one (.val (.sl (.arr 4 I)) false)]⟩
def sout:Sig:=⟨[],[.one (.val I false)]⟩
noncomputable def G {β:Type}(S:Sl)(a0:(List (List Int)))(K:Int→Option β):Option β:=impl_spanOf.G S a0 (fun y1 y2=>K (y2.length:Int))
noncomputable def o:Orac:=⟨100,sin,sout,fun s K=>G sl0 s.2.1 (fun x0=>K ((),(x0,())))⟩
noncomputable def C:Ctx:=⟨tyT,[impl_spanOf.o],[],9,0⟩
theorem ctx:CtxOk Try.prog C:=⟨tyOk,all1 impl_spanOf.ok (all0)⟩
theorem eG (β:Type)(s:sin.den)(K:sout.den→Option β):evalFn C Try.f100 sin sout s K=o.F s K:=by kernel_rfl
theorem ok:OracOk Try.prog o:=fn_ok mixed Try.func100 (by kernel_rfl) ctx (c:=bodyC Try.f100) (by kernel_rfl) (all0) (by kernel_rfl) (by kernel_rfl) (by kernel_rfl) (Nat.le_of_ble_eq_true (by kernel_rfl)) eG (by kernel_rfl) (Nat.le_of_ble_eq_true (by kernel_rfl))
end impl_rank
namespace impl_powers
def sin:Sig:=⟨[],[.one (.val I false)]⟩
def sout:Sig:=⟨[],[.agg [.val (.arr 4 I) false]]⟩
def h3:SS:=⟨[0,2,3,4],⟨[.box [.val (.arr 4 I) false],.box [.val (.arr 4 I) false]],[.one (.val I false),.one (.ref (.ptr 0)),.one (.ref (.ptr 1)),.one (.val I false)]⟩⟩
def x3:SS:=⟨[2,3],⟨[.box [.val (.arr 4 I) false],.box [.val (.arr 4 I) false]],[.one (.ref (.ptr 0)),.one (.ref (.ptr 1))]⟩⟩
def y3:SS:=⟨[],⟨[],[]⟩⟩
noncomputable def b3 {β:Type}(S:Sl)(L:(List Int)→(List Int)→Int→Int→Option β)(kx:(List Int)→(List Int)→Option β)(kr:Option β)(s0:(List Int))(s1:(List Int))(s2:Int)(s3:Int):Option β:=bif(S.lt s3 4)then(bif(S.ir (S.w (s3-1)) 4)then(impl_element_times.G S (List.getD s1 (Int.toNat (S.w (s3-1))) 0) s2 (fun y1=>bif(S.ir s3 4)then(L s0 (List.set s1 (Int.toNat s3) y1) s2 (S.w (s3+1)))else(none)))else(none))else(kx s0 s1)
noncomputable def r3 {β:Type}(S:Sl)(n:Nat)(kx:x3.sig.den→Option β)(kr:y3.sig.den→Option β)(s:h3.sig.den):Option β:=rounds (fun L kx kr s=>b3 S (fun x0 x1 x2 x3=>L (((x0,()),((x1,()),())),(x2,(x3,())))) (fun x0 x1=>kx (((x0,()),((x1,()),())),())) (kr ((),())) s.1.1.1 s.1.2.1.1 s.2.1 s.2.2.1) kx kr n s
noncomputable def l3 {β:Type}(S:Sl)(n:Nat)(kx:(List Int)→(List Int)→Option β)(kr:Option β)(s0:(List Int))(s1:(List Int))(s2:Int)(s3:Int):Option β:=r3 S n (fun s=>kx s.1.1.1 s.1.2.1.1) (fun s=>kr) (((s0,()),((s1,()),())),(s2,(s3,())))
theorem t3 {β:Type}(S:Sl)(n:Nat)(kx:(List Int)→(List Int)→Option β)(kr:Option β)(s0:(List Int))(s1:(List Int))(s2:Int)(s3:Int):l3 S (n+1) kx kr s0 s1 s2 s3=b3 S (l3 S n kx kr) kx kr s0 s1 s2 s3:=by kernel_rfl
noncomputable def G {β:Type}(S:Sl)(a0:Int)(K:(List Int)→Option β):Option β:=l3 S S.n (fun y1 y2=>K y2) none (List.replicate 4 0) [1,0,0,0] a0 1
noncomputable def o:Orac:=⟨130,sin,sout,fun s K=>G sl0 s.2.1 (fun x0=>K ((),((x0,()),())))⟩
noncomputable def C:Ctx:=⟨tyT,[impl_element_times.o],[⟨3,0,h3,x3,y3,fun s kx kr=>r3 sl0 sl0.n kx kr s⟩],19,0⟩
theorem ctx:CtxOk Try.prog C:=⟨tyOk,all1 impl_element_times.ok (all0)⟩
theorem e3 (β:Type)(L:h3.sig.den→Option β)(kx:x3.sig.den→Option β)(kr:y3.sig.den→Option β)(s:h3.sig.den):evalBody C (nthC (loopsOf (bodyC Try.f130)) 0) 0 h3 x3 y3 L kx kr s=b3 sl0 (fun x0 x1 x2 x3=>L (((x0,()),((x1,()),())),(x2,(x3,())))) (fun x0 x1=>kx (((x0,()),((x1,()),())),())) (kr ((),())) s.1.1.1 s.1.2.1.1 s.2.1 s.2.2.1:=by kernel_rfl
theorem g3:LS Try.prog C ⟨3,0,h3,x3,y3,fun s kx kr=>r3 sl0 sl0.n kx kr s⟩ (loopsOf (bodyC Try.f130)):=LS.at (i:=0) (by kernel_rfl) (loop_good mixed ctx (ctx_nat ctx) (N:=sl0.n) (fun _ _ _ _=>rfl) e3 (all1 (LS.none (by kernel_rfl)) (all0)))
theorem eG (β:Type)(s:sin.den)(K:sout.den→Option β):evalFn C Try.f130 sin sout s K=o.F s K:=by kernel_rfl
theorem ok:OracOk Try.prog o:=fn_ok mixed Try.func130 (by kernel_rfl) ctx (c:=bodyC Try.f130) (by kernel_rfl) (all1 g3 (all0)) (by kernel_rfl) (by kernel_rfl) (by kernel_rfl) (Nat.le_of_ble_eq_true (by kernel_rfl)) eG (by kernel_rfl) (Nat.le_of_ble_eq_true (by kernel_rfl))
end impl_powers
namespace impl_unit
def sin:Sig:=⟨[],[.one (.val I false)]⟩
def sout:Sig:=⟨[],[.agg [.val (.arr 4 I) false]]⟩
noncomputable def G {β:Type}(S:Sl)(a0:Int)(K:(List Int)→Option β):Option β:=bif(S.ir a0 4)then(K (List.set (List.replicate 4 0) (Int.toNat a0) 1))else(none)
noncomputable def o:Orac:=⟨131,sin,sout,fun s K=>G sl0 s.2.1 (fun x0=>K ((),((x0,()),())))⟩
noncomputable def C:Ctx:=⟨tyT,[],[],7,0⟩
theorem ctx:CtxOk Try.prog C:=⟨tyOk,all0⟩
theorem eG (β:Type)(s:sin.den)(K:sout.den→Option β):evalFn C Try.f131 sin sout s K=o.F s K:=by kernel_rfl
theorem ok:OracOk Try.prog o:=fn_ok mixed Try.func131 (by kernel_rfl) ctx (c:=bodyC Try.f131) (by kernel_rfl) (all0) (by kernel_rfl) (by kernel_rfl) (by kernel_rfl) (Nat.le_of_ble_eq_true (by kernel_rfl)) eG (by kernel_rfl) (Nat.le_of_ble_eq_true (by kernel_rfl))
end impl_unit
namespace impl_rowOf
def sin:Sig:=⟨[],[.one (.val I false),.one (.val I false)]⟩
def sout:Sig:=⟨[],[.agg [.val (.arr 4 I) false]]⟩
noncomputable def G {β:Type}(S:Sl)(a0:Int)(a1:Int)(K:(List Int)→Option β):Option β:=bif(S.eq a0 2)then(impl_powers.G S (S.w (a1+1)) (fun y1=>K y1))else(bif(S.lt a1 4)then(impl_unit.G S a1 (fun y2=>K y2))else(bif(S.eq a1 4)then(impl_unit.G S 0 (fun y3=>impl_unit.G S 1 (fun y4=>impl_vector_plus.G S y3 y4 (fun y5=>K y5))))else(bif(S.eq a1 5)then(impl_unit.G S 2 (fun y6=>impl_unit.G S 3 (fun y7=>impl_vector_plus.G S y6 y7 (fun y8=>K y8))))else(impl_powers.G S (S.w (a1-4)) (fun y9=>K y9)))))
noncomputable def o:Orac:=⟨114,sin,sout,fun s K=>G sl0 s.2.1 s.2.2.1 (fun x0=>K ((),((x0,()),())))⟩
noncomputable def C:Ctx:=⟨tyT,[impl_powers.o,impl_unit.o,impl_vector_plus.o],[],30,0⟩
theorem ctx:CtxOk Try.prog C:=⟨tyOk,all1 impl_powers.ok (all1 impl_unit.ok (all1 impl_vector_plus.ok (all0)))⟩
theorem eG (β:Type)(s:sin.den)(K:sout.den→Option β):evalFn C Try.f114 sin sout s K=o.F s K:=by kernel_rfl
theorem ok:OracOk Try.prog o:=fn_ok mixed Try.func114 (by kernel_rfl) ctx (c:=bodyC Try.f114) (by kernel_rfl) (all0) (by kernel_rfl) (by kernel_rfl) (by kernel_rfl) (Nat.le_of_ble_eq_true (by kernel_rfl)) eG (by kernel_rfl) (Nat.le_of_ble_eq_true (by kernel_rfl))
end impl_rowOf
namespace impl_rowsOf
def sin:Sig:=⟨[],[.one (.val I false),.one (.val (.sl I) false)]⟩
def sout:Sig:=⟨[.buf (.arr 4 I) false],[.one (.ref (.own 0))]⟩
def h3:SS:=⟨[0,5,11,12,13],⟨[.buf (.arr 4 I) false],[.one (.val I false),.one (.ref (.own 0)),.one (.val (.sl I) false),.one (.val I false),.one (.val I false)]⟩⟩
def x3:SS:=⟨[5],⟨[.buf (.arr 4 I) false],[.one (.ref (.own 0))]⟩⟩
def y3:SS:=⟨[],⟨[],[]⟩⟩
noncomputable def b3 {β:Type}(S:Sl)(L:(List (List Int))→Int→(List Int)→Int→Int→Option β)(kx:(List (List Int))→Option β)(kr:Option β)(s0:(List (List Int)))(s1:Int)(s2:(List Int))(s3:Int)(s4:Int):Option β:=bif(S.lt s4 s3)then(bif(S.ir s4 s2.length)then(impl_rowOf.G S s1 (List.getD s2 (Int.toNat s4) 0) (fun y1=>bif(S.fw (s0 ++ [y1]).length)then(L (s0 ++ [y1]) s1 s2 s3 (S.w (s4+1)))else(none)))else(none))else(kx s0)
noncomputable def r3 {β:Type}(S:Sl)(n:Nat)(kx:x3.sig.den→Option β)(kr:y3.sig.den→Option β)(s:h3.sig.den):Option β:=rounds (fun L kx kr s=>b3 S (fun x0 x1 x2 x3 x4=>L ((x0,()),(x1,(x2,(x3,(x4,())))))) (fun x0=>kx ((x0,()),())) (kr ((),())) s.1.1 s.2.1 s.2.2.1 s.2.2.2.1 s.2.2.2.2.1) kx kr n s
noncomputable def l3 {β:Type}(S:Sl)(n:Nat)(kx:(List (List Int))→Option β)(kr:Option β)(s0:(List (List Int)))(s1:Int)(s2:(List Int))(s3:Int)(s4:Int):Option β:=r3 S n (fun s=>kx s.1.1) (fun s=>kr) ((s0,()),(s1,(s2,(s3,(s4,())))))
theorem t3 {β:Type}(S:Sl)(n:Nat)(kx:(List (List Int))→Option β)(kr:Option β)(s0:(List (List Int)))(s1:Int)(s2:(List Int))(s3:Int)(s4:Int):l3 S (n+1) kx kr s0 s1 s2 s3 s4=b3 S (l3 S n kx kr) kx kr s0 s1 s2 s3 s4:=by kernel_rfl
noncomputable def G {β:Type}(S:Sl)(a0:Int)(a1:(List Int))(K:(List (List Int))→Option β):Option β:=bif((S.le 0 0)&&(S.le 0 (a1.length:Int))&&S.fw (Int.toNat (a1.length:Int)))then(l3 S S.n (fun y1=>K y1) none (List.replicate (Int.toNat 0) ((List.replicate 4 0):(List Int))) a0 a1 (a1.length:Int) 0)else(none)
noncomputable def o:Orac:=⟨101,sin,sout,fun s K=>G sl0 s.2.1 s.2.2.1 (fun x0=>K ((x0,()),()))⟩
noncomputable def C:Ctx:=⟨tyT,[impl_rowOf.o],[⟨3,0,h3,x3,y3,fun s kx kr=>r3 sl0 sl0.n kx kr s⟩],25,0⟩
theorem ctx:CtxOk Try.prog C:=⟨tyOk,all1 impl_rowOf.ok (all0)⟩
theorem e3 (β:Type)(L:h3.sig.den→Option β)(kx:x3.sig.den→Option β)(kr:y3.sig.den→Option β)(s:h3.sig.den):evalBody C (nthC (loopsOf (bodyC Try.f101)) 0) 0 h3 x3 y3 L kx kr s=b3 sl0 (fun x0 x1 x2 x3 x4=>L ((x0,()),(x1,(x2,(x3,(x4,())))))) (fun x0=>kx ((x0,()),())) (kr ((),())) s.1.1 s.2.1 s.2.2.1 s.2.2.2.1 s.2.2.2.2.1:=by kernel_rfl
theorem g3:LS Try.prog C ⟨3,0,h3,x3,y3,fun s kx kr=>r3 sl0 sl0.n kx kr s⟩ (loopsOf (bodyC Try.f101)):=LS.at (i:=0) (by kernel_rfl) (loop_good mixed ctx (ctx_nat ctx) (N:=sl0.n) (fun _ _ _ _=>rfl) e3 (all1 (LS.none (by kernel_rfl)) (all0)))
theorem eG (β:Type)(s:sin.den)(K:sout.den→Option β):evalFn C Try.f101 sin sout s K=o.F s K:=by kernel_rfl
theorem ok:OracOk Try.prog o:=fn_ok mixed Try.func101 (by kernel_rfl) ctx (c:=bodyC Try.f101) (by kernel_rfl) (all1 g3 (all0)) (by kernel_rfl) (by kernel_rfl) (by kernel_rfl) (Nat.le_of_ble_eq_true (by kernel_rfl)) eG (by kernel_rfl) (Nat.le_of_ble_eq_true (by kernel_rfl))
end impl_rowsOf
namespace impl_bears
def sin:Sig:=⟨[],[.one (.val I false),.one (.val (.sl I) false)]⟩
def sout:Sig:=⟨[],[.one (.val .bool false)]⟩
noncomputable def G {β:Type}(S:Sl)(a0:Int)(a1:(List Int))(K:Bool→Option β):Option β:=impl_rowsOf.G S a0 a1 (fun y1=>impl_rank.G S y1 (fun y2=>K (S.eq y2 4)))
noncomputable def o:Orac:=⟨72,sin,sout,fun s K=>G sl0 s.2.1 s.2.2.1 (fun x0=>K ((),(x0,())))⟩
noncomputable def C:Ctx:=⟨tyT,[impl_rank.o,impl_rowsOf.o],[],10,0⟩
theorem ctx:CtxOk Try.prog C:=⟨tyOk,all1 impl_rank.ok (all1 impl_rowsOf.ok (all0))⟩
theorem eG (β:Type)(s:sin.den)(K:sout.den→Option β):evalFn C Try.f72 sin sout s K=o.F s K:=by kernel_rfl
theorem ok:OracOk Try.prog o:=fn_ok mixed Try.func72 (by kernel_rfl) ctx (c:=bodyC Try.f72) (by kernel_rfl) (all0) (by kernel_rfl) (by kernel_rfl) (by kernel_rfl) (Nat.le_of_ble_eq_true (by kernel_rfl)) eG (by kernel_rfl) (Nat.le_of_ble_eq_true (by kernel_rfl))
end impl_bears
namespace impl_flagged
def sin:Sig:=⟨[],[.one (.val (.sl .bool) false)]⟩
def sout:Sig:=⟨[.buf I false],[.one (.ref (.own 0))]⟩
def h3:SS:=⟨[3,7,8,9],⟨[.buf I false],[.one (.ref (.own 0)),.one (.val (.sl .bool) false),.one (.val I false),.one (.val I false)]⟩⟩
def x3:SS:=⟨[3],⟨[.buf I false],[.one (.ref (.own 0))]⟩⟩
def y3:SS:=⟨[],⟨[],[]⟩⟩
noncomputable def b3 {β:Type}(S:Sl)(L:(List Int)→(List Bool)→Int→Int→Option β)(kx:(List Int)→Option β)(kr:Option β)(s0:(List Int))(s1:(List Bool))(s2:Int)(s3:Int):Option β:=bif(S.lt s3 s2)then(bif(S.ir s3 s1.length)then(bif(List.getD s1 (Int.toNat s3) false)then(bif(S.fw (s0 ++ [s3]).length)then(L (s0 ++ [s3]) s1 s2 (S.w (s3+1)))else(none))else(L s0 s1 s2 (S.w (s3+1))))else(none))else(kx s0)
noncomputable def r3 {β:Type}(S:Sl)(n:Nat)(kx:x3.sig.den→Option β)(kr:y3.sig.den→Option β)(s:h3.sig.den):Option β:=rounds (fun L kx kr s=>b3 S (fun x0 x1 x2 x3=>L ((x0,()),(x1,(x2,(x3,()))))) (fun x0=>kx ((x0,()),())) (kr ((),())) s.1.1 s.2.1 s.2.2.1 s.2.2.2.1) kx kr n s
noncomputable def l3 {β:Type}(S:Sl)(n:Nat)(kx:(List Int)→Option β)(kr:Option β)(s0:(List Int))(s1:(List Bool))(s2:Int)(s3:Int):Option β:=r3 S n (fun s=>kx s.1.1) (fun s=>kr) ((s0,()),(s1,(s2,(s3,()))))
theorem t3 {β:Type}(S:Sl)(n:Nat)(kx:(List Int)→Option β)(kr:Option β)(s0:(List Int))(s1:(List Bool))(s2:Int)(s3:Int):l3 S (n+1) kx kr s0 s1 s2 s3=b3 S (l3 S n kx kr) kx kr s0 s1 s2 s3:=by kernel_rfl
noncomputable def G {β:Type}(S:Sl)(a0:(List Bool))(K:(List Int)→Option β):Option β:=bif((S.le 0 0)&&(S.le 0 8)&&S.fw (Int.toNat 8))then(l3 S S.n (fun y1=>K y1) none (List.replicate (Int.toNat 0) (0:Int)) a0 (a0.length:Int) 0)else(none)
noncomputable def o:Orac:=⟨73,sin,sout,fun s K=>G sl0 s.2.1 (fun x0=>K ((x0,()),()))⟩
noncomputable def C:Ctx:=⟨tyT,[],[⟨3,0,h3,x3,y3,fun s kx kr=>r3 sl0 sl0.n kx kr s⟩],21,0⟩
theorem ctx:CtxOk Try.prog C:=⟨tyOk,all0⟩
theorem e3 (β:Type)(L:h3.sig.den→Option β)(kx:x3.sig.den→Option β)(kr:y3.sig.den→Option β)(s:h3.sig.den):evalBody C (nthC (loopsOf (bodyC Try.f73)) 0) 0 h3 x3 y3 L kx kr s=b3 sl0 (fun x0 x1 x2 x3=>L ((x0,()),(x1,(x2,(x3,()))))) (fun x0=>kx ((x0,()),())) (kr ((),())) s.1.1 s.2.1 s.2.2.1 s.2.2.2.1:=by kernel_rfl
theorem g3:LS Try.prog C ⟨3,0,h3,x3,y3,fun s kx kr=>r3 sl0 sl0.n kx kr s⟩ (loopsOf (bodyC Try.f73)):=LS.at (i:=0) (by kernel_rfl) (loop_good mixed ctx (ctx_nat ctx) (N:=sl0.n) (fun _ _ _ _=>rfl) e3 (all1 (LS.none (by kernel_rfl)) (all0)))
theorem eG (β:Type)(s:sin.den)(K:sout.den→Option β):evalFn C Try.f73 sin sout s K=o.F s K:=by kernel_rfl
theorem ok:OracOk Try.prog o:=fn_ok mixed Try.func73 (by kernel_rfl) ctx (c:=bodyC Try.f73) (by kernel_rfl) (all1 g3 (all0)) (by kernel_rfl) (by kernel_rfl) (by kernel_rfl) (Nat.le_of_ble_eq_true (by kernel_rfl)) eG (by kernel_rfl) (Nat.le_of_ble_eq_true (by kernel_rfl))
end impl_flagged
namespace impl_within
def sin:Sig:=⟨[],[.one (.val I false),.one (.val I false),.one (.val I false)]⟩
def sout:Sig:=⟨[],[.one (.val .bool false)]⟩
noncomputable def G {β:Type}(S:Sl)(a0:Int)(a1:Int)(a2:Int)(K:Bool→Option β):Option β:=bif(S.le a1 a0)then(K (S.le a0 a2))else(K false)
noncomputable def o:Orac:=⟨38,sin,sout,fun s K=>G sl0 s.2.1 s.2.2.1 s.2.2.2.1 (fun x0=>K ((),(x0,())))⟩
noncomputable def C:Ctx:=⟨tyT,[],[],15,0⟩
theorem ctx:CtxOk Try.prog C:=⟨tyOk,all0⟩
theorem eG (β:Type)(s:sin.den)(K:sout.den→Option β):evalFn C Try.f38 sin sout s K=o.F s K:=by kernel_rfl
theorem ok:OracOk Try.prog o:=fn_ok mixed Try.func38 (by kernel_rfl) ctx (c:=bodyC Try.f38) (by kernel_rfl) (all0) (by kernel_rfl) (by kernel_rfl) (by kernel_rfl) (Nat.le_of_ble_eq_true (by kernel_rfl)) eG (by kernel_rfl) (Nat.le_of_ble_eq_true (by kernel_rfl))
end impl_within
namespace impl_kindOk
def sin:Sig:=⟨[],[.one (.val I false)]⟩
def sout:Sig:=⟨[],[.one (.val .bool false)]⟩
noncomputable def G {β:Type}(S:Sl)(a0:Int)(K:Bool→Option β):Option β:=impl_within.G S a0 1 2 (fun y1=>K y1)
noncomputable def o:Orac:=⟨71,sin,sout,fun s K=>G sl0 s.2.1 (fun x0=>K ((),(x0,())))⟩
noncomputable def C:Ctx:=⟨tyT,[impl_within.o],[],5,0⟩
theorem ctx:CtxOk Try.prog C:=⟨tyOk,all1 impl_within.ok (all0)⟩
theorem eG (β:Type)(s:sin.den)(K:sout.den→Option β):evalFn C Try.f71 sin sout s K=o.F s K:=by kernel_rfl
theorem ok:OracOk Try.prog o:=fn_ok mixed Try.func71 (by kernel_rfl) ctx (c:=bodyC Try.f71) (by kernel_rfl) (all0) (by kernel_rfl) (by kernel_rfl) (by kernel_rfl) (Nat.le_of_ble_eq_true (by kernel_rfl)) eG (by kernel_rfl) (Nat.le_of_ble_eq_true (by kernel_rfl))
end impl_kindOk
namespace impl_CodeBears
def sin:Sig:=⟨[],[.one (.val I false),.one (.val (.sl .bool) false)]⟩
def sout:Sig:=⟨[],[.one (.val .bool false)]⟩
noncomputable def G {β:Type}(S:Sl)(a0:Int)(a1:(List Bool))(K:Bool→Option β):Option β:=impl_kindOk.G S a0 (fun y1=>bif y1 then(bif(S.eq (a1.length:Int) 8)then(impl_flagged.G S a1 (fun y2=>impl_bears.G S a0 y2 (fun y3=>K y3)))else(K false))else(K false))
noncomputable def o:Orac:=⟨29,sin,sout,fun s K=>G sl0 s.2.1 s.2.2.1 (fun x0=>K ((),(x0,())))⟩
noncomputable def C:Ctx:=⟨tyT,[impl_bears.o,impl_flagged.o,impl_kindOk.o],[],18,0⟩
theorem ctx:CtxOk Try.prog C:=⟨tyOk,all1 impl_bears.ok (all1 impl_flagged.ok (all1 impl_kindOk.ok (all0)))⟩
theorem eG (β:Type)(s:sin.den)(K:sout.den→Option β):evalFn C Try.f29 sin sout s K=o.F s K:=by kernel_rfl
theorem ok:OracOk Try.prog o:=fn_ok mixed Try.func29 (by kernel_rfl) ctx (c:=bodyC Try.f29) (by kernel_rfl) (all0) (by kernel_rfl) (by kernel_rfl) (by kernel_rfl) (Nat.le_of_ble_eq_true (by kernel_rfl)) eG (by kernel_rfl) (Nat.le_of_ble_eq_true (by kernel_rfl))
end impl_CodeBears
namespace impl_House_valid
def sin:Sig:=⟨[],[.agg [.val I false,.val I false,.val I false]]⟩
def sout:Sig:=⟨[],[.one (.val .bool false)]⟩
noncomputable def G {β:Type}(S:Sl)(a0:Int)(a1:Int)(a2:Int)(K:Bool→Option β):Option β:=impl_within.G S a0 1 12 (fun y1=>bif y1 then(impl_within.G S a1 1 4 (fun y2=>bif y2 then(impl_within.G S a2 1 9 (fun y3=>K y3))else(K false)))else(K false))
noncomputable def o:Orac:=⟨88,sin,sout,fun s K=>G sl0 s.2.1.1 s.2.1.2.1 s.2.1.2.2.1 (fun x0=>K ((),(x0,())))⟩
noncomputable def C:Ctx:=⟨tyT,[impl_within.o],[],16,0⟩
theorem ctx:CtxOk Try.prog C:=⟨tyOk,all1 impl_within.ok (all0)⟩
theorem eG (β:Type)(s:sin.den)(K:sout.den→Option β):evalFn C Try.f88 sin sout s K=o.F s K:=by kernel_rfl
theorem ok:OracOk Try.prog o:=fn_ok mixed Try.func88 (by kernel_rfl) ctx (c:=bodyC Try.f88) (by kernel_rfl) (all0) (by kernel_rfl) (by kernel_rfl) (by kernel_rfl) (Nat.le_of_ble_eq_true (by kernel_rfl)) eG (by kernel_rfl) (Nat.le_of_ble_eq_true (by kernel_rfl))
end impl_House_valid
namespace impl_HousesOk
def sin:Sig:=⟨[],[.one (.val (.sl (.pair I (.pair I (.pair I .unit)))) false)]⟩
def sout:Sig:=⟨[],[.one (.val .bool false)]⟩
def h2:SS:=⟨[0,5,6,7],⟨[],[.one (.val (.sl (.pair I (.pair I (.pair I .unit)))) false),.one (.val (.sl (.pair I (.pair I (.pair I .unit)))) false),.one (.val I false),.one (.val I false)]⟩⟩
def x2:SS:=⟨[],⟨[],[]⟩⟩
def y2:SS:=⟨[2],⟨[],[.one (.val .bool false)]⟩⟩
noncomputable def b2 {β:Type}(S:Sl)(L:(List (Int×(Int×(Int×Unit))))→(List (Int×(Int×(Int×Unit))))→Int→Int→Option β)(kx:Option β)(kr:Bool→Option β)(s0:(List (Int×(Int×(Int×Unit)))))(s1:(List (Int×(Int×(Int×Unit)))))(s2:Int)(s3:Int):Option β:=bif(S.lt s3 s2)then(bif(S.ir s3 s1.length)then(impl_House_valid.G S ((List.getD s1 (Int.toNat s3) (0,(0,(0,())))).1) ((List.getD s1 (Int.toNat s3) (0,(0,(0,())))).2.1) ((List.getD s1 (Int.toNat s3) (0,(0,(0,())))).2.2.1) (fun y1=>bif(!y1)then(kr false)else(bif(S.lt 0 s3)then(bif(S.ir (S.w (s3-1)) s0.length)then(bif(S.le ((List.getD s1 (Int.toNat s3) (0,(0,(0,())))).1) ((List.getD s0 (Int.toNat (S.w (s3-1))) (0,(0,(0,())))).1))then(kr false)else(L s0 s1 s2 (S.w (s3+1))))else(none))else(L s0 s1 s2 (S.w (s3+1))))))else(none))else(kx)
noncomputable def r2 {β:Type}(S:Sl)(n:Nat)(kx:x2.sig.den→Option β)(kr:y2.sig.den→Option β)(s:h2.sig.den):Option β:=rounds (fun L kx kr s=>b2 S (fun x0 x1 x2 x3=>L ((),(x0,(x1,(x2,(x3,())))))) (kx ((),())) (fun x0=>kr ((),(x0,()))) s.2.1 s.2.2.1 s.2.2.2.1 s.2.2.2.2.1) kx kr n s
noncomputable def l2 {β:Type}(S:Sl)(n:Nat)(kx:Option β)(kr:Bool→Option β)(s0:(List (Int×(Int×(Int×Unit)))))(s1:(List (Int×(Int×(Int×Unit)))))(s2:Int)(s3:Int):Option β:=r2 S n (fun s=>kx) (fun s=>kr s.2.1) ((),(s0,(s1,(s2,(s3,())))))
theorem t2 {β:Type}(S:Sl)(n:Nat)(kx:Option β)(kr:Bool→Option β)(s0:(List (Int×(Int×(Int×Unit)))))(s1:(List (Int×(Int×(Int×Unit)))))(s2:Int)(s3:Int):l2 S (n+1) kx kr s0 s1 s2 s3=b2 S (l2 S n kx kr) kx kr s0 s1 s2 s3:=by kernel_rfl
noncomputable def G {β:Type}(S:Sl)(a0:(List (Int×(Int×(Int×Unit)))))(K:Bool→Option β):Option β:=l2 S S.n (K true) (fun y1=>K y1) a0 a0 (a0.length:Int) 0
noncomputable def o:Orac:=⟨60,sin,sout,fun s K=>G sl0 s.2.1 (fun x0=>K ((),(x0,())))⟩
noncomputable def C:Ctx:=⟨tyT,[impl_House_valid.o],[⟨2,0,h2,x2,y2,fun s kx kr=>r2 sl0 sl0.n kx kr s⟩],31,0⟩
theorem ctx:CtxOk Try.prog C:=⟨tyOk,all1 impl_House_valid.ok (all0)⟩
theorem e2 (β:Type)(L:h2.sig.den→Option β)(kx:x2.sig.den→Option β)(kr:y2.sig.den→Option β)(s:h2.sig.den):evalBody C (nthC (loopsOf (bodyC Try.f60)) 0) 0 h2 x2 y2 L kx kr s=b2 sl0 (fun x0 x1 x2 x3=>L ((),(x0,(x1,(x2,(x3,())))))) (kx ((),())) (fun x0=>kr ((),(x0,()))) s.2.1 s.2.2.1 s.2.2.2.1 s.2.2.2.2.1:=by kernel_rfl
theorem g2:LS Try.prog C ⟨2,0,h2,x2,y2,fun s kx kr=>r2 sl0 sl0.n kx kr s⟩ (loopsOf (bodyC Try.f60)):=LS.at (i:=0) (by kernel_rfl) (loop_good mixed ctx (ctx_nat ctx) (N:=sl0.n) (fun _ _ _ _=>rfl) e2 (all1 (LS.none (by kernel_rfl)) (all0)))
theorem eG (β:Type)(s:sin.den)(K:sout.den→Option β):evalFn C Try.f60 sin sout s K=o.F s K:=by kernel_rfl
theorem ok:OracOk Try.prog o:=fn_ok mixed Try.func60 (by kernel_rfl) ctx (c:=bodyC Try.f60) (by kernel_rfl) (all1 g2 (all0)) (by kernel_rfl) (by kernel_rfl) (by kernel_rfl) (Nat.le_of_ble_eq_true (by kernel_rfl)) eG (by kernel_rfl) (Nat.le_of_ble_eq_true (by kernel_rfl))
end impl_HousesOk
namespace impl_nameOk
def sin:Sig:=⟨[],[.one (.val I false)]⟩
def sout:Sig:=⟨[],[.one (.val .bool false)]⟩
noncomputable def G {β:Type}(S:Sl)(a0:Int)(K:Bool→Option β):Option β:=impl_within.G S a0 0 99 (fun y1=>K y1)
noncomputable def o:Orac:=⟨59,sin,sout,fun s K=>G sl0 s.2.1 (fun x0=>K ((),(x0,())))⟩
noncomputable def C:Ctx:=⟨tyT,[impl_within.o],[],5,0⟩
theorem ctx:CtxOk Try.prog C:=⟨tyOk,all1 impl_within.ok (all0)⟩
theorem eG (β:Type)(s:sin.den)(K:sout.den→Option β):evalFn C Try.f59 sin sout s K=o.F s K:=by kernel_rfl
theorem ok:OracOk Try.prog o:=fn_ok mixed Try.func59 (by kernel_rfl) ctx (c:=bodyC Try.f59) (by kernel_rfl) (all0) (by kernel_rfl) (by kernel_rfl) (by kernel_rfl) (Nat.le_of_ble_eq_true (by kernel_rfl)) eG (by kernel_rfl) (Nat.le_of_ble_eq_true (by kernel_rfl))
end impl_nameOk
namespace slices_Clone_Simpl_House_impl_House
def sin:Sig:=⟨[],[.one (.val (.sl (.pair I (.pair I (.pair I .unit)))) false)]⟩
def sout:Sig:=⟨[.buf (.pair I (.pair I (.pair I .unit))) false],[.one (.ref (.own 0))]⟩
noncomputable def G {β:Type}(S:Sl)(a0:(List (Int×(Int×(Int×Unit)))))(K:(List (Int×(Int×(Int×Unit))))→Option β):Option β:=bif S.fw a0.length then K a0 else none
noncomputable def o:Orac:=⟨64,sin,sout,fun s K=>G sl0 s.2.1 (fun x=>K ((x,()),()))⟩
noncomputable def C:Ctx:=⟨tyT,[],[],8,0⟩
theorem ctx:CtxOk Try.prog C:=⟨tyOk,all0⟩
theorem h1 (l:List (Ty.den (.pair I (.pair I (.pair I .unit))))):evalFnV C Try.f64 sin sout ((),(l,())) [.one (.rk (.pair I (.pair I (.pair I .unit))) false l)] some=bif fewer l.length then some ((l,()),())else none:=by kernel_rfl
theorem h2:evalFnV C Try.f64 sin sout ((),(([]:List (Ty.den (.pair I (.pair I (.pair I .unit))))),())) [.one (.rk (.pair I (.pair I (.pair I .unit))) true [])] some=some ((([]:List (Ty.den (.pair I (.pair I (.pair I .unit))))),()),()):=by kernel_rfl
theorem ok:OracOk Try.prog o:=clone_ok (t:=(.pair I (.pair I (.pair I .unit)))) mixed Try.func64 (by kernel_rfl) ctx (c:=bodyC Try.f64) (by kernel_rfl) (all0) (by kernel_rfl) (by kernel_rfl) (by kernel_rfl) (Nat.le_of_ble_eq_true (by kernel_rfl)) h1 h2
end slices_Clone_Simpl_House_impl_House
namespace math_bits_Len
def sin:Sig:=⟨[],[.one (.val (.int .u64) false)]⟩
def sout:Sig:=⟨[],[.one (.val I false)]⟩
def ren:Go.Shelf.Ren:=⟨fun | 125=>109 | 128=>124 | 129=>125 | n=>n,fun | 3=>3 | 4=>4 | 5=>5 | 9=>9 | 46=>122 | 51=>142 | 53=>144 | n=>n,fun n=>n⟩
theorem lays:Go.Proofs.Lays.n125 Try.prog ren where
 mixed:=by kernel_rfl
 f125:=Try.func109.trans (congrArg some (by kernel_rfl))
 f128:=Try.func124.trans (congrArg some (by kernel_rfl))
 f129:=Try.func125.trans (congrArg some (by kernel_rfl))
 t3:=Try.underlying3
 a3:=Try.isAgg3
 z3:=Try.sizeOf3
 v3:=Try.zeroValue3
 t4:=Try.underlying4
 a4:=Try.isAgg4
 z4:=Try.sizeOf4
 v4:=Try.zeroValue4
 t5:=Try.underlying5
 a5:=Try.isAgg5
 z5:=Try.sizeOf5
 v5:=Try.zeroValue5
 t9:=Try.underlying9
 a9:=Try.isAgg9
 z9:=Try.sizeOf9
 v9:=Try.zeroValue9
 t46:=Try.underlying122
 a46:=Try.isAgg122
 z46:=Try.sizeOf122
 v46:=Try.zeroValue122
 t51:=Try.underlying142
 a51:=Try.isAgg142
 z51:=Try.sizeOf142
 v51:=Try.zeroValue142
 t53:=Try.underlying144
 a53:=Try.isAgg144
 z53:=Try.sizeOf144
 v53:=Try.zeroValue144
def ask (x:Int)(S:Sl):Bool:=S.le 0 x&&S.le x 18446744073709551615
def blen (x:Int):Int:=(Lib.bitLen x.toNat:Int)
noncomputable def G {β:Type}(S:Sl)(a0:Int)(K:Int→Option β):Option β:=bif ask a0 S then K (blen a0)else none
noncomputable def o:Orac:=⟨109,sin,sout,fun s K=>G sl0 s.2.1 (fun x=>K ((),(x,())))⟩
theorem ok:OracOk Try.prog o:=pure1_ok Try.func109 (by kernel_rfl) (by kernel_rfl) (ask:=fun x=>ask x sl0) (F:=blen) (fun x w h=>by
 have h:(ile 0 x&&ile x 18446744073709551615)=true:=h
 rw [ile_eq,ile_eq,Bool.and_eq_true,decide_eq_true_eq,decide_eq_true_eq] at h
 exact Any.bits_Len lays x w h.1 h.2)
end math_bits_Len
namespace cmp_isNaN_int
def sin:Sig:=⟨[],[.one (.val I false)]⟩
def sout:Sig:=⟨[],[.one (.val .bool false)]⟩
noncomputable def G {β:Type}(S:Sl)(a0:Int)(K:Bool→Option β):Option β:=K (!S.eq a0 a0)
noncomputable def o:Orac:=⟨110,sin,sout,fun s K=>G sl0 s.2.1 (fun x0=>K ((),(x0,())))⟩
noncomputable def C:Ctx:=⟨tyT,[],[],6,0⟩
theorem ctx:CtxOk Try.prog C:=⟨tyOk,all0⟩
theorem eG (β:Type)(s:sin.den)(K:sout.den→Option β):evalFn C Try.f110 sin sout s K=o.F s K:=by kernel_rfl
theorem ok:OracOk Try.prog o:=fn_ok mixed Try.func110 (by kernel_rfl) ctx (c:=bodyC Try.f110) (by kernel_rfl) (all0) (by kernel_rfl) (by kernel_rfl) (by kernel_rfl) (Nat.le_of_ble_eq_true (by kernel_rfl)) eG (by kernel_rfl) (Nat.le_of_ble_eq_true (by kernel_rfl))
end cmp_isNaN_int
namespace cmp_Compare_int
def sin:Sig:=⟨[],[.one (.val I false),.one (.val I false)]⟩
def sout:Sig:=⟨[],[.one (.val I false)]⟩
noncomputable def G {β:Type}(S:Sl)(a0:Int)(a1:Int)(K:Int→Option β):Option β:=cmp_isNaN_int.G S a0 (fun y1=>cmp_isNaN_int.G S a1 (fun y2=>bif y1 then(bif y2 then(K 0)else(K (-1)))else(bif y2 then(K 1)else(bif(S.lt a0 a1)then(K (-1))else(bif(S.lt a1 a0)then(K 1)else(K 0))))))
noncomputable def o:Orac:=⟨92,sin,sout,fun s K=>G sl0 s.2.1 s.2.2.1 (fun x0=>K ((),(x0,())))⟩
noncomputable def C:Ctx:=⟨tyT,[cmp_isNaN_int.o],[],20,0⟩
theorem ctx:CtxOk Try.prog C:=⟨tyOk,all1 cmp_isNaN_int.ok (all0)⟩
theorem eG (β:Type)(s:sin.den)(K:sout.den→Option β):evalFn C Try.f92 sin sout s K=o.F s K:=by kernel_rfl
theorem ok:OracOk Try.prog o:=fn_ok mixed Try.func92 (by kernel_rfl) ctx (c:=bodyC Try.f92) (by kernel_rfl) (all0) (by kernel_rfl) (by kernel_rfl) (by kernel_rfl) (Nat.le_of_ble_eq_true (by kernel_rfl)) eG (by kernel_rfl) (Nat.le_of_ble_eq_true (by kernel_rfl))
end cmp_Compare_int
namespace cmp_Or_int
def sin:Sig:=⟨[],[.one (.val (.sl I) false)]⟩
def sout:Sig:=⟨[],[.one (.val I false)]⟩
def h3:SS:=⟨[3,6,7,8],⟨[],[.one (.val I false),.one (.val (.sl I) false),.one (.val I false),.one (.val I false)]⟩⟩
def x3:SS:=⟨[3],⟨[],[.one (.val I false)]⟩⟩
def y3:SS:=⟨[2],⟨[],[.one (.val I false)]⟩⟩
noncomputable def b3 {β:Type}(S:Sl)(L:Int→(List Int)→Int→Int→Option β)(kx:Int→Option β)(kr:Int→Option β)(s0:Int)(s1:(List Int))(s2:Int)(s3:Int):Option β:=bif(S.lt s3 s2)then(bif(S.ir s3 s1.length)then(bif(!S.eq (List.getD s1 (Int.toNat s3) 0) s0)then(kr (List.getD s1 (Int.toNat s3) 0))else(L s0 s1 s2 (S.w (s3+1))))else(none))else(kx s0)
noncomputable def r3 {β:Type}(S:Sl)(n:Nat)(kx:x3.sig.den→Option β)(kr:y3.sig.den→Option β)(s:h3.sig.den):Option β:=rounds (fun L kx kr s=>b3 S (fun x0 x1 x2 x3=>L ((),(x0,(x1,(x2,(x3,())))))) (fun x0=>kx ((),(x0,()))) (fun x0=>kr ((),(x0,()))) s.2.1 s.2.2.1 s.2.2.2.1 s.2.2.2.2.1) kx kr n s
noncomputable def l3 {β:Type}(S:Sl)(n:Nat)(kx:Int→Option β)(kr:Int→Option β)(s0:Int)(s1:(List Int))(s2:Int)(s3:Int):Option β:=r3 S n (fun s=>kx s.2.1) (fun s=>kr s.2.1) ((),(s0,(s1,(s2,(s3,())))))
theorem t3 {β:Type}(S:Sl)(n:Nat)(kx:Int→Option β)(kr:Int→Option β)(s0:Int)(s1:(List Int))(s2:Int)(s3:Int):l3 S (n+1) kx kr s0 s1 s2 s3=b3 S (l3 S n kx kr) kx kr s0 s1 s2 s3:=by kernel_rfl
noncomputable def G {β:Type}(S:Sl)(a0:(List Int))(K:Int→Option β):Option β:=l3 S S.n (fun y1=>K y1) (fun y2=>K y2) 0 a0 (a0.length:Int) 0
noncomputable def o:Orac:=⟨91,sin,sout,fun s K=>G sl0 s.2.1 (fun x0=>K ((),(x0,())))⟩
noncomputable def C:Ctx:=⟨tyT,[],[⟨3,0,h3,x3,y3,fun s kx kr=>r3 sl0 sl0.n kx kr s⟩],18,0⟩
theorem ctx:CtxOk Try.prog C:=⟨tyOk,all0⟩
theorem e3 (β:Type)(L:h3.sig.den→Option β)(kx:x3.sig.den→Option β)(kr:y3.sig.den→Option β)(s:h3.sig.den):evalBody C (nthC (loopsOf (bodyC Try.f91)) 0) 0 h3 x3 y3 L kx kr s=b3 sl0 (fun x0 x1 x2 x3=>L ((),(x0,(x1,(x2,(x3,())))))) (fun x0=>kx ((),(x0,()))) (fun x0=>kr ((),(x0,()))) s.2.1 s.2.2.1 s.2.2.2.1 s.2.2.2.2.1:=by kernel_rfl
theorem g3:LS Try.prog C ⟨3,0,h3,x3,y3,fun s kx kr=>r3 sl0 sl0.n kx kr s⟩ (loopsOf (bodyC Try.f91)):=LS.at (i:=0) (by kernel_rfl) (loop_good mixed ctx (ctx_nat ctx) (N:=sl0.n) (fun _ _ _ _=>rfl) e3 (all1 (LS.none (by kernel_rfl)) (all0)))
theorem eG (β:Type)(s:sin.den)(K:sout.den→Option β):evalFn C Try.f91 sin sout s K=o.F s K:=by kernel_rfl
theorem ok:OracOk Try.prog o:=fn_ok mixed Try.func91 (by kernel_rfl) ctx (c:=bodyC Try.f91) (by kernel_rfl) (all1 g3 (all0)) (by kernel_rfl) (by kernel_rfl) (by kernel_rfl) (Nat.le_of_ble_eq_true (by kernel_rfl)) eG (by kernel_rfl) (Nat.le_of_ble_eq_true (by kernel_rfl))
end cmp_Or_int
namespace impl_House_score
def sin:Sig:=⟨[],[.agg [.val I false,.val I false,.val I false],.one (.val I false)]⟩
def sout:Sig:=⟨[],[.one (.val I false)]⟩
noncomputable def G {β:Type}(S:Sl)(a0:Int)(a1:Int)(a2:Int)(a3:Int)(K:Int→Option β):Option β:=K (S.w ((Int.tmod (S.w ((S.w ((S.w ((S.w ((37:Int)*a3))+(S.w ((61:Int)*a0))))+(S.w ((S.w ((13:Int)*a3))*a0))))+7)) 101)*a2))
noncomputable def o:Orac:=⟨93,sin,sout,fun s K=>G sl0 s.2.1.1 s.2.1.2.1 s.2.1.2.2.1 s.2.2.1 (fun x0=>K ((),(x0,())))⟩
noncomputable def C:Ctx:=⟨tyT,[],[],22,0⟩
theorem ctx:CtxOk Try.prog C:=⟨tyOk,all0⟩
theorem eG (β:Type)(s:sin.den)(K:sout.den→Option β):evalFn C Try.f93 sin sout s K=o.F s K:=by kernel_rfl
theorem ok:OracOk Try.prog o:=fn_ok mixed Try.func93 (by kernel_rfl) ctx (c:=bodyC Try.f93) (by kernel_rfl) (all0) (by kernel_rfl) (by kernel_rfl) (by kernel_rfl) (Nat.le_of_ble_eq_true (by kernel_rfl)) eG (by kernel_rfl) (Nat.le_of_ble_eq_true (by kernel_rfl))
end impl_House_score
namespace impl_ranks_1
def sin:Sig:=⟨[.box [.val I false]],[.agg [.val I false,.val I false,.val I false],.agg [.val I false,.val I false,.val I false],.one (.ref (.ptr 0))]⟩
def sout:Sig:=⟨[.box [.val I false]],[.one (.val I false)]⟩
noncomputable def G {β:Type}(S:Sl)(a0:Int)(a1:Int)(a2:Int)(a3:Int)(a4:Int)(a5:Int)(a6:Int)(K:Int→Int→Option β):Option β:=impl_House_score.G S a4 a5 a6 a0 (fun y1=>impl_House_score.G S a1 a2 a3 a0 (fun y2=>cmp_Compare_int.G S y1 y2 (fun y3=>cmp_Compare_int.G S a1 a4 (fun y4=>cmp_Or_int.G S [y3,y4] (fun y5=>K a0 y5)))))
noncomputable def o:Orac:=⟨90,sin,sout,fun s K=>G sl0 s.1.1.1 s.2.1.1 s.2.1.2.1 s.2.1.2.2.1 s.2.2.1.1 s.2.2.1.2.1 s.2.2.1.2.2.1 (fun x0 x1=>K (((x0,()),()),(x1,())))⟩
noncomputable def C:Ctx:=⟨tyT,[cmp_Compare_int.o,cmp_Or_int.o,impl_House_score.o],[],20,1⟩
theorem ctx:CtxOk Try.prog C:=⟨tyOk,all1 cmp_Compare_int.ok (all1 cmp_Or_int.ok (all1 impl_House_score.ok (all0)))⟩
theorem eG (β:Type)(s:sin.den)(K:sout.den→Option β):evalFn C Try.f90 sin sout s K=o.F s K:=by kernel_rfl
theorem ok:OracOk Try.prog o:=fn_ok mixed Try.func90 (by kernel_rfl) ctx (c:=bodyC Try.f90) (by kernel_rfl) (all0) (by kernel_rfl) (by kernel_rfl) (by kernel_rfl) (Nat.le_of_ble_eq_true (by kernel_rfl)) eG (by kernel_rfl) (Nat.le_of_ble_eq_true (by kernel_rfl))
end impl_ranks_1
namespace slices_breakPatternsCmpFunc_impl_House
def sin:Sig:=⟨[.buf (.pair I (.pair I (.pair I .unit))) false,.box [.val I false]],[.one (.ref (.own 0)),.one (.val I false),.one (.val I false),.one (.ref (.fn 90 [1]))]⟩
def sout:Sig:=⟨[.buf (.pair I (.pair I (.pair I .unit))) false,.box [.val I false]],[]⟩
noncomputable def G {β:Type}(S:Sl)(a0:(List (Int×(Int×(Int×Unit)))))(a1:Int)(a2:Int)(a3:Int)(K:(List (Int×(Int×(Int×Unit))))→Int→Option β):Option β:=bif(S.le 8 (S.w (a3-a2)))then(none)else(K a0 a1)
noncomputable def o:Orac:=⟨118,sin,sout,fun s K=>G sl0 s.1.1 s.1.2.1.1 s.2.1 s.2.2.1 (fun x0 x1=>K ((x0,((x1,()),())),()))⟩
noncomputable def C:Ctx:=⟨tyT,[],[],67,2⟩
theorem ctx:CtxOk Try.prog C:=⟨tyOk,all0⟩
theorem eG (β:Type)(s:sin.den)(K:sout.den→Option β):evalFn C Try.f118 sin sout s K=o.F s K:=by kernel_rfl
theorem ok:OracOk Try.prog o:=fn_ok mixed Try.func118 (by kernel_rfl) ctx (c:=bodyC Try.f118) (by kernel_rfl) (all0) (by kernel_rfl) (by kernel_rfl) (by kernel_rfl) (Nat.le_of_ble_eq_true (by kernel_rfl)) eG (by kernel_rfl) (Nat.le_of_ble_eq_true (by kernel_rfl))
end slices_breakPatternsCmpFunc_impl_House
namespace slices_order2CmpFunc_impl_House
def sin:Sig:=⟨[.buf (.pair I (.pair I (.pair I .unit))) false,.box [.val I false],.box [.val I false]],[.one (.ref (.own 0)),.one (.val I false),.one (.val I false),.one (.ref (.ptr 1)),.one (.ref (.fn 90 [2]))]⟩
def sout:Sig:=⟨[.buf (.pair I (.pair I (.pair I .unit))) false,.box [.val I false],.box [.val I false]],[.one (.val I false),.one (.val I false)]⟩
noncomputable def G {β:Type}(S:Sl)(a0:(List (Int×(Int×(Int×Unit)))))(a1:Int)(a2:Int)(a3:Int)(a4:Int)(K:(List (Int×(Int×(Int×Unit))))→Int→Int→Int→Int→Option β):Option β:=bif(S.ir a4 a0.length)then(bif(S.ir a3 a0.length)then(impl_ranks_1.G S a2 ((List.getD a0 (Int.toNat a4) (0,(0,(0,())))).1) ((List.getD a0 (Int.toNat a4) (0,(0,(0,())))).2.1) ((List.getD a0 (Int.toNat a4) (0,(0,(0,())))).2.2.1) ((List.getD a0 (Int.toNat a3) (0,(0,(0,())))).1) ((List.getD a0 (Int.toNat a3) (0,(0,(0,())))).2.1) ((List.getD a0 (Int.toNat a3) (0,(0,(0,())))).2.2.1) (fun y1 y2=>bif(S.lt y2 0)then(K a0 (S.w (a1+1)) y1 a4 a3)else(K a0 a1 y1 a3 a4)))else(none))else(none)
noncomputable def o:Orac:=⟨146,sin,sout,fun s K=>G sl0 s.1.1 s.1.2.1.1 s.1.2.2.1.1 s.2.1 s.2.2.1 (fun x0 x1 x2 x3 x4=>K ((x0,((x1,()),((x2,()),()))),(x3,(x4,()))))⟩
noncomputable def C:Ctx:=⟨tyT,[impl_ranks_1.o],[],32,3⟩
theorem ctx:CtxOk Try.prog C:=⟨tyOk,all1 impl_ranks_1.ok (all0)⟩
theorem eG (β:Type)(s:sin.den)(K:sout.den→Option β):evalFn C Try.f146 sin sout s K=o.F s K:=by kernel_rfl
theorem ok:OracOk Try.prog o:=fn_ok mixed Try.func146 (by kernel_rfl) ctx (c:=bodyC Try.f146) (by kernel_rfl) (all0) (by kernel_rfl) (by kernel_rfl) (by kernel_rfl) (Nat.le_of_ble_eq_true (by kernel_rfl)) eG (by kernel_rfl) (Nat.le_of_ble_eq_true (by kernel_rfl))
end slices_order2CmpFunc_impl_House
namespace slices_medianCmpFunc_impl_House
def sin:Sig:=⟨[.buf (.pair I (.pair I (.pair I .unit))) false,.box [.val I false],.box [.val I false]],[.one (.ref (.own 0)),.one (.val I false),.one (.val I false),.one (.val I false),.one (.ref (.ptr 1)),.one (.ref (.fn 90 [2]))]⟩
def sout:Sig:=⟨[.buf (.pair I (.pair I (.pair I .unit))) false,.box [.val I false],.box [.val I false]],[.one (.val I false)]⟩
noncomputable def G {β:Type}(S:Sl)(a0:(List (Int×(Int×(Int×Unit)))))(a1:Int)(a2:Int)(a3:Int)(a4:Int)(a5:Int)(K:(List (Int×(Int×(Int×Unit))))→Int→Int→Int→Option β):Option β:=slices_order2CmpFunc_impl_House.G S a0 a1 a2 a3 a4 (fun y1 y2 y3 y4 y5=>slices_order2CmpFunc_impl_House.G S y1 y2 y3 y5 a5 (fun y6 y7 y8 y9 y10=>slices_order2CmpFunc_impl_House.G S y6 y7 y8 y4 y9 (fun y11 y12 y13 y14 y15=>K y11 y12 y13 y15)))
noncomputable def o:Orac:=⟨138,sin,sout,fun s K=>G sl0 s.1.1 s.1.2.1.1 s.1.2.2.1.1 s.2.1 s.2.2.1 s.2.2.2.1 (fun x0 x1 x2 x3=>K ((x0,((x1,()),((x2,()),()))),(x3,())))⟩
noncomputable def C:Ctx:=⟨tyT,[slices_order2CmpFunc_impl_House.o],[],41,3⟩
theorem ctx:CtxOk Try.prog C:=⟨tyOk,all1 slices_order2CmpFunc_impl_House.ok (all0)⟩
theorem eG (β:Type)(s:sin.den)(K:sout.den→Option β):evalFn C Try.f138 sin sout s K=o.F s K:=by kernel_rfl
theorem ok:OracOk Try.prog o:=fn_ok mixed Try.func138 (by kernel_rfl) ctx (c:=bodyC Try.f138) (by kernel_rfl) (all0) (by kernel_rfl) (by kernel_rfl) (by kernel_rfl) (Nat.le_of_ble_eq_true (by kernel_rfl)) eG (by kernel_rfl) (Nat.le_of_ble_eq_true (by kernel_rfl))
end slices_medianCmpFunc_impl_House
namespace slices_medianAdjacentCmpFunc_impl_House
def sin:Sig:=⟨[.buf (.pair I (.pair I (.pair I .unit))) false,.box [.val I false],.box [.val I false]],[.one (.ref (.own 0)),.one (.val I false),.one (.ref (.ptr 1)),.one (.ref (.fn 90 [2]))]⟩
def sout:Sig:=⟨[.buf (.pair I (.pair I (.pair I .unit))) false,.box [.val I false],.box [.val I false]],[.one (.val I false)]⟩
noncomputable def G {β:Type}(S:Sl)(a0:(List (Int×(Int×(Int×Unit)))))(a1:Int)(a2:Int)(a3:Int)(K:(List (Int×(Int×(Int×Unit))))→Int→Int→Int→Option β):Option β:=slices_medianCmpFunc_impl_House.G S a0 a1 a2 (S.w (a3-1)) a3 (S.w (a3+1)) (fun y1 y2 y3 y4=>K y1 y2 y3 y4)
noncomputable def o:Orac:=⟨137,sin,sout,fun s K=>G sl0 s.1.1 s.1.2.1.1 s.1.2.2.1.1 s.2.1 (fun x0 x1 x2 x3=>K ((x0,((x1,()),((x2,()),()))),(x3,())))⟩
noncomputable def C:Ctx:=⟨tyT,[slices_medianCmpFunc_impl_House.o],[],18,3⟩
theorem ctx:CtxOk Try.prog C:=⟨tyOk,all1 slices_medianCmpFunc_impl_House.ok (all0)⟩
theorem eG (β:Type)(s:sin.den)(K:sout.den→Option β):evalFn C Try.f137 sin sout s K=o.F s K:=by kernel_rfl
theorem ok:OracOk Try.prog o:=fn_ok mixed Try.func137 (by kernel_rfl) ctx (c:=bodyC Try.f137) (by kernel_rfl) (all0) (by kernel_rfl) (by kernel_rfl) (by kernel_rfl) (Nat.le_of_ble_eq_true (by kernel_rfl)) eG (by kernel_rfl) (Nat.le_of_ble_eq_true (by kernel_rfl))
end slices_medianAdjacentCmpFunc_impl_House
namespace slices_choosePivotCmpFunc_impl_House
def sin:Sig:=⟨[.buf (.pair I (.pair I (.pair I .unit))) false,.box [.val I false]],[.one (.ref (.own 0)),.one (.val I false),.one (.val I false),.one (.ref (.fn 90 [1]))]⟩
def sout:Sig:=⟨[.buf (.pair I (.pair I (.pair I .unit))) false,.box [.val I false]],[.one (.val I false),.one (.val I false)]⟩
noncomputable def G {β:Type}(S:Sl)(a0:(List (Int×(Int×(Int×Unit)))))(a1:Int)(a2:Int)(a3:Int)(K:(List (Int×(Int×(Int×Unit))))→Int→Int→Int→Option β):Option β:=bif(S.le 8 (S.w (a3-a2)))then(bif(S.le 50 (S.w (a3-a2)))then(slices_medianAdjacentCmpFunc_impl_House.G S a0 0 a1 (S.w (a2+(S.w ((S.w (Int.tdiv (S.w (a3-a2)) 4))*1)))) (fun y1 y2 y3 y4=>slices_medianAdjacentCmpFunc_impl_House.G S y1 y2 y3 (S.w (a2+(S.w ((S.w (Int.tdiv (S.w (a3-a2)) 4))*2)))) (fun y5 y6 y7 y8=>slices_medianAdjacentCmpFunc_impl_House.G S y5 y6 y7 (S.w (a2+(S.w ((S.w (Int.tdiv (S.w (a3-a2)) 4))*3)))) (fun y9 y10 y11 y12=>slices_medianCmpFunc_impl_House.G S y9 y10 y11 y4 y8 y12 (fun y13 y14 y15 y16=>bif(S.eq y14 0)then(K y13 y15 y16 1)else(bif(S.eq y14 12)then(K y13 y15 y16 2)else(K y13 y15 y16 0)))))))else(slices_medianCmpFunc_impl_House.G S a0 0 a1 (S.w (a2+(S.w ((S.w (Int.tdiv (S.w (a3-a2)) 4))*1)))) (S.w (a2+(S.w ((S.w (Int.tdiv (S.w (a3-a2)) 4))*2)))) (S.w (a2+(S.w ((S.w (Int.tdiv (S.w (a3-a2)) 4))*3)))) (fun y17 y18 y19 y20=>bif(S.eq y18 0)then(K y17 y19 y20 1)else(bif(S.eq y18 12)then(K y17 y19 y20 2)else(K y17 y19 y20 0)))))else(bif(S.eq (0:Int) 0)then(K a0 a1 (S.w (a2+(S.w ((S.w (Int.tdiv (S.w (a3-a2)) 4))*2)))) 1)else(bif(S.eq (0:Int) 12)then(K a0 a1 (S.w (a2+(S.w ((S.w (Int.tdiv (S.w (a3-a2)) 4))*2)))) 2)else(K a0 a1 (S.w (a2+(S.w ((S.w (Int.tdiv (S.w (a3-a2)) 4))*2)))) 0)))
noncomputable def o:Orac:=⟨119,sin,sout,fun s K=>G sl0 s.1.1 s.1.2.1.1 s.2.1 s.2.2.1 (fun x0 x1 x2 x3=>K ((x0,((x1,()),())),(x2,(x3,()))))⟩
noncomputable def C:Ctx:=⟨tyT,[slices_medianAdjacentCmpFunc_impl_House.o,slices_medianCmpFunc_impl_House.o],[],63,2⟩
theorem ctx:CtxOk Try.prog C:=⟨tyOk,all1 slices_medianAdjacentCmpFunc_impl_House.ok (all1 slices_medianCmpFunc_impl_House.ok (all0))⟩
theorem eG (β:Type)(s:sin.den)(K:sout.den→Option β):evalFn C Try.f119 sin sout s K=o.F s K:=by kernel_rfl
theorem ok:OracOk Try.prog o:=fn_ok mixed Try.func119 (by kernel_rfl) ctx (c:=bodyC Try.f119) (by kernel_rfl) (all0) (by kernel_rfl) (by kernel_rfl) (by kernel_rfl) (Nat.le_of_ble_eq_true (by kernel_rfl)) eG (by kernel_rfl) (Nat.le_of_ble_eq_true (by kernel_rfl))
end slices_choosePivotCmpFunc_impl_House
namespace slices_siftDownCmpFunc_impl_House
def sin:Sig:=⟨[.buf (.pair I (.pair I (.pair I .unit))) false,.box [.val I false]],[.one (.ref (.own 0)),.one (.val I false),.one (.val I false),.one (.val I false),.one (.ref (.fn 90 [1]))]⟩
def sout:Sig:=⟨[.buf (.pair I (.pair I (.pair I .unit))) false,.box [.val I false]],[]⟩
def h1:SS:=⟨[0,2,3,4,10],⟨[.buf (.pair I (.pair I (.pair I .unit))) false,.box [.val I false]],[.one (.ref (.own 0)),.one (.val I false),.one (.val I false),.one (.ref (.fn 90 [1])),.one (.val I false)]⟩⟩
def x1:SS:=⟨[],⟨[.buf (.pair I (.pair I (.pair I .unit))) false,.box [.val I false]],[]⟩⟩
def y1:SS:=⟨[],⟨[.buf (.pair I (.pair I (.pair I .unit))) false,.box [.val I false]],[]⟩⟩
noncomputable def b1 {β:Type}(S:Sl)(L:(List (Int×(Int×(Int×Unit))))→Int→Int→Int→Int→Option β)(kx:(List (Int×(Int×(Int×Unit))))→Int→Option β)(kr:(List (Int×(Int×(Int×Unit))))→Int→Option β)(s0:(List (Int×(Int×(Int×Unit)))))(s1:Int)(s2:Int)(s3:Int)(s4:Int):Option β:=bif(S.le s2 (S.w ((S.w ((2:Int)*s4))+1)))then(kx s0 s1)else(bif(S.lt (S.w ((S.w ((S.w ((2:Int)*s4))+1))+1)) s2)then(bif(S.ir (S.w (s3+(S.w ((S.w ((2:Int)*s4))+1)))) s0.length)then(bif(S.ir (S.w ((S.w (s3+(S.w ((S.w ((2:Int)*s4))+1))))+1)) s0.length)then(impl_ranks_1.G S s1 ((List.getD s0 (Int.toNat (S.w (s3+(S.w ((S.w ((2:Int)*s4))+1))))) (0,(0,(0,())))).1) ((List.getD s0 (Int.toNat (S.w (s3+(S.w ((S.w ((2:Int)*s4))+1))))) (0,(0,(0,())))).2.1) ((List.getD s0 (Int.toNat (S.w (s3+(S.w ((S.w ((2:Int)*s4))+1))))) (0,(0,(0,())))).2.2.1) ((List.getD s0 (Int.toNat (S.w ((S.w (s3+(S.w ((S.w ((2:Int)*s4))+1))))+1))) (0,(0,(0,())))).1) ((List.getD s0 (Int.toNat (S.w ((S.w (s3+(S.w ((S.w ((2:Int)*s4))+1))))+1))) (0,(0,(0,())))).2.1) ((List.getD s0 (Int.toNat (S.w ((S.w (s3+(S.w ((S.w ((2:Int)*s4))+1))))+1))) (0,(0,(0,())))).2.2.1) (fun y1 y2=>bif(S.lt y2 0)then(bif(S.ir (S.w (s3+s4)) s0.length)then(bif(S.ir (S.w (s3+(S.w ((S.w ((S.w ((2:Int)*s4))+1))+1)))) s0.length)then(impl_ranks_1.G S y1 ((List.getD s0 (Int.toNat (S.w (s3+s4))) (0,(0,(0,())))).1) ((List.getD s0 (Int.toNat (S.w (s3+s4))) (0,(0,(0,())))).2.1) ((List.getD s0 (Int.toNat (S.w (s3+s4))) (0,(0,(0,())))).2.2.1) ((List.getD s0 (Int.toNat (S.w (s3+(S.w ((S.w ((S.w ((2:Int)*s4))+1))+1))))) (0,(0,(0,())))).1) ((List.getD s0 (Int.toNat (S.w (s3+(S.w ((S.w ((S.w ((2:Int)*s4))+1))+1))))) (0,(0,(0,())))).2.1) ((List.getD s0 (Int.toNat (S.w (s3+(S.w ((S.w ((S.w ((2:Int)*s4))+1))+1))))) (0,(0,(0,())))).2.2.1) (fun y3 y4=>bif(!(S.lt y4 0))then(kr s0 y3)else(bif(S.ir (S.w (s3+(S.w ((S.w ((S.w ((2:Int)*s4))+1))+1)))) s0.length)then(bif(S.ir (S.w (s3+s4)) s0.length)then(bif(S.ir (S.w (s3+s4)) s0.length)then(bif(S.ir (S.w (s3+(S.w ((S.w ((S.w ((2:Int)*s4))+1))+1)))) (List.set s0 (Int.toNat (S.w (s3+s4))) ((List.getD s0 (Int.toNat (S.w (s3+(S.w ((S.w ((S.w ((2:Int)*s4))+1))+1))))) (0,(0,(0,())))).1,((List.getD s0 (Int.toNat (S.w (s3+(S.w ((S.w ((S.w ((2:Int)*s4))+1))+1))))) (0,(0,(0,())))).2.1,((List.getD s0 (Int.toNat (S.w (s3+(S.w ((S.w ((S.w ((2:Int)*s4))+1))+1))))) (0,(0,(0,())))).2.2.1,())))).length)then(L (List.set (List.set s0 (Int.toNat (S.w (s3+s4))) ((List.getD s0 (Int.toNat (S.w (s3+(S.w ((S.w ((S.w ((2:Int)*s4))+1))+1))))) (0,(0,(0,())))).1,((List.getD s0 (Int.toNat (S.w (s3+(S.w ((S.w ((S.w ((2:Int)*s4))+1))+1))))) (0,(0,(0,())))).2.1,((List.getD s0 (Int.toNat (S.w (s3+(S.w ((S.w ((S.w ((2:Int)*s4))+1))+1))))) (0,(0,(0,())))).2.2.1,())))) (Int.toNat (S.w (s3+(S.w ((S.w ((S.w ((2:Int)*s4))+1))+1))))) ((List.getD s0 (Int.toNat (S.w (s3+s4))) (0,(0,(0,())))).1,((List.getD s0 (Int.toNat (S.w (s3+s4))) (0,(0,(0,())))).2.1,((List.getD s0 (Int.toNat (S.w (s3+s4))) (0,(0,(0,())))).2.2.1,())))) y3 s2 s3 (S.w ((S.w ((S.w ((2:Int)*s4))+1))+1)))else(none))else(none))else(none))else(none))))else(none))else(none))else(bif(S.ir (S.w (s3+s4)) s0.length)then(bif(S.ir (S.w (s3+(S.w ((S.w ((2:Int)*s4))+1)))) s0.length)then(impl_ranks_1.G S y1 ((List.getD s0 (Int.toNat (S.w (s3+s4))) (0,(0,(0,())))).1) ((List.getD s0 (Int.toNat (S.w (s3+s4))) (0,(0,(0,())))).2.1) ((List.getD s0 (Int.toNat (S.w (s3+s4))) (0,(0,(0,())))).2.2.1) ((List.getD s0 (Int.toNat (S.w (s3+(S.w ((S.w ((2:Int)*s4))+1))))) (0,(0,(0,())))).1) ((List.getD s0 (Int.toNat (S.w (s3+(S.w ((S.w ((2:Int)*s4))+1))))) (0,(0,(0,())))).2.1) ((List.getD s0 (Int.toNat (S.w (s3+(S.w ((S.w ((2:Int)*s4))+1))))) (0,(0,(0,())))).2.2.1) (fun y5 y6=>bif(!(S.lt y6 0))then(kr s0 y5)else(bif(S.ir (S.w (s3+(S.w ((S.w ((2:Int)*s4))+1)))) s0.length)then(bif(S.ir (S.w (s3+s4)) s0.length)then(bif(S.ir (S.w (s3+s4)) s0.length)then(bif(S.ir (S.w (s3+(S.w ((S.w ((2:Int)*s4))+1)))) (List.set s0 (Int.toNat (S.w (s3+s4))) ((List.getD s0 (Int.toNat (S.w (s3+(S.w ((S.w ((2:Int)*s4))+1))))) (0,(0,(0,())))).1,((List.getD s0 (Int.toNat (S.w (s3+(S.w ((S.w ((2:Int)*s4))+1))))) (0,(0,(0,())))).2.1,((List.getD s0 (Int.toNat (S.w (s3+(S.w ((S.w ((2:Int)*s4))+1))))) (0,(0,(0,())))).2.2.1,())))).length)then(L (List.set (List.set s0 (Int.toNat (S.w (s3+s4))) ((List.getD s0 (Int.toNat (S.w (s3+(S.w ((S.w ((2:Int)*s4))+1))))) (0,(0,(0,())))).1,((List.getD s0 (Int.toNat (S.w (s3+(S.w ((S.w ((2:Int)*s4))+1))))) (0,(0,(0,())))).2.1,((List.getD s0 (Int.toNat (S.w (s3+(S.w ((S.w ((2:Int)*s4))+1))))) (0,(0,(0,())))).2.2.1,())))) (Int.toNat (S.w (s3+(S.w ((S.w ((2:Int)*s4))+1))))) ((List.getD s0 (Int.toNat (S.w (s3+s4))) (0,(0,(0,())))).1,((List.getD s0 (Int.toNat (S.w (s3+s4))) (0,(0,(0,())))).2.1,((List.getD s0 (Int.toNat (S.w (s3+s4))) (0,(0,(0,())))).2.2.1,())))) y5 s2 s3 (S.w ((S.w ((2:Int)*s4))+1)))else(none))else(none))else(none))else(none))))else(none))else(none))))else(none))else(none))else(bif(S.ir (S.w (s3+s4)) s0.length)then(bif(S.ir (S.w (s3+(S.w ((S.w ((2:Int)*s4))+1)))) s0.length)then(impl_ranks_1.G S s1 ((List.getD s0 (Int.toNat (S.w (s3+s4))) (0,(0,(0,())))).1) ((List.getD s0 (Int.toNat (S.w (s3+s4))) (0,(0,(0,())))).2.1) ((List.getD s0 (Int.toNat (S.w (s3+s4))) (0,(0,(0,())))).2.2.1) ((List.getD s0 (Int.toNat (S.w (s3+(S.w ((S.w ((2:Int)*s4))+1))))) (0,(0,(0,())))).1) ((List.getD s0 (Int.toNat (S.w (s3+(S.w ((S.w ((2:Int)*s4))+1))))) (0,(0,(0,())))).2.1) ((List.getD s0 (Int.toNat (S.w (s3+(S.w ((S.w ((2:Int)*s4))+1))))) (0,(0,(0,())))).2.2.1) (fun y7 y8=>bif(!(S.lt y8 0))then(kr s0 y7)else(bif(S.ir (S.w (s3+(S.w ((S.w ((2:Int)*s4))+1)))) s0.length)then(bif(S.ir (S.w (s3+s4)) s0.length)then(bif(S.ir (S.w (s3+s4)) s0.length)then(bif(S.ir (S.w (s3+(S.w ((S.w ((2:Int)*s4))+1)))) (List.set s0 (Int.toNat (S.w (s3+s4))) ((List.getD s0 (Int.toNat (S.w (s3+(S.w ((S.w ((2:Int)*s4))+1))))) (0,(0,(0,())))).1,((List.getD s0 (Int.toNat (S.w (s3+(S.w ((S.w ((2:Int)*s4))+1))))) (0,(0,(0,())))).2.1,((List.getD s0 (Int.toNat (S.w (s3+(S.w ((S.w ((2:Int)*s4))+1))))) (0,(0,(0,())))).2.2.1,())))).length)then(L (List.set (List.set s0 (Int.toNat (S.w (s3+s4))) ((List.getD s0 (Int.toNat (S.w (s3+(S.w ((S.w ((2:Int)*s4))+1))))) (0,(0,(0,())))).1,((List.getD s0 (Int.toNat (S.w (s3+(S.w ((S.w ((2:Int)*s4))+1))))) (0,(0,(0,())))).2.1,((List.getD s0 (Int.toNat (S.w (s3+(S.w ((S.w ((2:Int)*s4))+1))))) (0,(0,(0,())))).2.2.1,())))) (Int.toNat (S.w (s3+(S.w ((S.w ((2:Int)*s4))+1))))) ((List.getD s0 (Int.toNat (S.w (s3+s4))) (0,(0,(0,())))).1,((List.getD s0 (Int.toNat (S.w (s3+s4))) (0,(0,(0,())))).2.1,((List.getD s0 (Int.toNat (S.w (s3+s4))) (0,(0,(0,())))).2.2.1,())))) y7 s2 s3 (S.w ((S.w ((2:Int)*s4))+1)))else(none))else(none))else(none))else(none))))else(none))else(none)))
noncomputable def r1 {β:Type}(S:Sl)(n:Nat)(kx:x1.sig.den→Option β)(kr:y1.sig.den→Option β)(s:h1.sig.den):Option β:=rounds (fun L kx kr s=>b1 S (fun x0 x1 x2 x3 x4=>L ((x0,((x1,()),())),(x2,(x3,(x4,()))))) (fun x0 x1=>kx ((x0,((x1,()),())),())) (fun x0 x1=>kr ((x0,((x1,()),())),())) s.1.1 s.1.2.1.1 s.2.1 s.2.2.1 s.2.2.2.1) kx kr n s
noncomputable def l1 {β:Type}(S:Sl)(n:Nat)(kx:(List (Int×(Int×(Int×Unit))))→Int→Option β)(kr:(List (Int×(Int×(Int×Unit))))→Int→Option β)(s0:(List (Int×(Int×(Int×Unit)))))(s1:Int)(s2:Int)(s3:Int)(s4:Int):Option β:=r1 S n (fun s=>kx s.1.1 s.1.2.1.1) (fun s=>kr s.1.1 s.1.2.1.1) ((s0,((s1,()),())),(s2,(s3,(s4,()))))
theorem t1 {β:Type}(S:Sl)(n:Nat)(kx:(List (Int×(Int×(Int×Unit))))→Int→Option β)(kr:(List (Int×(Int×(Int×Unit))))→Int→Option β)(s0:(List (Int×(Int×(Int×Unit)))))(s1:Int)(s2:Int)(s3:Int)(s4:Int):l1 S (n+1) kx kr s0 s1 s2 s3 s4=b1 S (l1 S n kx kr) kx kr s0 s1 s2 s3 s4:=by kernel_rfl
noncomputable def G {β:Type}(S:Sl)(a0:(List (Int×(Int×(Int×Unit)))))(a1:Int)(a2:Int)(a3:Int)(a4:Int)(K:(List (Int×(Int×(Int×Unit))))→Int→Option β):Option β:=l1 S S.n (fun y1 y2=>K y1 y2) (fun y3 y4=>K y3 y4) a0 a1 a3 a4 a2
noncomputable def o:Orac:=⟨134,sin,sout,fun s K=>G sl0 s.1.1 s.1.2.1.1 s.2.1 s.2.2.1 s.2.2.2.1 (fun x0 x1=>K ((x0,((x1,()),())),()))⟩
noncomputable def C:Ctx:=⟨tyT,[impl_ranks_1.o],[⟨1,0,h1,x1,y1,fun s kx kr=>r1 sl0 sl0.n kx kr s⟩],82,2⟩
theorem ctx:CtxOk Try.prog C:=⟨tyOk,all1 impl_ranks_1.ok (all0)⟩
theorem e1 (β:Type)(L:h1.sig.den→Option β)(kx:x1.sig.den→Option β)(kr:y1.sig.den→Option β)(s:h1.sig.den):evalBody C (nthC (loopsOf (bodyC Try.f134)) 0) 0 h1 x1 y1 L kx kr s=b1 sl0 (fun x0 x1 x2 x3 x4=>L ((x0,((x1,()),())),(x2,(x3,(x4,()))))) (fun x0 x1=>kx ((x0,((x1,()),())),())) (fun x0 x1=>kr ((x0,((x1,()),())),())) s.1.1 s.1.2.1.1 s.2.1 s.2.2.1 s.2.2.2.1:=by kernel_rfl
theorem g1:LS Try.prog C ⟨1,0,h1,x1,y1,fun s kx kr=>r1 sl0 sl0.n kx kr s⟩ (loopsOf (bodyC Try.f134)):=LS.at (i:=0) (by kernel_rfl) (loop_good mixed ctx (ctx_nat ctx) (N:=sl0.n) (fun _ _ _ _=>rfl) e1 (all1 (LS.none (by kernel_rfl)) (all0)))
theorem eG (β:Type)(s:sin.den)(K:sout.den→Option β):evalFn C Try.f134 sin sout s K=o.F s K:=by kernel_rfl
theorem ok:OracOk Try.prog o:=fn_ok mixed Try.func134 (by kernel_rfl) ctx (c:=bodyC Try.f134) (by kernel_rfl) (all1 g1 (all0)) (by kernel_rfl) (by kernel_rfl) (by kernel_rfl) (Nat.le_of_ble_eq_true (by kernel_rfl)) eG (by kernel_rfl) (Nat.le_of_ble_eq_true (by kernel_rfl))
end slices_siftDownCmpFunc_impl_House
namespace slices_heapSortCmpFunc_impl_House
def sin:Sig:=⟨[.buf (.pair I (.pair I (.pair I .unit))) false,.box [.val I false]],[.one (.ref (.own 0)),.one (.val I false),.one (.val I false),.one (.ref (.fn 90 [1]))]⟩
def sout:Sig:=⟨[.buf (.pair I (.pair I (.pair I .unit))) false,.box [.val I false]],[]⟩
def h8:SS:=⟨[0,3,8,9,12],⟨[.buf (.pair I (.pair I (.pair I .unit))) false,.box [.val I false]],[.one (.ref (.own 0)),.one (.ref (.fn 90 [1])),.one (.val I false),.one (.val I false),.one (.val I false)]⟩⟩
def x8:SS:=⟨[],⟨[.buf (.pair I (.pair I (.pair I .unit))) false,.box [.val I false]],[]⟩⟩
def y8:SS:=⟨[],⟨[],[]⟩⟩
noncomputable def b8 {β:Type}(S:Sl)(L:(List (Int×(Int×(Int×Unit))))→Int→Int→Int→Int→Option β)(kx:(List (Int×(Int×(Int×Unit))))→Int→Option β)(kr:Option β)(s0:(List (Int×(Int×(Int×Unit)))))(s1:Int)(s2:Int)(s3:Int)(s4:Int):Option β:=bif(S.le 0 s4)then(bif(S.ir (S.w (s2+s4)) s0.length)then(bif(S.ir s2 s0.length)then(bif(S.ir s2 s0.length)then(bif(S.ir (S.w (s2+s4)) (List.set s0 (Int.toNat s2) ((List.getD s0 (Int.toNat (S.w (s2+s4))) (0,(0,(0,())))).1,((List.getD s0 (Int.toNat (S.w (s2+s4))) (0,(0,(0,())))).2.1,((List.getD s0 (Int.toNat (S.w (s2+s4))) (0,(0,(0,())))).2.2.1,())))).length)then(slices_siftDownCmpFunc_impl_House.G S (List.set (List.set s0 (Int.toNat s2) ((List.getD s0 (Int.toNat (S.w (s2+s4))) (0,(0,(0,())))).1,((List.getD s0 (Int.toNat (S.w (s2+s4))) (0,(0,(0,())))).2.1,((List.getD s0 (Int.toNat (S.w (s2+s4))) (0,(0,(0,())))).2.2.1,())))) (Int.toNat (S.w (s2+s4))) ((List.getD s0 (Int.toNat s2) (0,(0,(0,())))).1,((List.getD s0 (Int.toNat s2) (0,(0,(0,())))).2.1,((List.getD s0 (Int.toNat s2) (0,(0,(0,())))).2.2.1,())))) s1 s3 s4 s2 (fun y1 y2=>L y1 y2 s2 s3 (S.w (s4-1))))else(none))else(none))else(none))else(none))else(kx s0 s1)
noncomputable def r8 {β:Type}(S:Sl)(n:Nat)(kx:x8.sig.den→Option β)(kr:y8.sig.den→Option β)(s:h8.sig.den):Option β:=rounds (fun L kx kr s=>b8 S (fun x0 x1 x2 x3 x4=>L ((x0,((x1,()),())),(x2,(x3,(x4,()))))) (fun x0 x1=>kx ((x0,((x1,()),())),())) (kr ((),())) s.1.1 s.1.2.1.1 s.2.1 s.2.2.1 s.2.2.2.1) kx kr n s
noncomputable def l8 {β:Type}(S:Sl)(n:Nat)(kx:(List (Int×(Int×(Int×Unit))))→Int→Option β)(kr:Option β)(s0:(List (Int×(Int×(Int×Unit)))))(s1:Int)(s2:Int)(s3:Int)(s4:Int):Option β:=r8 S n (fun s=>kx s.1.1 s.1.2.1.1) (fun s=>kr) ((s0,((s1,()),())),(s2,(s3,(s4,()))))
theorem t8 {β:Type}(S:Sl)(n:Nat)(kx:(List (Int×(Int×(Int×Unit))))→Int→Option β)(kr:Option β)(s0:(List (Int×(Int×(Int×Unit)))))(s1:Int)(s2:Int)(s3:Int)(s4:Int):l8 S (n+1) kx kr s0 s1 s2 s3 s4=b8 S (l8 S n kx kr) kx kr s0 s1 s2 s3 s4:=by kernel_rfl
def h4:SS:=⟨[0,3,8,9,10,11],⟨[.buf (.pair I (.pair I (.pair I .unit))) false,.box [.val I false]],[.one (.ref (.own 0)),.one (.ref (.fn 90 [1])),.one (.val I false),.one (.val I false),.one (.val I false),.one (.val I false)]⟩⟩
def x4:SS:=⟨[0,3,8,9,10],⟨[.buf (.pair I (.pair I (.pair I .unit))) false,.box [.val I false]],[.one (.ref (.own 0)),.one (.ref (.fn 90 [1])),.one (.val I false),.one (.val I false),.one (.val I false)]⟩⟩
def y4:SS:=⟨[],⟨[],[]⟩⟩
noncomputable def b4 {β:Type}(S:Sl)(L:(List (Int×(Int×(Int×Unit))))→Int→Int→Int→Int→Int→Option β)(kx:(List (Int×(Int×(Int×Unit))))→Int→Int→Int→Int→Option β)(kr:Option β)(s0:(List (Int×(Int×(Int×Unit)))))(s1:Int)(s2:Int)(s3:Int)(s4:Int)(s5:Int):Option β:=bif(S.le 0 s5)then(slices_siftDownCmpFunc_impl_House.G S s0 s1 s5 s4 s2 (fun y1 y2=>L y1 y2 s2 s3 s4 (S.w (s5-1))))else(kx s0 s1 s2 s3 s4)
noncomputable def r4 {β:Type}(S:Sl)(n:Nat)(kx:x4.sig.den→Option β)(kr:y4.sig.den→Option β)(s:h4.sig.den):Option β:=rounds (fun L kx kr s=>b4 S (fun x0 x1 x2 x3 x4 x5=>L ((x0,((x1,()),())),(x2,(x3,(x4,(x5,())))))) (fun x0 x1 x2 x3 x4=>kx ((x0,((x1,()),())),(x2,(x3,(x4,()))))) (kr ((),())) s.1.1 s.1.2.1.1 s.2.1 s.2.2.1 s.2.2.2.1 s.2.2.2.2.1) kx kr n s
noncomputable def l4 {β:Type}(S:Sl)(n:Nat)(kx:(List (Int×(Int×(Int×Unit))))→Int→Int→Int→Int→Option β)(kr:Option β)(s0:(List (Int×(Int×(Int×Unit)))))(s1:Int)(s2:Int)(s3:Int)(s4:Int)(s5:Int):Option β:=r4 S n (fun s=>kx s.1.1 s.1.2.1.1 s.2.1 s.2.2.1 s.2.2.2.1) (fun s=>kr) ((s0,((s1,()),())),(s2,(s3,(s4,(s5,())))))
theorem t4 {β:Type}(S:Sl)(n:Nat)(kx:(List (Int×(Int×(Int×Unit))))→Int→Int→Int→Int→Option β)(kr:Option β)(s0:(List (Int×(Int×(Int×Unit)))))(s1:Int)(s2:Int)(s3:Int)(s4:Int)(s5:Int):l4 S (n+1) kx kr s0 s1 s2 s3 s4 s5=b4 S (l4 S n kx kr) kx kr s0 s1 s2 s3 s4 s5:=by kernel_rfl
noncomputable def G {β:Type}(S:Sl)(a0:(List (Int×(Int×(Int×Unit)))))(a1:Int)(a2:Int)(a3:Int)(K:(List (Int×(Int×(Int×Unit))))→Int→Option β):Option β:=l4 S S.n (fun y1 y2 y3 y4 y5=>l8 S S.n (fun y6 y7=>K y6 y7) none y1 y2 y3 y4 (S.w (y5-1))) none a0 a1 a2 0 (S.w (a3-a2)) (S.w (Int.tdiv (S.w ((S.w (a3-a2))-1)) 2))
noncomputable def o:Orac:=⟨117,sin,sout,fun s K=>G sl0 s.1.1 s.1.2.1.1 s.2.1 s.2.2.1 (fun x0 x1=>K ((x0,((x1,()),())),()))⟩
noncomputable def C:Ctx:=⟨tyT,[slices_siftDownCmpFunc_impl_House.o],[⟨4,0,h4,x4,y4,fun s kx kr=>r4 sl0 sl0.n kx kr s⟩,⟨8,2,h8,x8,y8,fun s kx kr=>r8 sl0 sl0.n kx kr s⟩],60,2⟩
theorem ctx:CtxOk Try.prog C:=⟨tyOk,all1 slices_siftDownCmpFunc_impl_House.ok (all0)⟩
theorem e8 (β:Type)(L:h8.sig.den→Option β)(kx:x8.sig.den→Option β)(kr:y8.sig.den→Option β)(s:h8.sig.den):evalBody C (nthC (loopsOf (bodyC Try.f117)) 1) 2 h8 x8 y8 L kx kr s=b8 sl0 (fun x0 x1 x2 x3 x4=>L ((x0,((x1,()),())),(x2,(x3,(x4,()))))) (fun x0 x1=>kx ((x0,((x1,()),())),())) (kr ((),())) s.1.1 s.1.2.1.1 s.2.1 s.2.2.1 s.2.2.2.1:=by kernel_rfl
theorem g8:LS Try.prog C ⟨8,2,h8,x8,y8,fun s kx kr=>r8 sl0 sl0.n kx kr s⟩ (loopsOf (bodyC Try.f117)):=LS.at (i:=1) (by kernel_rfl) (loop_good mixed ctx (ctx_nat ctx) (N:=sl0.n) (fun _ _ _ _=>rfl) e8 (all1 (LS.none (by kernel_rfl)) (all1 (LS.none (by kernel_rfl)) (all0))))
theorem e4 (β:Type)(L:h4.sig.den→Option β)(kx:x4.sig.den→Option β)(kr:y4.sig.den→Option β)(s:h4.sig.den):evalBody C (nthC (loopsOf (bodyC Try.f117)) 0) 0 h4 x4 y4 L kx kr s=b4 sl0 (fun x0 x1 x2 x3 x4 x5=>L ((x0,((x1,()),())),(x2,(x3,(x4,(x5,())))))) (fun x0 x1 x2 x3 x4=>kx ((x0,((x1,()),())),(x2,(x3,(x4,()))))) (kr ((),())) s.1.1 s.1.2.1.1 s.2.1 s.2.2.1 s.2.2.2.1 s.2.2.2.2.1:=by kernel_rfl
theorem g4:LS Try.prog C ⟨4,0,h4,x4,y4,fun s kx kr=>r4 sl0 sl0.n kx kr s⟩ (loopsOf (bodyC Try.f117)):=LS.at (i:=0) (by kernel_rfl) (loop_good mixed ctx (ctx_nat ctx) (N:=sl0.n) (fun _ _ _ _=>rfl) e4 (all1 (LS.none (by kernel_rfl)) (all1 (LS.none (by kernel_rfl)) (all0))))
theorem eG (β:Type)(s:sin.den)(K:sout.den→Option β):evalFn C Try.f117 sin sout s K=o.F s K:=by kernel_rfl
theorem ok:OracOk Try.prog o:=fn_ok mixed Try.func117 (by kernel_rfl) ctx (c:=bodyC Try.f117) (by kernel_rfl) (all1 g4 (all1 g8 (all0))) (by kernel_rfl) (by kernel_rfl) (by kernel_rfl) (Nat.le_of_ble_eq_true (by kernel_rfl)) eG (by kernel_rfl) (Nat.le_of_ble_eq_true (by kernel_rfl))
end slices_heapSortCmpFunc_impl_House
namespace slices_insertionSortCmpFunc_impl_House
def sin:Sig:=⟨[.buf (.pair I (.pair I (.pair I .unit))) false,.box [.val I false]],[.one (.ref (.own 0)),.one (.val I false),.one (.val I false),.one (.ref (.fn 90 [1]))]⟩
def sout:Sig:=⟨[.buf (.pair I (.pair I (.pair I .unit))) false,.box [.val I false]],[]⟩
def h4:SS:=⟨[0,1,2,3,8,9],⟨[.buf (.pair I (.pair I (.pair I .unit))) false,.box [.val I false]],[.one (.ref (.own 0)),.one (.val I false),.one (.val I false),.one (.ref (.fn 90 [1])),.one (.val I false),.one (.val I false)]⟩⟩
def x4:SS:=⟨[0,1,2,3,8],⟨[.buf (.pair I (.pair I (.pair I .unit))) false,.box [.val I false]],[.one (.ref (.own 0)),.one (.val I false),.one (.val I false),.one (.ref (.fn 90 [1])),.one (.val I false)]⟩⟩
def y4:SS:=⟨[],⟨[],[]⟩⟩
noncomputable def b4 {β:Type}(S:Sl)(L:(List (Int×(Int×(Int×Unit))))→Int→Int→Int→Int→Int→Option β)(kx:(List (Int×(Int×(Int×Unit))))→Int→Int→Int→Int→Option β)(kr:Option β)(s0:(List (Int×(Int×(Int×Unit)))))(s1:Int)(s2:Int)(s3:Int)(s4:Int)(s5:Int):Option β:=bif(S.lt s2 s5)then(bif(S.ir s5 s0.length)then(bif(S.ir (S.w (s5-1)) s0.length)then(impl_ranks_1.G S s1 ((List.getD s0 (Int.toNat s5) (0,(0,(0,())))).1) ((List.getD s0 (Int.toNat s5) (0,(0,(0,())))).2.1) ((List.getD s0 (Int.toNat s5) (0,(0,(0,())))).2.2.1) ((List.getD s0 (Int.toNat (S.w (s5-1))) (0,(0,(0,())))).1) ((List.getD s0 (Int.toNat (S.w (s5-1))) (0,(0,(0,())))).2.1) ((List.getD s0 (Int.toNat (S.w (s5-1))) (0,(0,(0,())))).2.2.1) (fun y1 y2=>bif(S.lt y2 0)then(bif(S.ir (S.w (s5-1)) s0.length)then(bif(S.ir s5 s0.length)then(bif(S.ir s5 s0.length)then(bif(S.ir (S.w (s5-1)) (List.set s0 (Int.toNat s5) ((List.getD s0 (Int.toNat (S.w (s5-1))) (0,(0,(0,())))).1,((List.getD s0 (Int.toNat (S.w (s5-1))) (0,(0,(0,())))).2.1,((List.getD s0 (Int.toNat (S.w (s5-1))) (0,(0,(0,())))).2.2.1,())))).length)then(L (List.set (List.set s0 (Int.toNat s5) ((List.getD s0 (Int.toNat (S.w (s5-1))) (0,(0,(0,())))).1,((List.getD s0 (Int.toNat (S.w (s5-1))) (0,(0,(0,())))).2.1,((List.getD s0 (Int.toNat (S.w (s5-1))) (0,(0,(0,())))).2.2.1,())))) (Int.toNat (S.w (s5-1))) ((List.getD s0 (Int.toNat s5) (0,(0,(0,())))).1,((List.getD s0 (Int.toNat s5) (0,(0,(0,())))).2.1,((List.getD s0 (Int.toNat s5) (0,(0,(0,())))).2.2.1,())))) y1 s2 s3 s4 (S.w (s5-1)))else(none))else(none))else(none))else(none))else(kx s0 y1 s2 s3 s4)))else(none))else(none))else(kx s0 s1 s2 s3 s4)
noncomputable def r4 {β:Type}(S:Sl)(n:Nat)(kx:x4.sig.den→Option β)(kr:y4.sig.den→Option β)(s:h4.sig.den):Option β:=rounds (fun L kx kr s=>b4 S (fun x0 x1 x2 x3 x4 x5=>L ((x0,((x1,()),())),(x2,(x3,(x4,(x5,())))))) (fun x0 x1 x2 x3 x4=>kx ((x0,((x1,()),())),(x2,(x3,(x4,()))))) (kr ((),())) s.1.1 s.1.2.1.1 s.2.1 s.2.2.1 s.2.2.2.1 s.2.2.2.2.1) kx kr n s
noncomputable def l4 {β:Type}(S:Sl)(n:Nat)(kx:(List (Int×(Int×(Int×Unit))))→Int→Int→Int→Int→Option β)(kr:Option β)(s0:(List (Int×(Int×(Int×Unit)))))(s1:Int)(s2:Int)(s3:Int)(s4:Int)(s5:Int):Option β:=r4 S n (fun s=>kx s.1.1 s.1.2.1.1 s.2.1 s.2.2.1 s.2.2.2.1) (fun s=>kr) ((s0,((s1,()),())),(s2,(s3,(s4,(s5,())))))
theorem t4 {β:Type}(S:Sl)(n:Nat)(kx:(List (Int×(Int×(Int×Unit))))→Int→Int→Int→Int→Option β)(kr:Option β)(s0:(List (Int×(Int×(Int×Unit)))))(s1:Int)(s2:Int)(s3:Int)(s4:Int)(s5:Int):l4 S (n+1) kx kr s0 s1 s2 s3 s4 s5=b4 S (l4 S n kx kr) kx kr s0 s1 s2 s3 s4 s5:=by kernel_rfl
def h1:SS:=⟨[0,1,2,3,8],⟨[.buf (.pair I (.pair I (.pair I .unit))) false,.box [.val I false]],[.one (.ref (.own 0)),.one (.val I false),.one (.val I false),.one (.ref (.fn 90 [1])),.one (.val I false)]⟩⟩
def x1:SS:=⟨[],⟨[.buf (.pair I (.pair I (.pair I .unit))) false,.box [.val I false]],[]⟩⟩
def y1:SS:=⟨[],⟨[],[]⟩⟩
noncomputable def b1 {β:Type}(S:Sl)(L:(List (Int×(Int×(Int×Unit))))→Int→Int→Int→Int→Option β)(kx:(List (Int×(Int×(Int×Unit))))→Int→Option β)(kr:Option β)(s0:(List (Int×(Int×(Int×Unit)))))(s1:Int)(s2:Int)(s3:Int)(s4:Int):Option β:=bif(S.lt s4 s3)then(l4 S S.n (fun y1 y2 y3 y4 y5=>L y1 y2 y3 y4 (S.w (y5+1))) none s0 s1 s2 s3 s4 s4)else(kx s0 s1)
noncomputable def r1 {β:Type}(S:Sl)(n:Nat)(kx:x1.sig.den→Option β)(kr:y1.sig.den→Option β)(s:h1.sig.den):Option β:=rounds (fun L kx kr s=>b1 S (fun x0 x1 x2 x3 x4=>L ((x0,((x1,()),())),(x2,(x3,(x4,()))))) (fun x0 x1=>kx ((x0,((x1,()),())),())) (kr ((),())) s.1.1 s.1.2.1.1 s.2.1 s.2.2.1 s.2.2.2.1) kx kr n s
noncomputable def l1 {β:Type}(S:Sl)(n:Nat)(kx:(List (Int×(Int×(Int×Unit))))→Int→Option β)(kr:Option β)(s0:(List (Int×(Int×(Int×Unit)))))(s1:Int)(s2:Int)(s3:Int)(s4:Int):Option β:=r1 S n (fun s=>kx s.1.1 s.1.2.1.1) (fun s=>kr) ((s0,((s1,()),())),(s2,(s3,(s4,()))))
theorem t1 {β:Type}(S:Sl)(n:Nat)(kx:(List (Int×(Int×(Int×Unit))))→Int→Option β)(kr:Option β)(s0:(List (Int×(Int×(Int×Unit)))))(s1:Int)(s2:Int)(s3:Int)(s4:Int):l1 S (n+1) kx kr s0 s1 s2 s3 s4=b1 S (l1 S n kx kr) kx kr s0 s1 s2 s3 s4:=by kernel_rfl
noncomputable def G {β:Type}(S:Sl)(a0:(List (Int×(Int×(Int×Unit)))))(a1:Int)(a2:Int)(a3:Int)(K:(List (Int×(Int×(Int×Unit))))→Int→Option β):Option β:=l1 S S.n (fun y1 y2=>K y1 y2) none a0 a1 a2 a3 (S.w (a2+1))
noncomputable def o:Orac:=⟨116,sin,sout,fun s K=>G sl0 s.1.1 s.1.2.1.1 s.2.1 s.2.2.1 (fun x0 x1=>K ((x0,((x1,()),())),()))⟩
noncomputable def C:Ctx:=⟨tyT,[impl_ranks_1.o],[⟨1,0,h1,x1,y1,fun s kx kr=>r1 sl0 sl0.n kx kr s⟩,⟨4,2,h4,x4,y4,fun s kx kr=>r4 sl0 sl0.n kx kr s⟩],53,2⟩
theorem ctx:CtxOk Try.prog C:=⟨tyOk,all1 impl_ranks_1.ok (all0)⟩
theorem e4 (β:Type)(L:h4.sig.den→Option β)(kx:x4.sig.den→Option β)(kr:y4.sig.den→Option β)(s:h4.sig.den):evalBody C (nthC (loopsOf (bodyC Try.f116)) 1) 2 h4 x4 y4 L kx kr s=b4 sl0 (fun x0 x1 x2 x3 x4 x5=>L ((x0,((x1,()),())),(x2,(x3,(x4,(x5,())))))) (fun x0 x1 x2 x3 x4=>kx ((x0,((x1,()),())),(x2,(x3,(x4,()))))) (kr ((),())) s.1.1 s.1.2.1.1 s.2.1 s.2.2.1 s.2.2.2.1 s.2.2.2.2.1:=by kernel_rfl
theorem g4:LS Try.prog C ⟨4,2,h4,x4,y4,fun s kx kr=>r4 sl0 sl0.n kx kr s⟩ (loopsOf (bodyC Try.f116)):=LS.at (i:=1) (by kernel_rfl) (loop_good mixed ctx (ctx_nat ctx) (N:=sl0.n) (fun _ _ _ _=>rfl) e4 (all1 (LS.none (by kernel_rfl)) (all1 (LS.none (by kernel_rfl)) (all0))))
theorem e1 (β:Type)(L:h1.sig.den→Option β)(kx:x1.sig.den→Option β)(kr:y1.sig.den→Option β)(s:h1.sig.den):evalBody C (nthC (loopsOf (bodyC Try.f116)) 0) 0 h1 x1 y1 L kx kr s=b1 sl0 (fun x0 x1 x2 x3 x4=>L ((x0,((x1,()),())),(x2,(x3,(x4,()))))) (fun x0 x1=>kx ((x0,((x1,()),())),())) (kr ((),())) s.1.1 s.1.2.1.1 s.2.1 s.2.2.1 s.2.2.2.1:=by kernel_rfl
theorem g1:LS Try.prog C ⟨1,0,h1,x1,y1,fun s kx kr=>r1 sl0 sl0.n kx kr s⟩ (loopsOf (bodyC Try.f116)):=LS.at (i:=0) (by kernel_rfl) (loop_good mixed ctx (ctx_nat ctx) (N:=sl0.n) (fun _ _ _ _=>rfl) e1 (all1 (LS.none (by kernel_rfl)) (all1 ((g4).sub (nthC_mem (by kernel_rfl))) (all0))))
theorem eG (β:Type)(s:sin.den)(K:sout.den→Option β):evalFn C Try.f116 sin sout s K=o.F s K:=by kernel_rfl
theorem ok:OracOk Try.prog o:=fn_ok mixed Try.func116 (by kernel_rfl) ctx (c:=bodyC Try.f116) (by kernel_rfl) (all1 g1 (all1 g4 (all0))) (by kernel_rfl) (by kernel_rfl) (by kernel_rfl) (Nat.le_of_ble_eq_true (by kernel_rfl)) eG (by kernel_rfl) (Nat.le_of_ble_eq_true (by kernel_rfl))
end slices_insertionSortCmpFunc_impl_House
end Go.Proofs.Ytijjhpmladkjdaa.E
end
