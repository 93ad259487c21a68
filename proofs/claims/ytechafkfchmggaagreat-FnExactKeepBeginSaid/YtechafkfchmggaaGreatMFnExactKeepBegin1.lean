/- Part 1 of the proof of the statement FnExactKeepBegin; the last part states it. No condition. -/
import Derived.Test.YtechafkfchmggaaGreatRows
import Derived.WalkKit
import Derived.ProofKit
import Derived.OpenShut
import Derived.ShutString
import Derived.ChangeOld
import Derived.Below
import Derived.SizedLaws
import Derived.Test.YtechafkfchmggaaGreatMGB2
import Derived.Test.YtechafkfchmggaaGreatMGB3
import Derived.Test.YtechafkfchmggaaGreatMGB4
import Derived.Test.YtechafkfchmggaaGreatMGB5
import Derived.Test.YtechafkfchmggaaGreatMGB21
section
set_option linter.unusedVariables false
set_option linter.unusedSimpArgs false
namespace Go.Proofs.YtechafkfchmggaaGreat.E
open Go Go.RowKit
set_option linter.unusedVariables false
set_option maxRecDepth 100000
namespace impl_VecOk
def sin : Sig := ⟨[], [.one (.val (.sl I) false)]⟩
def sout : Sig := ⟨[], [.one (.val .bool false)]⟩
noncomputable def G {β : Type} (S : Sl) (a0 : (List Int)) (K : Bool → Option β) : Option β := impl_elementsOk.G S a0 4 (fun y1 => K y1)
noncomputable def o : Orac := ⟨142, sin, sout, fun s K => G sl0 s.2.1 (fun x0 => K ((), (x0, ())))⟩
noncomputable def C : Ctx := ⟨tyT, [impl_elementsOk.o], [], 5, 0⟩
theorem ctx : CtxOk Tryz.prog C := ⟨tyOk, all1 impl_elementsOk.ok (all0)⟩
theorem eG (β : Type) (s : sin.den) (K : sout.den → Option β) : evalFn C Tryz.f142 sin sout s K = o.F s K := by kernel_rfl
theorem ok : OracOk Tryz.prog o := fn_ok mixed Tryz.func142 (by kernel_rfl) ctx (c := bodyC Tryz.f142) (by kernel_rfl) (all0) (by kernel_rfl) (by kernel_rfl) (by kernel_rfl) (Nat.le_of_ble_eq_true (by kernel_rfl)) eG (by kernel_rfl) (Nat.le_of_ble_eq_true (by kernel_rfl))
end impl_VecOk
end Go.Proofs.YtechafkfchmggaaGreat.E
end
section
set_option linter.unusedVariables false
set_option linter.unusedSimpArgs false
namespace Go.Proofs.YtechafkfchmggaaGreat.E
open Go Go.RowKit
set_option linter.unusedVariables false
set_option maxRecDepth 100000
namespace impl_KeepBegin
def sin : Sig := ⟨[], [.agg [.val I false, .val (.sl I) false, .val (.sl I) false, .val (.sl .bool) false, .val .bool false, .val I false, .val (.sl I) false, .val I false], .one (.val I false), .one (.val (.sl I) false)]⟩
def sout : Sig := ⟨[.buf I false, .buf I false, .buf .bool false, .buf I false], [.agg [.val I false, .ref (.own 0), .ref (.own 1), .ref (.own 2), .val .bool false, .val I false, .ref (.own 3), .val I false], .one (.val .bool false)]⟩
noncomputable def G {β : Type} (S : Sl) (a0 : Int) (a1 : (List Int)) (a2 : (List Int)) (a3 : (List Bool)) (a4 : Bool) (a5 : Int) (a6 : (List Int)) (a7 : Int) (a8 : Int) (a9 : (List Int)) (K : (List Int) → (List Int) → (List Bool) → (List Int) → Int → Bool → Int → Int → Bool → Option β) : Option β := impl_KeepOk.G S a0 a1 a2 a3 a4 a5 a6 a7 (fun y1 => bif (!y1) then (K [] [] [] [] 0 false 0 0 false) else (impl_kindOk.G S a8 (fun y2 => bif (!y2) then (K [] [] [] [] 0 false 0 0 false) else (impl_VecOk.G S a9 (fun y3 => bif (!y3) then (K [] [] [] [] 0 false 0 0 false) else (impl_Keep_copied.G S a0 a1 a2 a3 a4 a5 a6 a7 (fun y4 y5 y6 y7 y8 y9 y10 y11 => bif a4 then (K y4 y5 y6 y7 y8 y9 y10 y11 false) else (impl_Stripe_top.G S a0 a1 a2 a3 (fun y12 => bif (S.eq y12 99) then (K y4 y5 y6 y7 y8 y9 y10 y11 false) else (slices_Clone_Sint_int.G S a9 (fun y13 => slices_Clip_Sint_int_.G S y13 (fun y14 => impl_Stripe_top.G S a0 a1 a2 a3 (fun y15 => K y4 y5 y6 y14 y8 true a8 (S.w (y15 + 1)) true)))))))))))))
noncomputable def o : Orac := ⟨73, sin, sout, fun s K => G sl0 s.2.1.1 s.2.1.2.1 s.2.1.2.2.1 s.2.1.2.2.2.1 s.2.1.2.2.2.2.1 s.2.1.2.2.2.2.2.1 s.2.1.2.2.2.2.2.2.1 s.2.1.2.2.2.2.2.2.2.1 s.2.2.1 s.2.2.2.1 (fun x0 x1 x2 x3 x4 x5 x6 x7 x8 => K ((x0, (x1, (x2, (x3, ())))), ((x4, (x5, (x6, (x7, ())))), (x8, ()))))⟩
noncomputable def C : Ctx := ⟨tyT, [impl_KeepOk.o, impl_Keep_copied.o, impl_Stripe_top.o, impl_VecOk.o, impl_kindOk.o, slices_Clip_Sint_int_.o, slices_Clone_Sint_int.o], [], 47, 0⟩
theorem ctx : CtxOk Tryz.prog C := ⟨tyOk, all1 impl_KeepOk.ok (all1 impl_Keep_copied.ok (all1 impl_Stripe_top.ok (all1 impl_VecOk.ok (all1 impl_kindOk.ok (all1 slices_Clip_Sint_int_.ok (all1 slices_Clone_Sint_int.ok (all0)))))))⟩
theorem eG (β : Type) (s : sin.den) (K : sout.den → Option β) : evalFn C Tryz.f73 sin sout s K = o.F s K := by kernel_rfl
theorem ok : OracOk Tryz.prog o := fn_ok mixed Tryz.func73 (by kernel_rfl) ctx (c := bodyC Tryz.f73) (by kernel_rfl) (all0) (by kernel_rfl) (by kernel_rfl) (by kernel_rfl) (Nat.le_of_ble_eq_true (by kernel_rfl)) eG (by kernel_rfl) (Nat.le_of_ble_eq_true (by kernel_rfl))
end impl_KeepBegin
end Go.Proofs.YtechafkfchmggaaGreat.E
end
section
set_option linter.unusedVariables false
set_option linter.unusedSimpArgs false
namespace Go.Proofs.YtechafkfchmggaaGreat.E
open Go Go.RowKit
set_option linter.unusedVariables false
set_option maxRecDepth 100000
namespace spec_KeepBegin
def sin : Sig := ⟨[], [.agg [.val I false, .val (.sl I) false, .val (.sl I) false, .val (.sl .bool) false, .val .bool false, .val I false, .val (.sl I) false, .val I false], .one (.val I false), .one (.val (.sl I) false)]⟩
def sout : Sig := ⟨[.buf I false, .buf I false, .buf .bool false, .buf I false], [.agg [.val I false, .ref (.own 0), .ref (.own 1), .ref (.own 2), .val .bool false, .val I false, .ref (.own 3), .val I false], .one (.val .bool false)]⟩
noncomputable def G {β : Type} (S : Sl) (a0 : Int) (a1 : (List Int)) (a2 : (List Int)) (a3 : (List Bool)) (a4 : Bool) (a5 : Int) (a6 : (List Int)) (a7 : Int) (a8 : Int) (a9 : (List Int)) (K : (List Int) → (List Int) → (List Bool) → (List Int) → Int → Bool → Int → Int → Bool → Option β) : Option β := spec_KeepOk.G S a0 a1 a2 a3 a4 a5 a6 a7 (fun y1 => bif (!y1) then (K [] [] [] [] 0 false 0 0 false) else (spec_l4Kind.G S a8 (fun y2 => bif (!y2) then (K [] [] [] [] 0 false 0 0 false) else (spec_VecOk.G S a9 (fun y3 => bif (!y3) then (K [] [] [] [] 0 false 0 0 false) else (spec_l23Copy.G S a0 a1 a2 a3 a4 a5 a6 a7 (fun y4 y5 y6 y7 y8 y9 y10 y11 => bif a4 then (K y4 y5 y6 y7 y8 y9 y10 y11 false) else (spec_l21Top.G S a0 a1 a2 a3 (fun y12 => bif (S.le 99 y12) then (K y4 y5 y6 y7 y8 y9 y10 y11 false) else (bif (S.fw ([] ++ a9).length) then (spec_l21Top.G S a0 a1 a2 a3 (fun y13 => K y4 y5 y6 ([] ++ a9) y8 true a8 (S.w (y13 + 1)) true)) else (none)))))))))))
noncomputable def o : Orac := ⟨72, sin, sout, fun s K => G sl0 s.2.1.1 s.2.1.2.1 s.2.1.2.2.1 s.2.1.2.2.2.1 s.2.1.2.2.2.2.1 s.2.1.2.2.2.2.2.1 s.2.1.2.2.2.2.2.2.1 s.2.1.2.2.2.2.2.2.2.1 s.2.2.1 s.2.2.2.1 (fun x0 x1 x2 x3 x4 x5 x6 x7 x8 => K ((x0, (x1, (x2, (x3, ())))), ((x4, (x5, (x6, (x7, ())))), (x8, ()))))⟩
noncomputable def C : Ctx := ⟨tyT, [spec_KeepOk.o, spec_VecOk.o, spec_l21Top.o, spec_l23Copy.o, spec_l4Kind.o], [], 47, 0⟩
theorem ctx : CtxOk Tryz.prog C := ⟨tyOk, all1 spec_KeepOk.ok (all1 spec_VecOk.ok (all1 spec_l21Top.ok (all1 spec_l23Copy.ok (all1 spec_l4Kind.ok (all0)))))⟩
theorem eG (β : Type) (s : sin.den) (K : sout.den → Option β) : evalFn C Tryz.f72 sin sout s K = o.F s K := by kernel_rfl
theorem ok : OracOk Tryz.prog o := fn_ok mixed Tryz.func72 (by kernel_rfl) ctx (c := bodyC Tryz.f72) (by kernel_rfl) (all0) (by kernel_rfl) (by kernel_rfl) (by kernel_rfl) (Nat.le_of_ble_eq_true (by kernel_rfl)) eG (by kernel_rfl) (Nat.le_of_ble_eq_true (by kernel_rfl))
end spec_KeepBegin
end Go.Proofs.YtechafkfchmggaaGreat.E
end
section
set_option linter.unusedVariables false
set_option linter.unusedSimpArgs false
namespace Go.Proofs.YtechafkfchmggaaGreat.E
open Go Go.RowKit
set_option linter.unusedVariables false
set_option maxRecDepth 100000
namespace laws_FnExactKeepBegin
def sin : Sig := ⟨[], [.agg [.val I false, .val (.sl I) false, .val (.sl I) false, .val (.sl .bool) false, .val .bool false, .val I false, .val (.sl I) false, .val I false], .one (.val I false), .one (.val (.sl I) false)]⟩
def sout : Sig := ⟨[], [.one (.val .bool false)]⟩
noncomputable def G {β : Type} (S : Sl) (a0 : Int) (a1 : (List Int)) (a2 : (List Int)) (a3 : (List Bool)) (a4 : Bool) (a5 : Int) (a6 : (List Int)) (a7 : Int) (a8 : Int) (a9 : (List Int)) (K : Bool → Option β) : Option β := bif (S.lt 1048576 (a9.length : Int)) then (K true) else (laws_szKeep.G S a0 a1 a2 a3 a4 a5 a6 a7 1048576 (fun y1 => bif (S.lt y1 0) then (K true) else (laws_toKeep.G S a0 a1 a2 a3 a4 a5 a6 a7 (fun y2 y3 y4 y5 y6 y7 y8 y9 => laws_toIntS.G S a9 (fun y10 => spec_KeepBegin.G S y6 y2 y3 y4 y7 y8 y5 y9 a8 y10 (fun y11 y12 y13 y14 y15 y16 y17 y18 y19 => laws_toKeep.G S a0 a1 a2 a3 a4 a5 a6 a7 (fun y20 y21 y22 y23 y24 y25 y26 y27 => laws_toIntS.G S a9 (fun y28 => impl_KeepBegin.G S y24 y20 y21 y22 y25 y26 y23 y27 a8 y28 (fun y29 y30 y31 y32 y33 y34 y35 y36 y37 => laws_eqKeep.G S y33 y29 y30 y31 y34 y35 y32 y36 y15 y11 y12 y13 y16 y17 y14 y18 (fun y38 => bif (!y38) then (K false) else (bif (y37 != y19) then (K false) else (laws_toKeep.G S a0 a1 a2 a3 a4 a5 a6 a7 (fun y39 y40 y41 y42 y43 y44 y45 y46 => laws_eqKeep.G S y24 y20 y21 y22 y25 y26 y23 y27 y43 y39 y40 y41 y44 y45 y42 y46 (fun y47 => bif (!y47) then (K false) else (laws_toIntS.G S a9 (fun y48 => laws_eqIntS.G S y28 y48 (fun y49 => bif (!y49) then (K false) else (laws_markKeep_.G S y20 y21 y22 y23 y24 y25 y26 y27 1 (fun y50 y51 y52 y53 y54 => laws_markIntS_.G S y28 y54 (fun y55 y56 => bif (S.lt y56 0) then (K false) else (laws_eqKeep.G S y33 y29 y30 y31 y34 y35 y32 y36 y15 y11 y12 y13 y16 y17 y14 y18 (fun y57 => bif (!y57) then (K false) else (bif (y37 != y19) then (K false) else (laws_markKeep_.G S y29 y30 y31 y32 y33 y34 y35 y36 1 (fun y58 y59 y60 y61 y62 => laws_heldKeep.G S y33 y58 y59 y60 y34 y35 y61 y36 1 (fun y63 => bif (S.lt y63 0) then (K false) else (bif (!S.eq y63 y62) then (K false) else (laws_toKeep.G S a0 a1 a2 a3 a4 a5 a6 a7 (fun y64 y65 y66 y67 y68 y69 y70 y71 => laws_toIntS.G S a9 (fun y72 => impl_KeepBegin.G S y68 y64 y65 y66 y69 y70 y67 y71 a8 y72 (fun y73 y74 y75 y76 y77 y78 y79 y80 y81 => laws_eqKeep.G S y77 y73 y74 y75 y78 y79 y76 y80 y15 y11 y12 y13 y16 y17 y14 y18 (fun y82 => bif (!y82) then (K false) else (bif (y81 != y19) then (K false) else (laws_heldKeep.G S y33 y58 y59 y60 y34 y35 y61 y36 1 (fun y83 => bif (S.lt y83 0) then (K false) else (bif (!S.eq y83 y62) then (K false) else (K true)))))))))))))))))))))))))))))))))))))
noncomputable def o : Orac := ⟨17, sin, sout, fun s K => G sl0 s.2.1.1 s.2.1.2.1 s.2.1.2.2.1 s.2.1.2.2.2.1 s.2.1.2.2.2.2.1 s.2.1.2.2.2.2.2.1 s.2.1.2.2.2.2.2.2.1 s.2.1.2.2.2.2.2.2.2.1 s.2.2.1 s.2.2.2.1 (fun x0 => K ((), (x0, ())))⟩
noncomputable def C : Ctx := ⟨tyT, [impl_KeepBegin.o, laws_eqIntS.o, laws_eqKeep.o, laws_heldKeep.o, laws_markIntS_.o, laws_markKeep_.o, laws_szKeep.o, laws_toIntS.o, laws_toKeep.o, spec_KeepBegin.o], [], 122, 0⟩
theorem ctx : CtxOk Tryz.prog C := ⟨tyOk, all1 impl_KeepBegin.ok (all1 laws_eqIntS.ok (all1 laws_eqKeep.ok (all1 laws_heldKeep.ok (all1 laws_markIntS_.ok (all1 laws_markKeep_.ok (all1 laws_szKeep.ok (all1 laws_toIntS.ok (all1 laws_toKeep.ok (all1 spec_KeepBegin.ok (all0))))))))))⟩
theorem eG (β : Type) (s : sin.den) (K : sout.den → Option β) : evalFn C Tryz.f17 sin sout s K = o.F s K := by kernel_rfl
theorem ok : OracOk Tryz.prog o := fn_ok mixed Tryz.func17 (by kernel_rfl) ctx (c := bodyC Tryz.f17) (by kernel_rfl) (all0) (by kernel_rfl) (by kernel_rfl) (by kernel_rfl) (Nat.le_of_ble_eq_true (by kernel_rfl)) eG (by kernel_rfl) (Nat.le_of_ble_eq_true (by kernel_rfl))
end laws_FnExactKeepBegin
end Go.Proofs.YtechafkfchmggaaGreat.E
end
section
set_option linter.unusedVariables false
set_option linter.unusedSimpArgs false
namespace Go.Proofs.YtechafkfchmggaaGreat.E
open Go Go.RowKit
set_option linter.unusedVariables false
set_option maxRecDepth 100000
theorem keepBegin_E (kind : Int) {vals vers : List Int} {there : List Bool} (on : Bool) (kd : Int) {data : List Int} (kv : Int) (k : Int) {d : List Int} (h1 : vals.length ≤ 1048576) (h2 : vers.length ≤ 1048576) (h3 : there.length ≤ 1048576) (hdl : data.length ≤ 1048576) (hd : d.length ≤ 1048576) :
    ∃ (a b : List Int) (c : List Bool) (e : List Int) (x1 : Int) (x2 : Bool) (x3 x4 : Int) (x5 : Bool), (a.length ≤ 1048576 ∧ b.length ≤ 1048576 ∧ c.length ≤ 1048576 ∧ e.length ≤ 1048576) ∧
    (∀ (β : Type) (K : List Int → List Int → List Bool → List Int → Int → Bool → Int → Int → Bool → Option β), spec_KeepBegin.G sl1 kind vals vers there on kd data kv k d K = K a b c e x1 x2 x3 x4 x5) ∧
    ∀ (β : Type) (K : List Int → List Int → List Bool → List Int → Int → Bool → Int → Int → Bool → Option β), impl_KeepBegin.G sl1 kind vals vers there on kd data kv k d K = K a b c e x1 x2 x3 x4 x5 := by
  cases ck : keepV kind vals vers there on kd data kv
  · refine ⟨[], [], [], [], 0, false, 0, 0, false, by simp, fun β K => ?_, fun β K => ?_⟩
    · refine (keepS_G kind on kd kv (by omega) (by omega) _).trans ?_
      rw [ck]; exact cT rfl rfl
    · refine (keepI_G kind on kd kv (by omega) _).trans ?_
      rw [keep_same, ck]; exact cT rfl rfl
  cases c2 : inV k 1 2
  · refine ⟨[], [], [], [], 0, false, 0, 0, false, by simp, fun β K => ?_, fun β K => ?_⟩
    · refine (keepS_G kind on kd kv (by omega) (by omega) _).trans ?_
      rw [ck]
      refine cF rfl ((spec_kind _ _).trans ?_)
      rw [c2]; exact cT rfl rfl
    · refine (keepI_G kind on kd kv (by omega) _).trans ?_
      rw [keep_same, ck]
      refine cF rfl ((impl_in k 1 2 _).trans ?_)
      rw [c2]; exact cT rfl rfl
  cases c3 : vecV d
  · refine ⟨[], [], [], [], 0, false, 0, 0, false, by simp, fun β K => ?_, fun β K => ?_⟩
    · refine (keepS_G kind on kd kv (by omega) (by omega) _).trans ?_
      rw [ck]
      refine cF rfl ((spec_kind _ _).trans ?_)
      rw [c2]
      refine cF rfl ((vecOk_G d (by omega) _).trans ?_)
      rw [c3]; exact cT rfl rfl
    · refine (keepI_G kind on kd kv (by omega) _).trans ?_
      rw [keep_same, ck]
      refine cF rfl ((impl_in k 1 2 _).trans ?_)
      rw [c2]
      refine cF rfl ((elems_G d 4 (by omega) _).trans ?_)
      rw [show (decide (d.length = 4) && fldL d) = vecV d by unfold vecV; rw [Bool.and_comm], c3]
      exact cT rfl rfl
  obtain ⟨hk, hf, e1, e2, e3, ho, _⟩ := keepV_facts ck
  have startS : ∀ (β : Type) (K : List Int → List Int → List Bool → List Int → Int → Bool → Int → Int → Bool → Option β) (r : Option β), (bif on then (K vals vers there data kind on kd kv false) else (spec_l21Top.G sl1 kind vals vers there (fun y12 => bif (sl1.le 99 y12) then (K vals vers there data kind on kd kv false) else (bif (sl1.fw ([] ++ d).length) then (spec_l21Top.G sl1 kind vals vers there (fun y13 => K vals vers there ([] ++ d) kind true k (sl1.w (y13 + 1)) true)) else none)))) = r →
      spec_KeepBegin.G sl1 kind vals vers there on kd data kv k d K = r := fun β K r h => by
    refine (keepS_G kind on kd kv (by omega) (by omega) _).trans ?_
    rw [ck]
    refine cF rfl ((spec_kind _ _).trans ?_)
    rw [c2]
    refine cF rfl ((vecOk_G d (by omega) _).trans ?_)
    rw [c3]
    exact cF rfl ((kcopyS_G kind on kd kv (by omega) (by omega) (by omega) hdl _).trans h)
  have startI : ∀ (β : Type) (K : List Int → List Int → List Bool → List Int → Int → Bool → Int → Int → Bool → Option β) (r : Option β), (bif on then (K vals vers there data kind on kd kv false) else (impl_Stripe_top.G sl1 kind vals vers there (fun y12 => bif (sl1.eq y12 99) then (K vals vers there data kind on kd kv false) else (slices_Clone_Sint_int.G sl1 d (fun y13 => slices_Clip_Sint_int_.G sl1 y13 (fun y14 => impl_Stripe_top.G sl1 kind vals vers there (fun y15 => K vals vers there y14 kind true k (sl1.w (y15 + 1)) true))))))) = r →
      impl_KeepBegin.G sl1 kind vals vers there on kd data kv k d K = r := fun β K r h => by
    refine (keepI_G kind on kd kv (by omega) _).trans ?_
    rw [keep_same, ck]
    refine cF rfl ((impl_in k 1 2 _).trans ?_)
    rw [c2]
    refine cF rfl ((elems_G d 4 (by omega) _).trans ?_)
    rw [show (decide (d.length = 4) && fldL d) = vecV d by unfold vecV; rw [Bool.and_comm], c3]
    exact cF rfl ((kcopyI_G kind on kd kv (by omega) (by omega) (by omega) hdl _).trans h)
  cases on
  · obtain ⟨cs, _⟩ := ho rfl
    have t9 := top_99' cs
    have t0 := (topV_ge vers 0).1
    by_cases c : topV vers 0 = 99
    · refine ⟨vals, vers, there, data, kind, false, kd, kv, false, ⟨h1, h2, h3, hdl⟩, fun β K => startS β K _ (cF rfl ((top_G _ _ _ _ (by omega) _).trans (cT (leT (by omega)) rfl))), fun β K => startI β K _ (cF rfl ((topI_G cs _).trans (cT (eqT c) rfl)))⟩
    · refine ⟨vals, vers, there, d, kind, true, k, topV vers 0 + 1, true, ⟨h1, h2, h3, hd⟩, fun β K => startS β K _ (cF rfl ((top_G _ _ _ _ (by omega) _).trans (cF (leF (by omega)) ?_))), fun β K => startI β K _ (cF rfl ((topI_G cs _).trans (cF (eqF c) (cT (fwT (by omega)) ((clipI_G _ _).trans ((topI_G cs _).trans ?_))))))⟩
      · rw [List.nil_append]
        refine cT (fwT (by omega)) ((top_G _ _ _ _ (by omega) _).trans ?_)
        rw [wE (by omega) (by omega)]
      · rw [wE (by omega) (by omega)]
  · exact ⟨vals, vers, there, data, kind, true, kd, kv, false, ⟨h1, h2, h3, hdl⟩, fun β K => startS β K _ rfl, fun β K => startI β K _ rfl⟩
end Go.Proofs.YtechafkfchmggaaGreat.E
namespace Go.Proofs.YtechafkfchmggaaGreat.Pure.FnExactKeepBegin
open Go Go.Proofs.YtechafkfchmggaaGreat.E
theorem pure (x : Int × (List Int × (List Int × (List Bool × (Bool × (Int × (List Int × (Int × Unit)))))))) (k : Int) (d : List Int) (h1 : x.2.1.length ≤ 9223372036854775807) (h2 : x.2.2.1.length ≤ 9223372036854775807) (h3 : x.2.2.2.1.length ≤ 9223372036854775807) (h4 : x.2.2.2.2.2.2.1.length ≤ 9223372036854775807) (h5 : d.length ≤ 9223372036854775807)
    {β : Type} (K : Bool → Option β) : laws_FnExactKeepBegin.G sl1 x.1 x.2.1 x.2.2.1 x.2.2.2.1 x.2.2.2.2.1 x.2.2.2.2.2.1 x.2.2.2.2.2.2.1 x.2.2.2.2.2.2.2.1 k d K = K true := by
  obtain ⟨kind, vals, vers, there, on, kd, data, kv, _⟩ := x
  dsimp only at h1 h2 h3 h4 ⊢
  obtain ⟨y, hy, h⟩ := szKeep_or kind on kd kv h1 h2 h3 h4
  unfold laws_FnExactKeepBegin.G
  by_cases c5 : 1048576 < (d.length : Int)
  · exact cT (ltT c5) rfl
  have l5 : d.length ≤ 1048576 := by omega
  refine cF (ltF (by omega)) ((hy _ _).trans ?_)
  rcases h with h | ⟨h, l1, l2, l3, l4⟩
  · exact cT (ltT h) rfl
  obtain ⟨a, b, c, e, x1, x2, x3, x4, x5, ⟨m1, m2, m3, m4⟩, es, ei⟩ := keepBegin_E kind (vals := vals) (vers := vers) (there := there) (data := data) (d := d) on kd kv k l1 l2 l3 l4 l5
  have to := fun {γ : Type} (K : List Int → List Int → List Bool → List Int → Int → Bool → Int → Int → Option γ) => toKeep_G kind on kd kv l1 l2 l3 l4 K
  have eq0 := fun {γ : Type} (K : Bool → Option γ) => eqKeep_G kind on kd kv l1 l2 l3 l4 K
  have eq1 := fun {γ : Type} (K : Bool → Option γ) => eqKeep_G x1 x2 x3 x4 m1 m2 m3 m4 K
  obtain ⟨a', b', c', d', k', hk', hm', _⟩ := markKeep_B kind on kd kv l1 l2 l3 l4
  obtain ⟨a2, b2, c2, d2, k2, hk2, hm2, hh2⟩ := markKeep_B x1 x2 x3 x4 m1 m2 m3 m4
  refine cF (ltF h) ((to _).trans ((toInt_G l5 _).trans ((es _ _).trans ((to _).trans ((toInt_G l5 _).trans ((ei _ _).trans ((eq1 _).trans (cF rfl (cF (bne_self_eq_false _) ?_)))))))))
  refine (to _).trans ((eq0 _).trans (cF rfl ((toInt_G l5 _).trans ((eqInt_G l5 _).trans (cF rfl ((hm' _ _).trans ((markInt_G l5 (by omega) (by omega) _).trans (cF (ltF (by omega)) ?_))))))))
  refine (eq1 _).trans (cF rfl (cF (bne_self_eq_false _) ((hm2 _ _).trans ((hh2 _ _).trans (cF (ltF (by omega)) (cF (neF rfl) ?_))))))
  refine (to _).trans ((toInt_G l5 _).trans ((ei _ _).trans ((eq1 _).trans (cF rfl (cF (bne_self_eq_false _) ?_)))))
  exact (hh2 _ _).trans (cF (ltF (by omega)) (cF (neF rfl) rfl))
end Go.Proofs.YtechafkfchmggaaGreat.Pure.FnExactKeepBegin
end
section
set_option linter.unusedVariables false
set_option linter.unusedSimpArgs false
namespace Go.Proofs.YtechafkfchmggaaGreat.fnExactKeepBegin
open Go.ChangeShapes Go.WideShapes Go.ChangeAt Go.RowKit
open Go.ChangeMaps (open_string shut_string)
set_option linter.unusedVariables false
theorem own : ownKnob Tryz.prog.godebug = none := by kernel_rfl
theorem laidOut : laidOutB Tryz.prog = true := by kernel_rfl
set_option maxRecDepth 100000 in
theorem lifted (os : Os) (started : os.Started) (H : Type) (enc : TypeId × Value → H) :
    ReturnsInHanded {} Tryz.checked os 17 .any (Rows.fnExactKeepBeginSpec.pre6 enc Tryz.prog Tryz.f17 Rows.fnExactKeepBeginRow.domain false) (Rows.fnExactKeepBeginSpec.post enc Tryz.prog Tryz.f17 false true false false) := by
  refine returnsInHanded_of_change_sized (C := Tryz.checked) own started (by kernel_rfl) Tryz.func17
    (ChangeSpec.witness6 (enc := enc) (C := Tryz.checked) false ⟨#[], #[.agg #[.int .i64 0, .slice none 0 0, .slice none 0 0, .slice none 0 0, .bool false, .int .i64 0, .slice none 0 0, .int .i64 0], .int .i64 0, .slice none 0 0], []⟩ 8 (by kernel_rfl) (by kernel_rfl) (by kernel_rfl) (by kernel_rfl)) ?_
  intro W base args ds gs before hval0 hW hcnd hsz0 _
  have hval : ∀ (j : Nat) t v, Tryz.f17.params[j]? = some t → args[j]? = some v → Value.okWide Tryz.prog W .any base t v := hval0
  have hW' := hW
  obtain ⟨p, q, hA0, hV, rfl, hfz, hnd⟩ := hW
  have hA : DataW.TrodAll enc Tryz.prog W 0 (fun _ => true) true Tryz.f17.params.toList args.toList ds p := hA0
  rw [Tryz.params17] at hA hval
  obtain ⟨v0, vs0, d0, ds0, p0, q0, hargs0, rfl, rfl, h0, r0⟩ := trodAll_cons hA
  obtain ⟨v1, vs1, d1, ds1, p1, q1, hargs1, rfl, rfl, h1, r1⟩ := trodAll_cons r0
  obtain ⟨v2, vs2, d2, ds2, p2, q2, hargs2, rfl, rfl, h2, r2⟩ := trodAll_cons r1
  obtain ⟨rfl, rfl, rfl⟩ := trodAll_nil r2
  obtain rfl : args = #[v0, v1, v2] := by cases args; simp_all
  obtain ⟨rfl, rfl⟩ := trodVars_none hV
  have k0 := h0
  have lt0 : ∀ x ∈ p0, x.block < W.heap.size := by obtain ⟨m, hm⟩ := k0; exact DataW.trod_lt m _ _ _ hm
  obtain ⟨x0, R0, Q0⟩ := E.arg_struct Tryz.underlying81 (hval 0 81 v0 rfl rfl) h0 (E.RdG_nest rfl rfl (E.Rd_struct Tryz.underlying25 (by kernel_rfl) (E.RdF_cons rfl (E.Rd_int Tryz.underlying3 (by kernel_rfl)) (E.RdF_cons rfl (E.Rd_slice Tryz.underlying22 (by kernel_rfl) (by decide) (E.Rd_int Tryz.underlying3 (by kernel_rfl))) (E.RdF_cons rfl (E.Rd_slice Tryz.underlying22 (by kernel_rfl) (by decide) (E.Rd_int Tryz.underlying3 (by kernel_rfl))) (E.RdF_cons rfl (E.Rd_slice Tryz.underlying23 (by kernel_rfl) (by decide) (E.Rd_bool Tryz.underlying4 (by kernel_rfl))) E.RdF_nil))))) (E.RdG_cons rfl (E.Rd_bool Tryz.underlying4 (by kernel_rfl)) (E.RdG_cons rfl (E.Rd_int Tryz.underlying3 (by kernel_rfl)) (E.RdG_cons rfl (E.Rd_slice Tryz.underlying22 (by kernel_rfl) (by decide) (E.Rd_int Tryz.underlying3 (by kernel_rfl))) (E.RdG_cons rfl (E.Rd_int Tryz.underlying3 (by kernel_rfl)) (E.RdG_nil (by decide +kernel)))))))
  obtain ⟨xa0, xb0, rfl, Qa0, Qb0⟩ := Q0
  have k1 := h1
  have lt1 : ∀ x ∈ p1, x.block < W.heap.size := by obtain ⟨m, hm⟩ := k1; exact DataW.trod_lt m _ _ _ hm
  obtain ⟨x1, R1, Q1⟩ := E.arg_int Tryz.underlying3 (hval 1 3 v1 rfl rfl) h1
  have k2 := h2
  have lt2 : ∀ x ∈ p2, x.block < W.heap.size := by obtain ⟨m, hm⟩ := k2; exact DataW.trod_lt m _ _ _ hm
  obtain ⟨x2, R2, Q2⟩ := E.arg_slice Tryz.underlying22 (hval 2 22 v2 rfl rfl) h2 (E.Rd_slice Tryz.underlying22 (by kernel_rfl) (by decide) (E.Rd_int Tryz.underlying3 (by kernel_rfl)))
  clear hA0 hval0 hsz0
  have hp := Pure.FnExactKeepBegin.pure (E.chainDen _ _ xa0 xb0) x1 x2 Qa0.2.1.1 Qa0.2.2.1.1 Qa0.2.2.2.1.1 Qb0.2.2.1.1 Q2.1 (fun b => some ((), (b, ())))
  rw [← E.sl_eq] at hp
  refine (E.law_any E.laws_FnExactKeepBegin.ok (s := (E.chainDen _ _ xa0 xb0, (x1, (x2, ())))) hp (args := [v0, v1, v2]) ⟨v0, _, rfl, R0, ⟨v1, _, rfl, R1, ⟨v2, _, rfl, R2, rfl⟩⟩⟩).mono fun e W' ⟨he, bel⟩ => ?_
  subst he
  exact ⟨_, rfl, _, _, _, [], _, [], hW', trodAll_mk1 (shut_bool Tryz.underlying4 _), (trodAll_cons_mk (Below.trod laidOut (by kernel_rfl) (of_decide_eq_true (by kernel_rfl)) k0 bel lt0) (trodAll_cons_mk (Below.trod laidOut (by kernel_rfl) (of_decide_eq_true (by kernel_rfl)) k1 bel lt1) (trodAll_cons_mk (Below.trod laidOut (by kernel_rfl) (of_decide_eq_true (by kernel_rfl)) k2 bel lt2) trodAll_mk0))), rfl, bel.frame _, fun h => by cases h⟩
theorem closed : joinedFacts Tryz.prog 17 Tryz.f17 Rows.fnExactKeepBeginSpec Rows.fnExactKeepBeginRow = true := by
  unfold joinedFacts
  rw [Head.make, Head.final, Head.enter]
  kernel_rfl
theorem over : Rows.fnExactKeepBeginRow.holds Tryz.pinned (OpenSpec.ofChange Rows.fnExactKeepBeginSpec) :=
  OpenClaim.holds_of_wide 17 Tryz.f17 rfl rfl rfl rfl rfl rfl rfl ⟨rfl, rfl, rfl, rfl, rfl⟩ rfl rfl rfl rfl rfl (by kernel_rfl) Tryz.func17 closed
    (of_decide_eq_true (by kernel_rfl)) (by unfold Func.isWrapper; first | (rw [if_pos (by decide +kernel)]; kernel_rfl) | (rw [if_neg (by decide +kernel)]; exact ⟨rfl, rfl⟩))
    (fun os started H enc _ => lifted os started H enc)
theorem proved : Rows.FnExactKeepBeginSaid := over
#print axioms proved
end Go.Proofs.YtechafkfchmggaaGreat.fnExactKeepBegin
end
