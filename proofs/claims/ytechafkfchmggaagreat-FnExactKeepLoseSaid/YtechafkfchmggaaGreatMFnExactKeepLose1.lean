/- Part 1 of the proof of the statement FnExactKeepLose; the last part states it. No condition. -/
import Derived.Test.YtechafkfchmggaaGreatRows
import Derived.WalkKit
import Derived.ProofKit
import Derived.OpenShut
import Derived.ShutString
import Derived.ChangeOld
import Derived.Below
import Derived.SizedLaws
import Derived.Test.YtechafkfchmggaaGreatMGB2
import Derived.Test.YtechafkfchmggaaGreatMGB3
import Derived.Test.YtechafkfchmggaaGreatMGB4
import Derived.Test.YtechafkfchmggaaGreatMGB5
import Derived.Test.YtechafkfchmggaaGreatMGB21
section
set_option linter.unusedVariables false
set_option linter.unusedSimpArgs false
namespace Go.Proofs.YtechafkfchmggaaGreat.E
open Go Go.RowKit
set_option linter.unusedVariables false
set_option maxRecDepth 100000
namespace impl_KeepLose
def sin : Sig := ⟨[], [.agg [.val I false, .val (.sl I) false, .val (.sl I) false, .val (.sl .bool) false, .val .bool false, .val I false, .val (.sl I) false, .val I false], .one (.val I false)]⟩
def sout : Sig := ⟨[.buf I false, .buf I false, .buf .bool false, .buf I false], [.agg [.val I false, .ref (.own 0), .ref (.own 1), .ref (.own 2), .val .bool false, .val I false, .ref (.own 3), .val I false]]⟩
noncomputable def G {β : Type} (S : Sl) (a0 : Int) (a1 : (List Int)) (a2 : (List Int)) (a3 : (List Bool)) (a4 : Bool) (a5 : Int) (a6 : (List Int)) (a7 : Int) (a8 : Int) (K : (List Int) → (List Int) → (List Bool) → (List Int) → Int → Bool → Int → Int → Option β) : Option β := impl_KeepOk.G S a0 a1 a2 a3 a4 a5 a6 a7 (fun y1 => bif (!y1) then (K [] [] [] [] 0 false 0 0) else (impl_shardOk.G S a8 (fun y2 => bif (!y2) then (K [] [] [] [] 0 false 0 0) else (impl_Keep_copied.G S a0 a1 a2 a3 a4 a5 a6 a7 (fun y3 y4 y5 y6 y7 y8 y9 y10 => impl_Stripe_drop.G S y3 y4 y5 y7 a8 (fun y11 y12 y13 => impl_Stripe_read.G S y7 y11 y12 y13 (fun y14 y15 y16 => bif (!y16) then (bif (!a4) then (impl_Keep_copied.G S a0 a1 a2 a3 a4 a5 a6 a7 (fun y17 y18 y19 y20 y21 y22 y23 y24 => K y17 y18 y19 y20 y21 y22 y23 y24)) else (K y11 y12 y13 y6 y7 y8 y9 y10)) else (K y11 y12 y13 y6 y7 y8 y9 y10))))))))
noncomputable def o : Orac := ⟨80, sin, sout, fun s K => G sl0 s.2.1.1 s.2.1.2.1 s.2.1.2.2.1 s.2.1.2.2.2.1 s.2.1.2.2.2.2.1 s.2.1.2.2.2.2.2.1 s.2.1.2.2.2.2.2.2.1 s.2.1.2.2.2.2.2.2.2.1 s.2.2.1 (fun x0 x1 x2 x3 x4 x5 x6 x7 => K ((x0, (x1, (x2, (x3, ())))), ((x4, (x5, (x6, (x7, ())))), ())))⟩
noncomputable def C : Ctx := ⟨tyT, [impl_KeepOk.o, impl_Keep_copied.o, impl_Stripe_drop.o, impl_Stripe_read.o, impl_shardOk.o], [], 41, 0⟩
theorem ctx : CtxOk Tryz.prog C := ⟨tyOk, all1 impl_KeepOk.ok (all1 impl_Keep_copied.ok (all1 impl_Stripe_drop.ok (all1 impl_Stripe_read.ok (all1 impl_shardOk.ok (all0)))))⟩
theorem eG (β : Type) (s : sin.den) (K : sout.den → Option β) : evalFn C Tryz.f80 sin sout s K = o.F s K := by kernel_rfl
theorem ok : OracOk Tryz.prog o := fn_ok mixed Tryz.func80 (by kernel_rfl) ctx (c := bodyC Tryz.f80) (by kernel_rfl) (all0) (by kernel_rfl) (by kernel_rfl) (by kernel_rfl) (Nat.le_of_ble_eq_true (by kernel_rfl)) eG (by kernel_rfl) (Nat.le_of_ble_eq_true (by kernel_rfl))
end impl_KeepLose
end Go.Proofs.YtechafkfchmggaaGreat.E
end
section
set_option linter.unusedVariables false
set_option linter.unusedSimpArgs false
namespace Go.Proofs.YtechafkfchmggaaGreat.E
open Go Go.RowKit
set_option linter.unusedVariables false
set_option maxRecDepth 100000
namespace spec_KeepLose
def sin : Sig := ⟨[], [.agg [.val I false, .val (.sl I) false, .val (.sl I) false, .val (.sl .bool) false, .val .bool false, .val I false, .val (.sl I) false, .val I false], .one (.val I false)]⟩
def sout : Sig := ⟨[.buf I false, .buf I false, .buf .bool false, .buf I false], [.agg [.val I false, .ref (.own 0), .ref (.own 1), .ref (.own 2), .val .bool false, .val I false, .ref (.own 3), .val I false]]⟩
noncomputable def G {β : Type} (S : Sl) (a0 : Int) (a1 : (List Int)) (a2 : (List Int)) (a3 : (List Bool)) (a4 : Bool) (a5 : Int) (a6 : (List Int)) (a7 : Int) (a8 : Int) (K : (List Int) → (List Int) → (List Bool) → (List Int) → Int → Bool → Int → Int → Option β) : Option β := spec_KeepOk.G S a0 a1 a2 a3 a4 a5 a6 a7 (fun y1 => bif (!y1) then (K [] [] [] [] 0 false 0 0) else (spec_l6In.G S a8 0 7 (fun y2 => bif (!y2) then (K [] [] [] [] 0 false 0 0) else (spec_l23Copy.G S a0 a1 a2 a3 a4 a5 a6 a7 (fun y3 y4 y5 y6 y7 y8 y9 y10 => spec_l21Lose.G S a0 a1 a2 a3 a8 (fun y11 y12 y13 y14 => spec_l21Read.G S y14 y11 y12 y13 (fun y15 y16 y17 => bif (!a4) then (bif (!y17) then (spec_l23Copy.G S a0 a1 a2 a3 a4 a5 a6 a7 (fun y18 y19 y20 y21 y22 y23 y24 y25 => K y18 y19 y20 y21 y22 y23 y24 y25)) else (K y11 y12 y13 y6 y14 y8 y9 y10)) else (K y11 y12 y13 y6 y14 y8 y9 y10))))))))
noncomputable def o : Orac := ⟨79, sin, sout, fun s K => G sl0 s.2.1.1 s.2.1.2.1 s.2.1.2.2.1 s.2.1.2.2.2.1 s.2.1.2.2.2.2.1 s.2.1.2.2.2.2.2.1 s.2.1.2.2.2.2.2.2.1 s.2.1.2.2.2.2.2.2.2.1 s.2.2.1 (fun x0 x1 x2 x3 x4 x5 x6 x7 => K ((x0, (x1, (x2, (x3, ())))), ((x4, (x5, (x6, (x7, ())))), ())))⟩
noncomputable def C : Ctx := ⟨tyT, [spec_KeepOk.o, spec_l21Lose.o, spec_l21Read.o, spec_l23Copy.o, spec_l6In.o], [], 42, 0⟩
theorem ctx : CtxOk Tryz.prog C := ⟨tyOk, all1 spec_KeepOk.ok (all1 spec_l21Lose.ok (all1 spec_l21Read.ok (all1 spec_l23Copy.ok (all1 spec_l6In.ok (all0)))))⟩
theorem eG (β : Type) (s : sin.den) (K : sout.den → Option β) : evalFn C Tryz.f79 sin sout s K = o.F s K := by kernel_rfl
theorem ok : OracOk Tryz.prog o := fn_ok mixed Tryz.func79 (by kernel_rfl) ctx (c := bodyC Tryz.f79) (by kernel_rfl) (all0) (by kernel_rfl) (by kernel_rfl) (by kernel_rfl) (Nat.le_of_ble_eq_true (by kernel_rfl)) eG (by kernel_rfl) (Nat.le_of_ble_eq_true (by kernel_rfl))
end spec_KeepLose
end Go.Proofs.YtechafkfchmggaaGreat.E
end
section
set_option linter.unusedVariables false
set_option linter.unusedSimpArgs false
namespace Go.Proofs.YtechafkfchmggaaGreat.E
open Go Go.RowKit
set_option linter.unusedVariables false
set_option maxRecDepth 100000
namespace laws_FnExactKeepLose
def sin : Sig := ⟨[], [.agg [.val I false, .val (.sl I) false, .val (.sl I) false, .val (.sl .bool) false, .val .bool false, .val I false, .val (.sl I) false, .val I false], .one (.val I false)]⟩
def sout : Sig := ⟨[], [.one (.val .bool false)]⟩
noncomputable def G {β : Type} (S : Sl) (a0 : Int) (a1 : (List Int)) (a2 : (List Int)) (a3 : (List Bool)) (a4 : Bool) (a5 : Int) (a6 : (List Int)) (a7 : Int) (a8 : Int) (K : Bool → Option β) : Option β := laws_szKeep.G S a0 a1 a2 a3 a4 a5 a6 a7 1048576 (fun y1 => bif (S.lt y1 0) then (K true) else (laws_toKeep.G S a0 a1 a2 a3 a4 a5 a6 a7 (fun y2 y3 y4 y5 y6 y7 y8 y9 => spec_KeepLose.G S y6 y2 y3 y4 y7 y8 y5 y9 a8 (fun y10 y11 y12 y13 y14 y15 y16 y17 => laws_toKeep.G S a0 a1 a2 a3 a4 a5 a6 a7 (fun y18 y19 y20 y21 y22 y23 y24 y25 => impl_KeepLose.G S y22 y18 y19 y20 y23 y24 y21 y25 a8 (fun y26 y27 y28 y29 y30 y31 y32 y33 => laws_eqKeep.G S y30 y26 y27 y28 y31 y32 y29 y33 y14 y10 y11 y12 y15 y16 y13 y17 (fun y34 => bif (!y34) then (K false) else (laws_toKeep.G S a0 a1 a2 a3 a4 a5 a6 a7 (fun y35 y36 y37 y38 y39 y40 y41 y42 => laws_eqKeep.G S y22 y18 y19 y20 y23 y24 y21 y25 y39 y35 y36 y37 y40 y41 y38 y42 (fun y43 => bif (!y43) then (K false) else (laws_markKeep_.G S y18 y19 y20 y21 y22 y23 y24 y25 1 (fun y44 y45 y46 y47 y48 => bif (S.lt y48 0) then (K false) else (laws_eqKeep.G S y30 y26 y27 y28 y31 y32 y29 y33 y14 y10 y11 y12 y15 y16 y13 y17 (fun y49 => bif (!y49) then (K false) else (laws_markKeep_.G S y26 y27 y28 y29 y30 y31 y32 y33 1 (fun y50 y51 y52 y53 y54 => laws_heldKeep.G S y30 y50 y51 y52 y31 y32 y53 y33 1 (fun y55 => bif (S.lt y55 0) then (K false) else (bif (!S.eq y55 y54) then (K false) else (laws_toKeep.G S a0 a1 a2 a3 a4 a5 a6 a7 (fun y56 y57 y58 y59 y60 y61 y62 y63 => impl_KeepLose.G S y60 y56 y57 y58 y61 y62 y59 y63 a8 (fun y64 y65 y66 y67 y68 y69 y70 y71 => laws_eqKeep.G S y68 y64 y65 y66 y69 y70 y67 y71 y14 y10 y11 y12 y15 y16 y13 y17 (fun y72 => bif (!y72) then (K false) else (laws_heldKeep.G S y30 y50 y51 y52 y31 y32 y53 y33 1 (fun y73 => bif (S.lt y73 0) then (K false) else (bif (!S.eq y73 y54) then (K false) else (K true))))))))))))))))))))))))))
noncomputable def o : Orac := ⟨19, sin, sout, fun s K => G sl0 s.2.1.1 s.2.1.2.1 s.2.1.2.2.1 s.2.1.2.2.2.1 s.2.1.2.2.2.2.1 s.2.1.2.2.2.2.2.1 s.2.1.2.2.2.2.2.2.1 s.2.1.2.2.2.2.2.2.2.1 s.2.2.1 (fun x0 => K ((), (x0, ())))⟩
noncomputable def C : Ctx := ⟨tyT, [impl_KeepLose.o, laws_eqKeep.o, laws_heldKeep.o, laws_markKeep_.o, laws_szKeep.o, laws_toKeep.o, spec_KeepLose.o], [], 74, 0⟩
theorem ctx : CtxOk Tryz.prog C := ⟨tyOk, all1 impl_KeepLose.ok (all1 laws_eqKeep.ok (all1 laws_heldKeep.ok (all1 laws_markKeep_.ok (all1 laws_szKeep.ok (all1 laws_toKeep.ok (all1 spec_KeepLose.ok (all0)))))))⟩
theorem eG (β : Type) (s : sin.den) (K : sout.den → Option β) : evalFn C Tryz.f19 sin sout s K = o.F s K := by kernel_rfl
theorem ok : OracOk Tryz.prog o := fn_ok mixed Tryz.func19 (by kernel_rfl) ctx (c := bodyC Tryz.f19) (by kernel_rfl) (all0) (by kernel_rfl) (by kernel_rfl) (by kernel_rfl) (Nat.le_of_ble_eq_true (by kernel_rfl)) eG (by kernel_rfl) (Nat.le_of_ble_eq_true (by kernel_rfl))
end laws_FnExactKeepLose
end Go.Proofs.YtechafkfchmggaaGreat.E
end
section
set_option linter.unusedVariables false
set_option linter.unusedSimpArgs false
namespace Go.Proofs.YtechafkfchmggaaGreat.E
open Go Go.RowKit
set_option linter.unusedVariables false
set_option maxRecDepth 100000
theorem readData_T {kind : Int} (hk : kind = 1 ∨ kind = 2) {vals : List Int} (hv : L8 vals) (vers : List Int) (there : List Bool) (v : Int) : ∃ (d : List Int) (b : Bool), ∀ (β : Type) (K : List Int → Bool → Option β), impl_readData.G sl1 kind vals (shI (ofL vers there v)) K = K d b := by
  have ht := ofL_tab hk vers there v
  obtain ⟨x, x1, x2, x3, x4⟩ := solveI_of hk (fun a ha => (ofL_mem'.1 ha).1) (ofL_len vers there v) ht hv
  cases c : covL kind (ofL vers there v)
  · refine ⟨[], false, fun β K => ?_⟩
    unfold impl_readData.G
    refine (bears_G ht _).trans ?_
    rw [c]; exact cT rfl rfl
  · cases f : fitsW kind vals x (ofL vers there v)
    · refine ⟨[], false, fun β K => ?_⟩
      unfold impl_readData.G
      refine (bears_G ht _).trans ?_
      rw [c]
      refine cF rfl ((x3 _ _).trans ?_)
      rw [f]; exact cT rfl rfl
    · refine ⟨x, true, fun β K => ?_⟩
      unfold impl_readData.G
      refine (bears_G ht _).trans ?_
      rw [c]
      refine cF rfl ((x3 _ _).trans ?_)
      rw [f]; exact cF rfl ((x2 _ _).trans (list_G x1 _))
theorem readT_l {kind : Int} (hk : kind = 1 ∨ kind = 2) {vals : List Int} (hv : L8 vals) {vers : List Int} {there : List Bool} (h2 : vers.length = 8) (h3 : there.length = 8) (L : List Int) (h8 : L.length ≤ 8) (d : Nat) : ∀ (i n : Nat), i + d = L.length → d < n →
    ∃ r : Option (List Int × Int × Bool), ∀ (β : Type) (kx : Option β) (kr : List Int → Int → Bool → Option β), impl_Stripe_read.l2 sl1 n kx kr kind vals vers there L (L.length : Int) (i : Int) = match r with
      | none => kx
      | some t => kr t.1 t.2.1 t.2.2 := by
  induction d with
  | zero =>
    intro i n hi hn
    obtain ⟨n, rfl⟩ : ∃ m, n = m + 1 := ⟨n - 1, by omega⟩
    exact ⟨none, fun β kx kr => by rw [impl_Stripe_read.t2]; exact cF (ltF (by omega)) rfl⟩
  | succ d ih =>
    intro i n hi hn
    obtain ⟨n, rfl⟩ : ∃ m, n = m + 1 := ⟨n - 1, by omega⟩
    have h1 : i < L.length := by omega
    obtain ⟨x, b, hx⟩ := readData_T hk hv vers there L[i]
    obtain ⟨r, hr⟩ := ih (i + 1) n (by omega) (by omega)
    have start : ∀ (β : Type) (kx : Option β) (kr : List Int → Int → Bool → Option β) (z : Option β), (bif b then kr x L[i] true else impl_Stripe_read.l2 sl1 n kx kr kind vals vers there L (L.length : Int) ((i + 1 : Nat) : Int)) = z → impl_Stripe_read.l2 sl1 (n + 1) kx kr kind vals vers there L (L.length : Int) (i : Int) = z := fun β kx kr z h => by
      rw [impl_Stripe_read.t2]
      unfold impl_Stripe_read.b2
      rw [getN L i h1, w_succ (by omega)]
      exact cT (ltT (by omega)) (cT (irT (by omega) (by omega)) ((ofI_G kind vals h2 h3 _ _).trans ((hx _ _).trans h)))
    cases b
    · exact ⟨r, fun β kx kr => start β kx kr _ (hr β kx kr)⟩
    · exact ⟨some (x, L[i], true), fun β kx kr => start β kx kr _ rfl⟩
theorem readI_T {kind : Int} (hk : kind = 1 ∨ kind = 2) {vals : List Int} (hv : L8 vals) {vers : List Int} {there : List Bool} (h2 : vers.length = 8) (h3 : there.length = 8) : ∃ (d : List Int) (v : Int) (b : Bool), ∀ (β : Type) (K : List Int → Int → Bool → Option β), impl_Stripe_read.G sl1 kind vals vers there K = K d v b := by
  have h8 := versL_len vers there
  obtain ⟨r, hr⟩ := readT_l hk hv h2 h3 (versL vers there) h8 (versL vers there).length 0 sl1.n (by omega) (by rw [rounds_n]; omega)
  cases r with
  | none => exact ⟨[], 0, false, fun β K => (versions_G kind vals h2 h3 _).trans (hr _ _ _)⟩
  | some t => exact ⟨t.1, t.2.1, t.2.2, fun β K => (versions_G kind vals h2 h3 _).trans (hr _ _ _)⟩
end Go.Proofs.YtechafkfchmggaaGreat.E
end
section
set_option linter.unusedVariables false
set_option linter.unusedSimpArgs false
namespace Go.Proofs.YtechafkfchmggaaGreat.E
open Go Go.RowKit
set_option linter.unusedVariables false
set_option maxRecDepth 100000
theorem read13_T {kind : Int} (hk : kind = 1 ∨ kind = 2) {vals : List Int} (hv : L8 vals) {vers : List Int} {there : List Bool} (h2 : vers.length = 8) (h3 : there.length = 8) {v : Int} (hc : covV kind vers there v = true) :
    ∃ (d : List Int) (b : Bool), ∀ (β : Type) (K : List Int → Bool → Option β), spec_l13Read.G sl1 kind vals (ofV vers there v) K = K d b := by
  have start : ∀ (β : Type) (K : List Int → Bool → Option β) (z : Option β), (bif (!fitsV kind vals (ofV vers there v)) then K [] false else spec_l13From.G sl1 kind (ofV vers there v) (fun y3 => spec_l13Data.G sl1 kind vals y3 (fun y4 => K y4 true))) = z → spec_l13Read.G sl1 kind vals (ofV vers there v) K = z := fun β K z h => by
    unfold spec_l13Read.G
    refine (codeBears_G hk (ofV_len h2 h3) _).trans ?_
    rw [cov_of h2 h3, hc]
    exact cF rfl ((fits_G hk hv.1 hv.2 (ofV_len h2 h3) _).trans h)
  cases f : fitsV kind vals (ofV vers there v)
  · exact ⟨[], false, fun β K => start β K _ (by rw [f]; exact cT rfl rfl)⟩
  · obtain ⟨d, d1, d2⟩ := (fitsV_iff hk hv.1 hv.2).1 f
    have hl := (leaf_k hk (ofV vers there v)).1
    unfold leafT at hl
    rw [cov_of h2 h3, hc, Bool.and_eq_true] at hl
    obtain ⟨e, he, heq⟩ := List.any_eq_true.1 hl.2
    have heq := eqN_eq heq
    have sub : ∀ b ∈ e.1, b ∈ thereL (ofV vers there v) 0 8 := fun b hb => by
      have hs : ∀ (r p : List Nat), ∀ x ∈ firstL kind p r, x ∈ r := by
        intro r
        induction r with
        | nil => intro p x hx; cases hx
        | cons a r ih =>
          intro p x hx
          unfold firstL at hx
          split at hx
          · exact List.mem_cons_of_mem _ (ih _ x hx)
          · rcases List.mem_cons.1 hx with rfl | hx
            · exact List.mem_cons_self
            · exact List.mem_cons_of_mem _ (ih _ x hx)
      exact hs _ _ b (heq ▸ hb)
    refine ⟨d, true, fun β K => start β K _ ?_⟩
    rw [f]
    refine cF rfl ((from_G hk (ofV_len h2 h3) _).trans ?_)
    rw [← heq]
    exact data13_G hk he hv d1 (fun b hb => d2 b (thereL_mem.1 (sub b hb)).1 (thereL_mem.1 (sub b hb)).2) _
theorem downT_l {kind : Int} (hk : kind = 1 ∨ kind = 2) {vals : List Int} (hv : L8 vals) {vers : List Int} {there : List Bool} (h2 : vers.length = 8) (h3 : there.length = 8) : ∀ (m n : Nat), m ≤ 1000 → m < n → ∃ r : Option (List Int × Int × Bool), ∀ (β : Type) (kx : Option β) (kr : List Int → Int → Bool → Option β), spec_l21Read.l2 sl1 n kx kr kind vals vers there (m : Int) = match r with
      | none => kx
      | some t => kr t.1 t.2.1 t.2.2
  | 0, n, hm, hn => by
    obtain ⟨n, rfl⟩ : ∃ m, n = m + 1 := ⟨n - 1, by omega⟩
    exact ⟨none, fun β kx kr => by rw [spec_l21Read.t2]; exact cF (ltF (by omega)) rfl⟩
  | m + 1, n, hm, hn => by
    obtain ⟨n, rfl⟩ : ∃ m, n = m + 1 := ⟨n - 1, by omega⟩
    obtain ⟨r, hr⟩ := downT_l hk hv h2 h3 m n (by omega) (by omega)
    have w1 : sl1.w (((m + 1 : Nat) : Int) - 1) = (m : Int) := by rw [wE (by omega) (by omega)]; omega
    have start : ∀ (β : Type) (kx : Option β) (kr : List Int → Int → Bool → Option β) (z : Option β), (bif covV kind vers there ((m + 1 : Nat) : Int) then spec_l21Of.G sl1 kind vals vers there ((m + 1 : Nat) : Int) (fun y3 => spec_l13Read.G sl1 kind vals y3 (fun y4 y5 => kr y4 ((m + 1 : Nat) : Int) y5)) else spec_l21Read.l2 sl1 n kx kr kind vals vers there (m : Int)) = z → spec_l21Read.l2 sl1 (n + 1) kx kr kind vals vers there ((m + 1 : Nat) : Int) = z := fun β kx kr z h => by
      rw [spec_l21Read.t2]
      unfold spec_l21Read.b2
      rw [w1]
      refine cT (ltT (by omega)) ((of_G kind vals vers there _ (by omega) (by omega) _).trans ((codeBears_G hk (ofV_len h2 h3) _).trans ?_))
      rw [cov_of h2 h3]
      exact h
    cases c : covV kind vers there ((m + 1 : Nat) : Int)
    · exact ⟨r, fun β kx kr => start β kx kr _ (by rw [c]; exact cF rfl (hr β kx kr))⟩
    · obtain ⟨d, b, hd⟩ := read13_T hk hv h2 h3 c
      exact ⟨some (d, ((m + 1 : Nat) : Int), b), fun β kx kr => start β kx kr _ (by rw [c]; exact cT rfl ((of_G kind vals vers there _ (by omega) (by omega) _).trans (hd _ _)))⟩
theorem readS_T {kind : Int} (hk : kind = 1 ∨ kind = 2) {vals : List Int} (hv : L8 vals) {vers : List Int} {there : List Bool} (h2 : vers.length = 8) (h3 : there.length = 8) (ht : topV vers 0 ≤ 1000) : ∃ (d : List Int) (v : Int) (b : Bool), ∀ (β : Type) (K : List Int → Int → Bool → Option β), spec_l21Read.G sl1 kind vals vers there K = K d v b := by
  have t0 := (topV_ge vers 0).1
  have et : topV vers 0 = (((topV vers 0).toNat : Nat) : Int) := (Int.toNat_of_nonneg t0).symm
  obtain ⟨r, hr⟩ := downT_l hk hv h2 h3 (topV vers 0).toNat sl1.n (by omega) (by rw [rounds_n]; omega)
  rw [← et] at hr
  cases r with
  | none => exact ⟨[], 0, false, fun β K => (top_G kind vals vers there (by omega) _).trans (hr _ _ _)⟩
  | some t => exact ⟨t.1, t.2.1, t.2.2, fun β K => (top_G kind vals vers there (by omega) _).trans (hr _ _ _)⟩
end Go.Proofs.YtechafkfchmggaaGreat.E
end
section
set_option linter.unusedVariables false
set_option linter.unusedSimpArgs false
namespace Go.Proofs.YtechafkfchmggaaGreat.E
open Go Go.RowKit
set_option linter.unusedVariables false
set_option maxRecDepth 100000
theorem keepLose_E (kind : Int) {vals vers : List Int} {there : List Bool} (on : Bool) (kd : Int) {data : List Int} (kv : Int) (at_ : Int) (h1 : vals.length ≤ 1048576) (h2 : vers.length ≤ 1048576) (h3 : there.length ≤ 1048576) (hdl : data.length ≤ 1048576) :
    ∃ (a b : List Int) (c : List Bool) (e : List Int) (x1 : Int) (x2 : Bool) (x3 x4 : Int), (a.length ≤ 1048576 ∧ b.length ≤ 1048576 ∧ c.length ≤ 1048576 ∧ e.length ≤ 1048576) ∧
    (∀ (β : Type) (K : List Int → List Int → List Bool → List Int → Int → Bool → Int → Int → Option β), spec_KeepLose.G sl1 kind vals vers there on kd data kv at_ K = K a b c e x1 x2 x3 x4) ∧
    ∀ (β : Type) (K : List Int → List Int → List Bool → List Int → Int → Bool → Int → Int → Option β), impl_KeepLose.G sl1 kind vals vers there on kd data kv at_ K = K a b c e x1 x2 x3 x4 := by
  cases ck : keepV kind vals vers there on kd data kv
  · refine ⟨[], [], [], [], 0, false, 0, 0, by simp, fun β K => ?_, fun β K => ?_⟩
    · refine (keepS_G kind on kd kv (by omega) (by omega) _).trans ?_
      rw [ck]; exact cT rfl rfl
    · refine (keepI_G kind on kd kv (by omega) _).trans ?_
      rw [keep_same, ck]; exact cT rfl rfl
  cases c2 : inV at_ 0 7
  · refine ⟨[], [], [], [], 0, false, 0, 0, by simp, fun β K => ?_, fun β K => ?_⟩
    · refine (keepS_G kind on kd kv (by omega) (by omega) _).trans ?_
      rw [ck]
      refine cF rfl ((spec_in _ _ _ _).trans ?_)
      rw [c2]; exact cT rfl rfl
    · refine (keepI_G kind on kd kv (by omega) _).trans ?_
      rw [keep_same, ck]
      refine cF rfl ((shard_G _ _).trans ?_)
      rw [c2]; exact cT rfl rfl
  obtain ⟨hk, hf, e1, e2, e3, ho, h99⟩ := keepV_facts ck
  obtain ⟨a0, a1⟩ := inV_iff.1 c2
  obtain ⟨i, rfl⟩ := Int.eq_ofNat_of_zero_le a0
  have hi : i < 8 := by omega
  have startS : ∀ (β : Type) (K : List Int → List Int → List Bool → List Int → Int → Bool → Int → Int → Option β) (r : Option β), spec_l21Read.G sl1 kind (vals.set i 0) (vers.set i 0) (there.set i false) (fun y15 y16 y17 => bif (!on) then (bif (!y17) then (spec_l23Copy.G sl1 kind vals vers there on kd data kv (fun y18 y19 y20 y21 y22 y23 y24 y25 => K y18 y19 y20 y21 y22 y23 y24 y25)) else (K (vals.set i 0) (vers.set i 0) (there.set i false) data kind on kd kv)) else (K (vals.set i 0) (vers.set i 0) (there.set i false) data kind on kd kv)) = r →
      spec_KeepLose.G sl1 kind vals vers there on kd data kv (i : Int) K = r := fun β K r h => by
    refine (keepS_G kind on kd kv (by omega) (by omega) _).trans ?_
    rw [ck]
    refine cF rfl ((spec_in _ _ _ _).trans ?_)
    rw [c2]
    exact cF rfl ((kcopyS_G kind on kd kv (by omega) (by omega) (by omega) hdl _).trans ((lose_G e1 e2 e3 hi _).trans h))
  have startI : ∀ (β : Type) (K : List Int → List Int → List Bool → List Int → Int → Bool → Int → Int → Option β) (r : Option β), impl_Stripe_read.G sl1 kind (vals.set i 0) (vers.set i 0) (there.set i false) (fun y14 y15 y16 => bif (!y16) then (bif (!on) then (impl_Keep_copied.G sl1 kind vals vers there on kd data kv (fun y17 y18 y19 y20 y21 y22 y23 y24 => K y17 y18 y19 y20 y21 y22 y23 y24)) else (K (vals.set i 0) (vers.set i 0) (there.set i false) data kind on kd kv)) else (K (vals.set i 0) (vers.set i 0) (there.set i false) data kind on kd kv)) = r →
      impl_KeepLose.G sl1 kind vals vers there on kd data kv (i : Int) K = r := fun β K r h => by
    refine (keepI_G kind on kd kv (by omega) _).trans ?_
    rw [keep_same, ck]
    refine cF rfl ((shard_G _ _).trans ?_)
    rw [c2]
    refine cF rfl ((kcopyI_G kind on kd kv (by omega) (by omega) (by omega) hdl _).trans ?_)
    exact cT (irT (by omega) (by omega)) (cT (irT (by omega) (by omega)) (cT (irT (by omega) (by omega)) h))
  cases on
  · obtain ⟨cs, _⟩ := ho rfl
    have cs' := stripe_lose cs hi
    obtain ⟨d, _, es⟩ := readS_E cs'
    obtain ⟨d', _, ei⟩ := readI_E cs'
    cases hr : (readL kind (vers.set i 0) (there.set i false)).isSome
    · rw [hr] at es ei
      exact ⟨vals, vers, there, data, kind, false, kd, kv, ⟨h1, h2, h3, hdl⟩, fun β K => startS β K _ ((es _ _).trans (cT rfl (cT rfl (kcopyS_G kind false kd kv (by omega) (by omega) (by omega) hdl _)))), fun β K => startI β K _ ((ei _ _).trans (cT rfl (cT rfl (kcopyI_G kind false kd kv (by omega) (by omega) (by omega) hdl _))))⟩
    · rw [hr] at es ei
      exact ⟨vals.set i 0, vers.set i 0, there.set i false, data, kind, false, kd, kv, ⟨by rw [List.length_set]; exact h1, by rw [List.length_set]; exact h2, by rw [List.length_set]; exact h3, hdl⟩, fun β K => startS β K _ ((es _ _).trans (cT rfl (cF rfl rfl))), fun β K => startI β K _ ((ei _ _).trans (cF rfl rfl))⟩
  · have hv' : L8 (vals.set i 0) := ⟨by rw [List.length_set]; exact e1, fun x hx => by
      rcases List.mem_or_eq_of_mem_set hx with h | rfl
      · exact hf x h
      · omega⟩
    have ht : topV (vers.set i 0) 0 ≤ 1000 := topV_le _ 0 (by omega) fun x hx => by
      rcases List.mem_or_eq_of_mem_set hx with h | rfl
      · have := h99 x h; omega
      · omega
    obtain ⟨d, v, b, es⟩ := readS_T hk hv' (vers := vers.set i 0) (there := there.set i false) (by rw [List.length_set]; exact e2) (by rw [List.length_set]; exact e3) ht
    obtain ⟨d', v', b', ei⟩ := readI_T hk hv' (vers := vers.set i 0) (there := there.set i false) (by rw [List.length_set]; exact e2) (by rw [List.length_set]; exact e3)
    refine ⟨vals.set i 0, vers.set i 0, there.set i false, data, kind, true, kd, kv, ⟨by rw [List.length_set]; exact h1, by rw [List.length_set]; exact h2, by rw [List.length_set]; exact h3, hdl⟩, fun β K => startS β K _ ((es _ _).trans (cF rfl rfl)), fun β K => startI β K _ ((ei _ _).trans ?_)⟩
    cases b'
    · exact cT rfl (cF rfl rfl)
    · exact cF rfl rfl
end Go.Proofs.YtechafkfchmggaaGreat.E
end
section
set_option linter.unusedVariables false
set_option linter.unusedSimpArgs false
namespace Go.Proofs.YtechafkfchmggaaGreat.Pure.FnExactKeepLose
open Go Go.Proofs.YtechafkfchmggaaGreat.E
theorem pure (x : Int × (List Int × (List Int × (List Bool × (Bool × (Int × (List Int × (Int × Unit)))))))) (k : Int) (h1 : x.2.1.length ≤ 9223372036854775807) (h2 : x.2.2.1.length ≤ 9223372036854775807) (h3 : x.2.2.2.1.length ≤ 9223372036854775807) (h4 : x.2.2.2.2.2.2.1.length ≤ 9223372036854775807)
    {β : Type} (K : Bool → Option β) : laws_FnExactKeepLose.G sl1 x.1 x.2.1 x.2.2.1 x.2.2.2.1 x.2.2.2.2.1 x.2.2.2.2.2.1 x.2.2.2.2.2.2.1 x.2.2.2.2.2.2.2.1 k K = K true := by
  obtain ⟨kind, vals, vers, there, on, kd, data, kv, _⟩ := x
  dsimp only at h1 h2 h3 h4 ⊢
  obtain ⟨y, hy, h⟩ := szKeep_or kind on kd kv h1 h2 h3 h4
  unfold laws_FnExactKeepLose.G
  refine (hy _ _).trans ?_
  rcases h with h | ⟨h, l1, l2, l3, l4⟩
  · exact cT (ltT h) rfl
  obtain ⟨a, b, c, e, x1, x2, x3, x4, ⟨m1, m2, m3, m4⟩, es, ei⟩ := keepLose_E kind (vals := vals) (vers := vers) (there := there) (data := data) on kd kv k l1 l2 l3 l4
  have to := fun {γ : Type} (K : List Int → List Int → List Bool → List Int → Int → Bool → Int → Int → Option γ) => toKeep_G kind on kd kv l1 l2 l3 l4 K
  have eq0 := fun {γ : Type} (K : Bool → Option γ) => eqKeep_G kind on kd kv l1 l2 l3 l4 K
  have eq1 := fun {γ : Type} (K : Bool → Option γ) => eqKeep_G x1 x2 x3 x4 m1 m2 m3 m4 K
  obtain ⟨a', b', c', d', k', hk', hm', _⟩ := markKeep_B kind on kd kv l1 l2 l3 l4
  obtain ⟨a2, b2, c2, d2, k2, hk2, hm2, hh2⟩ := markKeep_B x1 x2 x3 x4 m1 m2 m3 m4
  refine cF (ltF h) ((to _).trans ((es _ _).trans ((to _).trans ((ei _ _).trans ((eq1 _).trans (cF rfl ?_))))))
  refine (to _).trans ((eq0 _).trans (cF rfl ((hm' _ _).trans (cF (ltF (by omega)) ?_))))
  refine (eq1 _).trans (cF rfl ((hm2 _ _).trans ((hh2 _ _).trans (cF (ltF (by omega)) (cF (neF rfl) ?_)))))
  refine (to _).trans ((ei _ _).trans ((eq1 _).trans (cF rfl ?_)))
  exact (hh2 _ _).trans (cF (ltF (by omega)) (cF (neF rfl) rfl))
end Go.Proofs.YtechafkfchmggaaGreat.Pure.FnExactKeepLose
end
section
set_option linter.unusedVariables false
set_option linter.unusedSimpArgs false
namespace Go.Proofs.YtechafkfchmggaaGreat.fnExactKeepLose
open Go.ChangeShapes Go.WideShapes Go.ChangeAt Go.RowKit
open Go.ChangeMaps (open_string shut_string)
set_option linter.unusedVariables false
theorem own : ownKnob Tryz.prog.godebug = none := by kernel_rfl
theorem laidOut : laidOutB Tryz.prog = true := by kernel_rfl
set_option maxRecDepth 100000 in
theorem lifted (os : Os) (started : os.Started) (H : Type) (enc : TypeId × Value → H) :
    ReturnsInHanded {} Tryz.checked os 19 .any (Rows.fnExactKeepLoseSpec.pre6 enc Tryz.prog Tryz.f19 Rows.fnExactKeepLoseRow.domain false) (Rows.fnExactKeepLoseSpec.post enc Tryz.prog Tryz.f19 false true false false) := by
  refine returnsInHanded_of_change_sized (C := Tryz.checked) own started (by kernel_rfl) Tryz.func19
    (ChangeSpec.witness6 (enc := enc) (C := Tryz.checked) false ⟨#[], #[.agg #[.int .i64 0, .slice none 0 0, .slice none 0 0, .slice none 0 0, .bool false, .int .i64 0, .slice none 0 0, .int .i64 0], .int .i64 0], []⟩ 8 (by kernel_rfl) (by kernel_rfl) (by kernel_rfl) (by kernel_rfl)) ?_
  intro W base args ds gs before hval0 hW hcnd hsz0 _
  have hval : ∀ (j : Nat) t v, Tryz.f19.params[j]? = some t → args[j]? = some v → Value.okWide Tryz.prog W .any base t v := hval0
  have hW' := hW
  obtain ⟨p, q, hA0, hV, rfl, hfz, hnd⟩ := hW
  have hA : DataW.TrodAll enc Tryz.prog W 0 (fun _ => true) true Tryz.f19.params.toList args.toList ds p := hA0
  rw [Tryz.params19] at hA hval
  obtain ⟨v0, vs0, d0, ds0, p0, q0, hargs0, rfl, rfl, h0, r0⟩ := trodAll_cons hA
  obtain ⟨v1, vs1, d1, ds1, p1, q1, hargs1, rfl, rfl, h1, r1⟩ := trodAll_cons r0
  obtain ⟨rfl, rfl, rfl⟩ := trodAll_nil r1
  obtain rfl : args = #[v0, v1] := by cases args; simp_all
  obtain ⟨rfl, rfl⟩ := trodVars_none hV
  have k0 := h0
  have lt0 : ∀ x ∈ p0, x.block < W.heap.size := by obtain ⟨m, hm⟩ := k0; exact DataW.trod_lt m _ _ _ hm
  obtain ⟨x0, R0, Q0⟩ := E.arg_struct Tryz.underlying81 (hval 0 81 v0 rfl rfl) h0 (E.RdG_nest rfl rfl (E.Rd_struct Tryz.underlying25 (by kernel_rfl) (E.RdF_cons rfl (E.Rd_int Tryz.underlying3 (by kernel_rfl)) (E.RdF_cons rfl (E.Rd_slice Tryz.underlying22 (by kernel_rfl) (by decide) (E.Rd_int Tryz.underlying3 (by kernel_rfl))) (E.RdF_cons rfl (E.Rd_slice Tryz.underlying22 (by kernel_rfl) (by decide) (E.Rd_int Tryz.underlying3 (by kernel_rfl))) (E.RdF_cons rfl (E.Rd_slice Tryz.underlying23 (by kernel_rfl) (by decide) (E.Rd_bool Tryz.underlying4 (by kernel_rfl))) E.RdF_nil))))) (E.RdG_cons rfl (E.Rd_bool Tryz.underlying4 (by kernel_rfl)) (E.RdG_cons rfl (E.Rd_int Tryz.underlying3 (by kernel_rfl)) (E.RdG_cons rfl (E.Rd_slice Tryz.underlying22 (by kernel_rfl) (by decide) (E.Rd_int Tryz.underlying3 (by kernel_rfl))) (E.RdG_cons rfl (E.Rd_int Tryz.underlying3 (by kernel_rfl)) (E.RdG_nil (by decide +kernel)))))))
  obtain ⟨xa0, xb0, rfl, Qa0, Qb0⟩ := Q0
  have k1 := h1
  have lt1 : ∀ x ∈ p1, x.block < W.heap.size := by obtain ⟨m, hm⟩ := k1; exact DataW.trod_lt m _ _ _ hm
  obtain ⟨x1, R1, Q1⟩ := E.arg_int Tryz.underlying3 (hval 1 3 v1 rfl rfl) h1
  clear hA0 hval0 hsz0
  have hp := Pure.FnExactKeepLose.pure (E.chainDen _ _ xa0 xb0) x1 Qa0.2.1.1 Qa0.2.2.1.1 Qa0.2.2.2.1.1 Qb0.2.2.1.1 (fun b => some ((), (b, ())))
  rw [← E.sl_eq] at hp
  refine (E.law_any E.laws_FnExactKeepLose.ok (s := (E.chainDen _ _ xa0 xb0, (x1, ()))) hp (args := [v0, v1]) ⟨v0, _, rfl, R0, ⟨v1, _, rfl, R1, rfl⟩⟩).mono fun e W' ⟨he, bel⟩ => ?_
  subst he
  exact ⟨_, rfl, _, _, _, [], _, [], hW', trodAll_mk1 (shut_bool Tryz.underlying4 _), (trodAll_cons_mk (Below.trod laidOut (by kernel_rfl) (of_decide_eq_true (by kernel_rfl)) k0 bel lt0) (trodAll_cons_mk (Below.trod laidOut (by kernel_rfl) (of_decide_eq_true (by kernel_rfl)) k1 bel lt1) trodAll_mk0)), rfl, bel.frame _, fun h => by cases h⟩
theorem closed : joinedFacts Tryz.prog 19 Tryz.f19 Rows.fnExactKeepLoseSpec Rows.fnExactKeepLoseRow = true := by
  unfold joinedFacts
  rw [Head.make, Head.final, Head.enter]
  kernel_rfl
theorem over : Rows.fnExactKeepLoseRow.holds Tryz.pinned (OpenSpec.ofChange Rows.fnExactKeepLoseSpec) :=
  OpenClaim.holds_of_wide 19 Tryz.f19 rfl rfl rfl rfl rfl rfl rfl ⟨rfl, rfl, rfl, rfl, rfl⟩ rfl rfl rfl rfl rfl (by kernel_rfl) Tryz.func19 closed
    (of_decide_eq_true (by kernel_rfl)) (by unfold Func.isWrapper; first | (rw [if_pos (by decide +kernel)]; kernel_rfl) | (rw [if_neg (by decide +kernel)]; exact ⟨rfl, rfl⟩))
    (fun os started H enc _ => lifted os started H enc)
theorem proved : Rows.FnExactKeepLoseSaid := over
#print axioms proved
end Go.Proofs.YtechafkfchmggaaGreat.fnExactKeepLose
end
