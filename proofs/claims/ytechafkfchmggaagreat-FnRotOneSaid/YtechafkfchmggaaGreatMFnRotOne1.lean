/- Part 1 of the proof of the statement FnRotOne; the last part states it. No condition. -/
import Derived.Test.YtechafkfchmggaaGreatRows
import Derived.WalkKit
import Derived.ProofKit
import Derived.OpenShut
import Derived.ShutString
import Derived.ChangeOld
import Derived.Below
import Derived.SizedLaws
import Derived.Test.YtechafkfchmggaaGreatMGA2
import Derived.Test.YtechafkfchmggaaGreatMGA3
import Derived.Test.YtechafkfchmggaaGreatMGA4
import Derived.Test.YtechafkfchmggaaGreatMGA11
section
set_option linter.unusedVariables false
set_option linter.unusedSimpArgs false
namespace Go.Proofs.YtechafkfchmggaaGreat.E
open Go Go.RowKit
set_option linter.unusedVariables false
set_option maxRecDepth 100000
namespace impl_FieldSum
def sin : Sig := ⟨[], [.one (.val I false), .one (.val I false)]⟩
def sout : Sig := ⟨[], [.one (.val I false)]⟩
noncomputable def G {β : Type} (S : Sl) (a0 : Int) (a1 : Int) (K : Int → Option β) : Option β := impl_FieldOk.G S a0 (fun y1 => bif (!y1) then (K 0) else (impl_FieldOk.G S a1 (fun y2 => bif (!y2) then (K 0) else (impl_element_plus.G S a0 a1 (fun y3 => K y3)))))
noncomputable def o : Orac := ⟨45, sin, sout, fun s K => G sl0 s.2.1 s.2.2.1 (fun x0 => K ((), (x0, ())))⟩
noncomputable def C : Ctx := ⟨tyT, [impl_FieldOk.o, impl_element_plus.o], [], 16, 0⟩
theorem ctx : CtxOk Tryz.prog C := ⟨tyOk, all1 impl_FieldOk.ok (all1 impl_element_plus.ok (all0))⟩
theorem eG (β : Type) (s : sin.den) (K : sout.den → Option β) : evalFn C Tryz.f45 sin sout s K = o.F s K := by kernel_rfl
theorem ok : OracOk Tryz.prog o := fn_ok mixed Tryz.func45 (by kernel_rfl) ctx (c := bodyC Tryz.f45) (by kernel_rfl) (all0) (by kernel_rfl) (by kernel_rfl) (by kernel_rfl) (Nat.le_of_ble_eq_true (by kernel_rfl)) eG (by kernel_rfl) (Nat.le_of_ble_eq_true (by kernel_rfl))
end impl_FieldSum
end Go.Proofs.YtechafkfchmggaaGreat.E
end
section
set_option linter.unusedVariables false
set_option linter.unusedSimpArgs false
namespace Go.Proofs.YtechafkfchmggaaGreat.E
open Go Go.RowKit
set_option linter.unusedVariables false
set_option maxRecDepth 100000
namespace laws_lkDisks
def sin : Sig := ⟨[], [.one (.val (.sl (.pair I (.pair I (.pair I .unit)))) false), .one (.val (.sl (.pair I (.pair I (.pair I .unit)))) false)]⟩
def sout : Sig := ⟨[], [.one (.val .bool false)]⟩
def h4 : SS := ⟨[0, 1, 5], ⟨[], [.one (.val (.sl (.pair I (.pair I (.pair I .unit)))) false), .one (.val (.sl (.pair I (.pair I (.pair I .unit)))) false), .one (.val I false)]⟩⟩
def x4 : SS := ⟨[], ⟨[], []⟩⟩
def y4 : SS := ⟨[4], ⟨[], [.one (.val .bool false)]⟩⟩
noncomputable def b4 {β : Type} (S : Sl) (L : (List (Int × (Int × (Int × Unit)))) → (List (Int × (Int × (Int × Unit)))) → Int → Option β) (kx : Option β) (kr : Bool → Option β) (s0 : (List (Int × (Int × (Int × Unit))))) (s1 : (List (Int × (Int × (Int × Unit))))) (s2 : Int) : Option β := bif (S.lt s2 (s0.length : Int)) then (bif (S.ir s2 s0.length) then (bif (S.ir s2 s1.length) then (bif (!((S.eq ((List.getD s0 (Int.toNat s2) (0, (0, (0, ())))).1) ((List.getD s1 (Int.toNat s2) (0, (0, (0, ())))).1)) && ((S.eq ((List.getD s0 (Int.toNat s2) (0, (0, (0, ())))).2.1) ((List.getD s1 (Int.toNat s2) (0, (0, (0, ())))).2.1)) && ((S.eq ((List.getD s0 (Int.toNat s2) (0, (0, (0, ())))).2.2.1) ((List.getD s1 (Int.toNat s2) (0, (0, (0, ())))).2.2.1)) && true)))) then (kr false) else (L s0 s1 (S.w (s2 + 1)))) else (none)) else (none)) else (kx)
noncomputable def r4 {β : Type} (S : Sl) (n : Nat) (kx : x4.sig.den → Option β) (kr : y4.sig.den → Option β) (s : h4.sig.den) : Option β := rounds (fun L kx kr s => b4 S (fun x0 x1 x2 => L ((), (x0, (x1, (x2, ()))))) (kx ((), ())) (fun x0 => kr ((), (x0, ()))) s.2.1 s.2.2.1 s.2.2.2.1) kx kr n s
noncomputable def l4 {β : Type} (S : Sl) (n : Nat) (kx : Option β) (kr : Bool → Option β) (s0 : (List (Int × (Int × (Int × Unit))))) (s1 : (List (Int × (Int × (Int × Unit))))) (s2 : Int) : Option β := r4 S n (fun s => kx) (fun s => kr s.2.1) ((), (s0, (s1, (s2, ()))))
theorem t4 {β : Type} (S : Sl) (n : Nat) (kx : Option β) (kr : Bool → Option β) (s0 : (List (Int × (Int × (Int × Unit))))) (s1 : (List (Int × (Int × (Int × Unit))))) (s2 : Int) : l4 S (n + 1) kx kr s0 s1 s2 = b4 S (l4 S n kx kr) kx kr s0 s1 s2 := by kernel_rfl
noncomputable def G {β : Type} (S : Sl) (a0 : (List (Int × (Int × (Int × Unit))))) (a1 : (List (Int × (Int × (Int × Unit))))) (K : Bool → Option β) : Option β := bif (!S.eq (a0.length : Int) (a1.length : Int)) then (K false) else (l4 S S.n (K true) (fun y1 => K y1) a0 a1 0)
noncomputable def o : Orac := ⟨35, sin, sout, fun s K => G sl0 s.2.1 s.2.2.1 (fun x0 => K ((), (x0, ())))⟩
noncomputable def C : Ctx := ⟨tyT, [], [⟨4, 0, h4, x4, y4, fun s kx kr => r4 sl0 sl0.n kx kr s⟩], 26, 0⟩
theorem ctx : CtxOk Tryz.prog C := ⟨tyOk, all0⟩
theorem e4 (β : Type) (L : h4.sig.den → Option β) (kx : x4.sig.den → Option β) (kr : y4.sig.den → Option β) (s : h4.sig.den) : evalBody C (nthC (loopsOf (bodyC Tryz.f35)) 0) 0 h4 x4 y4 L kx kr s = b4 sl0 (fun x0 x1 x2 => L ((), (x0, (x1, (x2, ()))))) (kx ((), ())) (fun x0 => kr ((), (x0, ()))) s.2.1 s.2.2.1 s.2.2.2.1 := by kernel_rfl
theorem g4 : LS Tryz.prog C ⟨4, 0, h4, x4, y4, fun s kx kr => r4 sl0 sl0.n kx kr s⟩ (loopsOf (bodyC Tryz.f35)) := LS.at (i := 0) (by kernel_rfl) (loop_good mixed ctx (ctx_nat ctx) (N := sl0.n) (fun _ _ _ _ => rfl) e4 (all1 (LS.none (by kernel_rfl)) (all0)))
theorem eG (β : Type) (s : sin.den) (K : sout.den → Option β) : evalFn C Tryz.f35 sin sout s K = o.F s K := by kernel_rfl
theorem ok : OracOk Tryz.prog o := fn_ok mixed Tryz.func35 (by kernel_rfl) ctx (c := bodyC Tryz.f35) (by kernel_rfl) (all1 g4 (all0)) (by kernel_rfl) (by kernel_rfl) (by kernel_rfl) (Nat.le_of_ble_eq_true (by kernel_rfl)) eG (by kernel_rfl) (Nat.le_of_ble_eq_true (by kernel_rfl))
end laws_lkDisks
end Go.Proofs.YtechafkfchmggaaGreat.E
end
section
set_option linter.unusedVariables false
set_option linter.unusedSimpArgs false
namespace Go.Proofs.YtechafkfchmggaaGreat.E
open Go Go.RowKit
set_option linter.unusedVariables false
set_option maxRecDepth 100000
namespace spec_DrawRotWrite
def sin : Sig := ⟨[], [.one (.val (.sl (.int .u8)) false)]⟩
def sout : Sig := ⟨[.buf I false, .buf I false, .buf .bool false], [.agg [.val I false, .ref (.own 0), .ref (.own 1), .ref (.own 2)]]⟩
noncomputable def G {β : Type} (S : Sl) (a0 : (List Int)) (K : (List Int) → (List Int) → (List Bool) → Int → Option β) : Option β := spec_l6Open.G S a0 (fun y1 y2 => spec_l92Stripe.G S y1 y2 (fun y3 y4 y5 y6 y7 y8 => K y5 y6 y7 y8))
noncomputable def o : Orac := ⟨33, sin, sout, fun s K => G sl0 s.2.1 (fun x0 x1 x2 x3 => K ((x0, (x1, (x2, ()))), ((x3, ()), ())))⟩
noncomputable def C : Ctx := ⟨tyT, [spec_l6Open.o, spec_l92Stripe.o], [], 6, 0⟩
theorem ctx : CtxOk Tryz.prog C := ⟨tyOk, all1 spec_l6Open.ok (all1 spec_l92Stripe.ok (all0))⟩
theorem eG (β : Type) (s : sin.den) (K : sout.den → Option β) : evalFn C Tryz.f33 sin sout s K = o.F s K := by kernel_rfl
theorem ok : OracOk Tryz.prog o := fn_ok mixed Tryz.func33 (by kernel_rfl) ctx (c := bodyC Tryz.f33) (by kernel_rfl) (all0) (by kernel_rfl) (by kernel_rfl) (by kernel_rfl) (Nat.le_of_ble_eq_true (by kernel_rfl)) eG (by kernel_rfl) (Nat.le_of_ble_eq_true (by kernel_rfl))
end spec_DrawRotWrite
end Go.Proofs.YtechafkfchmggaaGreat.E
end
section
set_option linter.unusedVariables false
set_option linter.unusedSimpArgs false
namespace Go.Proofs.YtechafkfchmggaaGreat.E
open Go Go.RowKit
set_option linter.unusedVariables false
set_option maxRecDepth 100000
namespace laws_FnRotOne
def sin : Sig := ⟨[], [.one (.val (.sl (.int .u8)) false), .one (.val (.sl (.int .u8)) false)]⟩
def sout : Sig := ⟨[], [.one (.val .bool false)]⟩
noncomputable def G {β : Type} (S : Sl) (a0 : (List Int)) (a1 : (List Int)) (K : Bool → Option β) : Option β := bif (S.lt 1048576 (a0.length : Int)) then (K true) else (bif (S.lt 1048576 (a1.length : Int)) then (K true) else (spec_DrawRotWrite.G S a0 (fun y1 y2 y3 y4 => impl_RotWrite.G S y4 y1 y2 y3 (fun y5 => spec_RotWrite.G S y4 y1 y2 y3 (fun y6 => laws_lkDisks.G S y5 y6 (fun y7 => bif (!y7) then (spec_RotWrite.G S y4 y1 y2 y3 (fun y8 => laws_lkDisks.G S y5 y8 (fun y9 => K y9))) else (spec_StripeOk.G S y4 y1 y2 y3 (fun y10 => bif (!y10) then (spec_RotWrite.G S y4 y1 y2 y3 (fun y11 => laws_lkDisks.G S y5 y11 (fun y12 => K y12))) else (bif (S.ir (Int.tmod (a1.length : Int) 8) y3.length) then (bif (!(List.getD y3 (Int.toNat (Int.tmod (a1.length : Int) 8)) false)) then (K true) else (bif (S.fw ([] ++ y5).length) then (bif (S.ir (Int.tmod (a1.length : Int) 8) y5.length) then (impl_FieldSum.G S ((List.getD y5 (Int.toNat (Int.tmod (a1.length : Int) 8)) (0, (0, (0, ())))).1) (S.w ((1 : Int) + (Int.tmod (a1.length : Int) 30))) (fun y13 => bif (S.ir (Int.tmod (a1.length : Int) 8) ([] ++ y5).length) then (impl_RotRead.G S y4 (List.set ([] ++ y5) (Int.toNat (Int.tmod (a1.length : Int) 8)) (y13, (List.getD ([] ++ y5) (Int.toNat (Int.tmod (a1.length : Int) 8)) (0, (0, (0, ())))).2)) (fun y14 y15 y16 y17 y18 => impl_RotFind.G S (List.set ([] ++ y5) (Int.toNat (Int.tmod (a1.length : Int) 8)) (y13, (List.getD ([] ++ y5) (Int.toNat (Int.tmod (a1.length : Int) 8)) (0, (0, (0, ())))).2)) (fun y19 => laws_lkInts.G S y19 [(Int.tmod (a1.length : Int) 8)] (fun y20 => bif y20 then (bif y18 then (impl_StripeLose.G S y4 y1 y2 y3 (Int.tmod (a1.length : Int) 8) (fun y21 y22 y23 y24 => laws_lkStripe.G S y17 y14 y15 y16 y24 y21 y22 y23 (fun y25 => K y25))) else (K false)) else (K false))))) else (none))) else (none)) else (none))) else (none))))))))))
noncomputable def o : Orac := ⟨6, sin, sout, fun s K => G sl0 s.2.1 s.2.2.1 (fun x0 => K ((), (x0, ())))⟩
noncomputable def C : Ctx := ⟨tyT, [impl_FieldSum.o, impl_RotFind.o, impl_RotRead.o, impl_RotWrite.o, impl_StripeLose.o, laws_lkDisks.o, laws_lkInts.o, laws_lkStripe.o, spec_DrawRotWrite.o, spec_RotWrite.o, spec_StripeOk.o], [], 85, 0⟩
theorem ctx : CtxOk Tryz.prog C := ⟨tyOk, all1 impl_FieldSum.ok (all1 impl_RotFind.ok (all1 impl_RotRead.ok (all1 impl_RotWrite.ok (all1 impl_StripeLose.ok (all1 laws_lkDisks.ok (all1 laws_lkInts.ok (all1 laws_lkStripe.ok (all1 spec_DrawRotWrite.ok (all1 spec_RotWrite.ok (all1 spec_StripeOk.ok (all0)))))))))))⟩
theorem eG (β : Type) (s : sin.den) (K : sout.den → Option β) : evalFn C Tryz.f6 sin sout s K = o.F s K := by kernel_rfl
theorem ok : OracOk Tryz.prog o := fn_ok mixed Tryz.func6 (by kernel_rfl) ctx (c := bodyC Tryz.f6) (by kernel_rfl) (all0) (by kernel_rfl) (by kernel_rfl) (by kernel_rfl) (Nat.le_of_ble_eq_true (by kernel_rfl)) eG (by kernel_rfl) (Nat.le_of_ble_eq_true (by kernel_rfl))
end laws_FnRotOne
end Go.Proofs.YtechafkfchmggaaGreat.E
end
section
set_option linter.unusedVariables false
set_option linter.unusedSimpArgs false
namespace Go.Proofs.YtechafkfchmggaaGreat.E
open Go Go.RowKit
set_option linter.unusedVariables false
set_option maxRecDepth 100000
theorem lkDisks_l {β : Type} (l : List Dk') (hl : l.length ≤ 1048576) (kx : Option β) (kr : Bool → Option β) (d : Nat) : ∀ (i n : Nat), i + d = l.length → d < n → laws_lkDisks.l4 sl1 n kx kr l l (i : Int) = kx := by
  induction d with
  | zero =>
    intro i n hi hn
    obtain ⟨n, rfl⟩ : ∃ m, n = m + 1 := ⟨n - 1, by omega⟩
    rw [laws_lkDisks.t4]; exact cF (ltF (by omega)) rfl
  | succ d ih =>
    intro i n hi hn
    obtain ⟨n, rfl⟩ : ∃ m, n = m + 1 := ⟨n - 1, by omega⟩
    rw [laws_lkDisks.t4]
    unfold laws_lkDisks.b4
    rw [w_succ (by omega), eqT rfl, eqT rfl, eqT rfl]
    exact cT (ltT (by omega)) (cT (irT (by omega) (by omega)) (cT (irT (by omega) (by omega)) (cF rfl (ih (i + 1) n (by omega) (by omega)))))
theorem lkDisks_same {β : Type} {l : List Dk'} (hl : l.length ≤ 1048576) (K : Bool → Option β) : laws_lkDisks.G sl1 l l K = K true := by
  unfold laws_lkDisks.G
  exact cF (neF rfl) (lkDisks_l l hl _ _ l.length 0 sl1.n (by omega) (by rw [rounds_n]; omega))
theorem drawRot {l : List Int} (hl : ∀ x ∈ l, 0 ≤ x ∧ x ≤ 255) : ∃ kind vals vers there, Sd kind vals vers there ∧ ∀ (β : Type) (K : List Int → List Int → List Bool → Int → Option β), spec_DrawRotWrite.G sl1 l K = K vals vers there kind := by
  obtain ⟨b, hb, ho⟩ := open_G hl
  obtain ⟨q, kind, vals, vers, there, _, _, hs, h⟩ := stripe_S hb (p := 0) (by omega) (by omega)
  exact ⟨kind, vals, vers, there, hs, fun β K => (ho _ _).trans (h _ _)⟩
end Go.Proofs.YtechafkfchmggaaGreat.E
end
section
set_option linter.unusedVariables false
set_option linter.unusedSimpArgs false
namespace Go.Proofs.YtechafkfchmggaaGreat.E
open Go Go.RowKit
set_option linter.unusedVariables false
set_option maxRecDepth 100000
theorem rotRaw_eq {a b c : Int} (ha : 0 ≤ a ∧ a ≤ 30) (hb : 1 ≤ b ∧ b ≤ 99) (hc : 0 ≤ c ∧ c ≤ 7) : rotRaw a b c = (3 * a + 5 * b + 7 * c) % 89 + 1 := by
  unfold rotRaw
  rw [wE (a := 3 * a) (by omega) (by omega), wE (a := 5 * b) (by omega) (by omega), wE (a := 7 * c) (by omega) (by omega), wE (a := 3 * a + 5 * b) (by omega) (by omega), wE (a := 3 * a + 5 * b + 7 * c) (by omega) (by omega), Int.tmod_eq_emod_of_nonneg (by omega)]
  rw [wE (by omega) (by omega)]
theorem rotV_eq {a b c : Int} (ha : 0 ≤ a ∧ a ≤ 30) (hb : 1 ≤ b ∧ b ≤ 99) (hc : 0 ≤ c ∧ c ≤ 7) : rotV a b c = (3 * a + 5 * b + 7 * c) % 89 + 1 := by
  unfold rotV
  rw [inV_iff.2 ha, inV_iff.2 hb, inV_iff.2 hc]
  exact rotRaw_eq ha hb hc
theorem disksV_at (vals vers : List Int) (there : List Bool) {i : Nat} (hi : i < 8) : (disksV vals vers there 8).getD i noDk = diskV vals vers there i := by
  unfold disksV
  rw [List.getD_eq_getElem?_getD, List.getElem?_map, List.getElem?_range hi]; rfl
theorem rowN_eq {α : Type} {f : Nat → α} {l : List α} (d : α) (hl : l.length = 8) (h : ∀ i, i < 8 → f i = l.getD i d) : rowN f 8 = l := by
  refine List.ext_getElem? fun i => ?_
  by_cases hi : i < 8
  · unfold rowN
    rw [List.getElem?_map, List.getElem?_range hi, List.getElem?_eq_getElem (by omega)]
    show some (f i) = _
    rw [h i hi, List.getD_eq_getElem?_getD, List.getElem?_eq_getElem (by omega)]; rfl
  · rw [List.getElem?_eq_none (by rw [rowN_len]; omega), List.getElem?_eq_none (by omega)]
theorem good_disk {kind : Int} {vals vers : List Int} {there : List Bool} (h : stripeV kind vals vers there = true) {i : Nat} (hi : i < 8) : goodV (diskV vals vers there i) (i : Int) = there.getD i false := by
  obtain ⟨hk, hf, h1, h2, h3, ho⟩ := stripe_iff.1 h
  unfold diskV
  cases ct : there.getD i false
  · rfl
  · have hv := getD_in hf (i := i) (by omega)
    have hw := (((ho i hi).1 ct).1)
    show (!(rotRaw (vals.getD i 0) (vers.getD i 0) (i : Int) == 0) && (rotRaw (vals.getD i 0) (vers.getD i 0) (i : Int) == rotV (vals.getD i 0) (vers.getD i 0) (i : Int))) = true
    rw [rotRaw_eq hv hw (by omega), rotV_eq hv hw (by omega), beq_self_eq_true, Bool.and_true, Bool.not_eq_true', beq_eq_false_iff_ne]
    omega
theorem read_back {kind : Int} {vals vers : List Int} {there : List Bool} (h : stripeV kind vals vers there = true) : rdV kind (disksV vals vers there 8) = (vals, vers, there, kind, true) := by
  obtain ⟨hk, hf, h1, h2, h3, ho⟩ := stripe_iff.1 h
  have eC : ∀ i, i < 8 → rdC (disksV vals vers there 8) i = there.getD i false := fun i hi => by
    unfold rdC; rw [disksV_at _ _ _ hi]; exact good_disk h hi
  have eA : rowN (rdA (disksV vals vers there 8)) 8 = vals := rowN_eq 0 h1 fun i hi => by
    unfold rdA
    rw [disksV_at _ _ _ hi, good_disk h hi]
    cases ct : there.getD i false
    · exact (((ho i hi).2 ct).1).symm
    · unfold diskV; rw [ct]; rfl
  have eB : rowN (rdB (disksV vals vers there 8)) 8 = vers := rowN_eq 0 h2 fun i hi => by
    unfold rdB
    rw [disksV_at _ _ _ hi, good_disk h hi]
    cases ct : there.getD i false
    · exact (((ho i hi).2 ct).2).symm
    · unfold diskV; rw [ct]; rfl
  have eC' : rowN (rdC (disksV vals vers there 8)) 8 = there := rowN_eq false h3 eC
  unfold rdV
  rw [eA, eB, eC', h, disksV_len, inV_iff.2 (show 1 ≤ kind ∧ kind ≤ 2 by omega)]; rfl
theorem find_none {kind : Int} {vals vers : List Int} {there : List Bool} (h : stripeV kind vals vers there = true) : findV (disksV vals vers there 8) = [] := by
  unfold findV findW
  rw [disksV_len, decide_eq_true rfl]
  show ((List.range 8).filter _).map _ = []
  rw [List.map_eq_nil_iff, List.filter_eq_nil_iff]
  intro i hi
  have hi := List.mem_range.1 hi
  unfold badV
  rw [show (disksV vals vers there 8).getD i (0, (0, (0, ()))) = diskV vals vers there i from disksV_at _ _ _ hi, good_disk h hi]
  cases ct : there.getD i false
  · unfold diskV; rw [ct]; exact Bool.false_ne_true
  · simp
theorem disk_bad {kind : Int} {vals vers : List Int} {there : List Bool} (h : stripeV kind vals vers there = true) {k : Nat} (hk8 : k < 8) (ct : there.getD k false = true) {v' : Int} (hv' : 0 ≤ v' ∧ v' ≤ 30) (hne : v' ≠ vals.getD k 0) :
    goodV (v', (diskV vals vers there k).2) (k : Int) = false ∧ zeroD (v', (diskV vals vers there k).2) = false := by
  obtain ⟨hk, hf, h1, h2, h3, ho⟩ := stripe_iff.1 h
  have hv := getD_in hf (i := k) (by omega)
  have hw := (((ho k hk8).1 ct).1)
  unfold diskV
  rw [ct]
  refine ⟨?_, ?_⟩
  · show (!(rotRaw (vals.getD k 0) (vers.getD k 0) (k : Int) == 0) && (rotRaw (vals.getD k 0) (vers.getD k 0) (k : Int) == rotV v' (vers.getD k 0) (k : Int))) = false
    rw [rotRaw_eq hv hw (by omega), rotV_eq hv' hw (by omega), Bool.and_eq_false_iff]
    right
    rw [beq_eq_false_iff_ne]
    omega
  · show (sl1.eq v' 0 && (sl1.eq (vers.getD k 0) 0 && (sl1.eq (rotRaw (vals.getD k 0) (vers.getD k 0) (k : Int)) 0 && true))) = false
    rw [eqF (a := vers.getD k 0) (by omega), Bool.false_and, Bool.and_false]
theorem set_at {α : Type} (l : List α) (d x : α) {k i : Nat} (hk : k < l.length) : (l.set k x).getD i d = if k = i then x else l.getD i d := getD_set l k i x d hk
theorem read_bad {kind : Int} {vals vers : List Int} {there : List Bool} (h : stripeV kind vals vers there = true) {k : Nat} (hk8 : k < 8) (ct : there.getD k false = true) {v' : Int} (hv' : 0 ≤ v' ∧ v' ≤ 30) (hne : v' ≠ vals.getD k 0) :
    rdV kind ((disksV vals vers there 8).set k (v', (diskV vals vers there k).2)) = (vals.set k 0, vers.set k 0, there.set k false, kind, true) ∧ findV ((disksV vals vers there 8).set k (v', (diskV vals vers there k).2)) = [(k : Int)] := by
  obtain ⟨hk, hf, h1, h2, h3, ho⟩ := stripe_iff.1 h
  obtain ⟨b1, b2⟩ := disk_bad h hk8 ct hv' hne
  have hl := disksV_len vals vers there 8
  have at_ : ∀ i, i < 8 → ((disksV vals vers there 8).set k (v', (diskV vals vers there k).2)).getD i noDk = if k = i then (v', (diskV vals vers there k).2) else diskV vals vers there i := fun i hi => by
    rw [set_at _ _ _ (by omega), disksV_at _ _ _ hi]
  have eA : rowN (rdA ((disksV vals vers there 8).set k (v', (diskV vals vers there k).2))) 8 = vals.set k 0 := rowN_eq 0 (by rw [List.length_set]; exact h1) fun i hi => by
    unfold rdA
    rw [at_ i hi, getD_set _ _ _ _ _ (by omega)]
    by_cases e : k = i
    · subst e; rw [if_pos rfl, if_pos rfl, b1]; rfl
    · rw [if_neg e, if_neg e, good_disk h hi]
      cases ci : there.getD i false
      · exact (((ho i hi).2 ci).1).symm
      · unfold diskV; rw [ci]; rfl
  have eB : rowN (rdB ((disksV vals vers there 8).set k (v', (diskV vals vers there k).2))) 8 = vers.set k 0 := rowN_eq 0 (by rw [List.length_set]; exact h2) fun i hi => by
    unfold rdB
    rw [at_ i hi, getD_set _ _ _ _ _ (by omega)]
    by_cases e : k = i
    · subst e; rw [if_pos rfl, if_pos rfl, b1]; rfl
    · rw [if_neg e, if_neg e, good_disk h hi]
      cases ci : there.getD i false
      · exact (((ho i hi).2 ci).2).symm
      · unfold diskV; rw [ci]; rfl
  have eC : rowN (rdC ((disksV vals vers there 8).set k (v', (diskV vals vers there k).2))) 8 = there.set k false := rowN_eq false (by rw [List.length_set]; exact h3) fun i hi => by
    unfold rdC
    rw [at_ i hi, getD_set _ _ _ _ _ (by omega)]
    by_cases e : k = i
    · subst e; rw [if_pos rfl, if_pos rfl, b1]
    · rw [if_neg e, if_neg e, good_disk h hi]
  refine ⟨?_, ?_⟩
  · unfold rdV
    rw [eA, eB, eC, stripe_lose h hk8, List.length_set, hl, inV_iff.2 (show 1 ≤ kind ∧ kind ≤ 2 by omega)]; rfl
  · unfold findV findW
    rw [List.length_set, hl, decide_eq_true rfl]
    show ((List.range 8).filter _).map _ = _
    have e : (List.range 8).filter (badV ((disksV vals vers there 8).set k (v', (diskV vals vers there k).2))) = (List.range 8).filter (fun i => decide (k = i)) := by
      refine List.filter_congr fun i hi => ?_
      have hi := List.mem_range.1 hi
      unfold badV
      rw [show ((disksV vals vers there 8).set k (v', (diskV vals vers there k).2)).getD i (0, (0, (0, ()))) = _ from at_ i hi]
      by_cases e : k = i
      · subst e; rw [if_pos rfl, b1, b2, decide_eq_true rfl]; rfl
      · rw [if_neg e, good_disk h hi, decide_eq_false e]
        cases ci : there.getD i false
        · unfold diskV; rw [ci]; rfl
        · simp
    rw [e]
    have k8 : k = 0 ∨ k = 1 ∨ k = 2 ∨ k = 3 ∨ k = 4 ∨ k = 5 ∨ k = 6 ∨ k = 7 := by omega
    rcases k8 with rfl | rfl | rfl | rfl | rfl | rfl | rfl | rfl <;> rfl
end Go.Proofs.YtechafkfchmggaaGreat.E
end
section
set_option linter.unusedVariables false
set_option linter.unusedSimpArgs false
namespace Go.Proofs.YtechafkfchmggaaGreat.Pure.FnRotOne
open Go Go.Proofs.YtechafkfchmggaaGreat.E
theorem pure {β : Type} (l m : List Int) (hl : ∀ x ∈ l, 0 ≤ x ∧ x ≤ 255) (hm : ∀ x ∈ m, 0 ≤ x ∧ x ≤ 255) (K : Bool → Option β) : laws_FnRotOne.G sl1 l m K = K true := by
  obtain ⟨kind, vals, vers, there, hs, hd⟩ := drawRot hl
  have l1 := hs.l1
  have l2 := hs.l2
  have l3 := hs.l3
  unfold laws_FnRotOne.G
  by_cases h : 1048576 < (l.length : Int)
  · exact cT (ltT h) rfl
  refine cF (ltF (by omega)) ?_
  by_cases h' : 1048576 < (m.length : Int)
  · exact cT (ltT h') rfl
  refine cF (ltF (by omega)) ((hd _ _).trans ((implWr_G kind vals vers there _).trans ((specWr_G kind (by omega) _).trans ((lkDisks_same (wrV_len _ _ _ _) _).trans (cF rfl ((stripeOk_G kind vals vers there (by omega) _).trans ?_))))))
  cases cs : stripeV kind vals vers there
  · exact cT rfl ((specWr_G kind (by omega) _).trans (lkDisks_same (wrV_len _ _ _ _) _))
  have e : wrV kind vals vers there = disksV vals vers there 8 := by unfold wrV; rw [cs]; rfl
  have hlen := disksV_len vals vers there 8
  have ek : Int.tmod (m.length : Int) 8 = ((m.length % 8 : Nat) : Int) := by rw [Int.tmod_eq_emod_of_nonneg (by omega)]; omega
  have e30 : Int.tmod (m.length : Int) 30 = ((m.length % 30 : Nat) : Int) := by rw [Int.tmod_eq_emod_of_nonneg (by omega)]; omega
  have hk8 : m.length % 8 < 8 := by omega
  have hr : m.length % 30 < 30 := by omega
  rw [e, ek, e30]
  generalize m.length % 8 = k at hk8
  generalize m.length % 30 = r at hr
  refine cF rfl (cT (irT (by omega) (by omega)) ?_)
  rw [getC false, List.nil_append]
  cases ct : there.getD k false
  · exact cT rfl rfl
  refine cF rfl (cT (fwT (by omega)) (cT (irT (by omega) (by omega)) ?_))
  obtain ⟨hk, hf, _, _, _, _⟩ := stripe_iff.1 cs
  have hv := getD_in hf (i := k) (by omega)
  have eD : List.getD (disksV vals vers there 8) (Int.toNat (k : Int)) (0, (0, (0, ()))) = diskV vals vers there k := by rw [Int.toNat_natCast]; exact disksV_at _ _ _ hk8
  rw [eD, Int.toNat_natCast]
  have e1 : (diskV vals vers there k).1 = vals.getD k 0 := by unfold diskV; rw [ct]; rfl
  rw [e1, wE (by omega) (by omega)]
  unfold impl_FieldSum.G
  refine (impl_field _ _).trans ?_
  rw [inV_iff.2 hv]
  refine cF rfl ((impl_field _ _).trans ?_)
  rw [inV_iff.2 ⟨by omega, by omega⟩]
  refine cF rfl ((plus_G (by omega) (by omega) _).trans ?_)
  have hv' : 0 ≤ (vals.getD k 0 + (1 + (r : Int))) % 31 ∧ (vals.getD k 0 + (1 + (r : Int))) % 31 ≤ 30 := by omega
  have hne : (vals.getD k 0 + (1 + (r : Int))) % 31 ≠ vals.getD k 0 := by omega
  obtain ⟨b1, b2⟩ := read_bad cs hk8 ct hv' hne
  refine cT (irT (by omega) (by omega)) ((implRd_G kind (by rw [List.length_set]; omega) _).trans ?_)
  rw [b1]
  refine (find_impl _ _).trans ?_
  rw [b2]
  refine (lkInts_same _ (by simp) _).trans (cT rfl (cT rfl ((implLose_G kind (k : Int) _).trans ?_)))
  have eL : loseV kind vals vers there (k : Int) = (vals.set k 0, vers.set k 0, there.set k false, kind) := by
    unfold loseV
    rw [cs, inV_iff.2 ⟨by omega, by omega⟩, Int.toNat_natCast]; rfl
  rw [eL]
  exact lkStripe_same kind (by rw [List.length_set]; omega) (by rw [List.length_set]; omega) (by rw [List.length_set]; omega) _
end Go.Proofs.YtechafkfchmggaaGreat.Pure.FnRotOne
end
section
set_option linter.unusedVariables false
set_option linter.unusedSimpArgs false
namespace Go.Proofs.YtechafkfchmggaaGreat.fnRotOne
open Go.ChangeShapes Go.WideShapes Go.ChangeAt Go.RowKit
open Go.ChangeMaps (open_string shut_string)
set_option linter.unusedVariables false
theorem own : ownKnob Tryz.prog.godebug = none := by kernel_rfl
theorem laidOut : laidOutB Tryz.prog = true := by kernel_rfl
set_option maxRecDepth 100000 in
theorem lifted (os : Os) (started : os.Started) (H : Type) (enc : TypeId × Value → H) :
    ReturnsInHanded {} Tryz.checked os 6 .any (Rows.fnRotOneSpec.pre6 enc Tryz.prog Tryz.f6 Rows.fnRotOneRow.domain false) (Rows.fnRotOneSpec.post enc Tryz.prog Tryz.f6 false true false false) := by
  refine returnsInHanded_of_change_sized (C := Tryz.checked) own started (by kernel_rfl) Tryz.func6
    (ChangeSpec.witness6 (enc := enc) (C := Tryz.checked) false ⟨#[], #[.slice none 0 0, .slice none 0 0], []⟩ 8 (by kernel_rfl) (by kernel_rfl) (by kernel_rfl) (by kernel_rfl)) ?_
  intro W base args ds gs before hval0 hW hcnd hsz0 _
  have hval : ∀ (j : Nat) t v, Tryz.f6.params[j]? = some t → args[j]? = some v → Value.okWide Tryz.prog W .any base t v := hval0
  have hW' := hW
  obtain ⟨p, q, hA0, hV, rfl, hfz, hnd⟩ := hW
  have hA : DataW.TrodAll enc Tryz.prog W 0 (fun _ => true) true Tryz.f6.params.toList args.toList ds p := hA0
  rw [Tryz.params6] at hA hval
  obtain ⟨v0, vs0, d0, ds0, p0, q0, hargs0, rfl, rfl, h0, r0⟩ := trodAll_cons hA
  obtain ⟨v1, vs1, d1, ds1, p1, q1, hargs1, rfl, rfl, h1, r1⟩ := trodAll_cons r0
  obtain ⟨rfl, rfl, rfl⟩ := trodAll_nil r1
  obtain rfl : args = #[v0, v1] := by cases args; simp_all
  obtain ⟨rfl, rfl⟩ := trodVars_none hV
  obtain ⟨a0, len0, cap0, rfl⟩ := okWide_slice Tryz.underlying40 (hval 0 40 v0 rfl rfl)
  obtain ⟨a1, len1, cap1, rfl⟩ := okWide_slice Tryz.underlying40 (hval 1 40 v1 rfl rfl)
  have k0 := h0
  have lt0 : ∀ x ∈ p0, x.block < W.heap.size := by obtain ⟨m, hm⟩ := k0; exact DataW.trod_lt m _ _ _ hm
  obtain ⟨z0, w0, b0⟩ : ∃ zs, E.IsRowK .u8 W a0 len0 cap0 zs ∧ (∀ x ∈ zs, (Lit.int .u8 x).wf = true) := by
    obtain ⟨fuel, hf⟩ := h0
    rcases open_ints Tryz.underlying40 Tryz.underlying5 (by kernel_rfl) hf with ⟨hcs, _⟩ | ⟨x, l, c, zs, hcs, _, hl, hm, hz, _, hcell, hwz⟩
    · simp [Value.cells] at hcs
      obtain ⟨rfl, rfl, rfl⟩ := hcs
      exact ⟨[], .inl ⟨rfl, rfl, rfl, rfl⟩, by simp⟩
    · simp [Value.cells] at hcs
      obtain ⟨rfl, rfl, rfl⟩ := hcs
      exact ⟨zs, .inr ⟨_, rfl, hl, by simpa using hz, hcell⟩, hwz⟩
  have k1 := h1
  have lt1 : ∀ x ∈ p1, x.block < W.heap.size := by obtain ⟨m, hm⟩ := k1; exact DataW.trod_lt m _ _ _ hm
  obtain ⟨z1, w1, b1⟩ : ∃ zs, E.IsRowK .u8 W a1 len1 cap1 zs ∧ (∀ x ∈ zs, (Lit.int .u8 x).wf = true) := by
    obtain ⟨fuel, hf⟩ := h1
    rcases open_ints Tryz.underlying40 Tryz.underlying5 (by kernel_rfl) hf with ⟨hcs, _⟩ | ⟨x, l, c, zs, hcs, _, hl, hm, hz, _, hcell, hwz⟩
    · simp [Value.cells] at hcs
      obtain ⟨rfl, rfl, rfl⟩ := hcs
      exact ⟨[], .inl ⟨rfl, rfl, rfl, rfl⟩, by simp⟩
    · simp [Value.cells] at hcs
      obtain ⟨rfl, rfl, rfl⟩ := hcs
      exact ⟨zs, .inr ⟨_, rfl, hl, by simpa using hz, hcell⟩, hwz⟩
  clear hA0 hval0 hsz0
  have hp := Pure.FnRotOne.pure (z0.take len0) (z1.take len1) (fun x hx => E.byte_wf (b0 x (List.mem_of_mem_take hx))) (fun x hx => E.byte_wf (b1 x (List.mem_of_mem_take hx))) (fun b => some ((), (b, ())))
  rw [← E.sl_eq] at hp
  refine (E.law_bytes2 E.laws_FnRotOne.ok w0 w1 hp).mono fun e W' ⟨he, bel⟩ => ?_
  subst he
  exact ⟨_, rfl, _, _, _, [], _, [], hW', trodAll_mk1 (shut_bool Tryz.underlying4 _), (trodAll_cons_mk (Below.trod laidOut (by kernel_rfl) (of_decide_eq_true (by kernel_rfl)) k0 bel lt0) (trodAll_cons_mk (Below.trod laidOut (by kernel_rfl) (of_decide_eq_true (by kernel_rfl)) k1 bel lt1) trodAll_mk0)), rfl, bel.frame _, fun h => by cases h⟩
theorem closed : joinedFacts Tryz.prog 6 Tryz.f6 Rows.fnRotOneSpec Rows.fnRotOneRow = true := by
  unfold joinedFacts
  rw [Head.make, Head.final, Head.enter]
  kernel_rfl
theorem over : Rows.fnRotOneRow.holds Tryz.pinned (OpenSpec.ofChange Rows.fnRotOneSpec) :=
  OpenClaim.holds_of_wide 6 Tryz.f6 rfl rfl rfl rfl rfl rfl rfl ⟨rfl, rfl, rfl, rfl, rfl⟩ rfl rfl rfl rfl rfl (by kernel_rfl) Tryz.func6 closed
    (of_decide_eq_true (by kernel_rfl)) (by unfold Func.isWrapper; first | (rw [if_pos (by decide +kernel)]; kernel_rfl) | (rw [if_neg (by decide +kernel)]; exact ⟨rfl, rfl⟩))
    (fun os started H enc _ => lifted os started H enc)
theorem proved : Rows.FnRotOneSaid := over
#print axioms proved
end Go.Proofs.YtechafkfchmggaaGreat.fnRotOne
end
