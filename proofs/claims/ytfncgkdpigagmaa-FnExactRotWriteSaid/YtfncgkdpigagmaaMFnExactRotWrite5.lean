/- Part 5 of the proof of the statement FnExactRotWrite: what the functions compute, step by step; the last part states it. No condition. -/
import Derived.Test.YtfncgkdpigagmaaRows
import Derived.WalkKit
import Derived.ProofKit
import Derived.OpenShut
import Derived.ShutString
import Derived.ChangeOld
import Derived.Below
import Derived.SizedLaws
import Derived.Test.YtfncgkdpigagmaaMFnExactRotWrite1
import Derived.Test.YtfncgkdpigagmaaMFnExactRotWrite2
import Derived.Test.YtfncgkdpigagmaaMFnExactRotWrite3
import Derived.Test.YtfncgkdpigagmaaMFnExactRotWrite4
section
set_option linter.unusedVariables false
set_option linter.unusedSimpArgs false
namespace Go.Proofs.Ytfncgkdpigagmaa.E
open Go Go.RowKit
set_option linter.unusedVariables false
set_option maxRecDepth 100000
theorem mid_get {α : Type} (d x : α) (A B : List α) (i : Nat) (h : A.length = i) : List.getD (A ++ x :: B) (Int.toNat (i : Int)) d = x := by rw [Int.toNat_natCast]; subst h; simp
theorem mid_set {α : Type} (x y : α) (A B : List α) (i : Nat) (h : A.length = i) : List.set (A ++ x :: B) (Int.toNat (i : Int)) y = (A ++ [y]) ++ B := by rw [Int.toNat_natCast]; subst h; simp
theorem mid_len {α : Type} (x : α) (A B : List α) : (A ++ x :: B).length = A.length + 1 + B.length := by simp; omega
theorem szInt_G {β : Type} {l : List Int} {k : Int} (h0 : 0 ≤ k) (h1 : k ≤ 1048576) (hl : l.length ≤ 9223372036854775807) (K : Int → Option β) : laws_szIntS.G sl1 l k K = K (if k < (l.length : Int) then -1 else k - (l.length : Int)) := by
  unfold laws_szIntS.G
  rw [wE (by omega) (by omega)]
  by_cases c : k < (l.length : Int)
  · rw [if_pos c]; exact cT (ltT (by omega)) rfl
  · rw [if_neg c]; exact cF (ltF (by omega)) rfl
theorem szBool_G {β : Type} {l : List Bool} {k : Int} (h0 : 0 ≤ k) (h1 : k ≤ 1048576) (hl : l.length ≤ 9223372036854775807) (K : Int → Option β) : laws_szBoolS.G sl1 l k K = K (if k < (l.length : Int) then -1 else k - (l.length : Int)) := by
  unfold laws_szBoolS.G
  rw [wE (by omega) (by omega)]
  by_cases c : k < (l.length : Int)
  · rw [if_pos c]; exact cT (ltT (by omega)) rfl
  · rw [if_neg c]; exact cF (ltF (by omega)) rfl
theorem szStripe_or (kind : Int) {vals vers : List Int} {there : List Bool} (h1 : vals.length ≤ 9223372036854775807) (h2 : vers.length ≤ 9223372036854775807) (h3 : there.length ≤ 9223372036854775807) :
    ∃ y : Int, (∀ (β : Type) (K : Int → Option β), laws_szStripe.G sl1 kind vals vers there 1048576 K = K y) ∧ (y < 0 ∨ 0 ≤ y ∧ vals.length ≤ 1048576 ∧ vers.length ≤ 1048576 ∧ there.length ≤ 1048576) := by
  by_cases c1 : (1048576 : Int) < (vals.length : Int)
  · refine ⟨-1, fun β K => ?_, .inl (by omega)⟩
    unfold laws_szStripe.G
    refine (szInt_G (by omega) (by omega) h1 _).trans ?_
    rw [if_pos c1]; exact cT rfl rfl
  by_cases c2 : (1048576 : Int) - (vals.length : Int) < (vers.length : Int)
  · refine ⟨-1, fun β K => ?_, .inl (by omega)⟩
    unfold laws_szStripe.G
    refine (szInt_G (by omega) (by omega) h1 _).trans ?_
    rw [if_neg c1]
    refine cF (ltF (by omega)) ((szInt_G (by omega) (by omega) h2 _).trans ?_)
    rw [if_pos c2]; exact cT rfl rfl
  by_cases c3 : (1048576 : Int) - (vals.length : Int) - (vers.length : Int) < (there.length : Int)
  · refine ⟨-1, fun β K => ?_, .inl (by omega)⟩
    unfold laws_szStripe.G
    refine (szInt_G (by omega) (by omega) h1 _).trans ?_
    rw [if_neg c1]
    refine cF (ltF (by omega)) ((szInt_G (by omega) (by omega) h2 _).trans ?_)
    rw [if_neg c2]
    refine cF (ltF (by omega)) ((szBool_G (by omega) (by omega) h3 _).trans ?_)
    rw [if_pos c3]; exact cT rfl rfl
  · refine ⟨1048576 - (vals.length : Int) - (vers.length : Int) - (there.length : Int), fun β K => ?_, .inr ⟨by omega, by omega, by omega, by omega⟩⟩
    unfold laws_szStripe.G
    refine (szInt_G (by omega) (by omega) h1 _).trans ?_
    rw [if_neg c1]
    refine cF (ltF (by omega)) ((szInt_G (by omega) (by omega) h2 _).trans ?_)
    rw [if_neg c2]
    refine cF (ltF (by omega)) ((szBool_G (by omega) (by omega) h3 _).trans ?_)
    rw [if_neg c3]; exact cF (ltF (by omega)) rfl
theorem toInt_l {β : Type} (kx : List Int → Option β) (kr : Option β) (l : List Int) (hl : l.length ≤ 1048576) (d : Nat) : ∀ (i n : Nat), i + d = l.length → d < n → laws_toIntS.l3 sl1 n kx kr (l.take i ++ List.replicate d 0) l (i : Int) = kx l := by
  induction d with
  | zero =>
    intro i n hi hn
    obtain ⟨n, rfl⟩ : ∃ m, n = m + 1 := ⟨n - 1, by omega⟩
    rw [laws_toIntS.t3, List.replicate_zero, List.append_nil, List.take_of_length_le (by omega)]; exact cF (ltF (by omega)) rfl
  | succ d ih =>
    intro i n hi hn
    obtain ⟨n, rfl⟩ : ∃ m, n = m + 1 := ⟨n - 1, by omega⟩
    have h1 : i < l.length := by omega
    have e := ih (i + 1) n (by omega) (by omega)
    have ht : (l.take i).length = i := by rw [List.length_take]; omega
    rw [List.take_succ_eq_append_getElem h1] at e
    rw [laws_toIntS.t3, List.replicate_succ]
    unfold laws_toIntS.b3
    rw [getN l i h1, mid_set _ _ _ _ _ ht, w_succ (by omega)]
    exact cT (ltT (by omega)) (cT (irT (by omega) (by omega)) (cT (irT (by omega) (by rw [mid_len, ht]; omega)) e))
theorem toInt_G {β : Type} {l : List Int} (hl : l.length ≤ 1048576) (K : List Int → Option β) : laws_toIntS.G sl1 l K = K l := by
  unfold laws_toIntS.G
  rw [Int.toNat_natCast]
  exact cT (andT (andT (leT (by omega)) (leT (by omega))) (fwT (by omega))) (toInt_l K none l hl l.length 0 sl1.n (by omega) (by rw [rounds_n]; omega))
theorem toBool_l {β : Type} (kx : List Bool → Option β) (kr : Option β) (l : List Bool) (hl : l.length ≤ 1048576) (d : Nat) : ∀ (i n : Nat), i + d = l.length → d < n → laws_toBoolS.l3 sl1 n kx kr (l.take i ++ List.replicate d false) l (i : Int) = kx l := by
  induction d with
  | zero =>
    intro i n hi hn
    obtain ⟨n, rfl⟩ : ∃ m, n = m + 1 := ⟨n - 1, by omega⟩
    rw [laws_toBoolS.t3, List.replicate_zero, List.append_nil, List.take_of_length_le (by omega)]; exact cF (ltF (by omega)) rfl
  | succ d ih =>
    intro i n hi hn
    obtain ⟨n, rfl⟩ : ∃ m, n = m + 1 := ⟨n - 1, by omega⟩
    have h1 : i < l.length := by omega
    have e := ih (i + 1) n (by omega) (by omega)
    have ht : (l.take i).length = i := by rw [List.length_take]; omega
    rw [List.take_succ_eq_append_getElem h1] at e
    rw [laws_toBoolS.t3, List.replicate_succ]
    unfold laws_toBoolS.b3
    rw [getN l i h1, mid_set _ _ _ _ _ ht, w_succ (by omega)]
    exact cT (ltT (by omega)) (cT (irT (by omega) (by omega)) (cT (irT (by omega) (by rw [mid_len, ht]; omega)) e))
theorem toBool_G {β : Type} {l : List Bool} (hl : l.length ≤ 1048576) (K : List Bool → Option β) : laws_toBoolS.G sl1 l K = K l := by
  unfold laws_toBoolS.G
  rw [Int.toNat_natCast]
  exact cT (andT (andT (leT (by omega)) (leT (by omega))) (fwT (by omega))) (toBool_l K none l hl l.length 0 sl1.n (by omega) (by rw [rounds_n]; omega))
theorem toStripe_G {β : Type} (kind : Int) {vals vers : List Int} {there : List Bool} (h1 : vals.length ≤ 1048576) (h2 : vers.length ≤ 1048576) (h3 : there.length ≤ 1048576) (K : List Int → List Int → List Bool → Int → Option β) : laws_toStripe.G sl1 kind vals vers there K = K vals vers there kind :=
  (toInt_G h1 _).trans ((toInt_G h2 _).trans (toBool_G h3 _))
theorem eqInt_l {β : Type} (kx : Option β) (kr : Bool → Option β) (l : List Int) (hl : l.length ≤ 1048576) (d : Nat) : ∀ (i n : Nat), i + d = l.length → d < n → laws_eqIntS.l4 sl1 n kx kr l l (i : Int) = kx := by
  induction d with
  | zero =>
    intro i n hi hn
    obtain ⟨n, rfl⟩ : ∃ m, n = m + 1 := ⟨n - 1, by omega⟩
    rw [laws_eqIntS.t4]; exact cF (ltF (by omega)) rfl
  | succ d ih =>
    intro i n hi hn
    obtain ⟨n, rfl⟩ : ∃ m, n = m + 1 := ⟨n - 1, by omega⟩
    rw [laws_eqIntS.t4]
    unfold laws_eqIntS.b4
    rw [w_succ (by omega)]
    exact cT (ltT (by omega)) (cT (irT (by omega) (by omega)) (cT (irT (by omega) (by omega)) (cF (neF rfl) (ih (i + 1) n (by omega) (by omega)))))
theorem eqInt_G {β : Type} {l : List Int} (hl : l.length ≤ 1048576) (K : Bool → Option β) : laws_eqIntS.G sl1 l l K = K true := by
  unfold laws_eqIntS.G
  exact cF (neF rfl) (eqInt_l _ _ l hl l.length 0 sl1.n (by omega) (by rw [rounds_n]; omega))
theorem eqBool_l {β : Type} (kx : Option β) (kr : Bool → Option β) (l : List Bool) (hl : l.length ≤ 1048576) (d : Nat) : ∀ (i n : Nat), i + d = l.length → d < n → laws_eqBoolS.l4 sl1 n kx kr l l (i : Int) = kx := by
  induction d with
  | zero =>
    intro i n hi hn
    obtain ⟨n, rfl⟩ : ∃ m, n = m + 1 := ⟨n - 1, by omega⟩
    rw [laws_eqBoolS.t4]; exact cF (ltF (by omega)) rfl
  | succ d ih =>
    intro i n hi hn
    obtain ⟨n, rfl⟩ : ∃ m, n = m + 1 := ⟨n - 1, by omega⟩
    rw [laws_eqBoolS.t4]
    unfold laws_eqBoolS.b4
    rw [w_succ (by omega)]
    exact cT (ltT (by omega)) (cT (irT (by omega) (by omega)) (cT (irT (by omega) (by omega)) (cF (bne_self_eq_false _) (ih (i + 1) n (by omega) (by omega)))))
theorem eqBool_G {β : Type} {l : List Bool} (hl : l.length ≤ 1048576) (K : Bool → Option β) : laws_eqBoolS.G sl1 l l K = K true := by
  unfold laws_eqBoolS.G
  exact cF (neF rfl) (eqBool_l _ _ l hl l.length 0 sl1.n (by omega) (by rw [rounds_n]; omega))
theorem eqStripe_G {β : Type} (kind : Int) {vals vers : List Int} {there : List Bool} (h1 : vals.length ≤ 1048576) (h2 : vers.length ≤ 1048576) (h3 : there.length ≤ 1048576) (K : Bool → Option β) : laws_eqStripe.G sl1 kind vals vers there kind vals vers there K = K true := by
  unfold laws_eqStripe.G
  exact cF (neF rfl) ((eqInt_G h1 _).trans (cF rfl ((eqInt_G h2 _).trans (cF rfl ((eqBool_G h3 _).trans (cF rfl rfl))))))
def cnt : Int → Nat → List Int
  | _, 0 => []
  | k, n + 1 => k :: cnt (k + 1) n
def cntB : Int → Nat → List Bool
  | _, 0 => []
  | k, n + 1 => sl1.eq (Int.tmod k 3) 0 :: cntB (k + 1) n
theorem cnt_len : ∀ (n : Nat) (k : Int), (cnt k n).length = n
  | 0, _ => rfl
  | n + 1, k => by rw [cnt, List.length_cons, cnt_len n]
theorem cntB_len : ∀ (n : Nat) (k : Int), (cntB k n).length = n
  | 0, _ => rfl
  | n + 1, k => by rw [cntB, List.length_cons, cntB_len n]
theorem markInt_l {β : Type} (kx : List Int → Int → Option β) (kr : Option β) (m : Nat) (hm : m ≤ 1048576) : ∀ (B A : List Int) (k : Int) (n : Nat), A.length + B.length = m → B.length < n → 0 ≤ k → k + (B.length : Int) ≤ 1000000000 →
    laws_markIntS_.l2 sl1 n kx kr (A ++ B) k (A.length : Int) = kx (A ++ cnt k B.length) (k + (B.length : Int))
  | [], A, k, n, hl, hn, h0, h1 => by
    obtain ⟨n, rfl⟩ : ∃ m, n = m + 1 := ⟨n - 1, by omega⟩
    rw [laws_markIntS_.t2, List.append_nil]
    refine cF (ltF (Int.le_refl _)) ?_
    show kx A k = _
    rw [show cnt k ([] : List Int).length = [] from rfl, List.append_nil, show k + (([] : List Int).length : Int) = k by simp]
  | x :: B, A, k, n, hl, hn, h0, h1 => by
    rw [List.length_cons] at hl hn h1
    obtain ⟨n, rfl⟩ : ∃ m, n = m + 1 := ⟨n - 1, by omega⟩
    have e := markInt_l kx kr m hm B (A ++ [k]) (k + 1) n (by simp; omega) (by omega) (by omega) (by omega)
    rw [List.length_append, List.length_singleton] at e
    rw [laws_markIntS_.t2]
    unfold laws_markIntS_.b2
    rw [mid_set _ _ _ _ _ rfl, w_succ (by omega), wE (by omega) (by omega)]
    refine cT (ltT (by rw [mid_len]; omega)) (cT (irT (by omega) (by rw [mid_len]; omega)) (e.trans ?_))
    rw [List.length_cons, cnt, List.append_assoc, show k + ((B.length + 1 : Nat) : Int) = k + 1 + (B.length : Int) by omega]; rfl
theorem markInt_G {β : Type} {l : List Int} (hl : l.length ≤ 1048576) {k : Int} (h0 : 0 ≤ k) (h1 : k ≤ 100000000) (K : List Int → Int → Option β) : laws_markIntS_.G sl1 l k K = K (cnt k l.length) (k + (l.length : Int)) :=
  markInt_l K none l.length hl l [] k sl1.n (by simp) (by rw [rounds_n]; omega) h0 (by omega)
theorem markBool_l {β : Type} (kx : List Bool → Int → Option β) (kr : Option β) (m : Nat) (hm : m ≤ 1048576) : ∀ (B A : List Bool) (k : Int) (n : Nat), A.length + B.length = m → B.length < n → 0 ≤ k → k + (B.length : Int) ≤ 1000000000 →
    laws_markBoolS_.l2 sl1 n kx kr (A ++ B) k (A.length : Int) = kx (A ++ cntB k B.length) (k + (B.length : Int))
  | [], A, k, n, hl, hn, h0, h1 => by
    obtain ⟨n, rfl⟩ : ∃ m, n = m + 1 := ⟨n - 1, by omega⟩
    rw [laws_markBoolS_.t2, List.append_nil]
    refine cF (ltF (Int.le_refl _)) ?_
    show kx A k = _
    rw [show cntB k ([] : List Bool).length = [] from rfl, List.append_nil, show k + (([] : List Bool).length : Int) = k by simp]
  | x :: B, A, k, n, hl, hn, h0, h1 => by
    rw [List.length_cons] at hl hn h1
    obtain ⟨n, rfl⟩ : ∃ m, n = m + 1 := ⟨n - 1, by omega⟩
    have e := markBool_l kx kr m hm B (A ++ [sl1.eq (Int.tmod k 3) 0]) (k + 1) n (by simp; omega) (by omega) (by omega) (by omega)
    rw [List.length_append, List.length_singleton] at e
    rw [laws_markBoolS_.t2]
    unfold laws_markBoolS_.b2
    rw [mid_set _ _ _ _ _ rfl, w_succ (by omega), wE (by omega) (by omega)]
    refine cT (ltT (by rw [mid_len]; omega)) (cT (irT (by omega) (by rw [mid_len]; omega)) (e.trans ?_))
    rw [List.length_cons, cntB, List.append_assoc, show k + ((B.length + 1 : Nat) : Int) = k + 1 + (B.length : Int) by omega]; rfl
theorem markBool_G {β : Type} {l : List Bool} (hl : l.length ≤ 1048576) {k : Int} (h0 : 0 ≤ k) (h1 : k ≤ 100000000) (K : List Bool → Int → Option β) : laws_markBoolS_.G sl1 l k K = K (cntB k l.length) (k + (l.length : Int)) :=
  markBool_l K none l.length hl l [] k sl1.n (by simp) (by rw [rounds_n]; omega) h0 (by omega)
theorem heldInt_l {β : Type} (kx : Int → Option β) (kr : Int → Option β) (m : Nat) (hm : m ≤ 1048576) (d : Nat) : ∀ (A : List Int) (k : Int) (n : Nat), A.length + d = m → d < n → 0 ≤ k → k + (d : Int) ≤ 1000000000 →
    laws_heldIntS.l2 sl1 n kx kr (A ++ cnt k d) k (A.length : Int) = kx (k + (d : Int)) := by
  induction d with
  | zero =>
    intro A k n hl hn h0 h1
    obtain ⟨n, rfl⟩ : ∃ m, n = m + 1 := ⟨n - 1, by omega⟩
    rw [laws_heldIntS.t2, show cnt k 0 = [] from rfl, List.append_nil]
    refine cF (ltF (Int.le_refl _)) ?_
    rw [show k + ((0 : Nat) : Int) = k by omega]
  | succ d ih =>
    intro A k n hl hn h0 h1
    obtain ⟨n, rfl⟩ : ∃ m, n = m + 1 := ⟨n - 1, by omega⟩
    have e := ih (A ++ [k]) (k + 1) n (by simp; omega) (by omega) (by omega) (by omega)
    rw [List.length_append, List.length_singleton, List.append_assoc] at e
    rw [laws_heldIntS.t2, cnt]
    unfold laws_heldIntS.b2
    rw [mid_get _ _ _ _ _ rfl, w_succ (by omega), wE (by omega) (by omega)]
    refine cT (ltT (by rw [mid_len]; omega)) (cT (irT (by omega) (by rw [mid_len]; omega)) (cF (neF rfl) (e.trans ?_)))
    rw [show k + ((d + 1 : Nat) : Int) = k + 1 + (d : Int) by omega]
theorem heldInt_G {β : Type} {m : Nat} (hl : m ≤ 1048576) {k : Int} (h0 : 0 ≤ k) (h1 : k ≤ 100000000) (K : Int → Option β) : laws_heldIntS.G sl1 (cnt k m) k K = K (k + (m : Int)) :=
  heldInt_l K (fun y => K y) m hl m [] k sl1.n (by simp) (by rw [rounds_n]; omega) h0 (by omega)
theorem heldBool_l {β : Type} (kx : Int → Option β) (kr : Int → Option β) (m : Nat) (hm : m ≤ 1048576) (d : Nat) : ∀ (A : List Bool) (k : Int) (n : Nat), A.length + d = m → d < n → 0 ≤ k → k + (d : Int) ≤ 1000000000 →
    laws_heldBoolS.l2 sl1 n kx kr (A ++ cntB k d) k (A.length : Int) = kx (k + (d : Int)) := by
  induction d with
  | zero =>
    intro A k n hl hn h0 h1
    obtain ⟨n, rfl⟩ : ∃ m, n = m + 1 := ⟨n - 1, by omega⟩
    rw [laws_heldBoolS.t2, show cntB k 0 = [] from rfl, List.append_nil]
    refine cF (ltF (Int.le_refl _)) ?_
    rw [show k + ((0 : Nat) : Int) = k by omega]
  | succ d ih =>
    intro A k n hl hn h0 h1
    obtain ⟨n, rfl⟩ : ∃ m, n = m + 1 := ⟨n - 1, by omega⟩
    have e := ih (A ++ [sl1.eq (Int.tmod k 3) 0]) (k + 1) n (by simp; omega) (by omega) (by omega) (by omega)
    rw [List.length_append, List.length_singleton, List.append_assoc] at e
    rw [laws_heldBoolS.t2, cntB]
    unfold laws_heldBoolS.b2
    rw [mid_get _ _ _ _ _ rfl, w_succ (by omega), wE (a := k + 1) (by omega) (by omega)]
    refine cT (ltT (by rw [mid_len]; omega)) (cT (irT (by omega) (by rw [mid_len]; omega)) (cF (bne_self_eq_false _) (e.trans ?_)))
    rw [show k + ((d + 1 : Nat) : Int) = k + 1 + (d : Int) by omega]
theorem heldBool_G {β : Type} {m : Nat} (hl : m ≤ 1048576) {k : Int} (h0 : 0 ≤ k) (h1 : k ≤ 100000000) (K : Int → Option β) : laws_heldBoolS.G sl1 (cntB k m) k K = K (k + (m : Int)) :=
  heldBool_l K (fun y => K y) m hl m [] k sl1.n (by simp) (by rw [rounds_n]; omega) h0 (by omega)
theorem markStripe_E (kind : Int) {vals vers : List Int} {there : List Bool} (h1 : vals.length ≤ 1048576) (h2 : vers.length ≤ 1048576) (h3 : there.length ≤ 1048576) : ∃ (a b : List Int) (c : List Bool) (k : Int), 0 ≤ k ∧ (∀ (β : Type) (K : List Int → List Int → List Bool → Int → Option β), laws_markStripe_.G sl1 vals vers there kind 1 K = K a b c k) ∧
    ∀ (β : Type) (K : Int → Option β), laws_heldStripe.G sl1 kind a b c 1 K = K k := by
  refine ⟨cnt 1 vals.length, cnt (1 + (vals.length : Int)) vers.length, cntB (1 + (vals.length : Int) + (vers.length : Int)) there.length, 1 + (vals.length : Int) + (vers.length : Int) + (there.length : Int), by omega, fun β K => ?_, fun β K => ?_⟩
  · exact (markInt_G h1 (by omega) (by omega) _).trans ((markInt_G h2 (by omega) (by omega) _).trans (markBool_G h3 (by omega) (by omega) _))
  · exact (heldInt_G h1 (by omega) (by omega) _).trans (cF (ltF (by omega)) ((heldInt_G h2 (by omega) (by omega) _).trans (cF (ltF (by omega)) ((heldBool_G h3 (by omega) (by omega) _).trans (cF (ltF (by omega)) rfl)))))
end Go.Proofs.Ytfncgkdpigagmaa.E
end
section
set_option linter.unusedVariables false
set_option linter.unusedSimpArgs false
namespace Go.Proofs.Ytfncgkdpigagmaa.E
open Go Go.RowKit
set_option linter.unusedVariables false
set_option maxRecDepth 100000
namespace laws_szDiskS
def sin : Sig := ⟨[], [.one (.val (.sl (.pair I (.pair I (.pair I .unit)))) false), .one (.val I false)]⟩
def sout : Sig := ⟨[], [.one (.val I false)]⟩
noncomputable def G {β : Type} (S : Sl) (a0 : (List (Int × (Int × (Int × Unit))))) (a1 : Int) (K : Int → Option β) : Option β := bif (S.lt (S.w (a1 - (a0.length : Int))) 0) then (K (-1)) else (K (S.w (a1 - (a0.length : Int))))
noncomputable def o : Orac := ⟨25, sin, sout, fun s K => G sl0 s.2.1 s.2.2.1 (fun x0 => K ((), (x0, ())))⟩
noncomputable def C : Ctx := ⟨tyT, [], [], 12, 0⟩
theorem ctx : CtxOk Try.prog C := ⟨tyOk, all0⟩
theorem eG (β : Type) (s : sin.den) (K : sout.den → Option β) : evalFn C Try.f25 sin sout s K = o.F s K := by kernel_rfl
theorem ok : OracOk Try.prog o := fn_ok mixed Try.func25 (by kernel_rfl) ctx (c := bodyC Try.f25) (by kernel_rfl) (all0) (by kernel_rfl) (by kernel_rfl) (by kernel_rfl) (Nat.le_of_ble_eq_true (by kernel_rfl)) eG (by kernel_rfl) (Nat.le_of_ble_eq_true (by kernel_rfl))
end laws_szDiskS
end Go.Proofs.Ytfncgkdpigagmaa.E
end
section
set_option linter.unusedVariables false
set_option linter.unusedSimpArgs false
namespace Go.Proofs.Ytfncgkdpigagmaa.E
open Go Go.RowKit
set_option linter.unusedVariables false
set_option maxRecDepth 100000
namespace laws_toDisk
def sin : Sig := ⟨[], [.agg [.val I false, .val I false, .val I false]]⟩
def sout : Sig := ⟨[], [.agg [.val I false, .val I false, .val I false]]⟩
noncomputable def G {β : Type} (S : Sl) (a0 : Int) (a1 : Int) (a2 : Int) (K : Int → Int → Int → Option β) : Option β := K a0 a1 a2
noncomputable def o : Orac := ⟨56, sin, sout, fun s K => G sl0 s.2.1.1 s.2.1.2.1 s.2.1.2.2.1 (fun x0 x1 x2 => K ((), ((x0, (x1, (x2, ()))), ())))⟩
noncomputable def C : Ctx := ⟨tyT, [], [], 14, 0⟩
theorem ctx : CtxOk Try.prog C := ⟨tyOk, all0⟩
theorem eG (β : Type) (s : sin.den) (K : sout.den → Option β) : evalFn C Try.f56 sin sout s K = o.F s K := by kernel_rfl
theorem ok : OracOk Try.prog o := fn_ok mixed Try.func56 (by kernel_rfl) ctx (c := bodyC Try.f56) (by kernel_rfl) (all0) (by kernel_rfl) (by kernel_rfl) (by kernel_rfl) (Nat.le_of_ble_eq_true (by kernel_rfl)) eG (by kernel_rfl) (Nat.le_of_ble_eq_true (by kernel_rfl))
end laws_toDisk
end Go.Proofs.Ytfncgkdpigagmaa.E
end
section
set_option linter.unusedVariables false
set_option linter.unusedSimpArgs false
namespace Go.Proofs.Ytfncgkdpigagmaa.E
open Go Go.RowKit
set_option linter.unusedVariables false
set_option maxRecDepth 100000
namespace laws_toDiskS
def sin : Sig := ⟨[], [.one (.val (.sl (.pair I (.pair I (.pair I .unit)))) false)]⟩
def sout : Sig := ⟨[.buf (.pair I (.pair I (.pair I .unit))) false], [.one (.ref (.own 0))]⟩
def h3 : SS := ⟨[0, 3, 4], ⟨[.buf (.pair I (.pair I (.pair I .unit))) false], [.one (.val (.sl (.pair I (.pair I (.pair I .unit)))) false), .one (.ref (.own 0)), .one (.val I false)]⟩⟩
def x3 : SS := ⟨[3], ⟨[.buf (.pair I (.pair I (.pair I .unit))) false], [.one (.ref (.own 0))]⟩⟩
def y3 : SS := ⟨[], ⟨[], []⟩⟩
noncomputable def b3 {β : Type} (S : Sl) (L : (List (Int × (Int × (Int × Unit)))) → (List (Int × (Int × (Int × Unit)))) → Int → Option β) (kx : (List (Int × (Int × (Int × Unit)))) → Option β) (kr : Option β) (s0 : (List (Int × (Int × (Int × Unit))))) (s1 : (List (Int × (Int × (Int × Unit))))) (s2 : Int) : Option β := bif (S.lt s2 (s1.length : Int)) then (bif (S.ir s2 s1.length) then (laws_toDisk.G S ((List.getD s1 (Int.toNat s2) (0, (0, (0, ())))).1) ((List.getD s1 (Int.toNat s2) (0, (0, (0, ())))).2.1) ((List.getD s1 (Int.toNat s2) (0, (0, (0, ())))).2.2.1) (fun y1 y2 y3 => bif (S.ir s2 s0.length) then (L (List.set s0 (Int.toNat s2) (y1, (y2, (y3, ())))) s1 (S.w (s2 + 1))) else (none))) else (none)) else (kx s0)
noncomputable def r3 {β : Type} (S : Sl) (n : Nat) (kx : x3.sig.den → Option β) (kr : y3.sig.den → Option β) (s : h3.sig.den) : Option β := rounds (fun L kx kr s => b3 S (fun x0 x1 x2 => L ((x0, ()), (x1, (x2, ())))) (fun x0 => kx ((x0, ()), ())) (kr ((), ())) s.1.1 s.2.1 s.2.2.1) kx kr n s
noncomputable def l3 {β : Type} (S : Sl) (n : Nat) (kx : (List (Int × (Int × (Int × Unit)))) → Option β) (kr : Option β) (s0 : (List (Int × (Int × (Int × Unit))))) (s1 : (List (Int × (Int × (Int × Unit))))) (s2 : Int) : Option β := r3 S n (fun s => kx s.1.1) (fun s => kr) ((s0, ()), (s1, (s2, ())))
theorem t3 {β : Type} (S : Sl) (n : Nat) (kx : (List (Int × (Int × (Int × Unit)))) → Option β) (kr : Option β) (s0 : (List (Int × (Int × (Int × Unit))))) (s1 : (List (Int × (Int × (Int × Unit))))) (s2 : Int) : l3 S (n + 1) kx kr s0 s1 s2 = b3 S (l3 S n kx kr) kx kr s0 s1 s2 := by kernel_rfl
noncomputable def G {β : Type} (S : Sl) (a0 : (List (Int × (Int × (Int × Unit))))) (K : (List (Int × (Int × (Int × Unit)))) → Option β) : Option β := bif ((S.le 0 (a0.length : Int)) && (S.le (a0.length : Int) (a0.length : Int)) && S.fw (Int.toNat (a0.length : Int))) then (l3 S S.n (fun y1 => K y1) none (List.replicate (Int.toNat (a0.length : Int)) ((0, (0, (0, ()))) : (Int × (Int × (Int × Unit))))) a0 0) else (none)
noncomputable def o : Orac := ⟨27, sin, sout, fun s K => G sl0 s.2.1 (fun x0 => K ((x0, ()), ()))⟩
noncomputable def C : Ctx := ⟨tyT, [laws_toDisk.o], [⟨3, 0, h3, x3, y3, fun s kx kr => r3 sl0 sl0.n kx kr s⟩], 23, 0⟩
theorem ctx : CtxOk Try.prog C := ⟨tyOk, all1 laws_toDisk.ok (all0)⟩
theorem e3 (β : Type) (L : h3.sig.den → Option β) (kx : x3.sig.den → Option β) (kr : y3.sig.den → Option β) (s : h3.sig.den) : evalBody C (nthC (loopsOf (bodyC Try.f27)) 0) 0 h3 x3 y3 L kx kr s = b3 sl0 (fun x0 x1 x2 => L ((x0, ()), (x1, (x2, ())))) (fun x0 => kx ((x0, ()), ())) (kr ((), ())) s.1.1 s.2.1 s.2.2.1 := by kernel_rfl
theorem g3 : LS Try.prog C ⟨3, 0, h3, x3, y3, fun s kx kr => r3 sl0 sl0.n kx kr s⟩ (loopsOf (bodyC Try.f27)) := LS.at (i := 0) (by kernel_rfl) (loop_good mixed ctx (ctx_nat ctx) (N := sl0.n) (fun _ _ _ _ => rfl) e3 (all1 (LS.none (by kernel_rfl)) (all0)))
theorem eG (β : Type) (s : sin.den) (K : sout.den → Option β) : evalFn C Try.f27 sin sout s K = o.F s K := by kernel_rfl
theorem ok : OracOk Try.prog o := fn_ok mixed Try.func27 (by kernel_rfl) ctx (c := bodyC Try.f27) (by kernel_rfl) (all1 g3 (all0)) (by kernel_rfl) (by kernel_rfl) (by kernel_rfl) (Nat.le_of_ble_eq_true (by kernel_rfl)) eG (by kernel_rfl) (Nat.le_of_ble_eq_true (by kernel_rfl))
end laws_toDiskS
end Go.Proofs.Ytfncgkdpigagmaa.E
end
section
set_option linter.unusedVariables false
set_option linter.unusedSimpArgs false
namespace Go.Proofs.Ytfncgkdpigagmaa.E
open Go Go.RowKit
set_option linter.unusedVariables false
set_option maxRecDepth 100000
theorem szDisk_or {l : List Dk'} (hl : l.length ≤ 9223372036854775807) :
    ∃ y : Int, (∀ (β : Type) (K : Int → Option β), laws_szDiskS.G sl1 l 1048576 K = K y) ∧ (y < 0 ∨ 0 ≤ y ∧ l.length ≤ 1048576) := by
  by_cases c : (1048576 : Int) < (l.length : Int)
  · refine ⟨-1, fun β K => ?_, .inl (by omega)⟩
    unfold laws_szDiskS.G
    rw [wE (by omega) (by omega)]
    exact cT (ltT (by omega)) rfl
  · refine ⟨1048576 - (l.length : Int), fun β K => ?_, .inr ⟨by omega, by omega⟩⟩
    unfold laws_szDiskS.G
    rw [wE (by omega) (by omega)]
    exact cF (ltF (by omega)) rfl
theorem toDisk_l {β : Type} (kx : List Dk' → Option β) (kr : Option β) (l : List Dk') (hl : l.length ≤ 1048576) (d : Nat) : ∀ (i n : Nat), i + d = l.length → d < n → laws_toDiskS.l3 sl1 n kx kr (l.take i ++ List.replicate d (0, (0, (0, ())))) l (i : Int) = kx l := by
  induction d with
  | zero =>
    intro i n hi hn
    obtain ⟨n, rfl⟩ : ∃ m, n = m + 1 := ⟨n - 1, by omega⟩
    rw [laws_toDiskS.t3, List.replicate_zero, List.append_nil, List.take_of_length_le (by omega)]; exact cF (ltF (by omega)) rfl
  | succ d ih =>
    intro i n hi hn
    obtain ⟨n, rfl⟩ : ∃ m, n = m + 1 := ⟨n - 1, by omega⟩
    have h1 : i < l.length := by omega
    have e := ih (i + 1) n (by omega) (by omega)
    have ht : (l.take i).length = i := by rw [List.length_take]; omega
    rw [List.take_succ_eq_append_getElem h1] at e
    rw [laws_toDiskS.t3, List.replicate_succ]
    unfold laws_toDiskS.b3 laws_toDisk.G
    rw [getN l i h1]
    dsimp only
    rw [mid_set _ _ _ _ _ ht, w_succ (by omega)]
    exact cT (ltT (by omega)) (cT (irT (by omega) (by omega)) (cT (irT (by omega) (by rw [mid_len, ht]; omega)) e))
theorem toDisk_G {β : Type} {l : List Dk'} (hl : l.length ≤ 1048576) (K : List Dk' → Option β) : laws_toDiskS.G sl1 l K = K l := by
  unfold laws_toDiskS.G
  rw [Int.toNat_natCast]
  exact cT (andT (andT (leT (by omega)) (leT (by omega))) (fwT (by omega))) (toDisk_l K none l hl l.length 0 sl1.n (by omega) (by rw [rounds_n]; omega))
theorem eqDisk_l {β : Type} (kx : Option β) (kr : Bool → Option β) (l : List Dk') (hl : l.length ≤ 1048576) (d : Nat) : ∀ (i n : Nat), i + d = l.length → d < n → laws_eqDiskS.l4 sl1 n kx kr l l (i : Int) = kx := by
  induction d with
  | zero =>
    intro i n hi hn
    obtain ⟨n, rfl⟩ : ∃ m, n = m + 1 := ⟨n - 1, by omega⟩
    rw [laws_eqDiskS.t4]; exact cF (ltF (by omega)) rfl
  | succ d ih =>
    intro i n hi hn
    obtain ⟨n, rfl⟩ : ∃ m, n = m + 1 := ⟨n - 1, by omega⟩
    rw [laws_eqDiskS.t4]
    unfold laws_eqDiskS.b4 laws_eqDisk.G
    rw [w_succ (by omega)]
    exact cT (ltT (by omega)) (cT (irT (by omega) (by omega)) (cT (irT (by omega) (by omega)) (cF (neF rfl) (cF (neF rfl) (cF (neF rfl) (cF rfl (ih (i + 1) n (by omega) (by omega))))))))
theorem eqDisk_G {β : Type} {l : List Dk'} (hl : l.length ≤ 1048576) (K : Bool → Option β) : laws_eqDiskS.G sl1 l l K = K true := by
  unfold laws_eqDiskS.G
  exact cF (neF rfl) (eqDisk_l _ _ l hl l.length 0 sl1.n (by omega) (by rw [rounds_n]; omega))
def cntD : Int → Nat → List Dk'
  | _, 0 => []
  | k, n + 1 => (k, (k + 1, (k + 2, ()))) :: cntD (k + 3) n
theorem at_get {α : Type} (d x : α) (A B : List α) : List.getD (A ++ x :: B) (Int.toNat (A.length : Int)) d = x := mid_get d x A B _ rfl
theorem at_set {α : Type} (x y : α) (A B : List α) : List.set (A ++ x :: B) (Int.toNat (A.length : Int)) y = A ++ y :: B := by rw [mid_set x y A B _ rfl, List.append_assoc]; rfl
theorem markDisk_l {β : Type} (kx : List Dk' → Int → Option β) (kr : Option β) (m : Nat) (hm : m ≤ 1048576) : ∀ (B A : List Dk') (k : Int) (n : Nat), A.length + B.length = m → B.length < n → 0 ≤ k → k + 3 * (B.length : Int) ≤ 1000000000 →
    laws_markDiskS_.l2 sl1 n kx kr (A ++ B) k (A.length : Int) = kx (A ++ cntD k B.length) (k + 3 * (B.length : Int))
  | [], A, k, n, hl, hn, h0, h1 => by
    obtain ⟨n, rfl⟩ : ∃ m, n = m + 1 := ⟨n - 1, by omega⟩
    rw [laws_markDiskS_.t2, List.append_nil]
    refine cF (ltF (Int.le_refl _)) ?_
    show kx A k = _
    rw [show cntD k ([] : List Dk').length = [] from rfl, List.append_nil, show k + 3 * (([] : List Dk').length : Int) = k by simp]
  | (x, (y, (z, u))) :: B, A, k, n, hl, hn, h0, h1 => by
    rw [List.length_cons] at hl hn h1
    obtain ⟨n, rfl⟩ : ∃ m, n = m + 1 := ⟨n - 1, by omega⟩
    have e := markDisk_l kx kr m hm B (A ++ [(k, (k + 1, (k + 2, ())))]) (k + 3) n (by simp; omega) (by omega) (by omega) (by omega)
    rw [List.length_append, List.length_singleton, List.append_assoc, List.append_assoc] at e
    have w1 : sl1.w (k + 1) = k + 1 := wE (by omega) (by omega)
    have w2 : sl1.w (k + 1 + 1) = k + 2 := by rw [wE (by omega) (by omega)]; omega
    have w3 : sl1.w (k + 2 + 1) = k + 3 := by rw [wE (by omega) (by omega)]; omega
    rw [laws_markDiskS_.t2]
    unfold laws_markDiskS_.b2
    simp only [at_get, at_set, w1, w2, w3, w_succ (show A.length ≤ 9000000000 by omega)]
    refine cT (ltT (by rw [mid_len]; omega)) (cT (irT (by omega) (by rw [mid_len]; omega)) (cT (irT (by omega) (by rw [mid_len]; omega)) (cT (irT (by omega) (by rw [mid_len]; omega)) (e.trans ?_))))
    rw [List.length_cons, cntD, show k + 3 * ((B.length + 1 : Nat) : Int) = k + 3 + 3 * (B.length : Int) by omega]; rfl
theorem markDisk_G {β : Type} {l : List Dk'} (hl : l.length ≤ 1048576) {k : Int} (h0 : 0 ≤ k) (h1 : k ≤ 100000000) (K : List Dk' → Int → Option β) : laws_markDiskS_.G sl1 l k K = K (cntD k l.length) (k + 3 * (l.length : Int)) :=
  markDisk_l K none l.length hl l [] k sl1.n (by simp) (by rw [rounds_n]; omega) h0 (by omega)
theorem heldDisk_l {β : Type} (kx : Int → Option β) (kr : Int → Option β) (m : Nat) (hm : m ≤ 1048576) (d : Nat) : ∀ (A : List Dk') (k : Int) (n : Nat), A.length + d = m → d < n → 0 ≤ k → k + 3 * (d : Int) ≤ 1000000000 →
    laws_heldDiskS.l2 sl1 n kx kr (A ++ cntD k d) k (A.length : Int) = kx (k + 3 * (d : Int)) := by
  induction d with
  | zero =>
    intro A k n hl hn h0 h1
    obtain ⟨n, rfl⟩ : ∃ m, n = m + 1 := ⟨n - 1, by omega⟩
    rw [laws_heldDiskS.t2, show cntD k 0 = [] from rfl, List.append_nil]
    refine cF (ltF (Int.le_refl _)) ?_
    rw [show k + 3 * ((0 : Nat) : Int) = k by omega]
  | succ d ih =>
    intro A k n hl hn h0 h1
    obtain ⟨n, rfl⟩ : ∃ m, n = m + 1 := ⟨n - 1, by omega⟩
    have e := ih (A ++ [(k, (k + 1, (k + 2, ())))]) (k + 3) n (by simp; omega) (by omega) (by omega) (by omega)
    rw [List.length_append, List.length_singleton, List.append_assoc] at e
    have w1 : sl1.w (k + 1) = k + 1 := wE (by omega) (by omega)
    have w2 : sl1.w (k + 1 + 1) = k + 2 := by rw [wE (by omega) (by omega)]; omega
    have w3 : sl1.w (k + 2 + 1) = k + 3 := by rw [wE (by omega) (by omega)]; omega
    rw [laws_heldDiskS.t2, cntD]
    unfold laws_heldDiskS.b2
    simp only [at_get, w1, w2, w3, w_succ (show A.length ≤ 9000000000 by omega)]
    refine cT (ltT (by rw [mid_len]; omega)) (cT (irT (by omega) (by rw [mid_len]; omega)) (cF (neF rfl) (cT (irT (by omega) (by rw [mid_len]; omega)) (cF (neF rfl) (cT (irT (by omega) (by rw [mid_len]; omega)) (cF (neF rfl) (e.trans ?_)))))))
    rw [show k + 3 * ((d + 1 : Nat) : Int) = k + 3 + 3 * (d : Int) by omega]
theorem heldDisk_G {β : Type} {m : Nat} (hl : m ≤ 1048576) {k : Int} (h0 : 0 ≤ k) (h1 : k ≤ 100000000) (K : Int → Option β) : laws_heldDiskS.G sl1 (cntD k m) k K = K (k + 3 * (m : Int)) :=
  heldDisk_l K (fun y => K y) m hl m [] k sl1.n (by simp) (by rw [rounds_n]; omega) h0 (by omega)
theorem markDisk_E {l : List Dk'} (hl : l.length ≤ 1048576) : ∃ (a : List Dk') (k : Int), 0 ≤ k ∧ (∀ (β : Type) (K : List Dk' → Int → Option β), laws_markDiskS_.G sl1 l 1 K = K a k) ∧ ∀ (β : Type) (K : Int → Option β), laws_heldDiskS.G sl1 a 1 K = K k :=
  ⟨cntD 1 l.length, 1 + 3 * (l.length : Int), by omega, fun β K => markDisk_G hl (by omega) (by omega) K, fun β K => heldDisk_G hl (by omega) (by omega) K⟩
end Go.Proofs.Ytfncgkdpigagmaa.E
end
section
set_option linter.unusedVariables false
set_option linter.unusedSimpArgs false
namespace Go.Proofs.Ytfncgkdpigagmaa.E
open Go Go.RowKit
set_option linter.unusedVariables false
set_option maxRecDepth 100000
theorem spec_sum {β : Type} (a b c : Int) (K : Int → Option β) : spec_l41Sum.G sl1 a b c K = K (rotRaw a b c) := rfl
def diskV (vals vers : List Int) (there : List Bool) (i : Nat) : Dk' := bif there.getD i false then (vals.getD i 0, (vers.getD i 0, (rotRaw (vals.getD i 0) (vers.getD i 0) (i : Int), ()))) else (0, (0, (0, ())))
def disksV (vals vers : List Int) (there : List Bool) (n : Nat) : List Dk' := (List.range n).map (diskV vals vers there)
theorem disksV_succ (vals vers : List Int) (there : List Bool) (n : Nat) : disksV vals vers there (n + 1) = disksV vals vers there n ++ [diskV vals vers there n] := by unfold disksV; rw [List.range_succ, List.map_append]; rfl
theorem disksV_len (vals vers : List Int) (there : List Bool) (n : Nat) : (disksV vals vers there n).length = n := by unfold disksV; rw [List.length_map, List.length_range]
theorem wr_l {β : Type} (kx : List Dk' → Option β) (kr : Option β) (kind : Int) {vals vers : List Int} {there : List Bool} (h1 : vals.length = 8) (h2 : vers.length = 8) (h3 : there.length = 8) (d : Nat) : ∀ (i n : Nat), i + d = 8 → d < n →
    spec_RotWrite.l5 sl1 n kx kr kind vals vers there (disksV vals vers there i) (i : Int) = kx (disksV vals vers there 8) := by
  induction d with
  | zero =>
    intro i n hi hn
    obtain ⟨n, rfl⟩ : ∃ m, n = m + 1 := ⟨n - 1, by omega⟩
    obtain rfl : i = 8 := by omega
    rw [spec_RotWrite.t5]; exact cF (ltF (by omega)) rfl
  | succ d ih =>
    intro i n hi hn
    obtain ⟨n, rfl⟩ : ∃ m, n = m + 1 := ⟨n - 1, by omega⟩
    have e := ih (i + 1) n (by omega) (by omega)
    have hl := disksV_len vals vers there i
    rw [disksV_succ] at e
    rw [spec_RotWrite.t5]
    unfold spec_RotWrite.b5
    rw [getC false, getC (0 : Int), getC (0 : Int), w_succ (by omega)]
    refine cT (ltT (by omega)) (cT (irT (by omega) (by omega)) ?_)
    unfold diskV at e
    cases ct : there.getD i false
    · rw [ct] at e
      exact cF rfl (cT (fwT (by rw [List.length_append, hl, List.length_singleton]; omega)) e)
    · rw [ct] at e
      refine cT rfl (cT (irT (by omega) (by omega)) (cT (irT (by omega) (by omega)) (cT (irT (by omega) (by omega)) (cT (irT (by omega) (by omega)) ((spec_sum _ _ _ _).trans (cT (fwT (by rw [List.length_append, hl, List.length_singleton]; omega)) e))))))
noncomputable def wrV (kind : Int) (vals vers : List Int) (there : List Bool) : List Dk' := bif stripeV kind vals vers there then disksV vals vers there 8 else []
theorem wrV_len (kind : Int) (vals vers : List Int) (there : List Bool) : (wrV kind vals vers there).length ≤ 1048576 := by
  unfold wrV
  cases stripeV kind vals vers there
  · simp
  · show (disksV vals vers there 8).length ≤ _; rw [disksV_len]; omega
theorem specWr_G {β : Type} (kind : Int) {vals vers : List Int} {there : List Bool} (h1 : vals.length ≤ 1048576) (K : List Dk' → Option β) : spec_RotWrite.G sl1 kind vals vers there K = K (wrV kind vals vers there) := by
  unfold spec_RotWrite.G wrV
  refine (stripeOk_G kind vals vers there (by omega) _).trans ?_
  cases cs : stripeV kind vals vers there
  · exact cT rfl rfl
  obtain ⟨hk, _, h1, h2, h3, _⟩ := stripeV_k cs
  exact cF rfl (wr_l (fun y => K y) none kind h1 h2 h3 8 0 sl1.n (by omega) (by rw [rounds_n]; omega))
def setAll {α : Type} (D : Nat → α) : List Nat → List α → List α
  | [], r => r
  | a :: s, r => setAll D s (r.set a (D a))
theorem setAll_len {α : Type} (D : Nat → α) : ∀ (s : List Nat) (r : List α), (setAll D s r).length = r.length
  | [], r => rfl
  | a :: s, r => by rw [setAll, setAll_len, List.length_set]
theorem setAll_get {α : Type} (D : Nat → α) : ∀ (s : List Nat) (r : List α) (i : Nat), i < r.length → (setAll D s r)[i]? = if i ∈ s then some (D i) else r[i]?
  | [], r, i, h => by simp [setAll]
  | a :: s, r, i, h => by
    rw [setAll, setAll_get D s _ i (by rw [List.length_set]; exact h)]
    by_cases c : i ∈ s
    · rw [if_pos c, if_pos (List.mem_cons_of_mem _ c)]
    · rw [if_neg c]
      by_cases e : a = i
      · subst e
        rw [if_pos List.mem_cons_self, List.getElem?_set_self h]
      · rw [List.getElem?_set_ne e, if_neg (fun h => (List.mem_cons.1 h).elim (fun h => e h.symm) c)]
theorem blocks_row {vals vers : List Int} {there : List Bool} : setAll (diskV vals vers there) (thereL there 0 8) (List.replicate 8 (0, (0, (0, ())))) = disksV vals vers there 8 := by
  refine List.ext_getElem? fun i => ?_
  by_cases hi : i < 8
  · rw [setAll_get _ _ _ _ (by rw [List.length_replicate]; exact hi)]
    have e : (disksV vals vers there 8)[i]? = some (diskV vals vers there i) := by
      unfold disksV; rw [List.getElem?_map, List.getElem?_range hi]; rfl
    rw [e]
    by_cases c : i ∈ thereL there 0 8
    · rw [if_pos c]
    · rw [if_neg c, List.getElem?_replicate, if_pos hi]
      have ct : there.getD i false = false := by
        cases h : there.getD i false
        · rfl
        · exact absurd (thereL_mem.2 ⟨hi, h⟩) c
      unfold diskV
      rw [ct]; rfl
  · rw [List.getElem?_eq_none (by rw [setAll_len, List.length_replicate]; omega), List.getElem?_eq_none (by rw [disksV_len]; omega)]
theorem blk_l {β : Type} (kx : List Dk' → Option β) (kr : Option β) (kind : Int) {vals vers : List Int} {there : List Bool} (h1 : vals.length = 8) (h2 : vers.length = 8) (sh : List Nat) (h8 : sh.length ≤ 8) (hs : ∀ a ∈ sh, a < 8 ∧ there.getD a false = true ∧ (0 ≤ vals.getD a 0 ∧ vals.getD a 0 ≤ 30) ∧ (1 ≤ vers.getD a 0 ∧ vers.getD a 0 ≤ 99)) (d : Nat) :
    ∀ (i n : Nat) (r : List Dk'), i + d = sh.length → d < n → r.length = 8 → impl_blocks.l3 sl1 n kx kr kind vals vers there r (shI sh) ((shI sh).length : Int) (i : Int) = kx (setAll (diskV vals vers there) (sh.drop i) r) := by
  induction d with
  | zero =>
    intro i n r hi hn hr
    obtain ⟨n, rfl⟩ : ∃ m, n = m + 1 := ⟨n - 1, by omega⟩
    rw [impl_blocks.t3, List.drop_of_length_le (by omega)]; exact cF (ltF (by rw [shI_len]; omega)) rfl
  | succ d ih =>
    intro i n r hi hn hr
    obtain ⟨n, rfl⟩ : ∃ m, n = m + 1 := ⟨n - 1, by omega⟩
    have hi1 : i < sh.length := by omega
    obtain ⟨k1, k2, k3, k4⟩ := hs _ (List.getElem_mem hi1)
    have e := ih (i + 1) n (r.set sh[i] (diskV vals vers there sh[i])) (by omega) (by omega) (by rw [List.length_set]; exact hr)
    rw [impl_blocks.t3, List.drop_eq_getElem_cons hi1, setAll]
    unfold impl_blocks.b3
    rw [shI_get hi1, w_succ (by omega)]
    simp only [Int.toNat_natCast]
    refine cT (ltT (by rw [shI_len]; omega)) (cT (irT (by omega) (by rw [shI_len]; omega)) (cT (irT (by omega) (by omega)) (cT (irT (by omega) (by omega)) (cT (irT (by omega) (by omega)) (cT (irT (by omega) (by omega)) ((rot_impl _ _ _ _).trans ?_))))))
    have er : rotV (vals.getD sh[i] 0) (vers.getD sh[i] 0) ((sh[i] : Nat) : Int) = rotRaw (vals.getD sh[i] 0) (vers.getD sh[i] 0) ((sh[i] : Nat) : Int) := by
      unfold rotV
      rw [inV_iff.2 k3, inV_iff.2 k4, inV_iff.2 ⟨by omega, by omega⟩]; rfl
    have ed : diskV vals vers there sh[i] = (vals.getD sh[i] 0, (vers.getD sh[i] 0, (rotRaw (vals.getD sh[i] 0) (vers.getD sh[i] 0) ((sh[i] : Nat) : Int), ()))) := by
      unfold diskV; rw [k2]; rfl
    rw [ed] at e ⊢
    rw [er]
    exact cT (irT (by omega) (by omega)) e
theorem blocks_G {β : Type} {kind : Int} {vals vers : List Int} {there : List Bool} (cs : stripeV kind vals vers there = true) (K : List Dk' → Option β) : impl_blocks.G sl1 kind vals vers there K = K (disksV vals vers there 8) := by
  obtain ⟨hk, hf, h1, h2, h3, ho⟩ := stripeV_k cs
  unfold impl_blocks.G
  refine cT (by rfl) ((flag_G h3 _).trans ?_)
  refine (blk_l (fun y => K y) none kind h1 h2 (thereL there 0 8) (thereL_len there) (fun a ha => ?_) (thereL there 0 8).length 0 sl1.n _ (by omega) (by have := thereL_len there; rw [rounds_n]; omega) (by simp)).trans ?_
  · obtain ⟨q1, q2⟩ := thereL_mem.1 ha
    exact ⟨q1, q2, getD_in hf (by omega), (((okF_iff 8 0).1 ho a (Nat.zero_le _) (by omega)).1 q2).1⟩
  · rw [List.drop_zero]
    show K (setAll _ _ (List.replicate 8 _)) = _
    rw [blocks_row]
theorem implWr_G {β : Type} (kind : Int) (vals vers : List Int) (there : List Bool) (K : List Dk' → Option β) : impl_RotWrite.G sl1 kind vals vers there K = K (wrV kind vals vers there) := by
  unfold impl_RotWrite.G wrV
  refine (stripeI_G kind vals vers there _).trans ?_
  cases cs : stripeV kind vals vers there
  · exact cT rfl rfl
  exact cF rfl ((blocks_G cs _).trans rfl)
end Go.Proofs.Ytfncgkdpigagmaa.E
namespace Go.Proofs.Ytfncgkdpigagmaa.Pure.FnExactRotWrite
open Go Go.Proofs.Ytfncgkdpigagmaa.E
theorem pure (x : Int × (List Int × (List Int × (List Bool × Unit)))) (h1 : x.2.1.length ≤ 9223372036854775807) (h2 : x.2.2.1.length ≤ 9223372036854775807) (h3 : x.2.2.2.1.length ≤ 9223372036854775807) {β : Type} (K : Bool → Option β) :
    laws_FnExactRotWrite.G sl1 x.1 x.2.1 x.2.2.1 x.2.2.2.1 K = K true := by
  obtain ⟨kind, vals, vers, there, _⟩ := x
  dsimp only at h1 h2 h3 ⊢
  obtain ⟨y, hy, h⟩ := szStripe_or kind h1 h2 h3
  unfold laws_FnExactRotWrite.G
  refine (hy _ _).trans ?_
  rcases h with h | ⟨h, l1, l2, l3⟩
  · exact cT (ltT h) rfl
  have m1 := wrV_len kind vals vers there
  obtain ⟨a, b, c, k, hk, hm, hh⟩ := markStripe_E kind l1 l2 l3
  obtain ⟨a', k', hk', hm', hh'⟩ := markDisk_E m1
  refine cF (ltF h) ((toStripe_G kind l1 l2 l3 _).trans ?_)
  refine (specWr_G kind l1 _).trans ((toStripe_G kind l1 l2 l3 _).trans ((implWr_G kind _ _ _ _).trans ?_))
  refine (eqDisk_G m1 _).trans (cF rfl ((toStripe_G kind l1 l2 l3 _).trans ((eqStripe_G _ l1 l2 l3 _).trans (cF rfl ?_))))
  refine (hm _ _).trans (cF (ltF hk) ((eqDisk_G m1 _).trans (cF rfl ?_)))
  refine (hm' _ _).trans ((hh' _ _).trans (cF (ltF hk') (cF (neF rfl) ?_)))
  refine (toStripe_G kind l1 l2 l3 _).trans ((implWr_G kind _ _ _ _).trans ((eqDisk_G m1 _).trans (cF rfl ?_)))
  exact (hh' _ _).trans (cF (ltF hk') (cF (neF rfl) rfl))
end Go.Proofs.Ytfncgkdpigagmaa.Pure.FnExactRotWrite
end
section
set_option linter.unusedVariables false
set_option linter.unusedSimpArgs false
namespace Go.Proofs.Ytfncgkdpigagmaa.fnExactRotWrite
open Go.ChangeShapes Go.WideShapes Go.ChangeAt Go.RowKit
open Go.ChangeMaps (open_string shut_string)
set_option linter.unusedVariables false
theorem own : ownKnob Try.prog.godebug = none := by kernel_rfl
theorem laidOut : laidOutB Try.prog = true := by kernel_rfl
set_option maxRecDepth 100000 in
theorem lifted (os : Os) (started : os.Started) (H : Type) (enc : TypeId × Value → H) :
    ReturnsInHanded {} Try.checked os 5 .any (Rows.fnExactRotWriteSpec.pre6 enc Try.prog Try.f5 Rows.fnExactRotWriteRow.domain false) (Rows.fnExactRotWriteSpec.post enc Try.prog Try.f5 false true false false) := by
  refine returnsInHanded_of_change_sized (C := Try.checked) own started (by kernel_rfl) Try.func5
    (ChangeSpec.witness6 (enc := enc) (C := Try.checked) false ⟨#[], #[.agg #[.int .i64 0, .slice none 0 0, .slice none 0 0, .slice none 0 0]], []⟩ 8 (by kernel_rfl) (by kernel_rfl) (by kernel_rfl) (by kernel_rfl)) ?_
  intro W base args ds gs before hval0 hW hcnd hsz0 _
  have hval : ∀ (j : Nat) t v, Try.f5.params[j]? = some t → args[j]? = some v → Value.okWide Try.prog W .any base t v := hval0
  have hW' := hW
  obtain ⟨p, q, hA0, hV, rfl, hfz, hnd⟩ := hW
  have hA : DataW.TrodAll enc Try.prog W 0 (fun _ => true) true Try.f5.params.toList args.toList ds p := hA0
  rw [Try.params5] at hA hval
  obtain ⟨v0, vs0, d0, ds0, p0, q0, hargs, rfl, rfl, h0, r0⟩ := trodAll_cons hA
  obtain ⟨rfl, rfl, rfl⟩ := trodAll_nil r0
  obtain rfl : args = #[v0] := by cases args; simp_all
  obtain ⟨rfl, rfl⟩ := trodVars_none hV
  have k0 := h0
  have lt0 : ∀ x ∈ p0, x.block < W.heap.size := by obtain ⟨m, hm⟩ := k0; exact DataW.trod_lt m _ _ _ hm
  obtain ⟨x0, R0, Q0⟩ := E.arg_struct Try.underlying35 (hval 0 35 v0 rfl rfl) h0 (E.RdG_cons rfl (E.Rd_int Try.underlying3 (by kernel_rfl)) (E.RdG_cons rfl (E.Rd_slice Try.underlying25 (by kernel_rfl) (by decide) (E.Rd_int Try.underlying3 (by kernel_rfl))) (E.RdG_cons rfl (E.Rd_slice Try.underlying25 (by kernel_rfl) (by decide) (E.Rd_int Try.underlying3 (by kernel_rfl))) (E.RdG_cons rfl (E.Rd_slice Try.underlying33 (by kernel_rfl) (by decide) (E.Rd_bool Try.underlying4 (by kernel_rfl))) (E.RdG_nil (by decide +kernel))))))
  clear hA0 hval0 hsz0
  have hp := Pure.FnExactRotWrite.pure x0 Q0.2.1.1 Q0.2.2.1.1 Q0.2.2.2.1.1 (fun b => some ((), (b, ())))
  rw [← E.sl_eq] at hp
  refine (E.law_any E.laws_FnExactRotWrite.ok (s := (x0, ())) hp (args := [v0]) ⟨v0, _, rfl, R0, rfl⟩).mono fun e W' ⟨he, bel⟩ => ?_
  subst he
  exact ⟨_, rfl, _, _, _, [], _, [], hW', trodAll_mk1 (shut_bool Try.underlying4 _), (trodAll_cons_mk (Below.trod laidOut (by kernel_rfl) (of_decide_eq_true (by kernel_rfl)) k0 bel lt0) trodAll_mk0), rfl, bel.frame _, fun h => by cases h⟩
theorem over : Rows.fnExactRotWriteRow.holds Try.pinned (OpenSpec.ofChange Rows.fnExactRotWriteSpec) :=
  OpenClaim.holds_of_wide 5 Try.f5 rfl rfl rfl rfl rfl rfl rfl ⟨rfl, rfl, rfl, rfl, rfl⟩ rfl rfl rfl rfl rfl (by kernel_rfl) Try.func5 (by kernel_rfl)
    (of_decide_eq_true (by kernel_rfl)) (by unfold Func.isWrapper; first | (rw [if_pos (by decide +kernel)]; kernel_rfl) | (rw [if_neg (by decide +kernel)]; exact ⟨rfl, rfl⟩))
    (fun os started H enc _ => lifted os started H enc)
theorem proved : Rows.FnExactRotWriteSaid := over
#print axioms proved
end Go.Proofs.Ytfncgkdpigagmaa.fnExactRotWrite
end
