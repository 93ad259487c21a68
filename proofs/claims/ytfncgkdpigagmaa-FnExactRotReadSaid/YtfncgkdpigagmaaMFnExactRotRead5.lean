/- Part 5 of the proof of the statement FnExactRotRead: what the functions compute, step by step; the last part states it. No condition. -/
import Derived.Test.YtfncgkdpigagmaaRows
import Derived.WalkKit
import Derived.ProofKit
import Derived.OpenShut
import Derived.ShutString
import Derived.ChangeOld
import Derived.Below
import Derived.SizedLaws
import Derived.Test.YtfncgkdpigagmaaMFnExactRotRead1
import Derived.Test.YtfncgkdpigagmaaMFnExactRotRead2
import Derived.Test.YtfncgkdpigagmaaMFnExactRotRead3
import Derived.Test.YtfncgkdpigagmaaMFnExactRotRead4
section
set_option linter.unusedVariables false
set_option linter.unusedSimpArgs false
namespace Go.Proofs.Ytfncgkdpigagmaa.E
open Go Go.RowKit
set_option linter.unusedVariables false
set_option maxRecDepth 100000
theorem mid_get {α : Type} (d x : α) (A B : List α) (i : Nat) (h : A.length = i) : List.getD (A ++ x :: B) (Int.toNat (i : Int)) d = x := by rw [Int.toNat_natCast]; subst h; simp
theorem mid_set {α : Type} (x y : α) (A B : List α) (i : Nat) (h : A.length = i) : List.set (A ++ x :: B) (Int.toNat (i : Int)) y = (A ++ [y]) ++ B := by rw [Int.toNat_natCast]; subst h; simp
theorem mid_len {α : Type} (x : α) (A B : List α) : (A ++ x :: B).length = A.length + 1 + B.length := by simp; omega
theorem szInt_G {β : Type} {l : List Int} {k : Int} (h0 : 0 ≤ k) (h1 : k ≤ 1048576) (hl : l.length ≤ 9223372036854775807) (K : Int → Option β) : laws_szIntS.G sl1 l k K = K (if k < (l.length : Int) then -1 else k - (l.length : Int)) := by
  unfold laws_szIntS.G
  rw [wE (by omega) (by omega)]
  by_cases c : k < (l.length : Int)
  · rw [if_pos c]; exact cT (ltT (by omega)) rfl
  · rw [if_neg c]; exact cF (ltF (by omega)) rfl
theorem szBool_G {β : Type} {l : List Bool} {k : Int} (h0 : 0 ≤ k) (h1 : k ≤ 1048576) (hl : l.length ≤ 9223372036854775807) (K : Int → Option β) : laws_szBoolS.G sl1 l k K = K (if k < (l.length : Int) then -1 else k - (l.length : Int)) := by
  unfold laws_szBoolS.G
  rw [wE (by omega) (by omega)]
  by_cases c : k < (l.length : Int)
  · rw [if_pos c]; exact cT (ltT (by omega)) rfl
  · rw [if_neg c]; exact cF (ltF (by omega)) rfl
theorem szStripe_or (kind : Int) {vals vers : List Int} {there : List Bool} (h1 : vals.length ≤ 9223372036854775807) (h2 : vers.length ≤ 9223372036854775807) (h3 : there.length ≤ 9223372036854775807) :
    ∃ y : Int, (∀ (β : Type) (K : Int → Option β), laws_szStripe.G sl1 kind vals vers there 1048576 K = K y) ∧ (y < 0 ∨ 0 ≤ y ∧ vals.length ≤ 1048576 ∧ vers.length ≤ 1048576 ∧ there.length ≤ 1048576) := by
  by_cases c1 : (1048576 : Int) < (vals.length : Int)
  · refine ⟨-1, fun β K => ?_, .inl (by omega)⟩
    unfold laws_szStripe.G
    refine (szInt_G (by omega) (by omega) h1 _).trans ?_
    rw [if_pos c1]; exact cT rfl rfl
  by_cases c2 : (1048576 : Int) - (vals.length : Int) < (vers.length : Int)
  · refine ⟨-1, fun β K => ?_, .inl (by omega)⟩
    unfold laws_szStripe.G
    refine (szInt_G (by omega) (by omega) h1 _).trans ?_
    rw [if_neg c1]
    refine cF (ltF (by omega)) ((szInt_G (by omega) (by omega) h2 _).trans ?_)
    rw [if_pos c2]; exact cT rfl rfl
  by_cases c3 : (1048576 : Int) - (vals.length : Int) - (vers.length : Int) < (there.length : Int)
  · refine ⟨-1, fun β K => ?_, .inl (by omega)⟩
    unfold laws_szStripe.G
    refine (szInt_G (by omega) (by omega) h1 _).trans ?_
    rw [if_neg c1]
    refine cF (ltF (by omega)) ((szInt_G (by omega) (by omega) h2 _).trans ?_)
    rw [if_neg c2]
    refine cF (ltF (by omega)) ((szBool_G (by omega) (by omega) h3 _).trans ?_)
    rw [if_pos c3]; exact cT rfl rfl
  · refine ⟨1048576 - (vals.length : Int) - (vers.length : Int) - (there.length : Int), fun β K => ?_, .inr ⟨by omega, by omega, by omega, by omega⟩⟩
    unfold laws_szStripe.G
    refine (szInt_G (by omega) (by omega) h1 _).trans ?_
    rw [if_neg c1]
    refine cF (ltF (by omega)) ((szInt_G (by omega) (by omega) h2 _).trans ?_)
    rw [if_neg c2]
    refine cF (ltF (by omega)) ((szBool_G (by omega) (by omega) h3 _).trans ?_)
    rw [if_neg c3]; exact cF (ltF (by omega)) rfl
theorem toInt_l {β : Type} (kx : List Int → Option β) (kr : Option β) (l : List Int) (hl : l.length ≤ 1048576) (d : Nat) : ∀ (i n : Nat), i + d = l.length → d < n → laws_toIntS.l3 sl1 n kx kr (l.take i ++ List.replicate d 0) l (i : Int) = kx l := by
  induction d with
  | zero =>
    intro i n hi hn
    obtain ⟨n, rfl⟩ : ∃ m, n = m + 1 := ⟨n - 1, by omega⟩
    rw [laws_toIntS.t3, List.replicate_zero, List.append_nil, List.take_of_length_le (by omega)]; exact cF (ltF (by omega)) rfl
  | succ d ih =>
    intro i n hi hn
    obtain ⟨n, rfl⟩ : ∃ m, n = m + 1 := ⟨n - 1, by omega⟩
    have h1 : i < l.length := by omega
    have e := ih (i + 1) n (by omega) (by omega)
    have ht : (l.take i).length = i := by rw [List.length_take]; omega
    rw [List.take_succ_eq_append_getElem h1] at e
    rw [laws_toIntS.t3, List.replicate_succ]
    unfold laws_toIntS.b3
    rw [getN l i h1, mid_set _ _ _ _ _ ht, w_succ (by omega)]
    exact cT (ltT (by omega)) (cT (irT (by omega) (by omega)) (cT (irT (by omega) (by rw [mid_len, ht]; omega)) e))
theorem toInt_G {β : Type} {l : List Int} (hl : l.length ≤ 1048576) (K : List Int → Option β) : laws_toIntS.G sl1 l K = K l := by
  unfold laws_toIntS.G
  rw [Int.toNat_natCast]
  exact cT (andT (andT (leT (by omega)) (leT (by omega))) (fwT (by omega))) (toInt_l K none l hl l.length 0 sl1.n (by omega) (by rw [rounds_n]; omega))
theorem toBool_l {β : Type} (kx : List Bool → Option β) (kr : Option β) (l : List Bool) (hl : l.length ≤ 1048576) (d : Nat) : ∀ (i n : Nat), i + d = l.length → d < n → laws_toBoolS.l3 sl1 n kx kr (l.take i ++ List.replicate d false) l (i : Int) = kx l := by
  induction d with
  | zero =>
    intro i n hi hn
    obtain ⟨n, rfl⟩ : ∃ m, n = m + 1 := ⟨n - 1, by omega⟩
    rw [laws_toBoolS.t3, List.replicate_zero, List.append_nil, List.take_of_length_le (by omega)]; exact cF (ltF (by omega)) rfl
  | succ d ih =>
    intro i n hi hn
    obtain ⟨n, rfl⟩ : ∃ m, n = m + 1 := ⟨n - 1, by omega⟩
    have h1 : i < l.length := by omega
    have e := ih (i + 1) n (by omega) (by omega)
    have ht : (l.take i).length = i := by rw [List.length_take]; omega
    rw [List.take_succ_eq_append_getElem h1] at e
    rw [laws_toBoolS.t3, List.replicate_succ]
    unfold laws_toBoolS.b3
    rw [getN l i h1, mid_set _ _ _ _ _ ht, w_succ (by omega)]
    exact cT (ltT (by omega)) (cT (irT (by omega) (by omega)) (cT (irT (by omega) (by rw [mid_len, ht]; omega)) e))
theorem toBool_G {β : Type} {l : List Bool} (hl : l.length ≤ 1048576) (K : List Bool → Option β) : laws_toBoolS.G sl1 l K = K l := by
  unfold laws_toBoolS.G
  rw [Int.toNat_natCast]
  exact cT (andT (andT (leT (by omega)) (leT (by omega))) (fwT (by omega))) (toBool_l K none l hl l.length 0 sl1.n (by omega) (by rw [rounds_n]; omega))
theorem toStripe_G {β : Type} (kind : Int) {vals vers : List Int} {there : List Bool} (h1 : vals.length ≤ 1048576) (h2 : vers.length ≤ 1048576) (h3 : there.length ≤ 1048576) (K : List Int → List Int → List Bool → Int → Option β) : laws_toStripe.G sl1 kind vals vers there K = K vals vers there kind :=
  (toInt_G h1 _).trans ((toInt_G h2 _).trans (toBool_G h3 _))
theorem eqInt_l {β : Type} (kx : Option β) (kr : Bool → Option β) (l : List Int) (hl : l.length ≤ 1048576) (d : Nat) : ∀ (i n : Nat), i + d = l.length → d < n → laws_eqIntS.l4 sl1 n kx kr l l (i : Int) = kx := by
  induction d with
  | zero =>
    intro i n hi hn
    obtain ⟨n, rfl⟩ : ∃ m, n = m + 1 := ⟨n - 1, by omega⟩
    rw [laws_eqIntS.t4]; exact cF (ltF (by omega)) rfl
  | succ d ih =>
    intro i n hi hn
    obtain ⟨n, rfl⟩ : ∃ m, n = m + 1 := ⟨n - 1, by omega⟩
    rw [laws_eqIntS.t4]
    unfold laws_eqIntS.b4
    rw [w_succ (by omega)]
    exact cT (ltT (by omega)) (cT (irT (by omega) (by omega)) (cT (irT (by omega) (by omega)) (cF (neF rfl) (ih (i + 1) n (by omega) (by omega)))))
theorem eqInt_G {β : Type} {l : List Int} (hl : l.length ≤ 1048576) (K : Bool → Option β) : laws_eqIntS.G sl1 l l K = K true := by
  unfold laws_eqIntS.G
  exact cF (neF rfl) (eqInt_l _ _ l hl l.length 0 sl1.n (by omega) (by rw [rounds_n]; omega))
theorem eqBool_l {β : Type} (kx : Option β) (kr : Bool → Option β) (l : List Bool) (hl : l.length ≤ 1048576) (d : Nat) : ∀ (i n : Nat), i + d = l.length → d < n → laws_eqBoolS.l4 sl1 n kx kr l l (i : Int) = kx := by
  induction d with
  | zero =>
    intro i n hi hn
    obtain ⟨n, rfl⟩ : ∃ m, n = m + 1 := ⟨n - 1, by omega⟩
    rw [laws_eqBoolS.t4]; exact cF (ltF (by omega)) rfl
  | succ d ih =>
    intro i n hi hn
    obtain ⟨n, rfl⟩ : ∃ m, n = m + 1 := ⟨n - 1, by omega⟩
    rw [laws_eqBoolS.t4]
    unfold laws_eqBoolS.b4
    rw [w_succ (by omega)]
    exact cT (ltT (by omega)) (cT (irT (by omega) (by omega)) (cT (irT (by omega) (by omega)) (cF (bne_self_eq_false _) (ih (i + 1) n (by omega) (by omega)))))
theorem eqBool_G {β : Type} {l : List Bool} (hl : l.length ≤ 1048576) (K : Bool → Option β) : laws_eqBoolS.G sl1 l l K = K true := by
  unfold laws_eqBoolS.G
  exact cF (neF rfl) (eqBool_l _ _ l hl l.length 0 sl1.n (by omega) (by rw [rounds_n]; omega))
theorem eqStripe_G {β : Type} (kind : Int) {vals vers : List Int} {there : List Bool} (h1 : vals.length ≤ 1048576) (h2 : vers.length ≤ 1048576) (h3 : there.length ≤ 1048576) (K : Bool → Option β) : laws_eqStripe.G sl1 kind vals vers there kind vals vers there K = K true := by
  unfold laws_eqStripe.G
  exact cF (neF rfl) ((eqInt_G h1 _).trans (cF rfl ((eqInt_G h2 _).trans (cF rfl ((eqBool_G h3 _).trans (cF rfl rfl))))))
def cnt : Int → Nat → List Int
  | _, 0 => []
  | k, n + 1 => k :: cnt (k + 1) n
def cntB : Int → Nat → List Bool
  | _, 0 => []
  | k, n + 1 => sl1.eq (Int.tmod k 3) 0 :: cntB (k + 1) n
theorem cnt_len : ∀ (n : Nat) (k : Int), (cnt k n).length = n
  | 0, _ => rfl
  | n + 1, k => by rw [cnt, List.length_cons, cnt_len n]
theorem cntB_len : ∀ (n : Nat) (k : Int), (cntB k n).length = n
  | 0, _ => rfl
  | n + 1, k => by rw [cntB, List.length_cons, cntB_len n]
theorem markInt_l {β : Type} (kx : List Int → Int → Option β) (kr : Option β) (m : Nat) (hm : m ≤ 1048576) : ∀ (B A : List Int) (k : Int) (n : Nat), A.length + B.length = m → B.length < n → 0 ≤ k → k + (B.length : Int) ≤ 1000000000 →
    laws_markIntS_.l2 sl1 n kx kr (A ++ B) k (A.length : Int) = kx (A ++ cnt k B.length) (k + (B.length : Int))
  | [], A, k, n, hl, hn, h0, h1 => by
    obtain ⟨n, rfl⟩ : ∃ m, n = m + 1 := ⟨n - 1, by omega⟩
    rw [laws_markIntS_.t2, List.append_nil]
    refine cF (ltF (Int.le_refl _)) ?_
    show kx A k = _
    rw [show cnt k ([] : List Int).length = [] from rfl, List.append_nil, show k + (([] : List Int).length : Int) = k by simp]
  | x :: B, A, k, n, hl, hn, h0, h1 => by
    rw [List.length_cons] at hl hn h1
    obtain ⟨n, rfl⟩ : ∃ m, n = m + 1 := ⟨n - 1, by omega⟩
    have e := markInt_l kx kr m hm B (A ++ [k]) (k + 1) n (by simp; omega) (by omega) (by omega) (by omega)
    rw [List.length_append, List.length_singleton] at e
    rw [laws_markIntS_.t2]
    unfold laws_markIntS_.b2
    rw [mid_set _ _ _ _ _ rfl, w_succ (by omega), wE (by omega) (by omega)]
    refine cT (ltT (by rw [mid_len]; omega)) (cT (irT (by omega) (by rw [mid_len]; omega)) (e.trans ?_))
    rw [List.length_cons, cnt, List.append_assoc, show k + ((B.length + 1 : Nat) : Int) = k + 1 + (B.length : Int) by omega]; rfl
theorem markInt_G {β : Type} {l : List Int} (hl : l.length ≤ 1048576) {k : Int} (h0 : 0 ≤ k) (h1 : k ≤ 100000000) (K : List Int → Int → Option β) : laws_markIntS_.G sl1 l k K = K (cnt k l.length) (k + (l.length : Int)) :=
  markInt_l K none l.length hl l [] k sl1.n (by simp) (by rw [rounds_n]; omega) h0 (by omega)
theorem markBool_l {β : Type} (kx : List Bool → Int → Option β) (kr : Option β) (m : Nat) (hm : m ≤ 1048576) : ∀ (B A : List Bool) (k : Int) (n : Nat), A.length + B.length = m → B.length < n → 0 ≤ k → k + (B.length : Int) ≤ 1000000000 →
    laws_markBoolS_.l2 sl1 n kx kr (A ++ B) k (A.length : Int) = kx (A ++ cntB k B.length) (k + (B.length : Int))
  | [], A, k, n, hl, hn, h0, h1 => by
    obtain ⟨n, rfl⟩ : ∃ m, n = m + 1 := ⟨n - 1, by omega⟩
    rw [laws_markBoolS_.t2, List.append_nil]
    refine cF (ltF (Int.le_refl _)) ?_
    show kx A k = _
    rw [show cntB k ([] : List Bool).length = [] from rfl, List.append_nil, show k + (([] : List Bool).length : Int) = k by simp]
  | x :: B, A, k, n, hl, hn, h0, h1 => by
    rw [List.length_cons] at hl hn h1
    obtain ⟨n, rfl⟩ : ∃ m, n = m + 1 := ⟨n - 1, by omega⟩
    have e := markBool_l kx kr m hm B (A ++ [sl1.eq (Int.tmod k 3) 0]) (k + 1) n (by simp; omega) (by omega) (by omega) (by omega)
    rw [List.length_append, List.length_singleton] at e
    rw [laws_markBoolS_.t2]
    unfold laws_markBoolS_.b2
    rw [mid_set _ _ _ _ _ rfl, w_succ (by omega), wE (by omega) (by omega)]
    refine cT (ltT (by rw [mid_len]; omega)) (cT (irT (by omega) (by rw [mid_len]; omega)) (e.trans ?_))
    rw [List.length_cons, cntB, List.append_assoc, show k + ((B.length + 1 : Nat) : Int) = k + 1 + (B.length : Int) by omega]; rfl
theorem markBool_G {β : Type} {l : List Bool} (hl : l.length ≤ 1048576) {k : Int} (h0 : 0 ≤ k) (h1 : k ≤ 100000000) (K : List Bool → Int → Option β) : laws_markBoolS_.G sl1 l k K = K (cntB k l.length) (k + (l.length : Int)) :=
  markBool_l K none l.length hl l [] k sl1.n (by simp) (by rw [rounds_n]; omega) h0 (by omega)
theorem heldInt_l {β : Type} (kx : Int → Option β) (kr : Int → Option β) (m : Nat) (hm : m ≤ 1048576) (d : Nat) : ∀ (A : List Int) (k : Int) (n : Nat), A.length + d = m → d < n → 0 ≤ k → k + (d : Int) ≤ 1000000000 →
    laws_heldIntS.l2 sl1 n kx kr (A ++ cnt k d) k (A.length : Int) = kx (k + (d : Int)) := by
  induction d with
  | zero =>
    intro A k n hl hn h0 h1
    obtain ⟨n, rfl⟩ : ∃ m, n = m + 1 := ⟨n - 1, by omega⟩
    rw [laws_heldIntS.t2, show cnt k 0 = [] from rfl, List.append_nil]
    refine cF (ltF (Int.le_refl _)) ?_
    rw [show k + ((0 : Nat) : Int) = k by omega]
  | succ d ih =>
    intro A k n hl hn h0 h1
    obtain ⟨n, rfl⟩ : ∃ m, n = m + 1 := ⟨n - 1, by omega⟩
    have e := ih (A ++ [k]) (k + 1) n (by simp; omega) (by omega) (by omega) (by omega)
    rw [List.length_append, List.length_singleton, List.append_assoc] at e
    rw [laws_heldIntS.t2, cnt]
    unfold laws_heldIntS.b2
    rw [mid_get _ _ _ _ _ rfl, w_succ (by omega), wE (by omega) (by omega)]
    refine cT (ltT (by rw [mid_len]; omega)) (cT (irT (by omega) (by rw [mid_len]; omega)) (cF (neF rfl) (e.trans ?_)))
    rw [show k + ((d + 1 : Nat) : Int) = k + 1 + (d : Int) by omega]
theorem heldInt_G {β : Type} {m : Nat} (hl : m ≤ 1048576) {k : Int} (h0 : 0 ≤ k) (h1 : k ≤ 100000000) (K : Int → Option β) : laws_heldIntS.G sl1 (cnt k m) k K = K (k + (m : Int)) :=
  heldInt_l K (fun y => K y) m hl m [] k sl1.n (by simp) (by rw [rounds_n]; omega) h0 (by omega)
theorem heldBool_l {β : Type} (kx : Int → Option β) (kr : Int → Option β) (m : Nat) (hm : m ≤ 1048576) (d : Nat) : ∀ (A : List Bool) (k : Int) (n : Nat), A.length + d = m → d < n → 0 ≤ k → k + (d : Int) ≤ 1000000000 →
    laws_heldBoolS.l2 sl1 n kx kr (A ++ cntB k d) k (A.length : Int) = kx (k + (d : Int)) := by
  induction d with
  | zero =>
    intro A k n hl hn h0 h1
    obtain ⟨n, rfl⟩ : ∃ m, n = m + 1 := ⟨n - 1, by omega⟩
    rw [laws_heldBoolS.t2, show cntB k 0 = [] from rfl, List.append_nil]
    refine cF (ltF (Int.le_refl _)) ?_
    rw [show k + ((0 : Nat) : Int) = k by omega]
  | succ d ih =>
    intro A k n hl hn h0 h1
    obtain ⟨n, rfl⟩ : ∃ m, n = m + 1 := ⟨n - 1, by omega⟩
    have e := ih (A ++ [sl1.eq (Int.tmod k 3) 0]) (k + 1) n (by simp; omega) (by omega) (by omega) (by omega)
    rw [List.length_append, List.length_singleton, List.append_assoc] at e
    rw [laws_heldBoolS.t2, cntB]
    unfold laws_heldBoolS.b2
    rw [mid_get _ _ _ _ _ rfl, w_succ (by omega), wE (a := k + 1) (by omega) (by omega)]
    refine cT (ltT (by rw [mid_len]; omega)) (cT (irT (by omega) (by rw [mid_len]; omega)) (cF (bne_self_eq_false _) (e.trans ?_)))
    rw [show k + ((d + 1 : Nat) : Int) = k + 1 + (d : Int) by omega]
theorem heldBool_G {β : Type} {m : Nat} (hl : m ≤ 1048576) {k : Int} (h0 : 0 ≤ k) (h1 : k ≤ 100000000) (K : Int → Option β) : laws_heldBoolS.G sl1 (cntB k m) k K = K (k + (m : Int)) :=
  heldBool_l K (fun y => K y) m hl m [] k sl1.n (by simp) (by rw [rounds_n]; omega) h0 (by omega)
theorem markStripe_E (kind : Int) {vals vers : List Int} {there : List Bool} (h1 : vals.length ≤ 1048576) (h2 : vers.length ≤ 1048576) (h3 : there.length ≤ 1048576) : ∃ (a b : List Int) (c : List Bool) (k : Int), 0 ≤ k ∧ (∀ (β : Type) (K : List Int → List Int → List Bool → Int → Option β), laws_markStripe_.G sl1 vals vers there kind 1 K = K a b c k) ∧
    ∀ (β : Type) (K : Int → Option β), laws_heldStripe.G sl1 kind a b c 1 K = K k := by
  refine ⟨cnt 1 vals.length, cnt (1 + (vals.length : Int)) vers.length, cntB (1 + (vals.length : Int) + (vers.length : Int)) there.length, 1 + (vals.length : Int) + (vers.length : Int) + (there.length : Int), by omega, fun β K => ?_, fun β K => ?_⟩
  · exact (markInt_G h1 (by omega) (by omega) _).trans ((markInt_G h2 (by omega) (by omega) _).trans (markBool_G h3 (by omega) (by omega) _))
  · exact (heldInt_G h1 (by omega) (by omega) _).trans (cF (ltF (by omega)) ((heldInt_G h2 (by omega) (by omega) _).trans (cF (ltF (by omega)) ((heldBool_G h3 (by omega) (by omega) _).trans (cF (ltF (by omega)) rfl)))))
end Go.Proofs.Ytfncgkdpigagmaa.E
end
section
set_option linter.unusedVariables false
set_option linter.unusedSimpArgs false
namespace Go.Proofs.Ytfncgkdpigagmaa.E
open Go Go.RowKit
set_option linter.unusedVariables false
set_option maxRecDepth 100000
namespace laws_heldDiskS
def sin : Sig := ⟨[], [.one (.val (.sl (.pair I (.pair I (.pair I .unit)))) false), .one (.val I false)]⟩
def sout : Sig := ⟨[], [.one (.val I false)]⟩
def h2 : SS := ⟨[0, 1, 5], ⟨[], [.one (.val (.sl (.pair I (.pair I (.pair I .unit)))) false), .one (.val I false), .one (.val I false)]⟩⟩
def x2 : SS := ⟨[1], ⟨[], [.one (.val I false)]⟩⟩
def y2 : SS := ⟨[4], ⟨[], [.one (.val I false)]⟩⟩
noncomputable def b2 {β : Type} (S : Sl) (L : (List (Int × (Int × (Int × Unit)))) → Int → Int → Option β) (kx : Int → Option β) (kr : Int → Option β) (s0 : (List (Int × (Int × (Int × Unit))))) (s1 : Int) (s2 : Int) : Option β := bif (S.lt s2 (s0.length : Int)) then (bif (S.ir s2 s0.length) then (bif (!S.eq ((List.getD s0 (Int.toNat s2) (0, (0, (0, ())))).1) s1) then (kr (-1)) else (bif (S.ir s2 s0.length) then (bif (!S.eq ((List.getD s0 (Int.toNat s2) (0, (0, (0, ())))).2.1) (S.w (s1 + 1))) then (kr (-1)) else (bif (S.ir s2 s0.length) then (bif (!S.eq ((List.getD s0 (Int.toNat s2) (0, (0, (0, ())))).2.2.1) (S.w ((S.w (s1 + 1)) + 1))) then (kr (-1)) else (L s0 (S.w ((S.w ((S.w (s1 + 1)) + 1)) + 1)) (S.w (s2 + 1)))) else (none))) else (none))) else (none)) else (kx s1)
noncomputable def r2 {β : Type} (S : Sl) (n : Nat) (kx : x2.sig.den → Option β) (kr : y2.sig.den → Option β) (s : h2.sig.den) : Option β := rounds (fun L kx kr s => b2 S (fun x0 x1 x2 => L ((), (x0, (x1, (x2, ()))))) (fun x0 => kx ((), (x0, ()))) (fun x0 => kr ((), (x0, ()))) s.2.1 s.2.2.1 s.2.2.2.1) kx kr n s
noncomputable def l2 {β : Type} (S : Sl) (n : Nat) (kx : Int → Option β) (kr : Int → Option β) (s0 : (List (Int × (Int × (Int × Unit))))) (s1 : Int) (s2 : Int) : Option β := r2 S n (fun s => kx s.2.1) (fun s => kr s.2.1) ((), (s0, (s1, (s2, ()))))
theorem t2 {β : Type} (S : Sl) (n : Nat) (kx : Int → Option β) (kr : Int → Option β) (s0 : (List (Int × (Int × (Int × Unit))))) (s1 : Int) (s2 : Int) : l2 S (n + 1) kx kr s0 s1 s2 = b2 S (l2 S n kx kr) kx kr s0 s1 s2 := by kernel_rfl
noncomputable def G {β : Type} (S : Sl) (a0 : (List (Int × (Int × (Int × Unit))))) (a1 : Int) (K : Int → Option β) : Option β := l2 S S.n (fun y1 => K y1) (fun y2 => K y2) a0 a1 0
noncomputable def o : Orac := ⟨24, sin, sout, fun s K => G sl0 s.2.1 s.2.2.1 (fun x0 => K ((), (x0, ())))⟩
noncomputable def C : Ctx := ⟨tyT, [], [⟨2, 0, h2, x2, y2, fun s kx kr => r2 sl0 sl0.n kx kr s⟩], 40, 0⟩
theorem ctx : CtxOk Try.prog C := ⟨tyOk, all0⟩
theorem e2 (β : Type) (L : h2.sig.den → Option β) (kx : x2.sig.den → Option β) (kr : y2.sig.den → Option β) (s : h2.sig.den) : evalBody C (nthC (loopsOf (bodyC Try.f24)) 0) 0 h2 x2 y2 L kx kr s = b2 sl0 (fun x0 x1 x2 => L ((), (x0, (x1, (x2, ()))))) (fun x0 => kx ((), (x0, ()))) (fun x0 => kr ((), (x0, ()))) s.2.1 s.2.2.1 s.2.2.2.1 := by kernel_rfl
theorem g2 : LS Try.prog C ⟨2, 0, h2, x2, y2, fun s kx kr => r2 sl0 sl0.n kx kr s⟩ (loopsOf (bodyC Try.f24)) := LS.at (i := 0) (by kernel_rfl) (loop_good mixed ctx (ctx_nat ctx) (N := sl0.n) (fun _ _ _ _ => rfl) e2 (all1 (LS.none (by kernel_rfl)) (all0)))
theorem eG (β : Type) (s : sin.den) (K : sout.den → Option β) : evalFn C Try.f24 sin sout s K = o.F s K := by kernel_rfl
theorem ok : OracOk Try.prog o := fn_ok mixed Try.func24 (by kernel_rfl) ctx (c := bodyC Try.f24) (by kernel_rfl) (all1 g2 (all0)) (by kernel_rfl) (by kernel_rfl) (by kernel_rfl) (Nat.le_of_ble_eq_true (by kernel_rfl)) eG (by kernel_rfl) (Nat.le_of_ble_eq_true (by kernel_rfl))
end laws_heldDiskS
end Go.Proofs.Ytfncgkdpigagmaa.E
end
section
set_option linter.unusedVariables false
set_option linter.unusedSimpArgs false
namespace Go.Proofs.Ytfncgkdpigagmaa.E
open Go Go.RowKit
set_option linter.unusedVariables false
set_option maxRecDepth 100000
theorem szDisk_or {l : List Dk'} (hl : l.length ≤ 9223372036854775807) :
    ∃ y : Int, (∀ (β : Type) (K : Int → Option β), laws_szDiskS.G sl1 l 1048576 K = K y) ∧ (y < 0 ∨ 0 ≤ y ∧ l.length ≤ 1048576) := by
  by_cases c : (1048576 : Int) < (l.length : Int)
  · refine ⟨-1, fun β K => ?_, .inl (by omega)⟩
    unfold laws_szDiskS.G
    rw [wE (by omega) (by omega)]
    exact cT (ltT (by omega)) rfl
  · refine ⟨1048576 - (l.length : Int), fun β K => ?_, .inr ⟨by omega, by omega⟩⟩
    unfold laws_szDiskS.G
    rw [wE (by omega) (by omega)]
    exact cF (ltF (by omega)) rfl
theorem toDisk_l {β : Type} (kx : List Dk' → Option β) (kr : Option β) (l : List Dk') (hl : l.length ≤ 1048576) (d : Nat) : ∀ (i n : Nat), i + d = l.length → d < n → laws_toDiskS.l3 sl1 n kx kr (l.take i ++ List.replicate d (0, (0, (0, ())))) l (i : Int) = kx l := by
  induction d with
  | zero =>
    intro i n hi hn
    obtain ⟨n, rfl⟩ : ∃ m, n = m + 1 := ⟨n - 1, by omega⟩
    rw [laws_toDiskS.t3, List.replicate_zero, List.append_nil, List.take_of_length_le (by omega)]; exact cF (ltF (by omega)) rfl
  | succ d ih =>
    intro i n hi hn
    obtain ⟨n, rfl⟩ : ∃ m, n = m + 1 := ⟨n - 1, by omega⟩
    have h1 : i < l.length := by omega
    have e := ih (i + 1) n (by omega) (by omega)
    have ht : (l.take i).length = i := by rw [List.length_take]; omega
    rw [List.take_succ_eq_append_getElem h1] at e
    rw [laws_toDiskS.t3, List.replicate_succ]
    unfold laws_toDiskS.b3 laws_toDisk.G
    rw [getN l i h1]
    dsimp only
    rw [mid_set _ _ _ _ _ ht, w_succ (by omega)]
    exact cT (ltT (by omega)) (cT (irT (by omega) (by omega)) (cT (irT (by omega) (by rw [mid_len, ht]; omega)) e))
theorem toDisk_G {β : Type} {l : List Dk'} (hl : l.length ≤ 1048576) (K : List Dk' → Option β) : laws_toDiskS.G sl1 l K = K l := by
  unfold laws_toDiskS.G
  rw [Int.toNat_natCast]
  exact cT (andT (andT (leT (by omega)) (leT (by omega))) (fwT (by omega))) (toDisk_l K none l hl l.length 0 sl1.n (by omega) (by rw [rounds_n]; omega))
theorem eqDisk_l {β : Type} (kx : Option β) (kr : Bool → Option β) (l : List Dk') (hl : l.length ≤ 1048576) (d : Nat) : ∀ (i n : Nat), i + d = l.length → d < n → laws_eqDiskS.l4 sl1 n kx kr l l (i : Int) = kx := by
  induction d with
  | zero =>
    intro i n hi hn
    obtain ⟨n, rfl⟩ : ∃ m, n = m + 1 := ⟨n - 1, by omega⟩
    rw [laws_eqDiskS.t4]; exact cF (ltF (by omega)) rfl
  | succ d ih =>
    intro i n hi hn
    obtain ⟨n, rfl⟩ : ∃ m, n = m + 1 := ⟨n - 1, by omega⟩
    rw [laws_eqDiskS.t4]
    unfold laws_eqDiskS.b4 laws_eqDisk.G
    rw [w_succ (by omega)]
    exact cT (ltT (by omega)) (cT (irT (by omega) (by omega)) (cT (irT (by omega) (by omega)) (cF (neF rfl) (cF (neF rfl) (cF (neF rfl) (cF rfl (ih (i + 1) n (by omega) (by omega))))))))
theorem eqDisk_G {β : Type} {l : List Dk'} (hl : l.length ≤ 1048576) (K : Bool → Option β) : laws_eqDiskS.G sl1 l l K = K true := by
  unfold laws_eqDiskS.G
  exact cF (neF rfl) (eqDisk_l _ _ l hl l.length 0 sl1.n (by omega) (by rw [rounds_n]; omega))
def cntD : Int → Nat → List Dk'
  | _, 0 => []
  | k, n + 1 => (k, (k + 1, (k + 2, ()))) :: cntD (k + 3) n
theorem at_get {α : Type} (d x : α) (A B : List α) : List.getD (A ++ x :: B) (Int.toNat (A.length : Int)) d = x := mid_get d x A B _ rfl
theorem at_set {α : Type} (x y : α) (A B : List α) : List.set (A ++ x :: B) (Int.toNat (A.length : Int)) y = A ++ y :: B := by rw [mid_set x y A B _ rfl, List.append_assoc]; rfl
theorem markDisk_l {β : Type} (kx : List Dk' → Int → Option β) (kr : Option β) (m : Nat) (hm : m ≤ 1048576) : ∀ (B A : List Dk') (k : Int) (n : Nat), A.length + B.length = m → B.length < n → 0 ≤ k → k + 3 * (B.length : Int) ≤ 1000000000 →
    laws_markDiskS_.l2 sl1 n kx kr (A ++ B) k (A.length : Int) = kx (A ++ cntD k B.length) (k + 3 * (B.length : Int))
  | [], A, k, n, hl, hn, h0, h1 => by
    obtain ⟨n, rfl⟩ : ∃ m, n = m + 1 := ⟨n - 1, by omega⟩
    rw [laws_markDiskS_.t2, List.append_nil]
    refine cF (ltF (Int.le_refl _)) ?_
    show kx A k = _
    rw [show cntD k ([] : List Dk').length = [] from rfl, List.append_nil, show k + 3 * (([] : List Dk').length : Int) = k by simp]
  | (x, (y, (z, u))) :: B, A, k, n, hl, hn, h0, h1 => by
    rw [List.length_cons] at hl hn h1
    obtain ⟨n, rfl⟩ : ∃ m, n = m + 1 := ⟨n - 1, by omega⟩
    have e := markDisk_l kx kr m hm B (A ++ [(k, (k + 1, (k + 2, ())))]) (k + 3) n (by simp; omega) (by omega) (by omega) (by omega)
    rw [List.length_append, List.length_singleton, List.append_assoc, List.append_assoc] at e
    have w1 : sl1.w (k + 1) = k + 1 := wE (by omega) (by omega)
    have w2 : sl1.w (k + 1 + 1) = k + 2 := by rw [wE (by omega) (by omega)]; omega
    have w3 : sl1.w (k + 2 + 1) = k + 3 := by rw [wE (by omega) (by omega)]; omega
    rw [laws_markDiskS_.t2]
    unfold laws_markDiskS_.b2
    simp only [at_get, at_set, w1, w2, w3, w_succ (show A.length ≤ 9000000000 by omega)]
    refine cT (ltT (by rw [mid_len]; omega)) (cT (irT (by omega) (by rw [mid_len]; omega)) (cT (irT (by omega) (by rw [mid_len]; omega)) (cT (irT (by omega) (by rw [mid_len]; omega)) (e.trans ?_))))
    rw [List.length_cons, cntD, show k + 3 * ((B.length + 1 : Nat) : Int) = k + 3 + 3 * (B.length : Int) by omega]; rfl
theorem markDisk_G {β : Type} {l : List Dk'} (hl : l.length ≤ 1048576) {k : Int} (h0 : 0 ≤ k) (h1 : k ≤ 100000000) (K : List Dk' → Int → Option β) : laws_markDiskS_.G sl1 l k K = K (cntD k l.length) (k + 3 * (l.length : Int)) :=
  markDisk_l K none l.length hl l [] k sl1.n (by simp) (by rw [rounds_n]; omega) h0 (by omega)
theorem heldDisk_l {β : Type} (kx : Int → Option β) (kr : Int → Option β) (m : Nat) (hm : m ≤ 1048576) (d : Nat) : ∀ (A : List Dk') (k : Int) (n : Nat), A.length + d = m → d < n → 0 ≤ k → k + 3 * (d : Int) ≤ 1000000000 →
    laws_heldDiskS.l2 sl1 n kx kr (A ++ cntD k d) k (A.length : Int) = kx (k + 3 * (d : Int)) := by
  induction d with
  | zero =>
    intro A k n hl hn h0 h1
    obtain ⟨n, rfl⟩ : ∃ m, n = m + 1 := ⟨n - 1, by omega⟩
    rw [laws_heldDiskS.t2, show cntD k 0 = [] from rfl, List.append_nil]
    refine cF (ltF (Int.le_refl _)) ?_
    rw [show k + 3 * ((0 : Nat) : Int) = k by omega]
  | succ d ih =>
    intro A k n hl hn h0 h1
    obtain ⟨n, rfl⟩ : ∃ m, n = m + 1 := ⟨n - 1, by omega⟩
    have e := ih (A ++ [(k, (k + 1, (k + 2, ())))]) (k + 3) n (by simp; omega) (by omega) (by omega) (by omega)
    rw [List.length_append, List.length_singleton, List.append_assoc] at e
    have w1 : sl1.w (k + 1) = k + 1 := wE (by omega) (by omega)
    have w2 : sl1.w (k + 1 + 1) = k + 2 := by rw [wE (by omega) (by omega)]; omega
    have w3 : sl1.w (k + 2 + 1) = k + 3 := by rw [wE (by omega) (by omega)]; omega
    rw [laws_heldDiskS.t2, cntD]
    unfold laws_heldDiskS.b2
    simp only [at_get, w1, w2, w3, w_succ (show A.length ≤ 9000000000 by omega)]
    refine cT (ltT (by rw [mid_len]; omega)) (cT (irT (by omega) (by rw [mid_len]; omega)) (cF (neF rfl) (cT (irT (by omega) (by rw [mid_len]; omega)) (cF (neF rfl) (cT (irT (by omega) (by rw [mid_len]; omega)) (cF (neF rfl) (e.trans ?_)))))))
    rw [show k + 3 * ((d + 1 : Nat) : Int) = k + 3 + 3 * (d : Int) by omega]
theorem heldDisk_G {β : Type} {m : Nat} (hl : m ≤ 1048576) {k : Int} (h0 : 0 ≤ k) (h1 : k ≤ 100000000) (K : Int → Option β) : laws_heldDiskS.G sl1 (cntD k m) k K = K (k + 3 * (m : Int)) :=
  heldDisk_l K (fun y => K y) m hl m [] k sl1.n (by simp) (by rw [rounds_n]; omega) h0 (by omega)
theorem markDisk_E {l : List Dk'} (hl : l.length ≤ 1048576) : ∃ (a : List Dk') (k : Int), 0 ≤ k ∧ (∀ (β : Type) (K : List Dk' → Int → Option β), laws_markDiskS_.G sl1 l 1 K = K a k) ∧ ∀ (β : Type) (K : Int → Option β), laws_heldDiskS.G sl1 a 1 K = K k :=
  ⟨cntD 1 l.length, 1 + 3 * (l.length : Int), by omega, fun β K => markDisk_G hl (by omega) (by omega) K, fun β K => heldDisk_G hl (by omega) (by omega) K⟩
end Go.Proofs.Ytfncgkdpigagmaa.E
end
section
set_option linter.unusedVariables false
set_option linter.unusedSimpArgs false
namespace Go.Proofs.Ytfncgkdpigagmaa.E
open Go Go.RowKit
set_option linter.unusedVariables false
set_option maxRecDepth 100000
abbrev noDk : Dk' := (0, (0, (0, ())))
def rdA (l : List Dk') (i : Nat) : Int := bif goodV (l.getD i noDk) (i : Int) then (l.getD i noDk).1 else 0
def rdB (l : List Dk') (i : Nat) : Int := bif goodV (l.getD i noDk) (i : Int) then (l.getD i noDk).2.1 else 0
def rdC (l : List Dk') (i : Nat) : Bool := goodV (l.getD i noDk) (i : Int)
def rowN {α : Type} (f : Nat → α) (n : Nat) : List α := (List.range n).map f
theorem rowN_succ {α : Type} (f : Nat → α) (n : Nat) : rowN f (n + 1) = rowN f n ++ [f n] := by unfold rowN; rw [List.range_succ, List.map_append]; rfl
theorem rowN_len {α : Type} (f : Nat → α) (n : Nat) : (rowN f n).length = n := by unfold rowN; rw [List.length_map, List.length_range]
theorem srd_l {β : Type} (kx : Int → Int → List Int → List Int → List Bool → Option β) (kr : Option β) (k0 kind : Int) {l : List Dk'} (hl : l.length = 8) (d : Nat) : ∀ (i n : Nat), i + d = 8 → d < n →
    spec_RotRead.l5 sl1 n kx kr k0 kind (rowN (rdA l) i) (rowN (rdB l) i) (rowN (rdC l) i) l (i : Int) = kx k0 kind (rowN (rdA l) 8) (rowN (rdB l) 8) (rowN (rdC l) 8) := by
  induction d with
  | zero =>
    intro i n hi hn
    obtain ⟨n, rfl⟩ : ∃ m, n = m + 1 := ⟨n - 1, by omega⟩
    obtain rfl : i = 8 := by omega
    rw [spec_RotRead.t5]; exact cF (ltF (by omega)) rfl
  | succ d ih =>
    intro i n hi hn
    obtain ⟨n, rfl⟩ : ∃ m, n = m + 1 := ⟨n - 1, by omega⟩
    have e := ih (i + 1) n (by omega) (by omega)
    have la := rowN_len (rdA l) i
    have lb := rowN_len (rdB l) i
    have lc := rowN_len (rdC l) i
    rw [rowN_succ, rowN_succ, rowN_succ] at e
    rw [spec_RotRead.t5]
    unfold spec_RotRead.b5
    rw [w_succ (by omega)]
    simp only [getC]
    refine cT (ltT (by omega)) (cT (irT (by omega) (by omega)) ((good_spec _ _ _).trans ?_))
    have eA : rdA l i = bif rdC l i then (l.getD i noDk).1 else 0 := rfl
    have eB : rdB l i = bif rdC l i then (l.getD i noDk).2.1 else 0 := rfl
    have eC : goodV (l.getD i (0, (0, (0, ())))) (i : Int) = rdC l i := rfl
    rw [eA, eB] at e
    rw [eC]
    cases ct : rdC l i
    · rw [ct] at e
      exact cT rfl (cT (fwT (by rw [List.length_append, la, List.length_singleton]; omega)) (cT (fwT (by rw [List.length_append, lb, List.length_singleton]; omega)) (cT (fwT (by rw [List.length_append, lc, List.length_singleton]; omega)) e)))
    · rw [ct] at e
      exact cF rfl (cT (fwT (by rw [List.length_append, la, List.length_singleton]; omega)) (cT (fwT (by rw [List.length_append, lb, List.length_singleton]; omega)) (cT (fwT (by rw [List.length_append, lc, List.length_singleton]; omega)) e)))
theorem ird_l {β : Type} (kx : Int → Int → List Int → List Int → List Bool → Option β) (kr : Option β) (k0 kind : Int) {l : List Dk'} (hl : l.length = 8) (d : Nat) : ∀ (i n : Nat), i + d = 8 → d < n →
    impl_RotRead.l5 sl1 n kx kr k0 kind (rowN (rdA l) i ++ List.replicate d 0) (rowN (rdB l) i ++ List.replicate d 0) (rowN (rdC l) i ++ List.replicate d false) l (l.length : Int) (i : Int) = kx k0 kind (rowN (rdA l) 8) (rowN (rdB l) 8) (rowN (rdC l) 8) := by
  induction d with
  | zero =>
    intro i n hi hn
    obtain ⟨n, rfl⟩ : ∃ m, n = m + 1 := ⟨n - 1, by omega⟩
    obtain rfl : i = 8 := by omega
    rw [impl_RotRead.t5, List.replicate_zero, List.replicate_zero, List.append_nil, List.append_nil, List.append_nil]; exact cF (ltF (by omega)) rfl
  | succ d ih =>
    intro i n hi hn
    obtain ⟨n, rfl⟩ : ∃ m, n = m + 1 := ⟨n - 1, by omega⟩
    have e := ih (i + 1) n (by omega) (by omega)
    have la := rowN_len (rdA l) i
    have lb := rowN_len (rdB l) i
    have lc := rowN_len (rdC l) i
    rw [rowN_succ, rowN_succ, rowN_succ, List.append_assoc, List.append_assoc, List.append_assoc] at e
    rw [impl_RotRead.t5, List.replicate_succ, List.replicate_succ]
    unfold impl_RotRead.b5
    rw [w_succ (by omega)]
    simp only [getC]
    refine cT (ltT (by omega)) (cT (irT (by omega) (by omega)) ((good_impl _ _ _).trans ?_))
    have eA : rdA l i = bif rdC l i then (l.getD i noDk).1 else 0 := rfl
    have eB : rdB l i = bif rdC l i then (l.getD i noDk).2.1 else 0 := rfl
    have eC : goodV (l.getD i (0, (0, (0, ())))) (i : Int) = rdC l i := rfl
    rw [eA, eB] at e
    rw [eC]
    cases ct : rdC l i
    · rw [ct] at e
      exact cF rfl e
    · rw [ct] at e
      refine cT rfl ?_
      unfold impl_Stripe_put.G
      rw [mid_set _ _ _ _ _ la, mid_set _ _ _ _ _ lb, mid_set _ _ _ _ _ lc, List.append_assoc, List.append_assoc, List.append_assoc]
      exact cT (irT (by omega) (by rw [mid_len, la]; omega)) (cT (irT (by omega) (by rw [mid_len, lb]; omega)) (cT (irT (by omega) (by rw [mid_len, lc]; omega)) e))
noncomputable def rdV (kind : Int) (l : List Dk') : List Int × List Int × List Bool × Int × Bool :=
  bif inV kind 1 2 && (decide (l.length = 8) && stripeV kind (rowN (rdA l) 8) (rowN (rdB l) 8) (rowN (rdC l) 8)) then (rowN (rdA l) 8, rowN (rdB l) 8, rowN (rdC l) 8, kind, true) else ([], [], [], 0, false)
theorem rdV_len (kind : Int) (l : List Dk') : (rdV kind l).1.length ≤ 1048576 ∧ (rdV kind l).2.1.length ≤ 1048576 ∧ (rdV kind l).2.2.1.length ≤ 1048576 := by
  unfold rdV
  cases inV kind 1 2 && (decide (l.length = 8) && stripeV kind (rowN (rdA l) 8) (rowN (rdB l) 8) (rowN (rdC l) 8))
  · simp
  · refine ⟨?_, ?_, ?_⟩
    · show (rowN (rdA l) 8).length ≤ _; rw [rowN_len]; omega
    · show (rowN (rdB l) 8).length ≤ _; rw [rowN_len]; omega
    · show (rowN (rdC l) 8).length ≤ _; rw [rowN_len]; omega
theorem specRd_G {β : Type} (kind : Int) {l : List Dk'} (h : l.length ≤ 1048576) (K : List Int → List Int → List Bool → Int → Bool → Option β) :
    spec_RotRead.G sl1 kind l K = K (rdV kind l).1 (rdV kind l).2.1 (rdV kind l).2.2.1 (rdV kind l).2.2.2.1 (rdV kind l).2.2.2.2 := by
  unfold spec_RotRead.G rdV
  refine (spec_kind _ _).trans ?_
  cases ck : inV kind 1 2
  · exact cT rfl rfl
  refine cF rfl ?_
  by_cases h8 : l.length = 8
  · rw [decide_eq_true h8]
    refine cF (neF (by omega)) ((srd_l _ none 0 kind h8 8 0 sl1.n (by omega) (by rw [rounds_n]; omega)).trans ((stripeOk_G _ _ _ _ (by rw [rowN_len]; omega) _).trans ?_))
    cases stripeV kind (rowN (rdA l) 8) (rowN (rdB l) 8) (rowN (rdC l) 8)
    · exact cT rfl rfl
    · exact cF rfl rfl
  · rw [decide_eq_false h8]
    exact cT (neT (by omega)) rfl
theorem implRd_G {β : Type} (kind : Int) {l : List Dk'} (h : l.length ≤ 1048576) (K : List Int → List Int → List Bool → Int → Bool → Option β) :
    impl_RotRead.G sl1 kind l K = K (rdV kind l).1 (rdV kind l).2.1 (rdV kind l).2.2.1 (rdV kind l).2.2.2.1 (rdV kind l).2.2.2.2 := by
  unfold impl_RotRead.G rdV
  refine (impl_in kind 1 2 _).trans ?_
  cases ck : inV kind 1 2
  · exact cT rfl rfl
  refine cF rfl ?_
  by_cases h8 : l.length = 8
  · rw [decide_eq_true h8]
    refine cF (neF (by omega)) (cT (by rfl) (cT (by rfl) (cT (by rfl) ((ird_l _ none 0 kind h8 8 0 sl1.n (by omega) (by rw [rounds_n]; omega)).trans ((stripeI_G _ _ _ _ _).trans ?_)))))
    cases stripeV kind (rowN (rdA l) 8) (rowN (rdB l) 8) (rowN (rdC l) 8)
    · exact cT rfl rfl
    · exact cF rfl rfl
  · rw [decide_eq_false h8]
    exact cT (neT (by omega)) rfl
end Go.Proofs.Ytfncgkdpigagmaa.E
namespace Go.Proofs.Ytfncgkdpigagmaa.Pure.FnExactRotRead
open Go Go.Proofs.Ytfncgkdpigagmaa.E
theorem pure (kind : Int) (l : List Dk') (hl : l.length ≤ 9223372036854775807) {β : Type} (K : Bool → Option β) : laws_FnExactRotRead.G sl1 kind l K = K true := by
  obtain ⟨y, hy, h⟩ := szDisk_or hl
  unfold laws_FnExactRotRead.G
  refine (hy _ _).trans ?_
  rcases h with h | ⟨h, l1⟩
  · exact cT (ltT h) rfl
  obtain ⟨m1, m2, m3⟩ := rdV_len kind l
  obtain ⟨a, k, hk, hm, hh⟩ := markDisk_E l1
  obtain ⟨a', b', c', k', hk', hm', hh'⟩ := markStripe_E (rdV kind l).2.2.2.1 m1 m2 m3
  refine cF (ltF h) ((toDisk_G l1 _).trans ((specRd_G kind l1 _).trans ((toDisk_G l1 _).trans ((implRd_G kind l1 _).trans ?_))))
  refine (eqStripe_G _ m1 m2 m3 _).trans (cF rfl (cF (bne_self_eq_false _) ((toDisk_G l1 _).trans ((eqDisk_G l1 _).trans (cF rfl ?_)))))
  refine (hm _ _).trans (cF (ltF hk) ((eqStripe_G _ m1 m2 m3 _).trans (cF rfl (cF (bne_self_eq_false _) ?_))))
  refine (hm' _ _).trans ((hh' _ _).trans (cF (ltF hk') (cF (neF rfl) ?_)))
  refine (toDisk_G l1 _).trans ((implRd_G kind l1 _).trans ((eqStripe_G _ m1 m2 m3 _).trans (cF rfl (cF (bne_self_eq_false _) ?_))))
  exact (hh' _ _).trans (cF (ltF hk') (cF (neF rfl) rfl))
end Go.Proofs.Ytfncgkdpigagmaa.Pure.FnExactRotRead
end
section
set_option linter.unusedVariables false
set_option linter.unusedSimpArgs false
namespace Go.Proofs.Ytfncgkdpigagmaa.fnExactRotRead
open Go.ChangeShapes Go.WideShapes Go.ChangeAt Go.RowKit
open Go.ChangeMaps (open_string shut_string)
set_option linter.unusedVariables false
theorem own : ownKnob Try.prog.godebug = none := by kernel_rfl
theorem laidOut : laidOutB Try.prog = true := by kernel_rfl
set_option maxRecDepth 100000 in
theorem lifted (os : Os) (started : os.Started) (H : Type) (enc : TypeId × Value → H) :
    ReturnsInHanded {} Try.checked os 6 .any (Rows.fnExactRotReadSpec.pre6 enc Try.prog Try.f6 Rows.fnExactRotReadRow.domain false) (Rows.fnExactRotReadSpec.post enc Try.prog Try.f6 false true false false) := by
  refine returnsInHanded_of_change_sized (C := Try.checked) own started (by kernel_rfl) Try.func6
    (ChangeSpec.witness6 (enc := enc) (C := Try.checked) false ⟨#[], #[.int .i64 0, .slice none 0 0], []⟩ 8 (by kernel_rfl) (by kernel_rfl) (by kernel_rfl) (by kernel_rfl)) ?_
  intro W base args ds gs before hval0 hW hcnd hsz0 _
  have hval : ∀ (j : Nat) t v, Try.f6.params[j]? = some t → args[j]? = some v → Value.okWide Try.prog W .any base t v := hval0
  have hW' := hW
  obtain ⟨p, q, hA0, hV, rfl, hfz, hnd⟩ := hW
  have hA : DataW.TrodAll enc Try.prog W 0 (fun _ => true) true Try.f6.params.toList args.toList ds p := hA0
  rw [Try.params6] at hA hval
  obtain ⟨v0, vs0, d0, ds0, p0, q0, hargs0, rfl, rfl, h0, r0⟩ := trodAll_cons hA
  obtain ⟨v1, vs1, d1, ds1, p1, q1, hargs1, rfl, rfl, h1, r1⟩ := trodAll_cons r0
  obtain ⟨rfl, rfl, rfl⟩ := trodAll_nil r1
  obtain rfl : args = #[v0, v1] := by cases args; simp_all
  obtain ⟨rfl, rfl⟩ := trodVars_none hV
  have k0 := h0
  have lt0 : ∀ x ∈ p0, x.block < W.heap.size := by obtain ⟨m, hm⟩ := k0; exact DataW.trod_lt m _ _ _ hm
  obtain ⟨x0, R0, Q0⟩ := E.arg_int Try.underlying3 (hval 0 3 v0 rfl rfl) h0
  have k1 := h1
  have lt1 : ∀ x ∈ p1, x.block < W.heap.size := by obtain ⟨m, hm⟩ := k1; exact DataW.trod_lt m _ _ _ hm
  obtain ⟨x1, R1, Q1⟩ := E.arg_slice Try.underlying47 (hval 1 47 v1 rfl rfl) h1 (E.Rd_slice Try.underlying47 (by kernel_rfl) (by decide) (E.Rd_struct Try.underlying70 (by kernel_rfl) (E.RdF_cons rfl (E.Rd_int Try.underlying3 (by kernel_rfl)) (E.RdF_cons rfl (E.Rd_int Try.underlying3 (by kernel_rfl)) (E.RdF_cons rfl (E.Rd_int Try.underlying3 (by kernel_rfl)) E.RdF_nil)))))
  clear hA0 hval0 hsz0
  have hp := Pure.FnExactRotRead.pure x0 x1 Q1.1 (fun b => some ((), (b, ())))
  rw [← E.sl_eq] at hp
  refine (E.law_any E.laws_FnExactRotRead.ok (s := (x0, (x1, ()))) hp (args := [v0, v1]) ⟨v0, _, rfl, R0, ⟨v1, _, rfl, R1, rfl⟩⟩).mono fun e W' ⟨he, bel⟩ => ?_
  subst he
  exact ⟨_, rfl, _, _, _, [], _, [], hW', trodAll_mk1 (shut_bool Try.underlying4 _), (trodAll_cons_mk (Below.trod laidOut (by kernel_rfl) (of_decide_eq_true (by kernel_rfl)) k0 bel lt0) (trodAll_cons_mk (Below.trod laidOut (by kernel_rfl) (of_decide_eq_true (by kernel_rfl)) k1 bel lt1) trodAll_mk0)), rfl, bel.frame _, fun h => by cases h⟩
theorem over : Rows.fnExactRotReadRow.holds Try.pinned (OpenSpec.ofChange Rows.fnExactRotReadSpec) :=
  OpenClaim.holds_of_wide 6 Try.f6 rfl rfl rfl rfl rfl rfl rfl ⟨rfl, rfl, rfl, rfl, rfl⟩ rfl rfl rfl rfl rfl (by kernel_rfl) Try.func6 (by kernel_rfl)
    (of_decide_eq_true (by kernel_rfl)) (by unfold Func.isWrapper; first | (rw [if_pos (by decide +kernel)]; kernel_rfl) | (rw [if_neg (by decide +kernel)]; exact ⟨rfl, rfl⟩))
    (fun os started H enc _ => lifted os started H enc)
theorem proved : Rows.FnExactRotReadSaid := over
#print axioms proved
end Go.Proofs.Ytfncgkdpigagmaa.fnExactRotRead
end
