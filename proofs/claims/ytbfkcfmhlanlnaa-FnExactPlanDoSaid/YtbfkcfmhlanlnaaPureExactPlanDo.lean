/- Of every plan and values: the program's PlanDo is the reference's; no condition. -/
import Derived.Test.YtbfkcfmhlanlnaaKRd
import Derived.Test.YtbfkcfmhlanlnaaKOk
import Derived.Test.YtbfkcfmhlanlnaaKxlawsFnExactPlanDo
namespace Go.Proofs.Ytbfkcfmhlanlnaa.Pure
set_option linter.unusedVariables false
set_option linter.unusedSimpArgs false
open Go.RowKit Go.Proofs.Ytbfkcfmhlanlnaa.K Go.Proofs.YtbfkcfmhlanlnaaW.PrintWords Go.Proofs.YtbfkcfmhlanlnaaW.PrintLast
theorem pv_pos {α : Type} {c : Prop} [Decidable c] {f g : Nat → Option α} {r : α} (h : c) (k : Ev f r) : Ev (fun n => if c then f n else g n) r := Ev.congr (fun _ => if_pos h) k
theorem pv_neg {α : Type} {c : Prop} [Decidable c] {f g : Nat → Option α} {r : α} (h : ¬ c) (k : Ev g r) : Ev (fun n => if c then f n else g n) r := Ev.congr (fun _ => if_neg h) k
theorem pv_call {α β : Type} {g : Option α} {f : Nat → α → Option β} {a : α} {r : β} (h : g = some a) (k : Ev (fun n => f n a) r) : Ev (fun n => g.bind (f n)) r := Ev.congr (fun n => by rw [h]; rfl) k
theorem pv_eq {α : Type} {g : Nat → Option α} {r r' : α} (h : Ev g r) (e : r = r') : Ev g r' := e ▸ h
theorem w64p {x : Int} (h1 : -9223372036854775808 ≤ x) (h2 : x < 9223372036854775808) : wrap64 x = x := by unfold wrap64; omega
theorem rd_get_p (l : List Int) (i : Nat) (h : i < l.length) : rd l (i : Int) = l[i] := by unfold rd; simp [h]
theorem specIn_p (a b c : Int) : spec_l6In.f a b c = some (decide (b ≤ a) && decide (a ≤ c)) := by
  unfold spec_l6In.f
  by_cases h : a ≥ b
  · rw [if_pos h]; simp [h]
  · rw [if_neg h]; simp [h]
theorem within_p (a b c : Int) : impl_within.f a b c = some (decide (b ≤ a) && decide (a ≤ c)) := by
  unfold impl_within.f
  by_cases h : a ≥ b
  · rw [if_pos h]; simp [h]
  · rw [if_neg h]; simp [h]
theorem shardOk_p (a : Int) : impl_shardOk.f a = some (decide (0 ≤ a) && decide (a ≤ 7)) := by unfold impl_shardOk.f; rw [within_p]; rfl
theorem specFld_p (n : Int) : spec_FieldOk.f n = some (fld n) := by unfold spec_FieldOk.f; rw [specIn_p]; rfl
theorem fld_p (n : Int) : fld n = true ↔ 0 ≤ n ∧ n ≤ 30 := by unfold fld; simp
def fps (a b : Int) : Int := (a + b) % 31
def fms (a b : Int) : Int := (a * b) % 31
theorem elementOf_p (n : Int) (h1 : 0 ≤ n) (_h2 : n ≤ 1000000) : impl_elementOf.f n = some (n % 31) := by
  unfold impl_elementOf.f
  rw [Int.tmod_eq_emod_of_nonneg h1, w64p (by omega) (by omega), Int.tmod_eq_emod_of_nonneg (by omega)]
  congr 1
  omega
theorem plus_p (a b : Int) (ha : fld a = true) (hb : fld b = true) : impl_element_plus.f a b = some (fps a b) := by
  rw [fld_p] at ha hb
  unfold impl_element_plus.f fps
  rw [w64p (by omega) (by omega), elementOf_p _ (by omega) (by omega)]; rfl
theorem mul_p {a b : Int} (ha : 0 ≤ a ∧ a ≤ 30) (hb : 0 ≤ b ∧ b ≤ 30) : 0 ≤ a * b ∧ a * b ≤ 900 := by
  refine ⟨Int.mul_nonneg ha.1 hb.1, ?_⟩
  have h1 : a * b ≤ 30 * b := Int.mul_le_mul_of_nonneg_right ha.2 hb.1
  omega
theorem times_p (a b : Int) (ha : fld a = true) (hb : fld b = true) : impl_element_times.f a b = some (fms a b) := by
  rw [fld_p] at ha hb
  have h := mul_p ha hb
  unfold impl_element_times.f fms
  rw [w64p (by omega) (by omega), elementOf_p _ (by omega) (by omega)]; rfl
theorem fps_fld (a b : Int) : fld (fps a b) = true := by rw [fld_p]; unfold fps; omega
theorem fms_fld (a b : Int) : fld (fms a b) = true := by rw [fld_p]; unfold fms; omega
/-! ### well formed -/
def allFrom (p : Nat → Bool) : Nat → Nat → Bool
  | _, 0 => true
  | i, d + 1 => p i && allFrom p (i + 1) d
theorem allFrom_and (p q : Nat → Bool) : ∀ (d i : Nat), allFrom (fun j => p j && q j) i d = (allFrom p i d && allFrom q i d)
  | 0, i => rfl
  | d + 1, i => by
    simp only [allFrom, allFrom_and p q d (i + 1)]
    cases p i <;> cases q i <;> cases allFrom p (i + 1) d <;> cases allFrom q (i + 1) d <;> rfl
def okAt (lost : Int) (l : List Int) (i : Nat) : Bool := (decide (0 ≤ rd l i) && decide (rd l i ≤ 7)) && (!decide (rd l i = lost) && !(decide (0 < i) && decide (rd l ((i : Int) - 1) ≥ rd l i)))
def byAt (l : List Int) (i : Nat) : Bool := decide (1 ≤ rd l i) && decide (rd l i ≤ 30)
def formedB (lost : Int) (from_ by_ : List Int) : Bool := allFrom (okAt lost from_) 0 from_.length && (allFrom (byAt by_) 0 by_.length && ((decide (0 ≤ lost) && decide (lost ≤ 7)) && (decide (by_.length = from_.length) && (decide (1 ≤ from_.length) && decide (from_.length ≤ 4)))))
theorem form_l1 (lost : Int) (from_ by_ : List Int) (hb : by_.length ≤ 1048576) (d : Nat) : ∀ (i : Nat), i + d = by_.length → Ev (fun k => spec_l11Form.l1 k (i : Int) lost from_ by_) (allFrom (byAt by_) i d && ((decide (0 ≤ lost) && decide (lost ≤ 7)) && (decide (by_.length = from_.length) && (decide (1 ≤ from_.length) && decide (from_.length ≤ 4))))) := by
  induction d with
  | zero =>
    intro i hi
    refine Ev.step (fun k => by rw [spec_l11Form.l1]) ?_
    refine pv_neg (by omega) (pv_call (specIn_p _ _ _) ?_)
    simp only [allFrom, Bool.true_and]
    by_cases c : (decide (0 ≤ lost) && decide (lost ≤ 7)) = true
    · rw [c, Bool.true_and]
      refine pv_pos rfl ?_
      by_cases c2 : by_.length = from_.length
      · refine pv_pos (by omega) (pv_call (specIn_p _ _ _) (pv_eq (Ev.now _) ?_))
        rw [decide_eq_true c2, Bool.true_and]
        congr 1 <;> exact decide_eq_decide.mpr (by omega)
      · refine pv_neg (by omega) (pv_eq (Ev.now _) ?_)
        rw [decide_eq_false c2, Bool.false_and]
    · rw [Bool.not_eq_true] at c
      rw [c, Bool.false_and]
      exact pv_neg (by simp) (Ev.now _)
  | succ d ih =>
    intro i hi
    refine Ev.step (fun k => by rw [spec_l11Form.l1]) ?_
    refine pv_pos (by omega) (pv_pos (by omega) (pv_call (specIn_p _ _ _) ?_))
    rw [w64p (by omega) (by omega), show ((i : Int) + 1) = ((i + 1 : Nat) : Int) by omega]
    show Ev _ ((byAt by_ i && allFrom (byAt by_) (i + 1) d) && _)
    unfold byAt
    by_cases c : (decide (1 ≤ rd by_ (i : Int)) && decide (rd by_ (i : Int) ≤ 30)) = true
    · rw [c, Bool.true_and]
      exact pv_pos rfl (ih (i + 1) (by omega))
    · rw [Bool.not_eq_true] at c
      rw [c, Bool.false_and, Bool.false_and]
      exact pv_neg (by simp) (Ev.now _)
theorem form_l0 (lost : Int) (from_ by_ : List Int) (hf : from_.length ≤ 1048576) (hb : by_.length ≤ 1048576) (d : Nat) : ∀ (i : Nat), i + d = from_.length → Ev (fun k => spec_l11Form.l0 k (i : Int) lost from_ by_) (allFrom (okAt lost from_) i d && (allFrom (byAt by_) 0 by_.length && ((decide (0 ≤ lost) && decide (lost ≤ 7)) && (decide (by_.length = from_.length) && (decide (1 ≤ from_.length) && decide (from_.length ≤ 4)))))) := by
  induction d with
  | zero =>
    intro i hi
    refine Ev.step (fun k => by rw [spec_l11Form.l0]) ?_
    refine pv_neg (by omega) ?_
    simp only [allFrom, Bool.true_and]
    exact form_l1 lost from_ by_ hb by_.length 0 (by omega)
  | succ d ih =>
    intro i hi
    refine Ev.step (fun k => by rw [spec_l11Form.l0]) ?_
    refine pv_pos (by omega) (pv_pos (by omega) (pv_call (specIn_p _ _ _) ?_))
    show Ev _ ((okAt lost from_ i && allFrom (okAt lost from_) (i + 1) d) && _)
    have hn := ih (i + 1) (by omega)
    rw [show ((i + 1 : Nat) : Int) = (i : Int) + 1 by omega] at hn
    rw [w64p (x := (i : Int) + 1) (by omega) (by omega), w64p (x := (i : Int) - 1) (by omega) (by omega)]
    generalize allFrom (okAt lost from_) (i + 1) d = R at hn ⊢
    unfold okAt
    by_cases c : (decide (0 ≤ rd from_ (i : Int)) && decide (rd from_ (i : Int) ≤ 7)) = true
    · rw [c, Bool.true_and]
      refine pv_pos rfl ?_
      by_cases c1 : rd from_ (i : Int) = lost
      · rw [decide_eq_true c1]
        exact pv_pos c1 (pv_eq (Ev.now _) (by simp))
      · rw [decide_eq_false c1]
        refine pv_neg c1 ?_
        by_cases c2 : 0 < i
        · refine pv_pos (by omega) (pv_pos (by omega) (pv_pos (by omega) ?_))
          rw [decide_eq_true c2]
          by_cases c3 : rd from_ ((i : Int) - 1) ≥ rd from_ (i : Int)
          · rw [decide_eq_true c3]
            exact pv_pos c3 (pv_eq (Ev.now _) (by simp))
          · rw [decide_eq_false c3]
            exact pv_neg c3 (pv_eq hn (by simp))
        · rw [decide_eq_false c2]
          exact pv_neg (by omega) (pv_eq hn (by simp))
    · rw [Bool.not_eq_true] at c
      rw [c, Bool.false_and, Bool.false_and, Bool.false_and]
      exact pv_neg (by simp) (Ev.now _)
theorem specForm_ev (lost : Int) (from_ by_ : List Int) (hf : from_.length ≤ 1048576) (hb : by_.length ≤ 1048576) : Ev (fun k => spec_l11Form.f k lost from_ by_) (formedB lost from_ by_) :=
  form_l0 lost from_ by_ hf hb from_.length 0 (by omega)
theorem iform_l0 (lost : Int) (from_ by_ : List Int) (hf : from_.length ≤ 1048576) (hb : by_.length = from_.length) (d : Nat) : ∀ (i : Nat), i + d = from_.length → Ev (fun k => impl_Plan_formed.l0 k from_ (from_.length : Int) (i : Int) lost from_ by_) (allFrom (fun j => okAt lost from_ j && byAt by_ j) i d) := by
  induction d with
  | zero =>
    intro i hi
    refine Ev.step (fun k => by rw [impl_Plan_formed.l0]) ?_
    exact pv_neg (by omega) (Ev.now _)
  | succ d ih =>
    intro i hi
    have hn := ih (i + 1) (by omega)
    rw [show ((i + 1 : Nat) : Int) = (i : Int) + 1 by omega] at hn
    refine Ev.step (fun k => by rw [impl_Plan_formed.l0]) ?_
    refine pv_pos (by omega) (pv_pos (by omega) (pv_pos (by omega) (pv_call (shardOk_p _) ?_)))
    rw [w64p (x := (i : Int) + 1) (by omega) (by omega), w64p (x := (i : Int) - 1) (by omega) (by omega)]
    show Ev _ ((okAt lost from_ i && byAt by_ i) && allFrom _ (i + 1) d)
    have hend : Ev (fun k => if (i : Int) < (by_.length : Int) then ((impl_within.f (rd by_ (i : Int)) 1 30).bind fun t => (if t = true then (impl_Plan_formed.l0 k from_ (from_.length : Int) ((i : Int) + 1) lost from_ by_) else (some false))) else none) (byAt by_ i && allFrom (fun j => okAt lost from_ j && byAt by_ j) (i + 1) d) := by
      refine pv_pos (by omega) (pv_call (within_p _ _ _) ?_)
      show Ev _ ((decide (1 ≤ rd by_ (i : Int)) && decide (rd by_ (i : Int) ≤ 30)) && _)
      by_cases c : (decide (1 ≤ rd by_ (i : Int)) && decide (rd by_ (i : Int) ≤ 30)) = true
      · rw [c, Bool.true_and]
        exact pv_pos rfl hn
      · rw [Bool.not_eq_true] at c
        rw [c, Bool.false_and]
        exact pv_neg (by simp) (Ev.now _)
    unfold okAt
    by_cases c : (decide (0 ≤ rd from_ (i : Int)) && decide (rd from_ (i : Int) ≤ 7)) = true
    · rw [c, Bool.true_and]
      refine pv_pos rfl ?_
      by_cases c1 : rd from_ (i : Int) = lost
      · rw [decide_eq_true c1]
        exact pv_pos c1 (pv_eq (Ev.now _) (by simp))
      · rw [decide_eq_false c1]
        refine pv_neg c1 ?_
        by_cases c2 : 0 < i
        · refine pv_pos (by omega) (pv_pos (by omega) (pv_pos (by omega) ?_))
          rw [decide_eq_true c2]
          by_cases c3 : rd from_ ((i : Int) - 1) ≥ rd from_ (i : Int)
          · rw [decide_eq_true c3]
            exact pv_pos c3 (pv_eq (Ev.now _) (by simp))
          · rw [decide_eq_false c3]
            exact pv_neg c3 (pv_eq hend (by simp [okAt]))
        · rw [decide_eq_false c2]
          exact pv_neg (by omega) (pv_eq hend (by simp [okAt]))
    · rw [Bool.not_eq_true] at c
      rw [c, Bool.false_and, Bool.false_and, Bool.false_and]
      exact pv_neg (by simp) (Ev.now _)
theorem implForm_ev (lost : Int) (from_ by_ : List Int) (hf : from_.length ≤ 1048576) (hb : by_.length ≤ 1048576) : Ev (fun k => impl_Plan_formed.f k lost from_ by_) (formedB lost from_ by_) := by
  have hj : ∀ r, (r = false) → Ev (fun k => impl_Plan_formed.j0 k true lost from_ by_) r := fun r hr => by
    subst hr
    refine Ev.step (fun k => by rw [impl_Plan_formed.j0]) ?_
    exact pv_pos rfl (Ev.now _)
  unfold impl_Plan_formed.f
  refine pv_call (shardOk_p _) ?_
  by_cases c : (decide (0 ≤ lost) && decide (lost ≤ 7)) = true
  · refine pv_pos c (pv_call (within_p _ _ _) ?_)
    by_cases c1 : (decide ((1 : Int) ≤ (from_.length : Int)) && decide ((from_.length : Int) ≤ 4)) = true
    · refine pv_pos c1 ?_
      refine Ev.step (fun k => by rw [impl_Plan_formed.j0]) ?_
      by_cases c2 : by_.length = from_.length
      · refine pv_neg (by simp; omega) (pv_eq (iform_l0 lost from_ by_ hf c2 from_.length 0 (by omega)) ?_)
        rw [allFrom_and]
        unfold formedB
        rw [c, c2, decide_eq_true rfl]
        simp only [Bool.and_eq_true, decide_eq_true_eq] at c1
        rw [decide_eq_true (show 1 ≤ from_.length by omega), decide_eq_true (show from_.length ≤ 4 by omega)]
        simp
      · refine pv_pos (by simp; omega) (pv_eq (Ev.now _) ?_)
        unfold formedB
        rw [decide_eq_false c2]; simp
    · refine pv_neg c1 (hj _ ?_)
      unfold formedB
      have : (decide (1 ≤ from_.length) && decide (from_.length ≤ 4)) = false := by
        rw [Bool.not_eq_true] at c1
        rw [← c1]
        congr 1 <;> exact decide_eq_decide.mpr (by omega)
      rw [this]; simp
  · refine pv_neg c (hj _ ?_)
    rw [Bool.not_eq_true] at c
    unfold formedB
    rw [c]; simp
theorem allFrom_at (p : Nat → Bool) : ∀ (d i : Nat), allFrom p i d = true → ∀ j, i ≤ j → j < i + d → p j = true
  | 0, i, _, j, h1, h2 => by omega
  | d + 1, i, h, j, h1, h2 => by
    simp only [allFrom, Bool.and_eq_true] at h
    by_cases c : j = i
    · subst c; exact h.1
    · exact allFrom_at p d (i + 1) h.2 j (by omega) (by omega)
/-! ### values -/
theorem vals_l (l : List Int) (z : List Bool) (hz : z.length = 8) (hl : l.length ≤ 1048576) (d : Nat) : ∀ (i : Nat), i + d = l.length → Ev (fun k => spec_l4Vals.l0 k l z (i : Int)) ((l.drop i).all fld && decide (l.length = 8)) := by
  induction d with
  | zero =>
    intro i hi
    refine Ev.step (fun k => rfl) (pv_neg (by omega) ?_)
    rw [List.drop_eq_nil_of_le (by omega), List.all_nil, Bool.true_and]
    by_cases h : l.length = 8
    · refine pv_pos (by omega) (pv_eq (Ev.now _) ?_)
      rw [h, hz]; rfl
    · refine pv_neg (by omega) (pv_eq (Ev.now _) ?_)
      rw [decide_eq_false h]
  | succ d ih =>
    intro i hi
    have hlt : i < l.length := by omega
    refine Ev.step (fun k => rfl) (pv_pos (by omega) (pv_pos (by omega) (pv_call (specFld_p _) ?_)))
    rw [rd_get_p l i hlt, List.drop_eq_getElem_cons hlt, List.all_cons]
    by_cases c : fld l[i] = true
    · rw [c]
      refine pv_pos rfl ?_
      rw [w64p (by omega) (by omega), Bool.true_and]
      exact ih (i + 1) (by omega)
    · rw [Bool.not_eq_true] at c
      rw [c]
      exact pv_neg (by simp) (Ev.now _)
def valsB (l : List Int) : Bool := l.all fld && decide (l.length = 8)
theorem specVals_ev (l : List Int) (hl : l.length ≤ 1048576) : Ev (fun k => spec_l4Vals.f k l (List.replicate 8 false)) (valsB l) := by
  have := vals_l l (List.replicate 8 false) (by simp) hl l.length 0 (by omega)
  exact pv_eq this (by unfold valsB; rw [List.drop_zero])
theorem implVals_p (l : List Int) (hl : l.length ≤ 1048576) : impl_valsOk.f l = some (valsB l) := by
  unfold impl_valsOk.f impl_elementsOk.f valsB
  rw [if_pos (by omega), Option.bind_some]
  congr 1
  rw [Bool.and_comm]
  congr 1
  exact decide_eq_decide.mpr (by omega)
/-! ### the sum -/
def sumB (vals from_ by_ : List Int) : Nat → Nat → Int → Int
  | _, 0, acc => acc
  | i, d + 1, acc => sumB vals from_ by_ (i + 1) d (fps acc (fms (rd by_ i) (rd vals (rd from_ i))))
theorem rd_fld (vals : List Int) (h : valsB vals = true) (i : Int) (h0 : 0 ≤ i) (h7 : i ≤ 7) : fld (rd vals i) = true := by
  unfold valsB at h
  rw [Bool.and_eq_true, List.all_eq_true, decide_eq_true_eq] at h
  have hi : i.toNat < vals.length := by omega
  unfold rd
  rw [show vals.getD i.toNat 0 = vals[i.toNat] by simp [hi]]
  exact h.1 _ (List.getElem_mem _)
theorem specDo_l (lost : Int) (vals from_ by_ : List Int) (hf : from_.length ≤ 1048576) (hb : by_.length = from_.length) (hv : valsB vals = true) (hok : ∀ j, j < from_.length → (0 ≤ rd from_ (j : Int) ∧ rd from_ (j : Int) ≤ 7) ∧ fld (rd by_ (j : Int)) = true) (d : Nat) :
    ∀ (i : Nat) (acc : Int), i + d = from_.length → fld acc = true → Ev (fun k => spec_l11Do.l0 k vals acc (i : Int) lost from_ by_) (sumB vals from_ by_ i d acc) := by
  have h8 : vals.length = 8 := by
    unfold valsB at hv; rw [Bool.and_eq_true, decide_eq_true_eq] at hv; exact hv.2
  induction d with
  | zero =>
    intro i acc hi ha
    exact Ev.step (fun k => rfl) (pv_neg (by omega) (Ev.now _))
  | succ d ih =>
    intro i acc hi ha
    obtain ⟨⟨h1, h2⟩, h3⟩ := hok i (by omega)
    have h4 := rd_fld vals hv _ h1 h2
    refine Ev.step (fun k => rfl) (pv_pos (by omega) (pv_pos (by omega) (pv_pos (by omega) (pv_pos h1 (pv_pos (by omega) ?_)))))
    have he : Int.tmod (wrap64 (acc + (wrap64 ((rd by_ (i : Int)) * (rd vals (rd from_ (i : Int))))))) 31 = fps acc (fms (rd by_ (i : Int)) (rd vals (rd from_ (i : Int)))) := by
      rw [fld_p] at ha h3 h4
      have hm := mul_p h3 h4
      rw [w64p (x := _ * _) (by omega) (by omega), w64p (by omega) (by omega), Int.tmod_eq_emod_of_nonneg (by omega)]
      unfold fps fms
      omega
    rw [he, w64p (by omega) (by omega), show ((i : Int) + 1) = ((i + 1 : Nat) : Int) by omega]
    exact ih (i + 1) _ (by omega) (fps_fld _ _)
theorem implDo_l (lost : Int) (vals from_ by_ : List Int) (hf : from_.length ≤ 1048576) (hb : by_.length = from_.length) (hv : valsB vals = true) (hok : ∀ j, j < from_.length → (0 ≤ rd from_ (j : Int) ∧ rd from_ (j : Int) ≤ 7) ∧ fld (rd by_ (j : Int)) = true) (d : Nat) :
    ∀ (i : Nat) (acc : Int), i + d = from_.length → fld acc = true → Ev (fun k => impl_Plan_do.l0 k vals acc from_ (from_.length : Int) (i : Int) lost from_ by_) (sumB vals from_ by_ i d acc) := by
  have h8 : vals.length = 8 := by
    unfold valsB at hv; rw [Bool.and_eq_true, decide_eq_true_eq] at hv; exact hv.2
  induction d with
  | zero =>
    intro i acc hi ha
    exact Ev.step (fun k => rfl) (pv_neg (by omega) (Ev.now _))
  | succ d ih =>
    intro i acc hi ha
    obtain ⟨⟨h1, h2⟩, h3⟩ := hok i (by omega)
    have h4 := rd_fld vals hv _ h1 h2
    refine Ev.step (fun k => rfl) (pv_pos (by omega) (pv_pos (by omega) (pv_pos (by omega) (pv_pos h1 (pv_pos (by omega) (pv_pos (by omega) ?_))))))
    refine pv_call (times_p _ _ h4 h3) (pv_call (plus_p _ _ ha (fms_fld _ _)) ?_)
    rw [w64p (by omega) (by omega), show ((i : Int) + 1) = ((i + 1 : Nat) : Int) by omega]
    have hc : fms (rd vals (rd from_ (i : Int))) (rd by_ (i : Int)) = fms (rd by_ (i : Int)) (rd vals (rd from_ (i : Int))) := by unfold fms; rw [Int.mul_comm]
    rw [hc]
    exact ih (i + 1) _ (by omega) (fps_fld _ _)
theorem formed_facts (lost : Int) (from_ by_ : List Int) (h : formedB lost from_ by_ = true) : by_.length = from_.length ∧ ∀ j, j < from_.length → (0 ≤ rd from_ (j : Int) ∧ rd from_ (j : Int) ≤ 7) ∧ fld (rd by_ (j : Int)) = true := by
  unfold formedB at h
  simp only [Bool.and_eq_true, decide_eq_true_eq] at h
  obtain ⟨h1, h2, _, h3, _⟩ := h
  refine ⟨h3, fun j hj => ?_⟩
  have a1 := allFrom_at _ _ _ h1 j (by omega) (by omega)
  have a2 := allFrom_at _ _ _ h2 j (by omega) (by omega)
  unfold okAt at a1
  unfold byAt at a2
  simp only [Bool.and_eq_true, decide_eq_true_eq] at a1 a2
  exact ⟨a1.1, by rw [fld_p]; omega⟩
theorem planDo_ev (lost : Int) (vals from_ by_ : List Int) (hf : from_.length ≤ 1048576) (hb : by_.length ≤ 1048576) (hv : vals.length ≤ 1048576) : ∃ x, Ev (fun k => spec_PlanDo.f k lost from_ by_ vals) x ∧ Ev (fun k => impl_PlanDo.f k lost from_ by_ vals) x := by
  have s1 := specForm_ev lost from_ by_ hf hb
  have i1 := implForm_ev lost from_ by_ hf hb
  by_cases c : formedB lost from_ by_ = true
  · rw [c] at s1 i1
    by_cases c2 : valsB vals = true
    · obtain ⟨h1, h2⟩ := formed_facts _ _ _ c
      have hs2 := specVals_ev vals hv
      rw [c2] at hs2
      refine ⟨(sumB vals from_ by_ 0 from_.length 0, true), s1.bind (pv_pos rfl (pv_pos (by omega) (hs2.bind (pv_pos rfl ((specDo_l lost vals from_ by_ hf h1 c2 h2 from_.length 0 0 (by omega) rfl).bind (Ev.now _)))))), i1.bind (pv_pos rfl (pv_call (implVals_p vals hv) (pv_pos c2 ((implDo_l lost vals from_ by_ hf h1 c2 h2 from_.length 0 0 (by omega) rfl).bind (Ev.now _)))))⟩
    · have hs2 := specVals_ev vals hv
      exact ⟨(0, false), s1.bind (pv_pos rfl (pv_pos (by omega) (hs2.bind (pv_neg c2 (Ev.now _))))), i1.bind (pv_pos rfl (pv_call (implVals_p vals hv) (pv_neg c2 (Ev.now _))))⟩
  · exact ⟨(0, false), s1.bind (pv_neg c (Ev.now _)), i1.bind (pv_neg c (Ev.now _))⟩
theorem toIntS_lp (l : List Int) (hl : l.length ≤ 17592186043904) (d : Nat) : ∀ (i : Nat) (acc : List Int), i + d = l.length → acc.length = l.length →
    Ev (fun k => laws_toIntS.l0 k l acc (i : Int)) (acc.take i ++ l.drop i) := by
  induction d with
  | zero =>
    intro i acc hi ha
    refine Ev.step (fun k => rfl) (pv_neg (by omega) (pv_eq (Ev.now _) ?_))
    rw [List.take_of_length_le (by omega), List.drop_eq_nil_of_le (by omega), List.append_nil]
  | succ d ih =>
    intro i acc hi ha
    have hlt : i < l.length := by omega
    refine Ev.step (fun k => rfl) (pv_pos (by omega) (pv_pos (by omega) (pv_pos (by omega) ?_)))
    rw [rd_get_p l i hlt, w64p (by omega) (by omega), show ((i : Int) + 1) = ((i + 1 : Nat) : Int) by omega, Int.toNat_natCast]
    refine pv_eq (ih (i + 1) (acc.set i l[i]) (by omega) (by simp [ha])) ?_
    have h1 : i < (acc.set i l[i]).length := by simp; omega
    rw [List.take_succ_eq_append_getElem h1, List.getElem_set_self, List.take_set_of_le (Nat.le_refl i), List.append_assoc, List.drop_eq_getElem_cons hlt]
    rfl
theorem toIntS_p (l : List Int) (hl : l.length ≤ 17592186043904) : Ev (fun k => laws_toIntS.f k l) l := by
  unfold laws_toIntS.f
  refine pv_pos (by omega) (pv_pos (by omega) ?_)
  rw [Int.toNat_natCast]
  exact toIntS_lp l hl l.length 0 _ (by omega) (by simp)
theorem eqIntS_lp (a b : List Int) (hl : a.length ≤ 140737488351232) (h : a.length = b.length) (d : Nat) : ∀ (i : Nat), i + d = a.length → Ev (fun k => laws_eqIntS.l0 k a b (i : Int)) (decide (a.drop i = b.drop i)) := by
  induction d with
  | zero =>
    intro i hi
    refine Ev.step (fun k => rfl) (pv_neg (by omega) (pv_eq (Ev.now _) ?_))
    rw [List.drop_eq_nil_of_le (by omega), List.drop_eq_nil_of_le (by omega)]; simp
  | succ d ih =>
    intro i hi
    have hlt : i < a.length := by omega
    have hlt2 : i < b.length := by omega
    refine Ev.step (fun k => rfl) (pv_pos (by omega) (pv_pos (by omega) (pv_pos (by omega) ?_)))
    rw [rd_get_p a i hlt, rd_get_p b i hlt2, w64p (by omega) (by omega), show ((i : Int) + 1) = ((i + 1 : Nat) : Int) by omega]
    have ea : a.drop i = a[i] :: a.drop (i + 1) := List.drop_eq_getElem_cons hlt
    have eb : b.drop i = b[i] :: b.drop (i + 1) := List.drop_eq_getElem_cons hlt2
    generalize a.drop i = da at *
    generalize b.drop i = db at *
    by_cases c : a[i] = b[i]
    · refine pv_pos c (pv_eq (ih (i + 1) (by omega)) ?_)
      rw [ea, eb, c]; exact decide_eq_decide.mpr (by rw [List.cons.injEq]; exact ⟨fun h => ⟨rfl, h⟩, fun h => h.2⟩)
    · refine pv_neg c (pv_eq (Ev.now _) ?_)
      rw [ea, eb]; exact (decide_eq_false (by rw [List.cons.injEq]; exact fun h => c h.1)).symm
theorem eqIntS_p (a b : List Int) (hl : a.length ≤ 140737488351232) : Ev (fun k => laws_eqIntS.f k a b) (decide (a = b)) := by
  unfold laws_eqIntS.f
  by_cases c : a.length = b.length
  · refine pv_pos (by omega) (pv_eq (eqIntS_lp a b hl c a.length 0 (by omega)) ?_)
    simp
  · refine pv_neg (by omega) (pv_eq (Ev.now _) ?_)
    symm
    rw [decide_eq_false_iff_not]
    intro h
    exact c (by rw [h])
theorem szS_p (l : List Int) (a : Int) (hl : l.length ≤ maxLen) (h0 : 0 ≤ a) (h1 : a ≤ 1048576) : laws_szIntS.f l a = some (if a - l.length < 0 then -1 else a - l.length) := by
  have hM : maxLen = 9223372036854775807 := rfl
  unfold laws_szIntS.f
  rw [w64p (by omega) (by omega)]
  split <;> rfl
theorem FnExactPlanDo : ∀ (x0 : S56) (l1 : List Int), q56 x0 → (l1.length ≤ maxLen ∧ ∀ y_ ∈ l1, (Lit.int .i64 y_).wf = true) → ∃ k, laws_FnExactPlanDo.f k x0.f0 x0.f1 x0.f2 l1 = some true := by
  rintro ⟨lost, from_, by_⟩ vals ⟨_, ⟨hf, _⟩, ⟨hb, _⟩⟩ ⟨hv, _⟩
  dsimp only at hf hb ⊢
  refine Ev.rounds (g := fun k => laws_FnExactPlanDo.f k lost from_ by_ vals) (r := true) ?_
  unfold laws_FnExactPlanDo.f
  by_cases c : (vals.length : Int) > 1048576
  · exact pv_pos c (Ev.now _)
  refine pv_neg c ?_
  have hM : maxLen = 9223372036854775807 := rfl
  have hsz : ∃ t, laws_szPlan.f lost from_ by_ 1048576 = some t ∧ (¬ t < 0 → from_.length ≤ 1048576 ∧ by_.length ≤ 1048576) := by
    unfold laws_szPlan.f
    rw [szS_p from_ _ hf (by omega) (by omega), Option.bind_some]
    by_cases c1 : (1048576 : Int) - from_.length < 0
    · rw [if_pos c1, if_pos (by omega)]; exact ⟨_, rfl, fun h => absurd (by omega) h⟩
    · rw [if_neg c1, if_neg c1, szS_p by_ _ hb (by omega) (by omega), Option.bind_some]
      by_cases c2 : (1048576 : Int) - from_.length - by_.length < 0
      · rw [if_pos c2, if_pos (by omega)]; exact ⟨_, rfl, fun h => absurd (by omega) h⟩
      · rw [if_neg c2, if_neg c2]; exact ⟨_, rfl, fun h => ⟨by omega, by omega⟩⟩
  obtain ⟨t, ht, hb2⟩ := hsz
  refine pv_call ht ?_
  by_cases c3 : t < 0
  · exact pv_pos c3 (Ev.now _)
  refine pv_neg c3 ?_
  obtain ⟨h1, h2⟩ := hb2 c3
  have hp : Ev (fun k => laws_toPlan.f k lost from_ by_) (lost, from_, by_) := (toIntS_p from_ (by omega)).bind ((toIntS_p by_ (by omega)).bind (Ev.now _))
  have hto := toIntS_p vals (by omega)
  obtain ⟨x, hx, hy⟩ := planDo_ev lost vals from_ by_ h1 h2 (by omega)
  refine hp.bind (hto.bind (hx.bind (hp.bind (hto.bind (hy.bind (pv_pos rfl ?_))))))
  refine Ev.step (fun k => by rw [laws_FnExactPlanDo.j0]) ?_
  refine pv_neg (by simp) ?_
  have e1 := pv_eq (eqIntS_p from_ from_ (by omega)) (show _ = true by simp)
  have e2 := pv_eq (eqIntS_p by_ by_ (by omega)) (show _ = true by simp)
  have e3 := pv_eq (eqIntS_p vals vals (by omega)) (show _ = true by simp)
  have hq : Ev (fun k => laws_eqPlan.f k lost from_ by_ lost from_ by_) true := pv_pos rfl (e1.bind (pv_pos rfl (e2.bind (pv_pos rfl (Ev.now _)))))
  exact hp.bind (hq.bind (pv_pos rfl (hto.bind (e3.bind (pv_pos rfl (Ev.now _))))))
end Go.Proofs.Ytbfkcfmhlanlnaa.Pure
