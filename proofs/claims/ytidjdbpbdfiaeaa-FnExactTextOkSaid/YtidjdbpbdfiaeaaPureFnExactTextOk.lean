/- The program's TextOk answers as the reference's at every string; no condition. -/
import Derived.Test.YtidjdbpbdfiaeaaPFnExactTextOkx1
namespace Go.Proofs.Ytidjdbpbdfiaeaa.Pure
open Go.RowKit Go.Proofs.Ytidjdbpbdfiaeaa.PFnExactTextOk Go.Proofs.YtidjdbpbdfiaeaaW.PrintWords Go.Proofs.YtidjdbpbdfiaeaaW.PrintLast

theorem ev_posA {α : Type} {c : Prop} [Decidable c] {f g : Nat → Option α} {r : α} (h : c) (k : Ev f r) : Ev (fun n => if c then f n else g n) r := Ev.congr (fun _ => if_pos h) k
theorem ev_negA {α : Type} {c : Prop} [Decidable c] {f g : Nat → Option α} {r : α} (h : ¬ c) (k : Ev g r) : Ev (fun n => if c then f n else g n) r := Ev.congr (fun _ => if_neg h) k
theorem w64A {x : Int} (h1 : -9223372036854775808 ≤ x) (h2 : x < 9223372036854775808) : wrap64 x = x := by
  unfold wrap64; omega

def letsA (s : ByteArray) : Nat → Int → Bool
  | 0, _ => true
  | d + 1, i => (decide (97 ≤ bt s i) && decide (bt s i ≤ 122)) && letsA s d (i + 1)
def tokA (s : ByteArray) : Bool := letsA s s.size 0 && (decide (1 ≤ s.size) && decide (s.size ≤ 14))
theorem specOk_lA (s : ByteArray) (hs : s.size ≤ 140737488351232) (d : Nat) : ∀ (k : Nat) (i : Int), 0 ≤ i → i ≤ s.size → (s.size : Int) - i = d → d < k →
    spec_TextOk.l0 k s i = some (letsA s d i && (decide (1 ≤ s.size) && decide (s.size ≤ 14))) := by
  induction d with
  | zero =>
    intro k i h0 h1 hd hk
    obtain ⟨k, rfl⟩ : ∃ m, k = m + 1 := ⟨k - 1, by omega⟩
    simp only [spec_TextOk.l0, letsA, spec_l6In.f]
    rw [if_neg (by omega)]
    by_cases h : 1 ≤ s.size
    · rw [if_pos (by omega)]; simp [h]; omega
    · rw [if_neg (by omega)]; simp [h]
  | succ d ih =>
    intro k i h0 h1 hd hk
    obtain ⟨k, rfl⟩ : ∃ m, k = m + 1 := ⟨k - 1, by omega⟩
    have hb := bt_range s i
    simp only [spec_TextOk.l0, letsA, spec_l6In.f]
    rw [if_pos (by omega), if_pos h0, w64A (x := bt s i) (by omega) (by omega)]
    by_cases c1 : 97 ≤ bt s i
    · rw [if_pos c1]
      by_cases c2 : bt s i ≤ 122
      · simp only [Option.bind_some, c1, c2, decide_true, if_true, Bool.true_and]
        rw [w64A (by omega) (by omega)]
        exact ih k (i + 1) (by omega) (by omega) (by omega) (by omega)
      · simp [c2]
    · rw [if_neg c1]; simp [c1]
theorem implOk_lA (s : ByteArray) (hs : s.size ≤ 140737488351232) (d : Nat) : ∀ (k : Nat) (i : Int), 0 ≤ i → i ≤ s.size → (s.size : Int) - i = d → d < k →
    impl_TextOk.l0 k s (s.size : Int) i = some (letsA s d i && (decide (1 ≤ s.size) && decide (s.size ≤ 14))) := by
  induction d with
  | zero =>
    intro k i h0 h1 hd hk
    obtain ⟨k, rfl⟩ : ∃ m, k = m + 1 := ⟨k - 1, by omega⟩
    simp only [impl_TextOk.l0, letsA, impl_within.f]
    rw [if_neg (by omega)]
    by_cases h : 1 ≤ s.size
    · rw [if_pos (by omega)]; simp [h]; omega
    · rw [if_neg (by omega)]; simp [h]
  | succ d ih =>
    intro k i h0 h1 hd hk
    obtain ⟨k, rfl⟩ : ∃ m, k = m + 1 := ⟨k - 1, by omega⟩
    simp only [impl_TextOk.l0, letsA, impl_within.f]
    rw [if_pos (by omega), if_pos h0, if_pos (by omega)]
    by_cases c1 : bt s i < 97
    · rw [if_pos c1]
      have : ¬ (97 ≤ bt s i) := by omega
      simp [this]
    · rw [if_neg c1]
      have c1' : 97 ≤ bt s i := by omega
      by_cases c2 : bt s i > 122
      · rw [if_pos c2]
        have : ¬ (bt s i ≤ 122) := by omega
        simp [this]
      · rw [if_neg c2]
        have c2' : bt s i ≤ 122 := by omega
        simp only [c1', c2', decide_true, Bool.true_and]
        rw [w64A (by omega) (by omega)]
        exact ih k (i + 1) (by omega) (by omega) (by omega) (by omega)
theorem specOk_evA (s : ByteArray) (hs : s.size ≤ 140737488351232) : Ev (fun k => spec_TextOk.f k s) (tokA s) :=
  ⟨s.size + 1, fun k hk => by unfold spec_TextOk.f tokA; exact specOk_lA s hs s.size k 0 (by omega) (by omega) (by omega) (by omega)⟩
theorem implOk_evA (s : ByteArray) (hs : s.size ≤ 140737488351232) : Ev (fun k => impl_TextOk.f k s) (tokA s) :=
  ⟨s.size + 1, fun k hk => by unfold impl_TextOk.f tokA; exact implOk_lA s hs s.size k 0 (by omega) (by omega) (by omega) (by omega)⟩

theorem FnExactTextOk : laws_FnExactTextOk.Pure := by
  intro s hs
  refine Ev.rounds (g := fun k => laws_FnExactTextOk.f k s) (r := true) ?_
  unfold laws_FnExactTextOk.f
  by_cases h : (s.size : Int) > 1048576
  · simp only [if_pos h]; exact Ev.now true
  · simp only [if_neg h]
    refine (specOk_evA s hs).bind ((implOk_evA s hs).bind ?_)
    simp only [bne_self_eq_false, Bool.false_eq_true, if_false]
    exact Ev.now true

end Go.Proofs.Ytidjdbpbdfiaeaa.Pure
