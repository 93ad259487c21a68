/- Contracts of TextOk, TextCut and TextRows in closed form. -/
import Derived.Test.YtbfkcfmhlanlnaaKCut
namespace Go.Proofs.Ytbfkcfmhlanlnaa.K
set_option linter.unusedVariables false
set_option linter.unusedSimpArgs false
open Go.RowKit Go.Proofs.YtbfkcfmhlanlnaaW.PrintWords Go.Proofs.YtbfkcfmhlanlnaaW.PrintLast Go.Proofs.YtbfkcfmhlanlnaaW.PrintMore
theorem w64t {x : Int} (h1 : -9223372036854775808 ≤ x) (h2 : x < 9223372036854775808) : wrap64 x = x := by unfold wrap64; omega
def lets (s : ByteArray) : Nat → Int → Bool
  | 0, _ => true
  | d + 1, i => (decide (97 ≤ bt s i) && decide (bt s i ≤ 122)) && lets s d (i + 1)
/-- A text: letters alone, 1 to 14 of them. -/
def tok (s : ByteArray) : Bool := lets s s.size 0 && (decide (1 ≤ s.size) && decide (s.size ≤ 14))
theorem implOk_l (s : ByteArray) (hs : s.size ≤ 140737488351232) (d : Nat) : ∀ (k : Nat) (i : Int), 0 ≤ i → i ≤ s.size → (s.size : Int) - i = d → d < k →
    impl_TextOk.l0 k s (s.size : Int) i = some (lets s d i && (decide (1 ≤ s.size) && decide (s.size ≤ 14))) := by
  induction d with
  | zero =>
    intro k i h0 h1 hd hk
    obtain ⟨k, rfl⟩ : ∃ m, k = m + 1 := ⟨k - 1, by omega⟩
    simp only [impl_TextOk.l0, lets, impl_within.f]
    rw [if_neg (by omega)]
    by_cases h : 1 ≤ s.size
    · rw [if_pos (by omega)]; simp [h]; omega
    · rw [if_neg (by omega)]; simp [h]
  | succ d ih =>
    intro k i h0 h1 hd hk
    obtain ⟨k, rfl⟩ : ∃ m, k = m + 1 := ⟨k - 1, by omega⟩
    simp only [impl_TextOk.l0, lets, impl_within.f]
    rw [if_pos (by omega), if_pos h0, if_pos (by omega)]
    by_cases c1 : bt s i < 97
    · rw [if_pos c1]
      have : ¬ (97 ≤ bt s i) := by omega
      simp [this]
    · rw [if_neg c1]
      have c1' : 97 ≤ bt s i := by omega
      by_cases c2 : bt s i > 122
      · rw [if_pos c2]
        have : ¬ (bt s i ≤ 122) := by omega
        simp [this]
      · rw [if_neg c2]
        have c2' : bt s i ≤ 122 := by omega
        simp only [c1', c2', decide_true, Bool.true_and]
        rw [w64t (by omega) (by omega)]
        exact ih k (i + 1) (by omega) (by omega) (by omega) (by omega)
theorem implOk_f (s : ByteArray) (hs : s.size ≤ 140737488351232) (k : Nat) (hk : s.size < k) : impl_TextOk.f k s = some (tok s) := by
  unfold impl_TextOk.f tok; exact implOk_l s hs s.size k 0 (by omega) (by omega) (by omega) hk
theorem lets_low (s : ByteArray) : ∀ (d : Nat) (i : Int), lets s d i = true → ∀ j : Int, i ≤ j → j < i + d → 97 ≤ bt s j ∧ bt s j ≤ 122
  | 0, i, _, j, h1, h2 => by omega
  | d + 1, i, h, j, h1, h2 => by
    simp only [lets, Bool.and_eq_true, decide_eq_true_eq] at h
    by_cases c : j = i
    · subst c; exact h.1
    · exact lets_low s d (i + 1) h.2 j (by omega) (by omega)
theorem tok_iff (s : ByteArray) : tok s = true ↔ lets s s.size 0 = true ∧ 1 ≤ s.size ∧ s.size ≤ 14 := by unfold tok; simp
theorem tok_low (s : ByteArray) (h : tok s = true) : allLow s := fun i hi => lets_low s s.size 0 ((tok_iff s).1 h).1 (i : Int) (by omega) (by omega)
def cutT (s : ByteArray) : List (List Int) := if tok s = true then cutOf s else []
theorem cutOf_length (s : ByteArray) : (cutOf s).length = chunks s.size := by simp [cutOf]
def impl_TextCut.f (s : ByteArray) : Option (List (List Int)) := if s.size ≤ 140737488351232 then some (cutT s) else none
theorem impl_TextCut.calls (a0 : ByteArray) (r : List (List Int)) (w : World) (h : impl_TextCut.f a0 = some r) :
    Calls Try.prog 17 #[.string a0] w fun e w' => ∃ v0_ : Value, e = .returned (v0_) ∧ Kd.V (Kd.slice 3 (Kd.int .i64)) 34 w' w.heap.size (fun _ => True) v0_ r ∧ Below w.heap.size w w' := by
  unfold impl_TextCut.f cutT at h
  by_cases hs : a0.size ≤ 140737488351232
  · rw [if_pos hs] at h
    obtain rfl := Option.some.inj h
    have hk := implOk_f a0 hs (a0.size + 1) (by omega)
    by_cases c : tok a0 = true
    · rw [if_pos c]
      rw [c] at hk
      obtain ⟨_, h1, h2⟩ := (tok_iff a0).1 c
      refine (TextCut_yes a0 _ w hk h1 h2 (tok_low a0 c)).mono ?_
      rintro e w' ⟨g, cp, rfl, hS, hB⟩
      refine ⟨_, rfl, ?_, hB⟩
      obtain ⟨h3, h4, h5⟩ := Kd.V_at (Kd.S_V (base' := w.heap.size) hS)
      exact ⟨_, _, by rw [h3], Nat.le_refl _, h5⟩
    · rw [if_neg c]
      rw [Bool.not_eq_true] at c
      rw [c] at hk
      refine (TextCut_nil a0 _ w hk).mono ?_
      rintro e w' ⟨rfl, hB⟩
      exact ⟨_, rfl, Kd.V_nil _ _ _ _ _, hB⟩
  · rw [if_neg hs] at h; cases h
def rowsT (s : ByteArray) : Int := if tok s = true then (chunks s.size : Nat) else 0
def impl_TextRows.f (s : ByteArray) : Option Int := if s.size ≤ 140737488351232 then some (rowsT s) else none
theorem impl_TextRows.calls (a0 : ByteArray) (r : Int) (w : World) (h : impl_TextRows.f a0 = some r) :
    Calls Try.prog 14 #[.string a0] w fun e w' => e = .returned (.int .i64 r) ∧ Below w.heap.size w w' := by
  unfold impl_TextRows.f rowsT at h
  by_cases hs : a0.size ≤ 140737488351232
  · rw [if_pos hs] at h
    have hr := Option.some.inj h
    have HR := Aside0.mk hr
    have HC := Aside0.mk (show impl_TextCut.f a0 = some (cutT a0) by unfold impl_TextCut.f; rw [if_pos hs])
    have hlen : (cutT a0).length ≤ 4 ∧ ((cutT a0).length : Int) = r := by
      rw [← hr]; unfold cutT
      by_cases c : tok a0 = true
      · have := (tok_iff a0).1 c
        rw [if_pos c, if_pos c, cutOf_length]; exact ⟨by unfold chunks; omega, rfl⟩
      · rw [if_neg c, if_neg c]; exact ⟨by simp, rfl⟩
    have HL := Aside0.mk hlen
    clear h hr hlen hs
    go_enter Try.func14, Try.ntmps14
    go_wp2_with fail
    refine (impl_TextCut.calls a0 _ _ HC.out).mono ?_
    rintro e w1 ⟨v, rfl, hv, hb⟩
    obtain ⟨A, c, rfl⟩ := Kd.V_slice hv
    have HB := Aside0.mk hb
    clear hb hv
    go_wp2
    go_ret
    exact ⟨by rw [← HL.out.2]; rfl, by repeat (first | exact HB.out | apply below_alloc | apply pw_below_drewN | apply below_drew1)⟩
  · rw [if_neg hs] at h; cases h
end Go.Proofs.Ytbfkcfmhlanlnaa.K
