/- Part 4 of the proof of the statement FnExactTextCut: what the functions compute, step by step; the last part states it. No condition. -/
import Derived.WalkSpells
import Derived.SizedLaws
import Derived.ChangeSlices
import Derived.Test.YtbfkcfmhlanlnaaRows
import Derived.WalkKit
import Derived.ProofKit
import Derived.OpenShut
import Derived.ShutString
import Derived.ChangeOld
import Derived.Below
import Derived.Test.YtbfkcfmhlanlnaaMFnExactTextCut1
import Derived.Test.YtbfkcfmhlanlnaaMFnExactTextCut2
import Derived.Test.YtbfkcfmhlanlnaaMFnExactTextCut3
section
namespace Go.Proofs.Ytbfkcfmhlanlnaa.K
open Go.RowKit Go.Proofs.YtbfkcfmhlanlnaaW.PrintWords Go.Proofs.YtbfkcfmhlanlnaaW.PrintLast Go.Proofs.YtbfkcfmhlanlnaaW.PrintMore
attribute [local go_sem] max2_int min2_int max_two min_two max_three min_three max_four min_four
set_option linter.unusedVariables false
set_option linter.unusedSimpArgs false
def laws_lkRows.l0 : Nat → List (List Int) → List (List Int) → Int → Option (Bool)
  | 0, _, _, _ => none
  | k + 1, x0, x1, x5 => if x5 < (x0.length : Int) then (if 0 ≤ x5 then (if x5 < (x1.length : Int) then ((laws_lkInts.f k (rd_L1 x0 x5) (rd_L1 x1 x5)).bind fun t103 => (if t103 = true then (laws_lkRows.l0 k x0 x1 (wrap64 (x5 + 1))) else (some false))) else (none)) else (none)) else (some true)
def laws_lkRows.f (k : Nat) (l0 : List (List Int)) (l1 : List (List Int)) : Option (Bool) := if (l0.length : Int) = (l1.length : Int) then (laws_lkRows.l0 k l0 l1 0) else (some false)
theorem laws_lkRows.mono_l : ∀ k, (∀ y0 y1 y2, LeO (laws_lkRows.l0 k y0 y1 y2) (laws_lkRows.l0 (k + 1) y0 y1 y2))
  | 0 => fun _ _ _ r h => by simp [laws_lkRows.l0] at h
  | k + 1 => by
    have ih0 := laws_lkRows.mono_l k
    · intro y0 y1 y2
      unfold laws_lkRows.l0
      repeat' first
      | (with_reducible exact ih0 _ _ _)
      | (with_reducible exact laws_lkInts.mono _ _ _)
      | (with_reducible exact LeO.refl _)
      | (with_reducible exact LeO.none _)
      | (with_reducible refine LeO.ite ?_ ?_)
      | (with_reducible refine LeO.bind ?_ (fun _ => ?_))
      | exact ih0 _ _ _
      | exact laws_lkInts.mono _ _ _
      | exact LeO.none _
      | refine LeO.ite ?_ ?_
      | refine LeO.bind ?_ (fun _ => ?_)
theorem laws_lkRows.mono : ∀ a0 a1 k, LeO (laws_lkRows.f k a0 a1) (laws_lkRows.f (k + 1) a0 a1) := by
  intro a0 a1 k
  have ih0 := laws_lkRows.mono_l k
  unfold laws_lkRows.f
  repeat' first
      | (with_reducible exact ih0 _ _ _)
      | (with_reducible exact laws_lkInts.mono _ _ _)
      | (with_reducible exact LeO.refl _)
      | (with_reducible exact LeO.none _)
      | (with_reducible refine LeO.ite ?_ ?_)
      | (with_reducible refine LeO.bind ?_ (fun _ => ?_))
      | exact ih0 _ _ _
      | exact laws_lkInts.mono _ _ _
      | exact LeO.none _
      | refine LeO.ite ?_ ?_
      | refine LeO.bind ?_ (fun _ => ?_)
set_option maxHeartbeats 8000000 in
set_option maxRecDepth 100000 in
theorem laws_lkRows.calls (k : Nat) (A0 : Option Addr) (c0 : Nat) (l0 : List (List Int)) (A1 : Option Addr) (c1 : Nat) (l1 : List (List Int)) (r : Bool) (w : World) (hr0 : Kd.C (Kd.slice 3 (Kd.int .i64)) w A0 l0.length l0) (hc0 : l0.length ≤ c0) (hr1 : Kd.C (Kd.slice 3 (Kd.int .i64)) w A1 l1.length l1) (hc1 : l1.length ≤ c1) (h : laws_lkRows.f k l0 l1 = some r) :
    Calls Try.prog 31 #[.slice A0 l0.length c0, .slice A1 l1.length c1] w fun e w' => e = .returned (.bool r) ∧ Drawn0 w w' := by
  have HR0 := Aside0.mk hr0
  have HC0 := Aside0.mk hc0
  clear hr0 hc0
  have HR1 := Aside0.mk hr1
  have HC1 := Aside0.mk hc1
  clear hr1 hc1
  have H : (if (l0.length : Int) = (l1.length : Int) then (laws_lkRows.l0 k l0 l1 0) else (some false)) = some r := h
  clear h
  by_cases c3 : (l0.length : Int) = (l1.length : Int)
  · rw [if_pos c3] at H
    have c3b0 : ((l0.length : Int) == (l1.length : Int)) = true := beq_iff_eq.mpr c3
    have c3b1 : ((l0.length : Int) != (l1.length : Int)) = false := bne_eq_false_iff_eq.mpr c3
    have c3b2 : (l0.length == l1.length) = true := by first | simpa using c3 | (simp at c3 ⊢; omega)
    clear c3
    have H' := Aside0.mk H
    clear H
    go_enter Try.func31, Try.ntmps31
    go_wp2
    repeat (go_quiet (fail); try go_wp2)
    go_loopg [5] k (fun kq v5 w' => ∃ (x5_1 : Int), v5 = .int .i64 x5_1 ∧ Aside0 (laws_lkRows.l0 kq l0 l1 x5_1 = some r) ∧ Aside0 (kq ≤ k) ∧ Drawn0 w w')
    case atStart => exact ⟨(0), (by first | rfl | (simp; done) | (simp [*]; done)), H', ⟨Nat.le_refl _⟩, by repeat (first | exact Drawn0.refl _ | apply Drawn0.step)⟩
    case round =>
      clear H'
      try clear c1
      try clear p2
      try clear c3
      try clear c3b0
      try clear c3b1
      try clear c3b2
      obtain ⟨x5_1, rfl, HA, HK1, ⟨m1, rfl⟩⟩ := hrel
      cases gk with
      | zero => exact absurd HA.out (by simp [laws_lkRows.l0])
      | succ k1 =>
        have H := HA.out
        clear HA
        simp only [laws_lkRows.l0] at H
        by_cases c4 : x5_1 < (l0.length : Int)
        · rw [if_pos c4] at H
          have c4b0 : decide (x5_1 < (l0.length : Int)) = true := decide_eq_true c4
          clear c4
          by_cases c5 : 0 ≤ x5_1
          · rw [if_pos c5] at H
            have c5b0 : decide (0 ≤ x5_1) = true := decide_eq_true c5
            clear c5
            by_cases c6 : x5_1 < (l1.length : Int)
            · rw [if_pos c6] at H
              have c6b0 : decide (x5_1 < (l1.length : Int)) = true := decide_eq_true c6
              clear c6
              replace H := Option.bind_eq_some_iff.mp H
              obtain ⟨t103, A70, H⟩ := H
              replace H : (if t103 = true then (laws_lkRows.l0 k1 l0 l1 (wrap64 (x5_1 + 1))) else (some false)) = some r := H
              have A7 := Aside0.mk A70
              clear A70
              by_cases c8 : t103 = true
              · subst c8
                have H1 : (laws_lkRows.l0 k1 l0 l1 (wrap64 (x5_1 + 1))) = some r := by rw [if_pos rfl] at H; exact H
                clear H
                have H := H1
                clear H1
                have H' := Aside0.mk H
                clear H
                have p101 : 0 ≤ (x5_1 : Int) := of_decide_eq_true (by first | (with_reducible assumption) | assumption)
                have q101 : x5_1 < (l0.length : Int) := of_decide_eq_true (by first | (with_reducible assumption) | assumption)
                obtain ⟨ad101, A101_0, c101_0, e101, hx101_0, hl101_0, hi101_0⟩ := at_L1 HR0.out x5_1 p101 q101
                cases e101
                have HR101_0 := Aside0.mk hi101_0
                have HC101_0 := Aside0.mk hl101_0
                clear hi101_0 hl101_0
                replace p101 := eq_true p101
                replace q101 := eq_true q101
                have p102 : 0 ≤ (x5_1 : Int) := of_decide_eq_true (by first | (with_reducible assumption) | assumption)
                have q102 : x5_1 < (l1.length : Int) := of_decide_eq_true (by first | (with_reducible assumption) | assumption)
                obtain ⟨ad102, A102_0, c102_0, e102, hx102_0, hl102_0, hi102_0⟩ := at_L1 HR1.out x5_1 p102 q102
                cases e102
                have HR102_0 := Aside0.mk hi102_0
                have HC102_0 := Aside0.mk hl102_0
                clear hi102_0 hl102_0
                replace p102 := eq_true p102
                replace q102 := eq_true q102
                go_wp2_with (first | (go_at_call 41; (with_reducible refine (laws_lkInts.calls k1 _ _ (rd_L1 l0 x5_1) _ _ (rd_L1 l1 x5_1) true _ ?side1 ?side2 ?side3 ?side4 A7.out).mono ?_); (case side1 => repeat (first | exact HR101_0.out | (with_reducible refine Kd.C_alloc ?_ _) | (with_reducible refine Kd.C_drewN ?_ _) | (with_reducible refine Kd.C_drew ?_))); (case side2 => exact HC101_0.out); (case side3 => repeat (first | exact HR102_0.out | (with_reducible refine Kd.C_alloc ?_ _) | (with_reducible refine Kd.C_drewN ?_ _) | (with_reducible refine Kd.C_drew ?_))); (case side4 => exact HC102_0.out); rintro e w' ⟨rfl, ⟨nd, rfl⟩⟩; (try first | exact ⟨rfl, _, World.drewN_drewN _ _ _⟩ | exact ⟨rfl, _, Eq.trans (World.drewN_drewN _ _ _) (congrArg (World.drewN _) (Nat.add_assoc _ _ _))⟩)))
                repeat (go_quiet (first | (go_at_call 41; (with_reducible refine (laws_lkInts.calls k1 _ _ (rd_L1 l0 x5_1) _ _ (rd_L1 l1 x5_1) true _ ?side1 ?side2 ?side3 ?side4 A7.out).mono ?_); (case side1 => repeat (first | exact HR101_0.out | (with_reducible refine Kd.C_alloc ?_ _) | (with_reducible refine Kd.C_drewN ?_ _) | (with_reducible refine Kd.C_drew ?_))); (case side2 => exact HC101_0.out); (case side3 => repeat (first | exact HR102_0.out | (with_reducible refine Kd.C_alloc ?_ _) | (with_reducible refine Kd.C_drewN ?_ _) | (with_reducible refine Kd.C_drew ?_))); (case side4 => exact HC102_0.out); rintro e w' ⟨rfl, ⟨nd, rfl⟩⟩; (try first | exact ⟨rfl, _, World.drewN_drewN _ _ _⟩ | exact ⟨rfl, _, Eq.trans (World.drewN_drewN _ _ _) (congrArg (World.drewN _) (Nat.add_assoc _ _ _))⟩))); try go_wp2_with (first | (go_at_call 41; (with_reducible refine (laws_lkInts.calls k1 _ _ (rd_L1 l0 x5_1) _ _ (rd_L1 l1 x5_1) true _ ?side1 ?side2 ?side3 ?side4 A7.out).mono ?_); (case side1 => repeat (first | exact HR101_0.out | (with_reducible refine Kd.C_alloc ?_ _) | (with_reducible refine Kd.C_drewN ?_ _) | (with_reducible refine Kd.C_drew ?_))); (case side2 => exact HC101_0.out); (case side3 => repeat (first | exact HR102_0.out | (with_reducible refine Kd.C_alloc ?_ _) | (with_reducible refine Kd.C_drewN ?_ _) | (with_reducible refine Kd.C_drew ?_))); (case side4 => exact HC102_0.out); rintro e w' ⟨rfl, ⟨nd, rfl⟩⟩; (try first | exact ⟨rfl, _, World.drewN_drewN _ _ _⟩ | exact ⟨rfl, _, Eq.trans (World.drewN_drewN _ _ _) (congrArg (World.drewN _) (Nat.add_assoc _ _ _))⟩))))
                go_roundg k1
                case measure => have := HK1.out; omega
                case rel => exact ⟨(wrap64 (x5_1 + 1)), (by first | rfl | (simp; done) | (simp [*]; done)), H', ⟨by have := HK1.out; omega⟩, by repeat (first | exact Drawn0.refl _ | apply Drawn0.step)⟩
              · replace c8 := Bool.eq_false_iff.mpr c8
                subst c8
                have H1 : (some false) = some r := by rw [if_neg (show ¬ (false = true) by decide)] at H; exact H
                clear H
                have H := H1
                clear H1
                obtain rfl := Option.some.inj H
                have p101 : 0 ≤ (x5_1 : Int) := of_decide_eq_true (by first | (with_reducible assumption) | assumption)
                have q101 : x5_1 < (l0.length : Int) := of_decide_eq_true (by first | (with_reducible assumption) | assumption)
                obtain ⟨ad101, A101_0, c101_0, e101, hx101_0, hl101_0, hi101_0⟩ := at_L1 HR0.out x5_1 p101 q101
                cases e101
                have HR101_0 := Aside0.mk hi101_0
                have HC101_0 := Aside0.mk hl101_0
                clear hi101_0 hl101_0
                replace p101 := eq_true p101
                replace q101 := eq_true q101
                have p102 : 0 ≤ (x5_1 : Int) := of_decide_eq_true (by first | (with_reducible assumption) | assumption)
                have q102 : x5_1 < (l1.length : Int) := of_decide_eq_true (by first | (with_reducible assumption) | assumption)
                obtain ⟨ad102, A102_0, c102_0, e102, hx102_0, hl102_0, hi102_0⟩ := at_L1 HR1.out x5_1 p102 q102
                cases e102
                have HR102_0 := Aside0.mk hi102_0
                have HC102_0 := Aside0.mk hl102_0
                clear hi102_0 hl102_0
                replace p102 := eq_true p102
                replace q102 := eq_true q102
                go_wp2_with (first | (go_at_call 41; (with_reducible refine (laws_lkInts.calls k1 _ _ (rd_L1 l0 x5_1) _ _ (rd_L1 l1 x5_1) false _ ?side1 ?side2 ?side3 ?side4 A7.out).mono ?_); (case side1 => repeat (first | exact HR101_0.out | (with_reducible refine Kd.C_alloc ?_ _) | (with_reducible refine Kd.C_drewN ?_ _) | (with_reducible refine Kd.C_drew ?_))); (case side2 => exact HC101_0.out); (case side3 => repeat (first | exact HR102_0.out | (with_reducible refine Kd.C_alloc ?_ _) | (with_reducible refine Kd.C_drewN ?_ _) | (with_reducible refine Kd.C_drew ?_))); (case side4 => exact HC102_0.out); rintro e w' ⟨rfl, ⟨nd, rfl⟩⟩; (try first | exact ⟨rfl, _, World.drewN_drewN _ _ _⟩ | exact ⟨rfl, _, Eq.trans (World.drewN_drewN _ _ _) (congrArg (World.drewN _) (Nat.add_assoc _ _ _))⟩)))
                repeat (go_quiet (first | (go_at_call 41; (with_reducible refine (laws_lkInts.calls k1 _ _ (rd_L1 l0 x5_1) _ _ (rd_L1 l1 x5_1) false _ ?side1 ?side2 ?side3 ?side4 A7.out).mono ?_); (case side1 => repeat (first | exact HR101_0.out | (with_reducible refine Kd.C_alloc ?_ _) | (with_reducible refine Kd.C_drewN ?_ _) | (with_reducible refine Kd.C_drew ?_))); (case side2 => exact HC101_0.out); (case side3 => repeat (first | exact HR102_0.out | (with_reducible refine Kd.C_alloc ?_ _) | (with_reducible refine Kd.C_drewN ?_ _) | (with_reducible refine Kd.C_drew ?_))); (case side4 => exact HC102_0.out); rintro e w' ⟨rfl, ⟨nd, rfl⟩⟩; (try first | exact ⟨rfl, _, World.drewN_drewN _ _ _⟩ | exact ⟨rfl, _, Eq.trans (World.drewN_drewN _ _ _) (congrArg (World.drewN _) (Nat.add_assoc _ _ _))⟩))); try go_wp2_with (first | (go_at_call 41; (with_reducible refine (laws_lkInts.calls k1 _ _ (rd_L1 l0 x5_1) _ _ (rd_L1 l1 x5_1) false _ ?side1 ?side2 ?side3 ?side4 A7.out).mono ?_); (case side1 => repeat (first | exact HR101_0.out | (with_reducible refine Kd.C_alloc ?_ _) | (with_reducible refine Kd.C_drewN ?_ _) | (with_reducible refine Kd.C_drew ?_))); (case side2 => exact HC101_0.out); (case side3 => repeat (first | exact HR102_0.out | (with_reducible refine Kd.C_alloc ?_ _) | (with_reducible refine Kd.C_drewN ?_ _) | (with_reducible refine Kd.C_drew ?_))); (case side4 => exact HC102_0.out); rintro e w' ⟨rfl, ⟨nd, rfl⟩⟩; (try first | exact ⟨rfl, _, World.drewN_drewN _ _ _⟩ | exact ⟨rfl, _, Eq.trans (World.drewN_drewN _ _ _) (congrArg (World.drewN _) (Nat.add_assoc _ _ _))⟩))))
                go_ret
                exact ⟨by first | rfl | (simp; done) | (simp [*]; done), by repeat (first | exact Drawn0.refl _ | apply Drawn0.step)⟩
            · rw [if_neg c6] at H
              exact absurd H (by simp)
          · rw [if_neg c5] at H
            exact absurd H (by simp)
        · rw [if_neg c4] at H
          have c4b0 : decide (x5_1 < (l0.length : Int)) = false := decide_eq_false c4
          clear c4
          obtain rfl := Option.some.inj H
          go_wp2
          repeat (go_quiet (fail); try go_wp2)
          go_ret
          exact ⟨by first | rfl | (simp; done) | (simp [*]; done), by repeat (first | exact Drawn0.refl _ | apply Drawn0.step)⟩
  · rw [if_neg c3] at H
    have c3b0 : ((l0.length : Int) == (l1.length : Int)) = false := beq_eq_false_iff_ne.mpr c3
    have c3b1 : ((l0.length : Int) != (l1.length : Int)) = true := bne_iff_ne.mpr c3
    have c3b2 : (l0.length == l1.length) = false := by first | simpa using c3 | (simp at c3 ⊢; omega)
    obtain rfl := Option.some.inj H
    go_enter Try.func31, Try.ntmps31
    go_wp2
    repeat (go_quiet (fail); try go_wp2)
    go_ret
    exact ⟨by first | rfl | (simp; done) | (simp [*]; done), by repeat (first | exact Drawn0.refl _ | apply Drawn0.step)⟩
end Go.Proofs.Ytbfkcfmhlanlnaa.K
end
section
namespace Go.Proofs.Ytbfkcfmhlanlnaa.K
set_option linter.unusedVariables false
set_option linter.unusedSimpArgs false
open Go.RowKit Go.Proofs.YtbfkcfmhlanlnaaW.PrintWords Go.Proofs.YtbfkcfmhlanlnaaW.PrintLast Go.Proofs.YtbfkcfmhlanlnaaW.PrintMore
theorem rd_get_j (l : List Int) (i : Nat) (h : i < l.length) : rd l (i : Int) = l[i] := by unfold rd; simp [h]
theorem rdL_get_j (l : List (List Int)) (i : Nat) (h : i < l.length) : rd_L1 l (i : Int) = l[i] := by unfold rd_L1; simp [h]
theorem lkInts_l (a b : List Int) (hl : a.length ≤ 140737488351232) (h : a.length = b.length) (d : Nat) : ∀ (i : Nat), i + d = a.length → Ev (fun k => laws_lkInts.l0 k a b (i : Int)) (decide (a.drop i = b.drop i)) := by
  induction d with
  | zero =>
    intro i hi
    refine Ev.step (fun k => rfl) (tv_neg (by omega) (tv_eq (Ev.now _) ?_))
    rw [List.drop_eq_nil_of_le (by omega), List.drop_eq_nil_of_le (by omega)]; simp
  | succ d ih =>
    intro i hi
    have hlt : i < a.length := by omega
    have hlt2 : i < b.length := by omega
    refine Ev.step (fun k => rfl) (tv_pos (by omega) (tv_pos (by omega) (tv_pos (by omega) ?_)))
    rw [rd_get_j a i hlt, rd_get_j b i hlt2, w64t (by omega) (by omega), show ((i : Int) + 1) = ((i + 1 : Nat) : Int) by omega]
    have ea : a.drop i = a[i] :: a.drop (i + 1) := List.drop_eq_getElem_cons hlt
    have eb : b.drop i = b[i] :: b.drop (i + 1) := List.drop_eq_getElem_cons hlt2
    generalize a.drop i = da at *
    generalize b.drop i = db at *
    by_cases c : a[i] = b[i]
    · refine tv_pos c (tv_eq (ih (i + 1) (by omega)) ?_)
      rw [ea, eb, c]; exact decide_eq_decide.mpr (by rw [List.cons.injEq]; exact ⟨fun h => ⟨rfl, h⟩, fun h => h.2⟩)
    · refine tv_neg c (tv_eq (Ev.now _) ?_)
      rw [ea, eb]; exact (decide_eq_false (by rw [List.cons.injEq]; exact fun h => c h.1)).symm
theorem lkInts_ev (a b : List Int) (hl : a.length ≤ 140737488351232) : Ev (fun k => laws_lkInts.f k a b) (decide (a = b)) := by
  unfold laws_lkInts.f
  by_cases c : a.length = b.length
  · refine tv_pos (by omega) (tv_eq (lkInts_l a b hl c a.length 0 (by omega)) ?_)
    simp
  · refine tv_neg (by omega) (tv_eq (Ev.now _) ?_)
    symm
    rw [decide_eq_false_iff_not]
    intro h
    exact c (by rw [h])
def Small (m : List (List Int)) : Prop := m.length ≤ 140737488351232 ∧ ∀ r ∈ m, r.length ≤ 140737488351232
theorem lkRows_l (a b : List (List Int)) (hl : Small a) (h : a.length = b.length) (d : Nat) : ∀ (i : Nat), i + d = a.length → Ev (fun k => laws_lkRows.l0 k a b (i : Int)) (decide (a.drop i = b.drop i)) := by
  have hl0 := hl.1
  induction d with
  | zero =>
    intro i hi
    refine Ev.step (fun k => rfl) (tv_neg (by omega) (tv_eq (Ev.now _) ?_))
    rw [List.drop_eq_nil_of_le (by omega), List.drop_eq_nil_of_le (by omega)]; simp
  | succ d ih =>
    intro i hi
    have hlt : i < a.length := by omega
    have hlt2 : i < b.length := by omega
    refine Ev.step (fun k => rfl) (tv_pos (by omega) (tv_pos (by omega) (tv_pos (by omega) ?_)))
    rw [rdL_get_j a i hlt, rdL_get_j b i hlt2, w64t (by omega) (by omega), show ((i : Int) + 1) = ((i + 1 : Nat) : Int) by omega]
    refine (lkInts_ev a[i] b[i] (hl.2 _ (List.getElem_mem _))).bind ?_
    have ea : a.drop i = a[i] :: a.drop (i + 1) := List.drop_eq_getElem_cons hlt
    have eb : b.drop i = b[i] :: b.drop (i + 1) := List.drop_eq_getElem_cons hlt2
    generalize a.drop i = da at *
    generalize b.drop i = db at *
    by_cases c : a[i] = b[i]
    · refine tv_pos (decide_eq_true c) (tv_eq (ih (i + 1) (by omega)) ?_)
      rw [ea, eb, c]; exact decide_eq_decide.mpr (by rw [List.cons.injEq]; exact ⟨fun h => ⟨rfl, h⟩, fun h => h.2⟩)
    · refine tv_neg (by rw [decide_eq_false c]; simp) (tv_eq (Ev.now _) ?_)
      rw [ea, eb]; exact (decide_eq_false (by rw [List.cons.injEq]; exact fun h => c h.1)).symm
theorem lkRows_ev (a b : List (List Int)) (hl : Small a) : Ev (fun k => laws_lkRows.f k a b) (decide (a = b)) := by
  unfold laws_lkRows.f
  by_cases c : a.length = b.length
  · refine tv_pos (by omega) (tv_eq (lkRows_l a b hl c a.length 0 (by omega)) ?_)
    simp
  · refine tv_neg (by omega) (tv_eq (Ev.now _) ?_)
    symm
    rw [decide_eq_false_iff_not]
    intro h
    exact c (by rw [h])
def put1 (acc : List Int) (n : Int) : List Int := if 1 ≤ n ∧ n ≤ 26 ∧ acc.length ≤ 14 then acc ++ [n + 96] else acc
theorem put1_len (acc : List Int) (n : Int) (h : acc.length ≤ 15) : (put1 acc n).length ≤ 15 := by
  unfold put1; split
  · rw [List.length_append, List.length_singleton]; omega
  · exact h
theorem puts_len (l : List Int) : ∀ acc : List Int, acc.length ≤ 15 → (l.foldl put1 acc).length ≤ 15 := by
  induction l with
  | nil => intro acc h; exact h
  | cons a l ih => intro acc h; exact ih _ (put1_len acc a h)
theorem letters_lt (s : ByteArray) (i : Nat) (hi : i < s.size) (hlow : allLow s) : 1 ≤ letter s i ∧ letter s i ≤ 26 ∧ letter s i + 96 = bt s i := by
  unfold letter; rw [if_pos hi]; have := hlow i hi; omega
theorem flat_cut (s : ByteArray) : (cutOf s).flatten = (List.range (4 * chunks s.size)).map (fun i => letter s i) := by
  unfold cutOf
  generalize chunks s.size = n
  induction n with
  | zero => rfl
  | succ n ih =>
    rw [List.range_succ, List.map_append, List.flatten_append, ih, show 4 * (n + 1) = 4 * n + 1 + 1 + 1 + 1 by omega, List.range_succ, List.range_succ, List.range_succ, List.range_succ]
    simp [row4]
theorem take_up (s : ByteArray) (hlow : allLow s) (hs : s.size ≤ 14) : ∀ n, ((List.range n).map fun i => letter s i).foldl put1 [] = (bytesOf s).take n := by
  intro n
  induction n with
  | zero => simp
  | succ n ih =>
    rw [List.range_succ, List.map_append, List.foldl_append, ih]
    have hlen : (bytesOf s).length = s.size := bytesOf_length s
    by_cases c : n < s.size
    · obtain ⟨h1, h2, h3⟩ := letters_lt s n c hlow
      have hl : ((bytesOf s).take n).length ≤ 14 := by rw [List.length_take]; omega
      show put1 _ (letter s n) = _
      unfold put1
      rw [if_pos ⟨h1, h2, hl⟩, h3, List.take_succ_eq_append_getElem (by rw [hlen]; exact c)]
      congr 2
      rw [← rd_bytesOf, rd_get_j _ _ (by rw [hlen]; exact c)]
    · have h0 : letter s n = 0 := by unfold letter; rw [if_neg c]
      show put1 _ (letter s n) = _
      unfold put1
      rw [h0, if_neg (by omega), List.take_of_length_le (by rw [hlen]; omega), List.take_of_length_le (by rw [hlen]; omega)]
theorem back_bytes (s : ByteArray) (hlow : allLow s) (hs : s.size ≤ 14) : (cutOf s).flatten.foldl put1 [] = bytesOf s := by
  rw [flat_cut, take_up s hlow hs, List.take_of_length_le]
  rw [bytesOf_length]; unfold chunks; omega
theorem strOfNums_bytesOf (s : ByteArray) : strOfNums (bytesOf s) = s := by
  unfold strOfNums bytesOf
  apply ByteArray.ext
  rw [List.map_map]
  apply Array.ext'
  rw [List.toList_toArray]
  refine (List.map_congr_left (g := id) (fun b _ => ?_)).trans (List.map_id _)
  simp
theorem back_text (s : ByteArray) (h : tok s = true) : strOfNums ((cutOf s).flatten.foldl put1 []) = s := by
  rw [back_bytes s (tok_low s h) ((tok_iff s).1 h).2.2]
  exact strOfNums_bytesOf s
theorem cut_inj (s t : ByteArray) (hs : tok s = true) (ht : tok t = true) (h : cutOf s = cutOf t) : s = t := by
  rw [← back_text s hs, ← back_text t ht, h]
def JoinIs (m : List (List Int)) (x : ByteArray × Bool) : Prop := (x.2 = true ∧ tok x.1 = true ∧ cutOf x.1 = m) ∨ (x.2 = false ∧ x.1 = (⟨#[]⟩ : ByteArray) ∧ ∀ t, tok t = true → cutOf t ≠ m)
theorem JoinIs.unique {m : List (List Int)} {x y : ByteArray × Bool} (hx : JoinIs m x) (hy : JoinIs m y) : x = y := by
  rcases hx with ⟨h1, h2, h3⟩ | ⟨h1, h2, h3⟩ <;> rcases hy with ⟨g1, g2, g3⟩ | ⟨g1, g2, g3⟩
  · exact Prod.ext (cut_inj _ _ h2 g2 (h3.trans g3.symm)) (h1.trans g1.symm)
  · exact absurd h3 (g3 _ h2)
  · exact absurd g3 (h3 _ g2)
  · exact Prod.ext (h2.trans g2.symm) (h1.trans g1.symm)
def joinEnd (m : List (List Int)) (acc : List Int) : ByteArray × Bool := if tok (strOfNums acc) = true ∧ cutOf (strOfNums acc) = m then (strOfNums acc, true) else (⟨#[]⟩, false)
theorem join_l1 (m : List (List Int)) (hm : Small m) (x13 : Int) (row : List Int) (hr : row.length ≤ 140737488351232) (r : ByteArray × Bool) (d : Nat) : ∀ (i : Nat) (acc : List Int), i + d = row.length → acc.length ≤ 15 →
    Ev (fun k => impl_TextJoin.l0 k m ((row.drop i).foldl put1 acc) m (m.length : Int) (wrap64 (x13 + 1))) r →
    Ev (fun k => impl_TextJoin.l1 k m acc m (m.length : Int) x13 row (row.length : Int) (i : Int)) r := by
  induction d with
  | zero =>
    intro i acc hi ha h
    refine Ev.step (fun k => rfl) (tv_neg (by omega) ?_)
    rw [List.drop_eq_nil_of_le (by omega)] at h
    exact h
  | succ d ih =>
    intro i acc hi ha h
    have hlt : i < row.length := by omega
    rw [List.drop_eq_getElem_cons hlt, List.foldl_cons] at h
    refine Ev.step (fun k => rfl) (tv_pos (by omega) (tv_pos (by omega) (tv_pos (by omega) ?_)))
    rw [rd_get_j row i hlt, w64t (x := (i : Int) + 1) (by omega) (by omega), show ((i : Int) + 1) = ((i + 1 : Nat) : Int) by omega]
    generalize row[i] = n at h ⊢
    have hw : impl_within.f n 1 26 = some (decide (1 ≤ n) && decide (n ≤ 26)) := by
      unfold impl_within.f
      by_cases c : n ≥ 1
      · rw [if_pos c]; simp [c]
      · rw [if_neg c]; simp [c]
    refine tv_call hw ?_
    by_cases c : 1 ≤ n ∧ n ≤ 26
    · have hb : (decide (1 ≤ n) && decide (n ≤ 26)) = true := by simp [c]
      refine tv_pos hb ?_
      by_cases c2 : acc.length ≤ 14
      · have hp : put1 acc n = acc ++ [n + 96] := by unfold put1; rw [if_pos ⟨c.1, c.2, c2⟩]
        have he : ((wrap64 (n - 1)) + 97) % 256 = n + 96 := by rw [w64t (by omega) (by omega)]; omega
        rw [hp] at h
        refine tv_pos (by omega) (tv_pos (by omega) ?_)
        rw [he]
        exact ih (i + 1) _ (by omega) (by rw [List.length_append, List.length_singleton]; omega) h
      · have hp : put1 acc n = acc := by unfold put1; rw [if_neg (fun hh => c2 hh.2.2)]
        rw [hp] at h
        exact tv_neg (by omega) (ih (i + 1) acc (by omega) ha h)
    · have hb : ¬ (decide (1 ≤ n) && decide (n ≤ 26)) = true := by simpa using c
      have hp : put1 acc n = acc := by unfold put1; rw [if_neg (fun hh => c ⟨hh.1, hh.2.1⟩)]
      rw [hp] at h
      exact tv_neg hb (ih (i + 1) acc (by omega) ha h)
theorem cutT_eq (s : ByteArray) (h : tok s = true) : cutT s = cutOf s := by unfold cutT; rw [if_pos h]
theorem join_l0 (m : List (List Int)) (hm : Small m) (d : Nat) : ∀ (i : Nat) (acc : List Int), i + d = m.length → acc.length ≤ 15 →
    Ev (fun k => impl_TextJoin.l0 k m acc m (m.length : Int) (i : Int)) (joinEnd m ((m.drop i).flatten.foldl put1 acc)) := by
  have hm0 := hm.1
  induction d with
  | zero =>
    intro i acc hi ha
    rw [List.drop_eq_nil_of_le (by omega)]
    refine Ev.step (fun k => rfl) (tv_neg (by omega) ?_)
    have hs : (strOfNums acc).size ≤ 15 := by rw [strOfNums_size]; exact ha
    refine (show Ev (fun k => impl_TextOk.f k (strOfNums acc)) _ from ⟨(strOfNums acc).size + 1, fun k hk => implOk_f _ (by omega) k (by omega)⟩).bind ?_
    show Ev _ (joinEnd m acc)
    by_cases c : tok (strOfNums acc) = true
    · refine tv_pos c (tv_call (implCut_f _ (by omega)) ?_)
      rw [cutT_eq _ c]
      refine tv_call (rfl : slices_EqualFunc_int_int_int_int.f _ m = some (decide (cutOf (strOfNums acc) = m))) ?_
      by_cases c2 : cutOf (strOfNums acc) = m
      · exact tv_pos (decide_eq_true c2) (tv_eq (Ev.now _) (show (strOfNums acc, true) = joinEnd m acc from (if_pos ⟨c, c2⟩).symm))
      · exact tv_neg (by rw [decide_eq_false c2]; simp) (tv_eq (Ev.now _) (show ((⟨#[]⟩ : ByteArray), false) = joinEnd m acc from (if_neg (fun h => c2 h.2)).symm))
    · exact tv_neg c (tv_eq (Ev.now _) (show ((⟨#[]⟩ : ByteArray), false) = joinEnd m acc from (if_neg (fun h => c h.1)).symm))
  | succ d ih =>
    intro i acc hi ha
    have hlt : i < m.length := by omega
    rw [List.drop_eq_getElem_cons hlt, List.flatten_cons, List.foldl_append]
    refine Ev.step (fun k => rfl) (tv_pos (by omega) (tv_pos (by omega) (tv_pos (by omega) ?_)))
    rw [rdL_get_j m i hlt]
    refine join_l1 m hm (i : Int) m[i] (hm.2 _ (List.getElem_mem _)) _ m[i].length 0 acc (by omega) ha ?_
    rw [w64t (x := (i : Int) + 1) (by omega) (by omega), show ((i : Int) + 1) = ((i + 1 : Nat) : Int) by omega, List.drop_zero]
    exact ih (i + 1) _ (by omega) (puts_len _ _ ha)
theorem implJoin_ev (m : List (List Int)) (hm : Small m) : ∃ x, Ev (fun k => impl_TextJoin.f k m) x ∧ JoinIs m x := by
  refine ⟨_, join_l0 m hm m.length 0 [] (by omega) (by simp), ?_⟩
  rw [List.drop_zero]
  unfold joinEnd
  generalize hacc : m.flatten.foldl put1 [] = acc
  by_cases c : tok (strOfNums acc) = true ∧ cutOf (strOfNums acc) = m
  · rw [if_pos c]; exact .inl ⟨rfl, c.1, c.2⟩
  · rw [if_neg c]
    refine .inr ⟨rfl, rfl, fun t ht h => c ?_⟩
    have : strOfNums acc = t := by rw [← hacc, ← h]; exact back_text t ht
    rw [this]; exact ⟨ht, h⟩
theorem specCut_l1 (s : ByteArray) (hs : s.size ≤ 14) (hlow : allLow s) (acc : List (List Int)) (ha : acc.length ≤ 1000) (n : Nat) (hn : n ≤ 1000) (r : List (List Int)) (h : Ev (fun k => spec_l51Cut.l0 k s (acc ++ [row4 s n]) ((n + 1 : Nat) : Int)) r) :
    Ev (fun k => spec_l51Cut.l1 k s acc (n : Int) (List.replicate 4 0) 0) r := by
  have step : ∀ (j : Nat) (row : List Int), j < 4 → row.length = 4 → row[j]? = some 0 → Ev (fun k => spec_l51Cut.l1 k s acc (n : Int) (row.set j (letter s (4 * n + j))) ((j + 1 : Nat) : Int)) r → Ev (fun k => spec_l51Cut.l1 k s acc (n : Int) row (j : Int)) r := by
    intro j row hj hr h0 h
    have e4 : wrap64 ((wrap64 ((n : Int) * 4)) + (j : Int)) = ((4 * n + j : Nat) : Int) := by
      rw [w64t (x := (n : Int) * 4) (by omega) (by omega), w64t (by omega) (by omega)]; omega
    refine Ev.step (fun k => rfl) (tv_pos (by omega) ?_)
    rw [e4, w64t (x := (j : Int) + 1) (by omega) (by omega), show ((j : Int) + 1) = ((j + 1 : Nat) : Int) by omega, Int.toNat_natCast]
    by_cases c : 4 * n + j < s.size
    · obtain ⟨h1, h2, h3⟩ := letters_lt s _ c hlow
      refine tv_pos (by omega) (tv_pos (by omega) (tv_pos (by omega) (tv_pos (by omega) ?_)))
      rw [show (bt s ((4 * n + j : Nat) : Int) - 97) % 256 + 1 = letter s (4 * n + j) by omega]
      exact h
    · have hz : letter s (4 * n + j) = 0 := by unfold letter; rw [if_neg c]
      refine tv_neg (by omega) ?_
      rw [hz, show row.set j 0 = row from by
        obtain ⟨hj', he⟩ := List.getElem?_eq_some_iff.1 h0
        rw [← he]; exact List.set_getElem_self hj'] at h
      exact h
  refine step 0 _ (by omega) rfl rfl (step 1 _ (by omega) rfl rfl (step 2 _ (by omega) rfl rfl (step 3 _ (by omega) rfl rfl ?_)))
  refine Ev.step (fun k => rfl) (tv_neg (by omega) (tv_pos (by omega) ?_))
  rw [w64t (x := (n : Int) + 1) (by omega) (by omega), show ((n : Int) + 1) = ((n + 1 : Nat) : Int) by omega]
  exact h
theorem specl51Cut_ev (s : ByteArray) (hs : s.size ≤ 14) (hlow : allLow s) : Ev (fun k => spec_l51Cut.f k s) (cutOf s) := by
  have key : ∀ (d n : Nat), n + d = chunks s.size → Ev (fun k => spec_l51Cut.l0 k s ((List.range n).map (row4 s)) (n : Int)) (cutOf s) := by
    intro d
    have hc : chunks s.size ≤ 4 := by unfold chunks; omega
    induction d with
    | zero =>
      intro n hn
      refine Ev.step (fun k => by rw [spec_l51Cut.l0]) (tv_call (specl51Rows_t s (by omega)) ?_)
      refine tv_neg (by omega) (tv_eq (Ev.now _) ?_)
      rw [show n = chunks s.size by omega]; rfl
    | succ d ih =>
      intro n hn
      refine Ev.step (fun k => by rw [spec_l51Cut.l0]) (tv_call (specl51Rows_t s (by omega)) ?_)
      refine tv_pos (by omega) (tv_pos (by omega) ?_)
      refine specCut_l1 s hs hlow _ (by simp; omega) n (by omega) _ ?_
      have := ih (n + 1) (by omega)
      rw [List.range_succ, List.map_append] at this
      exact this
  exact key (chunks s.size) 0 (by omega)
theorem specCut_ev (s : ByteArray) (hs : s.size ≤ 140737488351232) : Ev (fun k => spec_TextCut.f k s) (cutT s) := by
  refine (specOk_t s hs).bind ?_
  unfold cutT
  by_cases c : tok s = true
  · rw [if_pos c]
    exact tv_pos c ((specl51Cut_ev s ((tok_iff s).1 c).2.2 (tok_low s c)).bind (Ev.now _))
  · rw [if_neg c]
    exact tv_neg c (Ev.now _)
theorem small_cutT (s : ByteArray) : Small (cutT s) := by
  unfold cutT
  by_cases c : tok s = true
  · rw [if_pos c]
    have := (tok_iff s).1 c
    refine ⟨by rw [cutOf_length]; unfold chunks; omega, fun r hr => ?_⟩
    unfold cutOf at hr
    obtain ⟨k, _, rfl⟩ := List.mem_map.1 hr
    show 4 ≤ _
    omega
  · rw [if_neg c]; exact ⟨by simp, fun r hr => by simp at hr⟩
end Go.Proofs.Ytbfkcfmhlanlnaa.K
end
section
namespace Go.Proofs.Ytbfkcfmhlanlnaa.K
open Go.RowKit Go.Proofs.YtbfkcfmhlanlnaaW.PrintWords Go.Proofs.YtbfkcfmhlanlnaaW.PrintLast Go.Proofs.YtbfkcfmhlanlnaaW.PrintMore
attribute [local go_sem] max2_int min2_int max_two min_two max_three min_three max_four min_four
set_option linter.unusedVariables false
set_option linter.unusedSimpArgs false
def laws_eqIntS.l0 : Nat → List Int → List Int → Int → Option (Bool)
  | 0, _, _, _ => none
  | k + 1, x0, x1, x5 => if x5 < (x0.length : Int) then (if 0 ≤ x5 then (if x5 < (x1.length : Int) then (if (rd x0 x5) = (rd x1 x5) then (laws_eqIntS.l0 k x0 x1 (wrap64 (x5 + 1))) else (some false)) else (none)) else (none)) else (some true)
def laws_eqIntS.f (k : Nat) (l0 : List Int) (l1 : List Int) : Option (Bool) := if (l0.length : Int) = (l1.length : Int) then (laws_eqIntS.l0 k l0 l1 0) else (some false)
theorem laws_eqIntS.mono_l : ∀ k, (∀ y0 y1 y2, LeO (laws_eqIntS.l0 k y0 y1 y2) (laws_eqIntS.l0 (k + 1) y0 y1 y2))
  | 0 => fun _ _ _ r h => by simp [laws_eqIntS.l0] at h
  | k + 1 => by
    have ih0 := laws_eqIntS.mono_l k
    · intro y0 y1 y2
      unfold laws_eqIntS.l0
      repeat' first
      | (with_reducible exact ih0 _ _ _)
      | (with_reducible exact LeO.refl _)
      | (with_reducible exact LeO.none _)
      | (with_reducible refine LeO.ite ?_ ?_)
      | (with_reducible refine LeO.bind ?_ (fun _ => ?_))
      | exact ih0 _ _ _
      | exact LeO.none _
      | refine LeO.ite ?_ ?_
      | refine LeO.bind ?_ (fun _ => ?_)
theorem laws_eqIntS.mono : ∀ a0 a1 k, LeO (laws_eqIntS.f k a0 a1) (laws_eqIntS.f (k + 1) a0 a1) := by
  intro a0 a1 k
  have ih0 := laws_eqIntS.mono_l k
  unfold laws_eqIntS.f
  repeat' first
      | (with_reducible exact ih0 _ _ _)
      | (with_reducible exact LeO.refl _)
      | (with_reducible exact LeO.none _)
      | (with_reducible refine LeO.ite ?_ ?_)
      | (with_reducible refine LeO.bind ?_ (fun _ => ?_))
      | exact ih0 _ _ _
      | exact LeO.none _
      | refine LeO.ite ?_ ?_
      | refine LeO.bind ?_ (fun _ => ?_)
set_option maxHeartbeats 8000000 in
set_option maxRecDepth 100000 in
theorem laws_eqIntS.calls (k : Nat) (A0 : Option Addr) (c0 : Nat) (l0 : List Int) (A1 : Option Addr) (c1 : Nat) (l1 : List Int) (r : Bool) (w : World) (hr0 : Kd.C (Kd.int .i64) w A0 l0.length l0) (hc0 : l0.length ≤ c0) (hr1 : Kd.C (Kd.int .i64) w A1 l1.length l1) (hc1 : l1.length ≤ c1) (h : laws_eqIntS.f k l0 l1 = some r) :
    Calls Try.prog 25 #[.slice A0 l0.length c0, .slice A1 l1.length c1] w fun e w' => e = .returned (.bool r) ∧ Drawn0 w w' := by
  have HR0 := Aside0.mk hr0
  have HC0 := Aside0.mk hc0
  clear hr0 hc0
  have HR1 := Aside0.mk hr1
  have HC1 := Aside0.mk hc1
  clear hr1 hc1
  have H : (if (l0.length : Int) = (l1.length : Int) then (laws_eqIntS.l0 k l0 l1 0) else (some false)) = some r := h
  clear h
  by_cases c3 : (l0.length : Int) = (l1.length : Int)
  · rw [if_pos c3] at H
    have c3b0 : ((l0.length : Int) == (l1.length : Int)) = true := beq_iff_eq.mpr c3
    have c3b1 : ((l0.length : Int) != (l1.length : Int)) = false := bne_eq_false_iff_eq.mpr c3
    have c3b2 : (l0.length == l1.length) = true := by first | simpa using c3 | (simp at c3 ⊢; omega)
    clear c3
    have H' := Aside0.mk H
    clear H
    go_enter Try.func25, Try.ntmps25
    go_wp2
    repeat (go_quiet (fail); try go_wp2)
    go_loopg [5] k (fun kq v5 w' => ∃ (x5_1 : Int), v5 = .int .i64 x5_1 ∧ Aside0 (laws_eqIntS.l0 kq l0 l1 x5_1 = some r) ∧ Aside0 (kq ≤ k) ∧ Drawn0 w w')
    case atStart => exact ⟨(0), (by first | rfl | (simp; done) | (simp [*]; done)), H', ⟨Nat.le_refl _⟩, by repeat (first | exact Drawn0.refl _ | apply Drawn0.step)⟩
    case round =>
      clear H'
      try clear c1
      try clear c2
      try clear p2
      try clear c3
      try clear c3b0
      try clear c3b1
      try clear c3b2
      obtain ⟨x5_1, rfl, HA, HK1, ⟨m1, rfl⟩⟩ := hrel
      cases gk with
      | zero => exact absurd HA.out (by simp [laws_eqIntS.l0])
      | succ k1 =>
        have H := HA.out
        clear HA
        simp only [laws_eqIntS.l0] at H
        by_cases c4 : x5_1 < (l0.length : Int)
        · rw [if_pos c4] at H
          have c4b0 : decide (x5_1 < (l0.length : Int)) = true := decide_eq_true c4
          clear c4
          by_cases c5 : 0 ≤ x5_1
          · rw [if_pos c5] at H
            have c5b0 : decide (0 ≤ x5_1) = true := decide_eq_true c5
            clear c5
            by_cases c6 : x5_1 < (l1.length : Int)
            · rw [if_pos c6] at H
              have c6b0 : decide (x5_1 < (l1.length : Int)) = true := decide_eq_true c6
              clear c6
              by_cases c7 : (rd l0 x5_1) = (rd l1 x5_1)
              · rw [if_pos c7] at H
                have c7b0 : ((rd l0 x5_1) == (rd l1 x5_1)) = true := beq_iff_eq.mpr c7
                have c7b1 : ((rd l0 x5_1) != (rd l1 x5_1)) = false := bne_eq_false_iff_eq.mpr c7
                clear c7
                have H' := Aside0.mk H
                clear H
                have p101 : 0 ≤ (x5_1 : Int) := of_decide_eq_true (by first | (with_reducible assumption) | assumption)
                have q101 : x5_1 < (l0.length : Int) := of_decide_eq_true (by first | (with_reducible assumption) | assumption)
                obtain ⟨ad101, e101, hx101_0⟩ := Kd.at_int HR0.out x5_1 p101 q101
                cases e101
                replace p101 := eq_true p101
                replace q101 := eq_true q101
                have p102 : 0 ≤ (x5_1 : Int) := of_decide_eq_true (by first | (with_reducible assumption) | assumption)
                have q102 : x5_1 < (l1.length : Int) := of_decide_eq_true (by first | (with_reducible assumption) | assumption)
                obtain ⟨ad102, e102, hx102_0⟩ := Kd.at_int HR1.out x5_1 p102 q102
                cases e102
                replace p102 := eq_true p102
                replace q102 := eq_true q102
                go_wp2
                repeat (go_quiet (fail); try go_wp2)
                go_roundg k1
                case measure => have := HK1.out; omega
                case rel => exact ⟨(wrap64 (x5_1 + 1)), (by first | rfl | (simp; done) | (simp [*]; done)), H', ⟨by have := HK1.out; omega⟩, by repeat (first | exact Drawn0.refl _ | apply Drawn0.step)⟩
              · rw [if_neg c7] at H
                have c7b0 : ((rd l0 x5_1) == (rd l1 x5_1)) = false := beq_eq_false_iff_ne.mpr c7
                have c7b1 : ((rd l0 x5_1) != (rd l1 x5_1)) = true := bne_iff_ne.mpr c7
                obtain rfl := Option.some.inj H
                have p101 : 0 ≤ (x5_1 : Int) := of_decide_eq_true (by first | (with_reducible assumption) | assumption)
                have q101 : x5_1 < (l0.length : Int) := of_decide_eq_true (by first | (with_reducible assumption) | assumption)
                obtain ⟨ad101, e101, hx101_0⟩ := Kd.at_int HR0.out x5_1 p101 q101
                cases e101
                replace p101 := eq_true p101
                replace q101 := eq_true q101
                have p102 : 0 ≤ (x5_1 : Int) := of_decide_eq_true (by first | (with_reducible assumption) | assumption)
                have q102 : x5_1 < (l1.length : Int) := of_decide_eq_true (by first | (with_reducible assumption) | assumption)
                obtain ⟨ad102, e102, hx102_0⟩ := Kd.at_int HR1.out x5_1 p102 q102
                cases e102
                replace p102 := eq_true p102
                replace q102 := eq_true q102
                go_wp2
                repeat (go_quiet (fail); try go_wp2)
                go_ret
                exact ⟨by first | rfl | (simp; done) | (simp [*]; done), by repeat (first | exact Drawn0.refl _ | apply Drawn0.step)⟩
            · rw [if_neg c6] at H
              exact absurd H (by simp)
          · rw [if_neg c5] at H
            exact absurd H (by simp)
        · rw [if_neg c4] at H
          have c4b0 : decide (x5_1 < (l0.length : Int)) = false := decide_eq_false c4
          clear c4
          obtain rfl := Option.some.inj H
          go_wp2
          repeat (go_quiet (fail); try go_wp2)
          go_ret
          exact ⟨by first | rfl | (simp; done) | (simp [*]; done), by repeat (first | exact Drawn0.refl _ | apply Drawn0.step)⟩
  · rw [if_neg c3] at H
    have c3b0 : ((l0.length : Int) == (l1.length : Int)) = false := beq_eq_false_iff_ne.mpr c3
    have c3b1 : ((l0.length : Int) != (l1.length : Int)) = true := bne_iff_ne.mpr c3
    have c3b2 : (l0.length == l1.length) = false := by first | simpa using c3 | (simp at c3 ⊢; omega)
    obtain rfl := Option.some.inj H
    go_enter Try.func25, Try.ntmps25
    go_wp2
    repeat (go_quiet (fail); try go_wp2)
    go_ret
    exact ⟨by first | rfl | (simp; done) | (simp [*]; done), by repeat (first | exact Drawn0.refl _ | apply Drawn0.step)⟩
end Go.Proofs.Ytbfkcfmhlanlnaa.K
end
section
namespace Go.Proofs.Ytbfkcfmhlanlnaa.K
open Go.RowKit Go.Proofs.YtbfkcfmhlanlnaaW.PrintWords Go.Proofs.YtbfkcfmhlanlnaaW.PrintLast Go.Proofs.YtbfkcfmhlanlnaaW.PrintMore
attribute [local go_sem] max2_int min2_int max_two min_two max_three min_three max_four min_four
set_option linter.unusedVariables false
set_option linter.unusedSimpArgs false
def laws_eqIntSS.l0 : Nat → List (List Int) → List (List Int) → Int → Option (Bool)
  | 0, _, _, _ => none
  | k + 1, x0, x1, x5 => if x5 < (x0.length : Int) then (if 0 ≤ x5 then (if x5 < (x1.length : Int) then ((laws_eqIntS.f k (rd_L1 x0 x5) (rd_L1 x1 x5)).bind fun t103 => (if t103 = true then (laws_eqIntSS.l0 k x0 x1 (wrap64 (x5 + 1))) else (some false))) else (none)) else (none)) else (some true)
def laws_eqIntSS.f (k : Nat) (l0 : List (List Int)) (l1 : List (List Int)) : Option (Bool) := if (l0.length : Int) = (l1.length : Int) then (laws_eqIntSS.l0 k l0 l1 0) else (some false)
theorem laws_eqIntSS.mono_l : ∀ k, (∀ y0 y1 y2, LeO (laws_eqIntSS.l0 k y0 y1 y2) (laws_eqIntSS.l0 (k + 1) y0 y1 y2))
  | 0 => fun _ _ _ r h => by simp [laws_eqIntSS.l0] at h
  | k + 1 => by
    have ih0 := laws_eqIntSS.mono_l k
    · intro y0 y1 y2
      unfold laws_eqIntSS.l0
      repeat' first
      | (with_reducible exact ih0 _ _ _)
      | (with_reducible exact laws_eqIntS.mono _ _ _)
      | (with_reducible exact LeO.refl _)
      | (with_reducible exact LeO.none _)
      | (with_reducible refine LeO.ite ?_ ?_)
      | (with_reducible refine LeO.bind ?_ (fun _ => ?_))
      | exact ih0 _ _ _
      | exact laws_eqIntS.mono _ _ _
      | exact LeO.none _
      | refine LeO.ite ?_ ?_
      | refine LeO.bind ?_ (fun _ => ?_)
theorem laws_eqIntSS.mono : ∀ a0 a1 k, LeO (laws_eqIntSS.f k a0 a1) (laws_eqIntSS.f (k + 1) a0 a1) := by
  intro a0 a1 k
  have ih0 := laws_eqIntSS.mono_l k
  unfold laws_eqIntSS.f
  repeat' first
      | (with_reducible exact ih0 _ _ _)
      | (with_reducible exact laws_eqIntS.mono _ _ _)
      | (with_reducible exact LeO.refl _)
      | (with_reducible exact LeO.none _)
      | (with_reducible refine LeO.ite ?_ ?_)
      | (with_reducible refine LeO.bind ?_ (fun _ => ?_))
      | exact ih0 _ _ _
      | exact laws_eqIntS.mono _ _ _
      | exact LeO.none _
      | refine LeO.ite ?_ ?_
      | refine LeO.bind ?_ (fun _ => ?_)
set_option maxHeartbeats 8000000 in
set_option maxRecDepth 100000 in
theorem laws_eqIntSS.calls (k : Nat) (A0 : Option Addr) (c0 : Nat) (l0 : List (List Int)) (A1 : Option Addr) (c1 : Nat) (l1 : List (List Int)) (r : Bool) (w : World) (hr0 : Kd.C (Kd.slice 3 (Kd.int .i64)) w A0 l0.length l0) (hc0 : l0.length ≤ c0) (hr1 : Kd.C (Kd.slice 3 (Kd.int .i64)) w A1 l1.length l1) (hc1 : l1.length ≤ c1) (h : laws_eqIntSS.f k l0 l1 = some r) :
    Calls Try.prog 18 #[.slice A0 l0.length c0, .slice A1 l1.length c1] w fun e w' => e = .returned (.bool r) ∧ Drawn0 w w' := by
  have HR0 := Aside0.mk hr0
  have HC0 := Aside0.mk hc0
  clear hr0 hc0
  have HR1 := Aside0.mk hr1
  have HC1 := Aside0.mk hc1
  clear hr1 hc1
  have H : (if (l0.length : Int) = (l1.length : Int) then (laws_eqIntSS.l0 k l0 l1 0) else (some false)) = some r := h
  clear h
  by_cases c3 : (l0.length : Int) = (l1.length : Int)
  · rw [if_pos c3] at H
    have c3b0 : ((l0.length : Int) == (l1.length : Int)) = true := beq_iff_eq.mpr c3
    have c3b1 : ((l0.length : Int) != (l1.length : Int)) = false := bne_eq_false_iff_eq.mpr c3
    have c3b2 : (l0.length == l1.length) = true := by first | simpa using c3 | (simp at c3 ⊢; omega)
    clear c3
    have H' := Aside0.mk H
    clear H
    go_enter Try.func18, Try.ntmps18
    go_wp2
    repeat (go_quiet (fail); try go_wp2)
    go_loopg [5] k (fun kq v5 w' => ∃ (x5_1 : Int), v5 = .int .i64 x5_1 ∧ Aside0 (laws_eqIntSS.l0 kq l0 l1 x5_1 = some r) ∧ Aside0 (kq ≤ k) ∧ Drawn0 w w')
    case atStart => exact ⟨(0), (by first | rfl | (simp; done) | (simp [*]; done)), H', ⟨Nat.le_refl _⟩, by repeat (first | exact Drawn0.refl _ | apply Drawn0.step)⟩
    case round =>
      clear H'
      try clear c1
      try clear p2
      try clear c3
      try clear c3b0
      try clear c3b1
      try clear c3b2
      obtain ⟨x5_1, rfl, HA, HK1, ⟨m1, rfl⟩⟩ := hrel
      cases gk with
      | zero => exact absurd HA.out (by simp [laws_eqIntSS.l0])
      | succ k1 =>
        have H := HA.out
        clear HA
        simp only [laws_eqIntSS.l0] at H
        by_cases c4 : x5_1 < (l0.length : Int)
        · rw [if_pos c4] at H
          have c4b0 : decide (x5_1 < (l0.length : Int)) = true := decide_eq_true c4
          clear c4
          by_cases c5 : 0 ≤ x5_1
          · rw [if_pos c5] at H
            have c5b0 : decide (0 ≤ x5_1) = true := decide_eq_true c5
            clear c5
            by_cases c6 : x5_1 < (l1.length : Int)
            · rw [if_pos c6] at H
              have c6b0 : decide (x5_1 < (l1.length : Int)) = true := decide_eq_true c6
              clear c6
              replace H := Option.bind_eq_some_iff.mp H
              obtain ⟨t103, A70, H⟩ := H
              replace H : (if t103 = true then (laws_eqIntSS.l0 k1 l0 l1 (wrap64 (x5_1 + 1))) else (some false)) = some r := H
              have A7 := Aside0.mk A70
              clear A70
              by_cases c8 : t103 = true
              · subst c8
                have H1 : (laws_eqIntSS.l0 k1 l0 l1 (wrap64 (x5_1 + 1))) = some r := by rw [if_pos rfl] at H; exact H
                clear H
                have H := H1
                clear H1
                have H' := Aside0.mk H
                clear H
                have p101 : 0 ≤ (x5_1 : Int) := of_decide_eq_true (by first | (with_reducible assumption) | assumption)
                have q101 : x5_1 < (l0.length : Int) := of_decide_eq_true (by first | (with_reducible assumption) | assumption)
                obtain ⟨ad101, A101_0, c101_0, e101, hx101_0, hl101_0, hi101_0⟩ := at_L1 HR0.out x5_1 p101 q101
                cases e101
                have HR101_0 := Aside0.mk hi101_0
                have HC101_0 := Aside0.mk hl101_0
                clear hi101_0 hl101_0
                replace p101 := eq_true p101
                replace q101 := eq_true q101
                have p102 : 0 ≤ (x5_1 : Int) := of_decide_eq_true (by first | (with_reducible assumption) | assumption)
                have q102 : x5_1 < (l1.length : Int) := of_decide_eq_true (by first | (with_reducible assumption) | assumption)
                obtain ⟨ad102, A102_0, c102_0, e102, hx102_0, hl102_0, hi102_0⟩ := at_L1 HR1.out x5_1 p102 q102
                cases e102
                have HR102_0 := Aside0.mk hi102_0
                have HC102_0 := Aside0.mk hl102_0
                clear hi102_0 hl102_0
                replace p102 := eq_true p102
                replace q102 := eq_true q102
                go_wp2_with (first | (go_at_call 25; (with_reducible refine (laws_eqIntS.calls k1 _ _ (rd_L1 l0 x5_1) _ _ (rd_L1 l1 x5_1) true _ ?side1 ?side2 ?side3 ?side4 A7.out).mono ?_); (case side1 => repeat (first | exact HR101_0.out | (with_reducible refine Kd.C_alloc ?_ _) | (with_reducible refine Kd.C_drewN ?_ _) | (with_reducible refine Kd.C_drew ?_))); (case side2 => exact HC101_0.out); (case side3 => repeat (first | exact HR102_0.out | (with_reducible refine Kd.C_alloc ?_ _) | (with_reducible refine Kd.C_drewN ?_ _) | (with_reducible refine Kd.C_drew ?_))); (case side4 => exact HC102_0.out); rintro e w' ⟨rfl, ⟨nd, rfl⟩⟩; (try first | exact ⟨rfl, _, World.drewN_drewN _ _ _⟩ | exact ⟨rfl, _, Eq.trans (World.drewN_drewN _ _ _) (congrArg (World.drewN _) (Nat.add_assoc _ _ _))⟩)))
                repeat (go_quiet (first | (go_at_call 25; (with_reducible refine (laws_eqIntS.calls k1 _ _ (rd_L1 l0 x5_1) _ _ (rd_L1 l1 x5_1) true _ ?side1 ?side2 ?side3 ?side4 A7.out).mono ?_); (case side1 => repeat (first | exact HR101_0.out | (with_reducible refine Kd.C_alloc ?_ _) | (with_reducible refine Kd.C_drewN ?_ _) | (with_reducible refine Kd.C_drew ?_))); (case side2 => exact HC101_0.out); (case side3 => repeat (first | exact HR102_0.out | (with_reducible refine Kd.C_alloc ?_ _) | (with_reducible refine Kd.C_drewN ?_ _) | (with_reducible refine Kd.C_drew ?_))); (case side4 => exact HC102_0.out); rintro e w' ⟨rfl, ⟨nd, rfl⟩⟩; (try first | exact ⟨rfl, _, World.drewN_drewN _ _ _⟩ | exact ⟨rfl, _, Eq.trans (World.drewN_drewN _ _ _) (congrArg (World.drewN _) (Nat.add_assoc _ _ _))⟩))); try go_wp2_with (first | (go_at_call 25; (with_reducible refine (laws_eqIntS.calls k1 _ _ (rd_L1 l0 x5_1) _ _ (rd_L1 l1 x5_1) true _ ?side1 ?side2 ?side3 ?side4 A7.out).mono ?_); (case side1 => repeat (first | exact HR101_0.out | (with_reducible refine Kd.C_alloc ?_ _) | (with_reducible refine Kd.C_drewN ?_ _) | (with_reducible refine Kd.C_drew ?_))); (case side2 => exact HC101_0.out); (case side3 => repeat (first | exact HR102_0.out | (with_reducible refine Kd.C_alloc ?_ _) | (with_reducible refine Kd.C_drewN ?_ _) | (with_reducible refine Kd.C_drew ?_))); (case side4 => exact HC102_0.out); rintro e w' ⟨rfl, ⟨nd, rfl⟩⟩; (try first | exact ⟨rfl, _, World.drewN_drewN _ _ _⟩ | exact ⟨rfl, _, Eq.trans (World.drewN_drewN _ _ _) (congrArg (World.drewN _) (Nat.add_assoc _ _ _))⟩))))
                go_roundg k1
                case measure => have := HK1.out; omega
                case rel => exact ⟨(wrap64 (x5_1 + 1)), (by first | rfl | (simp; done) | (simp [*]; done)), H', ⟨by have := HK1.out; omega⟩, by repeat (first | exact Drawn0.refl _ | apply Drawn0.step)⟩
              · replace c8 := Bool.eq_false_iff.mpr c8
                subst c8
                have H1 : (some false) = some r := by rw [if_neg (show ¬ (false = true) by decide)] at H; exact H
                clear H
                have H := H1
                clear H1
                obtain rfl := Option.some.inj H
                have p101 : 0 ≤ (x5_1 : Int) := of_decide_eq_true (by first | (with_reducible assumption) | assumption)
                have q101 : x5_1 < (l0.length : Int) := of_decide_eq_true (by first | (with_reducible assumption) | assumption)
                obtain ⟨ad101, A101_0, c101_0, e101, hx101_0, hl101_0, hi101_0⟩ := at_L1 HR0.out x5_1 p101 q101
                cases e101
                have HR101_0 := Aside0.mk hi101_0
                have HC101_0 := Aside0.mk hl101_0
                clear hi101_0 hl101_0
                replace p101 := eq_true p101
                replace q101 := eq_true q101
                have p102 : 0 ≤ (x5_1 : Int) := of_decide_eq_true (by first | (with_reducible assumption) | assumption)
                have q102 : x5_1 < (l1.length : Int) := of_decide_eq_true (by first | (with_reducible assumption) | assumption)
                obtain ⟨ad102, A102_0, c102_0, e102, hx102_0, hl102_0, hi102_0⟩ := at_L1 HR1.out x5_1 p102 q102
                cases e102
                have HR102_0 := Aside0.mk hi102_0
                have HC102_0 := Aside0.mk hl102_0
                clear hi102_0 hl102_0
                replace p102 := eq_true p102
                replace q102 := eq_true q102
                go_wp2_with (first | (go_at_call 25; (with_reducible refine (laws_eqIntS.calls k1 _ _ (rd_L1 l0 x5_1) _ _ (rd_L1 l1 x5_1) false _ ?side1 ?side2 ?side3 ?side4 A7.out).mono ?_); (case side1 => repeat (first | exact HR101_0.out | (with_reducible refine Kd.C_alloc ?_ _) | (with_reducible refine Kd.C_drewN ?_ _) | (with_reducible refine Kd.C_drew ?_))); (case side2 => exact HC101_0.out); (case side3 => repeat (first | exact HR102_0.out | (with_reducible refine Kd.C_alloc ?_ _) | (with_reducible refine Kd.C_drewN ?_ _) | (with_reducible refine Kd.C_drew ?_))); (case side4 => exact HC102_0.out); rintro e w' ⟨rfl, ⟨nd, rfl⟩⟩; (try first | exact ⟨rfl, _, World.drewN_drewN _ _ _⟩ | exact ⟨rfl, _, Eq.trans (World.drewN_drewN _ _ _) (congrArg (World.drewN _) (Nat.add_assoc _ _ _))⟩)))
                repeat (go_quiet (first | (go_at_call 25; (with_reducible refine (laws_eqIntS.calls k1 _ _ (rd_L1 l0 x5_1) _ _ (rd_L1 l1 x5_1) false _ ?side1 ?side2 ?side3 ?side4 A7.out).mono ?_); (case side1 => repeat (first | exact HR101_0.out | (with_reducible refine Kd.C_alloc ?_ _) | (with_reducible refine Kd.C_drewN ?_ _) | (with_reducible refine Kd.C_drew ?_))); (case side2 => exact HC101_0.out); (case side3 => repeat (first | exact HR102_0.out | (with_reducible refine Kd.C_alloc ?_ _) | (with_reducible refine Kd.C_drewN ?_ _) | (with_reducible refine Kd.C_drew ?_))); (case side4 => exact HC102_0.out); rintro e w' ⟨rfl, ⟨nd, rfl⟩⟩; (try first | exact ⟨rfl, _, World.drewN_drewN _ _ _⟩ | exact ⟨rfl, _, Eq.trans (World.drewN_drewN _ _ _) (congrArg (World.drewN _) (Nat.add_assoc _ _ _))⟩))); try go_wp2_with (first | (go_at_call 25; (with_reducible refine (laws_eqIntS.calls k1 _ _ (rd_L1 l0 x5_1) _ _ (rd_L1 l1 x5_1) false _ ?side1 ?side2 ?side3 ?side4 A7.out).mono ?_); (case side1 => repeat (first | exact HR101_0.out | (with_reducible refine Kd.C_alloc ?_ _) | (with_reducible refine Kd.C_drewN ?_ _) | (with_reducible refine Kd.C_drew ?_))); (case side2 => exact HC101_0.out); (case side3 => repeat (first | exact HR102_0.out | (with_reducible refine Kd.C_alloc ?_ _) | (with_reducible refine Kd.C_drewN ?_ _) | (with_reducible refine Kd.C_drew ?_))); (case side4 => exact HC102_0.out); rintro e w' ⟨rfl, ⟨nd, rfl⟩⟩; (try first | exact ⟨rfl, _, World.drewN_drewN _ _ _⟩ | exact ⟨rfl, _, Eq.trans (World.drewN_drewN _ _ _) (congrArg (World.drewN _) (Nat.add_assoc _ _ _))⟩))))
                go_ret
                exact ⟨by first | rfl | (simp; done) | (simp [*]; done), by repeat (first | exact Drawn0.refl _ | apply Drawn0.step)⟩
            · rw [if_neg c6] at H
              exact absurd H (by simp)
          · rw [if_neg c5] at H
            exact absurd H (by simp)
        · rw [if_neg c4] at H
          have c4b0 : decide (x5_1 < (l0.length : Int)) = false := decide_eq_false c4
          clear c4
          obtain rfl := Option.some.inj H
          go_wp2
          repeat (go_quiet (fail); try go_wp2)
          go_ret
          exact ⟨by first | rfl | (simp; done) | (simp [*]; done), by repeat (first | exact Drawn0.refl _ | apply Drawn0.step)⟩
  · rw [if_neg c3] at H
    have c3b0 : ((l0.length : Int) == (l1.length : Int)) = false := beq_eq_false_iff_ne.mpr c3
    have c3b1 : ((l0.length : Int) != (l1.length : Int)) = true := bne_iff_ne.mpr c3
    have c3b2 : (l0.length == l1.length) = false := by first | simpa using c3 | (simp at c3 ⊢; omega)
    obtain rfl := Option.some.inj H
    go_enter Try.func18, Try.ntmps18
    go_wp2
    repeat (go_quiet (fail); try go_wp2)
    go_ret
    exact ⟨by first | rfl | (simp; done) | (simp [*]; done), by repeat (first | exact Drawn0.refl _ | apply Drawn0.step)⟩
end Go.Proofs.Ytbfkcfmhlanlnaa.K
end
section
namespace Go.Proofs.Ytbfkcfmhlanlnaa.K
set_option linter.unusedVariables false
set_option linter.unusedSimpArgs false
open Go.RowKit Go.Proofs.YtbfkcfmhlanlnaaW.PrintWords Go.Proofs.YtbfkcfmhlanlnaaW.PrintLast Go.Proofs.YtbfkcfmhlanlnaaW.PrintMore
theorem eqIntS_lj (a b : List Int) (hl : a.length ≤ 140737488351232) (h : a.length = b.length) (d : Nat) : ∀ (i : Nat), i + d = a.length → Ev (fun k => laws_eqIntS.l0 k a b (i : Int)) (decide (a.drop i = b.drop i)) := by
  induction d with
  | zero =>
    intro i hi
    refine Ev.step (fun k => rfl) (tv_neg (by omega) (tv_eq (Ev.now _) ?_))
    rw [List.drop_eq_nil_of_le (by omega), List.drop_eq_nil_of_le (by omega)]; simp
  | succ d ih =>
    intro i hi
    have hlt : i < a.length := by omega
    have hlt2 : i < b.length := by omega
    refine Ev.step (fun k => rfl) (tv_pos (by omega) (tv_pos (by omega) (tv_pos (by omega) ?_)))
    rw [rd_get_j a i hlt, rd_get_j b i hlt2, w64t (by omega) (by omega), show ((i : Int) + 1) = ((i + 1 : Nat) : Int) by omega]
    have ea : a.drop i = a[i] :: a.drop (i + 1) := List.drop_eq_getElem_cons hlt
    have eb : b.drop i = b[i] :: b.drop (i + 1) := List.drop_eq_getElem_cons hlt2
    generalize a.drop i = da at *
    generalize b.drop i = db at *
    by_cases c : a[i] = b[i]
    · refine tv_pos c (tv_eq (ih (i + 1) (by omega)) ?_)
      rw [ea, eb, c]; exact decide_eq_decide.mpr (by rw [List.cons.injEq]; exact ⟨fun h => ⟨rfl, h⟩, fun h => h.2⟩)
    · refine tv_neg c (tv_eq (Ev.now _) ?_)
      rw [ea, eb]; exact (decide_eq_false (by rw [List.cons.injEq]; exact fun h => c h.1)).symm
theorem eqIntS_j (a b : List Int) (hl : a.length ≤ 140737488351232) : Ev (fun k => laws_eqIntS.f k a b) (decide (a = b)) := by
  unfold laws_eqIntS.f
  by_cases c : a.length = b.length
  · refine tv_pos (by omega) (tv_eq (eqIntS_lj a b hl c a.length 0 (by omega)) ?_)
    simp
  · refine tv_neg (by omega) (tv_eq (Ev.now _) ?_)
    symm
    rw [decide_eq_false_iff_not]
    intro h
    exact c (by rw [h])
theorem eqSelf_l (a : List (List Int)) (hl : Small a) (d : Nat) : ∀ (i : Nat), i + d = a.length → Ev (fun k => laws_eqIntSS.l0 k a a (i : Int)) true := by
  have hl0 := hl.1
  induction d with
  | zero =>
    intro i hi
    exact Ev.step (fun k => rfl) (tv_neg (by omega) (Ev.now _))
  | succ d ih =>
    intro i hi
    have hlt : i < a.length := by omega
    refine Ev.step (fun k => rfl) (tv_pos (by omega) (tv_pos (by omega) (tv_pos (by omega) ?_)))
    rw [rdL_get_j a i hlt, w64t (by omega) (by omega), show ((i : Int) + 1) = ((i + 1 : Nat) : Int) by omega]
    refine (eqIntS_j a[i] a[i] (hl.2 _ (List.getElem_mem _))).bind (tv_pos (by simp) (ih (i + 1) (by omega)))
theorem eqSelf (a : List (List Int)) (hl : Small a) : Ev (fun k => laws_eqIntSS.f k a a) true := by
  unfold laws_eqIntSS.f
  exact tv_pos rfl (eqSelf_l a hl a.length 0 (by omega))
end Go.Proofs.Ytbfkcfmhlanlnaa.K
end
section
namespace Go.Proofs.Ytbfkcfmhlanlnaa.K
open Go.RowKit Go.Proofs.YtbfkcfmhlanlnaaW.PrintWords Go.Proofs.YtbfkcfmhlanlnaaW.PrintLast Go.Proofs.YtbfkcfmhlanlnaaW.PrintMore
attribute [local go_sem] max2_int min2_int max_two min_two max_three min_three max_four min_four
set_option linter.unusedVariables false
set_option linter.unusedSimpArgs false
def laws_markIntS.l0 : Nat → List Int → Int → Int → Option (Int × List Int)
  | 0, _, _, _ => none
  | k + 1, x0, x1, x5 => if x5 < (x0.length : Int) then (if 0 ≤ x5 then (laws_markIntS.l0 k (x0.set (x5 : Int).toNat x1) (wrap64 (x1 + 1)) (wrap64 (x5 + 1))) else (none)) else (some (x1, x0))
def laws_markIntS.f (k : Nat) (l0 : List Int) (a1 : Int) : Option (Int × List Int) := laws_markIntS.l0 k l0 a1 0
theorem laws_markIntS.mono_l : ∀ k, (∀ y0 y1 y2, LeO (laws_markIntS.l0 k y0 y1 y2) (laws_markIntS.l0 (k + 1) y0 y1 y2))
  | 0 => fun _ _ _ r h => by simp [laws_markIntS.l0] at h
  | k + 1 => by
    have ih0 := laws_markIntS.mono_l k
    · intro y0 y1 y2
      unfold laws_markIntS.l0
      repeat' first
      | (with_reducible exact ih0 _ _ _)
      | (with_reducible exact LeO.refl _)
      | (with_reducible exact LeO.none _)
      | (with_reducible refine LeO.ite ?_ ?_)
      | (with_reducible refine LeO.bind ?_ (fun _ => ?_))
      | exact ih0 _ _ _
      | exact LeO.none _
      | refine LeO.ite ?_ ?_
      | refine LeO.bind ?_ (fun _ => ?_)
theorem laws_markIntS.mono : ∀ a0 a1 k, LeO (laws_markIntS.f k a0 a1) (laws_markIntS.f (k + 1) a0 a1) := by
  intro a0 a1 k
  have ih0 := laws_markIntS.mono_l k
  unfold laws_markIntS.f
  repeat' first
      | (with_reducible exact ih0 _ _ _)
      | (with_reducible exact LeO.refl _)
      | (with_reducible exact LeO.none _)
      | (with_reducible refine LeO.ite ?_ ?_)
      | (with_reducible refine LeO.bind ?_ (fun _ => ?_))
      | exact ih0 _ _ _
      | exact LeO.none _
      | refine LeO.ite ?_ ?_
      | refine LeO.bind ?_ (fun _ => ?_)
set_option maxHeartbeats 8000000 in
set_option maxRecDepth 100000 in
theorem laws_markIntS.calls (k : Nat) (P0_ : Nat → Prop) (u9000_ : Value) (l0 : List Int) (a1 : Int) (r1 : Int) (r2 : List Int) (w0 w : World) (hB : Below w0.heap.size w0 w) (ho0 : Kd.R (Kd.int .i64) 3 w w0.heap.size P0_ u9000_ l0) (h : laws_markIntS.f k l0 a1 = some (r1, r2)) :
    Calls Try.prog 28 #[u9000_, .int .i64 a1] w fun e w' => e = .returned (.int .i64 r1) ∧ Kd.R (Kd.int .i64) 3 w' w0.heap.size (fun k_ => (P0_ k_ ∨ w.heap.size ≤ k_)) u9000_ r2 ∧ Below w0.heap.size w0 w' ∧ Kept w w' (fun k_ => P0_ k_) := by
  have HO0 := Aside0.mk (show Kd.R (Kd.int .i64) 3 w w0.heap.size (fun k_ => (P0_ k_ ∨ w.heap.size ≤ k_)) u9000_ l0 from Kd.R_mono ho0 (fun k_ hk => (.inl hk)))
  have HK := Aside0.mk (Kept.refl w (fun k_ => P0_ k_))
  have HW0 := Aside0.mk hB.size
  have HB := Aside0.mk hB
  clear hB
  have H : (laws_markIntS.l0 k l0 a1 0) = some (r1, r2) := h
  clear h
  have H' := Aside0.mk H
  clear H
  go_enter Try.func28, Try.ntmps28
  go_wp2
  go_loopg [1, 5] k (fun kq v1 v5 w' => ∃ (x0_1 : List Int) (x1_1 : Int) (x5_1 : Int), v1 = .int .i64 x1_1 ∧ v5 = .int .i64 x5_1 ∧ Aside0 (laws_markIntS.l0 kq x0_1 x1_1 x5_1 = some (r1, r2)) ∧ Aside0 (kq ≤ k) ∧ Aside0 (Kd.R (Kd.int .i64) 3 w' w0.heap.size (fun k_ => (P0_ k_ ∨ w.heap.size ≤ k_)) u9000_ x0_1) ∧ Aside0 (Kept w w' (fun k_ => P0_ k_)) ∧ Aside0 (Below w0.heap.size w0 w'))
  case atStart => exact ⟨(l0), (a1), (0), (by first | rfl | (simp; done) | (simp [*]; done)), (by first | rfl | (simp; done) | (simp [*]; done)), H', ⟨Nat.le_refl _⟩, ⟨by (with_reducible repeat (first | apply Kd.R_alloc | apply Kd.R_drewN | apply Kd.R_drew)); exact HO0.out⟩, ⟨by repeat (first | (with_reducible first | exact HK.out | apply Kept.alloc | apply Kept.drewN | apply Kept.drew) | exact HK.out)⟩, ⟨by repeat (first | (with_reducible first | exact HB.out | apply below_alloc | apply pw_below_drewN | apply below_drew1) | exact HB.out)⟩⟩
  case round =>
    clear H'
    try clear c2
    try clear p2
    obtain ⟨x0_1, x1_1, x5_1, rfl, rfl, HA, HK1, HO_0, HK, HB⟩ := hrel
    cases gk with
    | zero => exact absurd HA.out (by simp [laws_markIntS.l0])
    | succ k1 =>
      have H := HA.out
      clear HA
      simp only [laws_markIntS.l0] at H
      by_cases c3 : x5_1 < (x0_1.length : Int)
      · rw [if_pos c3] at H
        have c3b0 : decide (x5_1 < (x0_1.length : Int)) = true := decide_eq_true c3
        clear c3
        by_cases c4 : 0 ≤ x5_1
        · rw [if_pos c4] at H
          have c4b0 : decide (0 ≤ x5_1) = true := decide_eq_true c4
          clear c4
          obtain ⟨y101, hy101⟩ : ∃ y_ : List Int, y_ = (x0_1.set (x5_1 : Int).toNat x1_1) := ⟨_, rfl⟩
          replace H : (laws_markIntS.l0 k1 y101 (wrap64 (x1_1 + 1)) (wrap64 (x5_1 + 1))) = some (r1, r2) := by first | (rw [hy101]; with_reducible exact H) | (have H2_ := (Option.bind_some _ _).symm.trans H; rw [hy101]; with_reducible exact H2_) | (have H2_ := (Option.bind_some _ _).symm.trans H; with_reducible exact H2_) | with_reducible exact H | (rw [hy101]; exact H) | exact H
          have Ny101 := Aside0.mk hy101
          clear hy101
          have H' := Aside0.mk H
          clear H
          obtain ⟨Ao6, co6, eo6⟩ := Kd.R_slice HO_0.out
          subst eo6
          have p5 : 0 ≤ (x5_1 : Int) := of_decide_eq_true (by first | (with_reducible assumption) | assumption)
          have q5 : (x5_1 : Int) < ((x0_1.length : Int) : Int) := of_decide_eq_true (by first | (with_reducible assumption) | assumption)
          obtain ⟨go5, co5, eo5, gb5, gl5, cl5, HG5⟩ := Kd.R_form HO_0.out (by omega)
          (first | cases eo5 | (injection eo5 with ea_ en_ ec_; (first | subst ea_ | (injection ea_ with ea_; subst ea_)); subst ec_; clear en_))
          have GB5 := Aside0.mk gb5
          have GG5 := Aside0.mk HG5
          clear gb5 gl5 HG5
          have HMgo5 := Aside0.mk (show (P0_ go5 ∨ w.heap.size ≤ go5) from (HO_0.out.1 _ rfl))
          obtain ⟨hx5_0, hf5_0⟩ := Kd.R_celln 0 HO_0.out (x5_1 : Int) p5 q5
          replace p5 := eq_true p5
          replace q5 := eq_true q5
          have HP7 := Kd.R_putg HO_0.out (x5_1 : Int) x1_1
          go_wp2_with (first | ((with_reducible refine gate_store (t := 3) (p := 15) rfl ?_); refine store_event (t := 3) (p := 15) (v := ?vo_w8) (w1 := (wr.setCell ⟨go5, (x5_1 : Int).toNat, none⟩ (.int .i64 x1_1))) ?hg ?ho ?hn ?hr ?_; (case ho => rfl); (case hg => rfl); (case hn => rfl); (case hr => first | (go_simp; done) | (go_simp; rfl)); intro w8 hw; have hg : wr.grownBy w8 (some go5) := (by rw [hw]; exact HP7.2); have hp_ : Kd.R (Kd.int .i64) 3 w8 w0.heap.size (fun k_ => (P0_ k_ ∨ w.heap.size ≤ k_)) (.slice (some ⟨go5, 0, none⟩) x0_1.length co6) y101 := (by rw [hw, Ny101.out]; exact HP7.1); clear HP7; have n0_ := Aside0.mk (hp_); have n1_ := Aside0.mk ((by rw [hw]; exact below_set (HB.out) GB5.out : Below w0.heap.size w0 w8)); have n2_ := Aside0.mk (Kept.of_grown (S := (fun k_ => P0_ k_)) hg (by repeat (first | (with_reducible first | exact HK.out | apply Kept.alloc | apply Kept.drewN | apply Kept.drew) | exact HK.out)) (fun k_ e_ => (HO_0.out.1 k_ e_))); clear HO_0; clear HB; clear HK; have HO_0 := n0_; have HB := n1_; have HK := n2_; clear n0_ n1_ n2_; clear hg hw hp_))
          go_roundg k1
          case measure => have := HK1.out; omega
          case rel => exact ⟨(y101), (wrap64 (x1_1 + 1)), (wrap64 (x5_1 + 1)), (by first | rfl | (simp; done) | (simp [*]; done)), (by first | rfl | (simp; done) | (simp [*]; done)), H', ⟨by have := HK1.out; omega⟩, ⟨by (with_reducible repeat (first | apply Kd.R_alloc | apply Kd.R_drewN | apply Kd.R_drew)); exact HO_0.out⟩, ⟨by repeat (first | (with_reducible first | exact HK.out | apply Kept.alloc | apply Kept.drewN | apply Kept.drew) | exact HK.out)⟩, ⟨by repeat (first | (with_reducible first | exact HB.out | apply below_alloc | apply pw_below_drewN | apply below_drew1) | exact HB.out)⟩⟩
        · rw [if_neg c4] at H
          exact absurd H (by simp)
      · rw [if_neg c3] at H
        have c3b0 : decide (x5_1 < (x0_1.length : Int)) = false := decide_eq_false c3
        clear c3
        simp only [Option.some.injEq, Prod.mk.injEq] at H
        obtain ⟨rfl, rfl⟩ := H
        obtain ⟨Ao9, co9, eo9⟩ := Kd.R_slice HO_0.out
        subst eo9
        go_wp2
        go_ret
        exact ⟨by first | rfl | (simp [errW_none, errW_some] <;> rfl) | (simp [*, errW_none, errW_some] <;> rfl), by (with_reducible repeat (first | apply Kd.R_alloc | apply Kd.R_drewN | apply Kd.R_drew)); exact HO_0.out, by repeat (first | (with_reducible first | exact HB.out | apply below_alloc | apply pw_below_drewN | apply below_drew1) | exact HB.out), by repeat (first | (with_reducible first | exact HK.out | apply Kept.alloc | apply Kept.drewN | apply Kept.drew) | exact HK.out)⟩
end Go.Proofs.Ytbfkcfmhlanlnaa.K
end
section
namespace Go.Proofs.Ytbfkcfmhlanlnaa.K
open Go.RowKit Go.Proofs.YtbfkcfmhlanlnaaW.PrintWords Go.Proofs.YtbfkcfmhlanlnaaW.PrintLast Go.Proofs.YtbfkcfmhlanlnaaW.PrintMore
attribute [local go_sem] max2_int min2_int max_two min_two max_three min_three max_four min_four
set_option linter.unusedVariables false
set_option linter.unusedSimpArgs false
def laws_heldIntS.l0 : Nat → List Int → Int → Int → Option (Int)
  | 0, _, _, _ => none
  | k + 1, x0, x1, x5 => if x5 < (x0.length : Int) then (if 0 ≤ x5 then (if (rd x0 x5) = x1 then (laws_heldIntS.l0 k x0 (wrap64 (x1 + 1)) (wrap64 (x5 + 1))) else (some (-1))) else (none)) else (some x1)
def laws_heldIntS.f (k : Nat) (l0 : List Int) (a1 : Int) : Option (Int) := laws_heldIntS.l0 k l0 a1 0
theorem laws_heldIntS.mono_l : ∀ k, (∀ y0 y1 y2, LeO (laws_heldIntS.l0 k y0 y1 y2) (laws_heldIntS.l0 (k + 1) y0 y1 y2))
  | 0 => fun _ _ _ r h => by simp [laws_heldIntS.l0] at h
  | k + 1 => by
    have ih0 := laws_heldIntS.mono_l k
    · intro y0 y1 y2
      unfold laws_heldIntS.l0
      repeat' first
      | (with_reducible exact ih0 _ _ _)
      | (with_reducible exact LeO.refl _)
      | (with_reducible exact LeO.none _)
      | (with_reducible refine LeO.ite ?_ ?_)
      | (with_reducible refine LeO.bind ?_ (fun _ => ?_))
      | exact ih0 _ _ _
      | exact LeO.none _
      | refine LeO.ite ?_ ?_
      | refine LeO.bind ?_ (fun _ => ?_)
theorem laws_heldIntS.mono : ∀ a0 a1 k, LeO (laws_heldIntS.f k a0 a1) (laws_heldIntS.f (k + 1) a0 a1) := by
  intro a0 a1 k
  have ih0 := laws_heldIntS.mono_l k
  unfold laws_heldIntS.f
  repeat' first
      | (with_reducible exact ih0 _ _ _)
      | (with_reducible exact LeO.refl _)
      | (with_reducible exact LeO.none _)
      | (with_reducible refine LeO.ite ?_ ?_)
      | (with_reducible refine LeO.bind ?_ (fun _ => ?_))
      | exact ih0 _ _ _
      | exact LeO.none _
      | refine LeO.ite ?_ ?_
      | refine LeO.bind ?_ (fun _ => ?_)
set_option maxHeartbeats 8000000 in
set_option maxRecDepth 100000 in
theorem laws_heldIntS.calls (k : Nat) (A0 : Option Addr) (c0 : Nat) (l0 : List Int) (a1 : Int) (r : Int) (w : World) (hr0 : Kd.C (Kd.int .i64) w A0 l0.length l0) (hc0 : l0.length ≤ c0) (h : laws_heldIntS.f k l0 a1 = some r) :
    Calls Try.prog 29 #[.slice A0 l0.length c0, .int .i64 a1] w fun e w' => e = .returned (.int .i64 r) ∧ Drawn0 w w' := by
  have HR0 := Aside0.mk hr0
  have HC0 := Aside0.mk hc0
  clear hr0 hc0
  have H : (laws_heldIntS.l0 k l0 a1 0) = some r := h
  clear h
  have H' := Aside0.mk H
  clear H
  go_enter Try.func29, Try.ntmps29
  go_wp2
  go_loopg [1, 5] k (fun kq v1 v5 w' => ∃ (x1_1 : Int) (x5_1 : Int), v1 = .int .i64 x1_1 ∧ v5 = .int .i64 x5_1 ∧ Aside0 (laws_heldIntS.l0 kq l0 x1_1 x5_1 = some r) ∧ Aside0 (kq ≤ k) ∧ Drawn0 w w')
  case atStart => exact ⟨(a1), (0), (by first | rfl | (simp; done) | (simp [*]; done)), (by first | rfl | (simp; done) | (simp [*]; done)), H', ⟨Nat.le_refl _⟩, by repeat (first | exact Drawn0.refl _ | apply Drawn0.step)⟩
  case round =>
    clear H'
    try clear c2
    try clear p2
    obtain ⟨x1_1, x5_1, rfl, rfl, HA, HK1, ⟨m1, rfl⟩⟩ := hrel
    cases gk with
    | zero => exact absurd HA.out (by simp [laws_heldIntS.l0])
    | succ k1 =>
      have H := HA.out
      clear HA
      simp only [laws_heldIntS.l0] at H
      by_cases c3 : x5_1 < (l0.length : Int)
      · rw [if_pos c3] at H
        have c3b0 : decide (x5_1 < (l0.length : Int)) = true := decide_eq_true c3
        clear c3
        by_cases c4 : 0 ≤ x5_1
        · rw [if_pos c4] at H
          have c4b0 : decide (0 ≤ x5_1) = true := decide_eq_true c4
          clear c4
          by_cases c5 : (rd l0 x5_1) = x1_1
          · rw [if_pos c5] at H
            have c5b0 : ((rd l0 x5_1) == x1_1) = true := beq_iff_eq.mpr c5
            have c5b1 : ((rd l0 x5_1) != x1_1) = false := bne_eq_false_iff_eq.mpr c5
            clear c5
            have H' := Aside0.mk H
            clear H
            have p101 : 0 ≤ (x5_1 : Int) := of_decide_eq_true (by first | (with_reducible assumption) | assumption)
            have q101 : x5_1 < (l0.length : Int) := of_decide_eq_true (by first | (with_reducible assumption) | assumption)
            obtain ⟨ad101, e101, hx101_0⟩ := Kd.at_int HR0.out x5_1 p101 q101
            cases e101
            replace p101 := eq_true p101
            replace q101 := eq_true q101
            go_wp2
            go_roundg k1
            case measure => have := HK1.out; omega
            case rel => exact ⟨(wrap64 (x1_1 + 1)), (wrap64 (x5_1 + 1)), (by first | rfl | (simp; done) | (simp [*]; done)), (by first | rfl | (simp; done) | (simp [*]; done)), H', ⟨by have := HK1.out; omega⟩, by repeat (first | exact Drawn0.refl _ | apply Drawn0.step)⟩
          · rw [if_neg c5] at H
            have c5b0 : ((rd l0 x5_1) == x1_1) = false := beq_eq_false_iff_ne.mpr c5
            have c5b1 : ((rd l0 x5_1) != x1_1) = true := bne_iff_ne.mpr c5
            obtain rfl := Option.some.inj H
            have p101 : 0 ≤ (x5_1 : Int) := of_decide_eq_true (by first | (with_reducible assumption) | assumption)
            have q101 : x5_1 < (l0.length : Int) := of_decide_eq_true (by first | (with_reducible assumption) | assumption)
            obtain ⟨ad101, e101, hx101_0⟩ := Kd.at_int HR0.out x5_1 p101 q101
            cases e101
            replace p101 := eq_true p101
            replace q101 := eq_true q101
            go_wp2
            go_ret
            exact ⟨by first | rfl | (simp; done) | (simp [*]; done), by repeat (first | exact Drawn0.refl _ | apply Drawn0.step)⟩
        · rw [if_neg c4] at H
          exact absurd H (by simp)
      · rw [if_neg c3] at H
        have c3b0 : decide (x5_1 < (l0.length : Int)) = false := decide_eq_false c3
        clear c3
        obtain rfl := Option.some.inj H
        go_wp2
        go_ret
        exact ⟨by first | rfl | (simp; done) | (simp [*]; done), by repeat (first | exact Drawn0.refl _ | apply Drawn0.step)⟩
end Go.Proofs.Ytbfkcfmhlanlnaa.K
end
section
namespace Go.Proofs.Ytbfkcfmhlanlnaa.K
set_option linter.unusedVariables false
set_option linter.unusedSimpArgs false
open Go.RowKit Go.Proofs.YtbfkcfmhlanlnaaW.PrintWords Go.Proofs.YtbfkcfmhlanlnaaW.PrintLast Go.Proofs.YtbfkcfmhlanlnaaW.PrintMore
def Raw (w : World) (g : Nat) (xs : List Int) : Prop := ∃ cur : Array Value, w.heap[g]? = some (.cells cur 3 (0, 0)) ∧ cur.toList.take xs.length = nums .i64 xs
theorem Raw_size {w : World} {g : Nat} {xs : List Int} {cur : Array Value} (h : cur.toList.take xs.length = nums .i64 xs) : xs.length ≤ cur.size := by
  have := congrArg List.length h
  simp [nums] at this
  omega
theorem Raw_at {xs : List Int} {cur : Array Value} (h : cur.toList.take xs.length = nums .i64 xs) (j : Nat) (hj : j < xs.length) : cur[j]? = some (.int .i64 xs[j]) := by
  have h1 : (cur.toList.take xs.length)[j]? = (nums .i64 xs)[j]? := by rw [h]
  rw [List.getElem?_take, if_pos hj, Array.getElem?_toList] at h1
  rw [h1, nums]
  simp [hj]
theorem Raw_C {w : World} {g : Nat} {xs : List Int} (h : Raw w g xs) (hl : xs.length ≤ 9223372036854775807) : Kd.C (Kd.int .i64) w (some ⟨g, 0, none⟩) xs.length xs := by
  obtain ⟨cur, hb, ht⟩ := h
  refine ⟨rfl, hl, fun _ => ⟨_, rfl, fun j p hj => ?_⟩⟩
  obtain ⟨hlt, he⟩ := List.getElem?_eq_some_iff.1 hj
  refine ⟨[.int .i64 p], rfl, rfl, fun i u hi => ?_⟩
  have hsz : (Kd.int .i64).sz = 1 := rfl
  match i, hi with
  | 0, hi =>
    simp at hi
    subst hi
    rw [hsz, Nat.mul_one, Nat.add_zero, show (⟨g, 0, none⟩ : Addr).add j = ⟨g, j, none⟩ from by unfold Addr.add; split <;> simp_all]
    rw [blk_cell hb, Raw_at ht j hlt, he]
  | i + 1, hi => simp at hi
theorem Raw_of_R {w : World} {base : Nat} {ok : Nat → Prop} {g n c : Nat} {xs : List Int} (h : Kd.R (Kd.int .i64) 3 w base ok (.slice (some ⟨g, 0, none⟩) n c) xs) : Raw w g xs := by
  obtain ⟨_, ho⟩ := Kd.own_of_R h
  rcases ho with ⟨h0, _⟩ | ⟨g', cap, cur, hv, _, hb, _, _, _, ht⟩
  · cases h0
  · cases hv
    rw [Nat.mul_one] at ht
    exact ⟨cur, hb, ht⟩
def markL (k : Int) (n : Nat) : List Int := (List.range n).map fun (j : Nat) => k + (j : Int)
theorem markL_length (k : Int) (n : Nat) : (markL k n).length = n := by simp [markL]
def markd (cur : Array Value) (k : Int) : Nat → Array Value
  | 0 => cur
  | j + 1 => (markd cur k j).setIfInBounds j (.int .i64 (k + (j : Int)))
theorem markd_size (cur : Array Value) (k : Int) : ∀ n, (markd cur k n).size = cur.size
  | 0 => rfl
  | n + 1 => by rw [markd, Array.size_setIfInBounds, markd_size cur k n]
theorem markd_at (cur : Array Value) (k : Int) : ∀ n j, j < n → n ≤ cur.size → (markd cur k n)[j]? = some (.int .i64 (k + (j : Int)))
  | n + 1, j, h, hs => by
    rw [markd, Array.getElem?_setIfInBounds]
    by_cases c : n = j
    · subst c
      rw [if_pos rfl, if_pos (by rw [markd_size]; omega)]
    · rw [if_neg c]; exact markd_at cur k n j (by omega) (by omega)
theorem markd_raw (cur : Array Value) (k : Int) (n : Nat) (hs : n ≤ cur.size) : (markd cur k n).toList.take (markL k n).length = nums .i64 (markL k n) := by
  rw [markL_length]
  apply List.ext_getElem?
  intro j
  rw [List.getElem?_take]
  by_cases c : j < n
  · rw [if_pos c, Array.getElem?_toList, markd_at cur k n j c hs]
    simp [nums, markL, c]
  · rw [if_neg c]
    symm
    rw [List.getElem?_eq_none_iff]
    simp [nums, markL]; omega
set_option maxHeartbeats 4000000 in
set_option maxRecDepth 100000 in
theorem markInts_raw (g c : Nat) (xs : List Int) (k : Int) (w : World) (hb : Raw w g xs) (hn : xs.length ≤ 1000) (hk : 0 ≤ k) (hk2 : k ≤ 1000000) :
    Calls Try.prog 28 #[.slice (some ⟨g, 0, none⟩) xs.length c, .int .i64 k] w fun e w' => e = .returned (.int .i64 (k + xs.length)) ∧ Raw w' g (markL k xs.length) ∧ KeepBut w w' g none ∧ (∀ (b0 : Nat) (w0 : World), b0 ≤ g → Below b0 w0 w → Below b0 w0 w') := by
  obtain ⟨cur, hb, ht⟩ := hb
  have hs := Raw_size (w := w) (g := g) ht
  have HB := Aside0.mk hb
  obtain ⟨n, hn'⟩ : ∃ n, n = xs.length := ⟨_, rfl⟩
  rw [← hn'] at hs hn ⊢
  clear ht hb hn'
  go_enter Try.func28, Try.ntmps28
  go_wp2
  go_loopg [1, 5] n (fun d v1 v5 w' => ∃ i : Int, v1 = .int .i64 (k + i) ∧ v5 = .int .i64 i ∧ Aside0 (i + d = n) ∧ Aside0 (0 ≤ i) ∧ Aside0 (w'.heap[g]? = some (.cells (markd cur k i.toNat) 3 (0, 0))) ∧ Aside0 (KeepBut w w' g none) ∧ Aside0 (∀ (b0 : Nat) (w0 : World), b0 ≤ g → Below b0 w0 w → Below b0 w0 w'))
  case atStart => exact ⟨0, by simp, rfl, ⟨by omega⟩, ⟨by omega⟩, HB, ⟨⟨Nat.le_refl _, fun _ _ _ _ => rfl⟩⟩, ⟨fun _ _ _ h => h⟩⟩
  case round =>
    obtain ⟨i, rfl, rfl, HE, HI, HM, HK, HL⟩ := hrel
    cases gk with
    | zero =>
      have ct : decide (i < (n : Int)) = false := decide_eq_false (by have := HE.out; omega)
      go_wp2
      go_ret
      have hi : i.toNat = n := by have := HE.out; have := HI.out; omega
      refine ⟨by rw [← show i = (n : Int) by have := HE.out; omega]; rfl, ⟨_, hi ▸ HM.out, markd_raw cur k n hs⟩, HK.out, HL.out⟩
    | succ d =>
      have p0 := HI.out
      have p1 : i < (n : Int) := by have := HE.out; omega
      have ct : decide (i < (n : Int)) = true := decide_eq_true p1
      have hlt : i.toNat < (markd cur k i.toNat).size := by rw [markd_size]; omega
      have hc : wr.cell? ⟨g, i.toNat, none⟩ = some ((markd cur k i.toNat)[i.toNat]'hlt) := by rw [blk_cell HM.out, Array.getElem?_eq_getElem hlt]
      have hf : wr.frozen? ⟨g, i.toNat, none⟩ = false := blk_frozen HM.out i.toNat
      have hw1 : IntKind.i64.wrap (i + 1) = i + 1 := IntWalk.i64_in _ (by omega)
      have hw2 : IntKind.i64.wrap (k + i + 1) = k + i + 1 := IntWalk.i64_in _ (by omega)
      generalize (markd cur k i.toNat)[i.toNat]'hlt = u at hc
      go_wp2
      go_roundg d
      case measure => omega
      case rel =>
        refine ⟨i + 1, by first | (rw [hw2, Int.add_assoc]; done) | (rw [Int.add_assoc]; done) | (simp [hw2, Int.add_assoc]; done), by first | rfl | (simp [hw1]; done), ⟨by have := HE.out; omega⟩, ⟨by omega⟩, ⟨?_⟩, ⟨?_⟩, ⟨fun b0 w0 h1 h2 => (HL.out b0 w0 h1 h2).setCell (p := ⟨g, i.toNat, none⟩) h1 _⟩⟩
        · rw [show (i + 1).toNat = i.toNat + 1 by omega, markd]
          have := blk_put HM.out i.toNat (.int .i64 (k + i)) (by rfl)
          rw [show ((i.toNat : Nat) : Int) = i by omega]
          exact this
        · exact ⟨Nat.le_trans HK.out.1 (by simp [World.setCell]), fun j hj hne hr => (Below.heap_setCell _ _ _ j hne).trans (HK.out.2 j hj hne hr)⟩
end Go.Proofs.Ytbfkcfmhlanlnaa.K
end
section
namespace Go.Proofs.Ytbfkcfmhlanlnaa.K
open Go.RowKit Go.Proofs.YtbfkcfmhlanlnaaW.PrintWords Go.Proofs.YtbfkcfmhlanlnaaW.PrintLast Go.Proofs.YtbfkcfmhlanlnaaW.PrintMore
attribute [local go_sem] max2_int min2_int max_two min_two max_three min_three max_four min_four
set_option linter.unusedVariables false
set_option linter.unusedSimpArgs false
def laws_heldIntSS.l0 : Nat → List (List Int) → Int → Int → Option (Int)
  | 0, _, _, _ => none
  | k + 1, x0, x1, x5 => if x5 < (x0.length : Int) then (if 0 ≤ x5 then ((laws_heldIntS.f k (rd_L1 x0 x5) x1).bind fun t102 => (if t102 < 0 then (some (-1)) else (laws_heldIntSS.l0 k x0 t102 (wrap64 (x5 + 1))))) else (none)) else (some x1)
def laws_heldIntSS.f (k : Nat) (l0 : List (List Int)) (a1 : Int) : Option (Int) := laws_heldIntSS.l0 k l0 a1 0
theorem laws_heldIntSS.mono_l : ∀ k, (∀ y0 y1 y2, LeO (laws_heldIntSS.l0 k y0 y1 y2) (laws_heldIntSS.l0 (k + 1) y0 y1 y2))
  | 0 => fun _ _ _ r h => by simp [laws_heldIntSS.l0] at h
  | k + 1 => by
    have ih0 := laws_heldIntSS.mono_l k
    · intro y0 y1 y2
      unfold laws_heldIntSS.l0
      repeat' first
      | (with_reducible exact ih0 _ _ _)
      | (with_reducible exact laws_heldIntS.mono _ _ _)
      | (with_reducible exact LeO.refl _)
      | (with_reducible exact LeO.none _)
      | (with_reducible refine LeO.ite ?_ ?_)
      | (with_reducible refine LeO.bind ?_ (fun _ => ?_))
      | exact ih0 _ _ _
      | exact laws_heldIntS.mono _ _ _
      | exact LeO.none _
      | refine LeO.ite ?_ ?_
      | refine LeO.bind ?_ (fun _ => ?_)
theorem laws_heldIntSS.mono : ∀ a0 a1 k, LeO (laws_heldIntSS.f k a0 a1) (laws_heldIntSS.f (k + 1) a0 a1) := by
  intro a0 a1 k
  have ih0 := laws_heldIntSS.mono_l k
  unfold laws_heldIntSS.f
  repeat' first
      | (with_reducible exact ih0 _ _ _)
      | (with_reducible exact laws_heldIntS.mono _ _ _)
      | (with_reducible exact LeO.refl _)
      | (with_reducible exact LeO.none _)
      | (with_reducible refine LeO.ite ?_ ?_)
      | (with_reducible refine LeO.bind ?_ (fun _ => ?_))
      | exact ih0 _ _ _
      | exact laws_heldIntS.mono _ _ _
      | exact LeO.none _
      | refine LeO.ite ?_ ?_
      | refine LeO.bind ?_ (fun _ => ?_)
set_option maxHeartbeats 8000000 in
set_option maxRecDepth 100000 in
theorem laws_heldIntSS.calls (k : Nat) (A0 : Option Addr) (c0 : Nat) (l0 : List (List Int)) (a1 : Int) (r : Int) (w : World) (hr0 : Kd.C (Kd.slice 3 (Kd.int .i64)) w A0 l0.length l0) (hc0 : l0.length ≤ c0) (h : laws_heldIntSS.f k l0 a1 = some r) :
    Calls Try.prog 20 #[.slice A0 l0.length c0, .int .i64 a1] w fun e w' => e = .returned (.int .i64 r) ∧ Drawn0 w w' := by
  have HR0 := Aside0.mk hr0
  have HC0 := Aside0.mk hc0
  clear hr0 hc0
  have H : (laws_heldIntSS.l0 k l0 a1 0) = some r := h
  clear h
  have H' := Aside0.mk H
  clear H
  go_enter Try.func20, Try.ntmps20
  go_wp2
  go_loopg [1, 5] k (fun kq v1 v5 w' => ∃ (x1_1 : Int) (x5_1 : Int), v1 = .int .i64 x1_1 ∧ v5 = .int .i64 x5_1 ∧ Aside0 (laws_heldIntSS.l0 kq l0 x1_1 x5_1 = some r) ∧ Aside0 (kq ≤ k) ∧ Drawn0 w w')
  case atStart => exact ⟨(a1), (0), (by first | rfl | (simp; done) | (simp [*]; done)), (by first | rfl | (simp; done) | (simp [*]; done)), H', ⟨Nat.le_refl _⟩, by repeat (first | exact Drawn0.refl _ | apply Drawn0.step)⟩
  case round =>
    clear H'
    try clear c2
    try clear p2
    obtain ⟨x1_1, x5_1, rfl, rfl, HA, HK1, ⟨m1, rfl⟩⟩ := hrel
    cases gk with
    | zero => exact absurd HA.out (by simp [laws_heldIntSS.l0])
    | succ k1 =>
      have H := HA.out
      clear HA
      simp only [laws_heldIntSS.l0] at H
      by_cases c3 : x5_1 < (l0.length : Int)
      · rw [if_pos c3] at H
        have c3b0 : decide (x5_1 < (l0.length : Int)) = true := decide_eq_true c3
        clear c3
        by_cases c4 : 0 ≤ x5_1
        · rw [if_pos c4] at H
          have c4b0 : decide (0 ≤ x5_1) = true := decide_eq_true c4
          clear c4
          replace H := Option.bind_eq_some_iff.mp H
          obtain ⟨t102, A50, H⟩ := H
          replace H : (if t102 < 0 then (some (-1)) else (laws_heldIntSS.l0 k1 l0 t102 (wrap64 (x5_1 + 1)))) = some r := H
          have A5 := Aside0.mk A50
          clear A50
          by_cases c6 : t102 < 0
          · rw [if_pos c6] at H
            have c6b0 : decide (t102 < 0) = true := decide_eq_true c6
            clear c6
            obtain rfl := Option.some.inj H
            have p101 : 0 ≤ (x5_1 : Int) := of_decide_eq_true (by first | (with_reducible assumption) | assumption)
            have q101 : x5_1 < (l0.length : Int) := of_decide_eq_true (by first | (with_reducible assumption) | assumption)
            obtain ⟨ad101, A101_0, c101_0, e101, hx101_0, hl101_0, hi101_0⟩ := at_L1 HR0.out x5_1 p101 q101
            cases e101
            have HR101_0 := Aside0.mk hi101_0
            have HC101_0 := Aside0.mk hl101_0
            clear hi101_0 hl101_0
            replace p101 := eq_true p101
            replace q101 := eq_true q101
            go_wp2_with (first | ((with_reducible refine gate_callee (f := 29) rfl ?_); refine goesL_ (some 17) rfl rfl Try.func29 (by kernel_rfl) rfl #[.slice A101_0 (rd_L1 l0 x5_1).length c101_0, .int .i64 x1_1] rfl (by (try simp only [List.map_toArray, List.map_cons, List.map_nil]); first | done | rfl | (simp only [List.length_drop, List.length_take]; rfl)) ?_; (with_reducible refine (laws_heldIntS.calls k1 _ _ (rd_L1 l0 x5_1) x1_1 t102 _ ?side1 ?side2 A5.out).mono ?_); (case side1 => repeat (first | exact HR101_0.out | (with_reducible refine Kd.C_alloc ?_ _) | (with_reducible refine Kd.C_drewN ?_ _) | (with_reducible refine Kd.C_drew ?_))); (case side2 => exact HC101_0.out); rintro e w' ⟨rfl, ⟨nd, rfl⟩⟩; refine ⟨_, rfl, ?_⟩))
            go_ret
            exact ⟨by first | rfl | (simp; done) | (simp [*]; done), by repeat (first | exact Drawn0.refl _ | apply Drawn0.step)⟩
          · rw [if_neg c6] at H
            have c6b0 : decide (t102 < 0) = false := decide_eq_false c6
            clear c6
            have H' := Aside0.mk H
            clear H
            have p101 : 0 ≤ (x5_1 : Int) := of_decide_eq_true (by first | (with_reducible assumption) | assumption)
            have q101 : x5_1 < (l0.length : Int) := of_decide_eq_true (by first | (with_reducible assumption) | assumption)
            obtain ⟨ad101, A101_0, c101_0, e101, hx101_0, hl101_0, hi101_0⟩ := at_L1 HR0.out x5_1 p101 q101
            cases e101
            have HR101_0 := Aside0.mk hi101_0
            have HC101_0 := Aside0.mk hl101_0
            clear hi101_0 hl101_0
            replace p101 := eq_true p101
            replace q101 := eq_true q101
            go_wp2_with (first | ((with_reducible refine gate_callee (f := 29) rfl ?_); refine goesL_ (some 17) rfl rfl Try.func29 (by kernel_rfl) rfl #[.slice A101_0 (rd_L1 l0 x5_1).length c101_0, .int .i64 x1_1] rfl (by (try simp only [List.map_toArray, List.map_cons, List.map_nil]); first | done | rfl | (simp only [List.length_drop, List.length_take]; rfl)) ?_; (with_reducible refine (laws_heldIntS.calls k1 _ _ (rd_L1 l0 x5_1) x1_1 t102 _ ?side1 ?side2 A5.out).mono ?_); (case side1 => repeat (first | exact HR101_0.out | (with_reducible refine Kd.C_alloc ?_ _) | (with_reducible refine Kd.C_drewN ?_ _) | (with_reducible refine Kd.C_drew ?_))); (case side2 => exact HC101_0.out); rintro e w' ⟨rfl, ⟨nd, rfl⟩⟩; refine ⟨_, rfl, ?_⟩))
            go_roundg k1
            case measure => have := HK1.out; omega
            case rel => exact ⟨(t102), (wrap64 (x5_1 + 1)), (by first | rfl | (simp; done) | (simp [*]; done)), (by first | rfl | (simp; done) | (simp [*]; done)), H', ⟨by have := HK1.out; omega⟩, by repeat (first | exact Drawn0.refl _ | apply Drawn0.step)⟩
        · rw [if_neg c4] at H
          exact absurd H (by simp)
      · rw [if_neg c3] at H
        have c3b0 : decide (x5_1 < (l0.length : Int)) = false := decide_eq_false c3
        clear c3
        obtain rfl := Option.some.inj H
        go_wp2
        go_ret
        exact ⟨by first | rfl | (simp; done) | (simp [*]; done), by repeat (first | exact Drawn0.refl _ | apply Drawn0.step)⟩
end Go.Proofs.Ytbfkcfmhlanlnaa.K
end
section
namespace Go.Proofs.Ytbfkcfmhlanlnaa.K
set_option linter.unusedVariables false
set_option linter.unusedSimpArgs false
open Go.RowKit Go.Proofs.YtbfkcfmhlanlnaaW.PrintWords Go.Proofs.YtbfkcfmhlanlnaaW.PrintLast Go.Proofs.YtbfkcfmhlanlnaaW.PrintMore
structure RRows (w : World) (base g m : Nat) (bs : List (Nat × Nat)) (R : Nat → List Int) : Prop where
  len : bs.length = m
  outer : ∃ cs : Array Value, w.heap[g]? = some (.cells cs 34 (0, 0)) ∧ ∀ (j : Nat) (b : Nat × Nat), bs[j]? = some b → cs[j]? = some (.slice (some ⟨b.1, 0, none⟩) 4 b.2)
  cap : ∀ (j : Nat) (b : Nat × Nat), bs[j]? = some b → 4 ≤ b.2
  raw : ∀ (j : Nat) (b : Nat × Nat), bs[j]? = some b → (R j).length = 4 ∧ Raw w b.1 (R j)
  nodup : ∀ (i j : Nat) (b b' : Nat × Nat), bs[i]? = some b → bs[j]? = some b' → i ≠ j → b.1 ≠ b'.1
  low : ∀ (j : Nat) (b : Nat × Nat), bs[j]? = some b → base ≤ b.1 ∧ b.1 < w.heap.size
theorem Raw.lt {w : World} {g : Nat} {xs : List Int} (h : Raw w g xs) : g < w.heap.size := by
  obtain ⟨cur, hb, _⟩ := h
  exact blk_lt hb
theorem Raw.move {w w' : World} {g : Nat} {xs : List Int} (h : Raw w g xs) (hk : w'.heap[g]? = w.heap[g]?) : Raw w' g xs := by
  obtain ⟨cur, hb, ht⟩ := h
  exact ⟨cur, hk.trans hb, ht⟩
theorem RRows.ne {w : World} {base g m : Nat} {bs : List (Nat × Nat)} {R : Nat → List Int} (h : RRows w base g m bs R) (j : Nat) (b : Nat × Nat) (hj : bs[j]? = some b) : b.1 ≠ g := by
  intro he
  obtain ⟨cs, ho, _⟩ := h.outer
  obtain ⟨cur, hb, _⟩ := (h.raw j b hj).2
  rw [he, ho] at hb
  simp at hb
theorem RRows.move {w w' : World} {base g m : Nat} {bs : List (Nat × Nat)} {R : Nat → List Int} (h : RRows w base g m bs R) (hs : w.heap.size ≤ w'.heap.size) (hk : ∀ k, k < w.heap.size → w'.heap[k]? = w.heap[k]?) : RRows w' base g m bs R := by
  obtain ⟨cs, ho, hc⟩ := h.outer
  exact ⟨h.len, ⟨cs, (hk g (blk_lt ho)).trans ho, hc⟩, h.cap, fun j b hj => ⟨(h.raw j b hj).1, (h.raw j b hj).2.move (hk _ (h.raw j b hj).2.lt)⟩, h.nodup, fun j b hj => ⟨(h.low j b hj).1, by have := (h.low j b hj).2; omega⟩⟩
theorem RRows.below {w w' : World} {base g m : Nat} {bs : List (Nat × Nat)} {R : Nat → List Int} (h : RRows w base g m bs R) (hb : Below w.heap.size w w') : RRows w' base g m bs R := h.move hb.size (fun k hk => hb.block k hk)
theorem RRows.of_S {w : World} {base g c : Nat} {rows : List (List Int)} (h : Kd.S (Kd.slice 3 (Kd.int .i64)) 34 w base (fun _ => True) (.slice (some ⟨g, 0, none⟩) rows.length c) rows) (h4 : ∀ r ∈ rows, r.length = 4) :
    ∃ bs, RRows w base g rows.length bs (fun j => rows.getD j []) := by
  obtain ⟨f, _, inner, hown, hr⟩ := h
  rw [List.length_zipIdx] at hown
  rcases hown.2 with ⟨hv, _⟩ | ⟨g', cap, cur, hv, hbase, hb, hn, hm, hcs, ht⟩
  · cases hv
  · simp only [Value.slice.injEq, Option.some.injEq, Addr.mk.injEq, and_true] at hv
    obtain ⟨rfl, -, rfl⟩ := hv
    have hs1 : (Kd.tag f (Kd.slice 3 (Kd.int .i64))).sz = 1 := rfl
    rw [hs1, Nat.mul_one] at ht
    have hin : ∀ j r, rows[j]? = some r → ∃ v, inner[j]? = some v ∧ (Kd.int .i64).R 3 w base (fun k => (True ∧ some k ≠ (Value.slice (some ⟨g, 0, none⟩) rows.length c).ownBlock) ∧ f k = j) v r := by
      intro j r hj
      have h1 := hr.2 j (r, j) (Kd.zip_at hj)
      obtain ⟨v, hv, hR⟩ := h1
      refine ⟨v, ?_, hR⟩
      rw [hs1, Nat.mul_one] at hv
      have := congrArg (fun l => l[0]?) hv
      simpa using this
    obtain ⟨bs, hl, hbs⟩ := list_of (p := fun j (b : Nat × Nat) => ∃ r, rows[j]? = some r ∧ inner[j]? = some (.slice (some ⟨b.1, 0, none⟩) 4 b.2) ∧ 4 ≤ b.2 ∧ Raw w b.1 r ∧ f b.1 = j ∧ base ≤ b.1) rows.length (fun j hj => by
      obtain ⟨v, hv, hR⟩ := hin j rows[j] (List.getElem?_eq_getElem hj)
      have hl4 := h4 _ (List.getElem_mem hj)
      obtain ⟨b, cb, rfl, hbb, _, _⟩ := Kd.R_form hR (by omega)
      refine ⟨(b, cb), rows[j], List.getElem?_eq_getElem hj, by rw [hv, hl4], ?_, Raw_of_R hR, (hR.1 b rfl).2, hbb⟩
      have := (Kd.R_reads' hR).2.1
      omega)
    refine ⟨bs, hl, ⟨cur, hb, fun j b hj => ?_⟩, fun j b hj => ?_, fun j b hj => ?_, fun i j b b' hi hj hij => ?_, fun j b hj => ?_⟩
    · obtain ⟨r, hr1, hin1, _⟩ := hbs j b hj
      have hlt : j < rows.length := (List.getElem?_eq_some_iff.1 hr1).1
      rw [← hin1, ← ht, List.getElem?_take, if_pos hlt, Array.getElem?_toList]
    · obtain ⟨r, _, _, h5, _⟩ := hbs j b hj
      exact h5
    · obtain ⟨r, hr1, _, _, h6, _⟩ := hbs j b hj
      have : rows.getD j [] = r := by rw [List.getD_eq_getElem?_getD, hr1]; rfl
      rw [this]
      exact ⟨h4 r (List.mem_of_getElem? hr1), h6⟩
    · obtain ⟨_, _, _, _, _, h7, _⟩ := hbs i b hi
      obtain ⟨_, _, _, _, _, h8, _⟩ := hbs j b' hj
      intro he
      rw [he] at h7
      exact hij (h7.symm.trans h8)
    · obtain ⟨r, _, _, _, h6, _, h9⟩ := hbs j b hj
      exact ⟨h9, h6.lt⟩
theorem RRows.C {w : World} {base g m : Nat} {bs : List (Nat × Nat)} {R : Nat → List Int} (h : RRows w base g m bs R) (hm : m ≤ 1000) (rows : List (List Int)) (hrows : rows = (List.range m).map R) : Kd.C (Kd.slice 3 (Kd.int .i64)) w (some ⟨g, 0, none⟩) rows.length rows := by
  obtain ⟨cs, ho, hc⟩ := h.outer
  have hl : rows.length = m := by rw [hrows]; simp
  refine ⟨rfl, by omega, fun _ => ⟨_, rfl, fun j p hj => ?_⟩⟩
  have hlt : j < m := by rw [← hl]; exact (List.getElem?_eq_some_iff.1 hj).1
  have hp : p = R j := by
    rw [hrows] at hj
    simp [hlt] at hj
    exact hj.symm
  obtain ⟨b, hb⟩ : ∃ b, bs[j]? = some b := ⟨_, List.getElem?_eq_getElem (by rw [h.len]; exact hlt)⟩
  obtain ⟨h1, h2⟩ := h.raw j b hb
  refine ⟨[.slice (some ⟨b.1, 0, none⟩) 4 b.2], rfl, ⟨_, _, by rw [hp, h1], by rw [hp, h1]; exact h.cap j b hb, by rw [hp]; exact Raw_C h2 (by omega)⟩, fun i u hi => ?_⟩
  have hsz : (Kd.slice 3 (Kd.int .i64)).sz = 1 := rfl
  match i, hi with
  | 0, hi =>
    simp at hi
    subst hi
    rw [hsz, Nat.mul_one, Nat.add_zero, show (⟨g, 0, none⟩ : Addr).add j = ⟨g, j, none⟩ from by unfold Addr.add; split <;> simp_all]
    rw [blk_cell ho, hc j b hb]
  | i + 1, hi => simp at hi
def marked (k : Int) (R : Nat → List Int) (i : Nat) (j : Nat) : List Int := if j < i then markL (k + 4 * (j : Int)) 4 else R j
set_option maxHeartbeats 4000000 in
set_option maxRecDepth 100000 in
theorem markIntSS_c (base g m c : Nat) (bs : List (Nat × Nat)) (R : Nat → List Int) (w0 w : World) (h : RRows w base g m bs R) (hm : m ≤ 100) (hB : Below base w0 w) (hbw : base ≤ w0.heap.size) :
    Calls Try.prog 19 #[.slice (some ⟨g, 0, none⟩) m c, .int .i64 1] w fun e w' => e = .returned (.int .i64 (1 + 4 * (m : Int))) ∧ RRows w' base g m bs (marked 1 R m) ∧ Below base w0 w' := by
  have HR : Aside0 (RRows w base g m bs (marked 1 R 0)) := ⟨by
    have : marked 1 R 0 = R := by funext j; simp [marked]
    rw [this]; exact h⟩
  have HB := Aside0.mk hB
  clear h hB
  go_enter Try.func19, Try.ntmps19
  go_wp2
  go_loopg [1, 5] m (fun d v1 v5 w' => ∃ i : Int, v1 = .int .i64 (1 + 4 * i) ∧ v5 = .int .i64 i ∧ Aside0 (i + d = m) ∧ Aside0 (0 ≤ i) ∧ Aside0 (RRows w' base g m bs (marked 1 R i.toNat)) ∧ Aside0 (Below base w0 w'))
  case atStart => exact ⟨0, rfl, rfl, ⟨by omega⟩, ⟨by omega⟩, HR, HB⟩
  case round =>
    obtain ⟨i, rfl, rfl, HE, HI, HM, HB⟩ := hrel
    cases gk with
    | zero =>
      have ct : decide (i < (m : Int)) = false := decide_eq_false (by have := HE.out; omega)
      go_wp2
      go_ret
      have hi : i = (m : Int) := by have := HE.out; omega
      subst hi
      have hM := HM.out
      rw [Int.toNat_natCast] at hM
      exact ⟨rfl, hM, HB.out⟩
    | succ d =>
      have p0 := HI.out
      have p1 : i < (m : Int) := by have := HE.out; omega
      have ct : decide (i < (m : Int)) = true := decide_eq_true p1
      obtain ⟨b, hb⟩ : ∃ b, bs[i.toNat]? = some b := ⟨_, List.getElem?_eq_getElem (by rw [HM.out.len]; omega)⟩
      obtain ⟨cs, ho, hc⟩ := HM.out.outer
      have hcell : wr.cell? ⟨g, i.toNat, none⟩ = some (.slice (some ⟨b.1, 0, none⟩) 4 b.2) := by rw [blk_cell ho]; exact hc _ _ hb
      have hw1 : IntKind.i64.wrap (i + 1) = i + 1 := IntWalk.i64_in _ (by omega)
      have hrow : marked 1 R i.toNat i.toNat = R i.toNat := by simp [marked]
      have hraw := (HM.out.raw _ b hb)
      rw [hrow] at hraw
      have HRAW := Aside0.mk hraw
      have hcall := markInts_raw b.1 b.2 (R i.toNat) (1 + 4 * i) wr hraw.2 (by rw [hraw.1]; omega) (by omega) (by omega)
      rw [hraw.1] at hcall
      have HCALL := Aside0.mk hcall
      have HO := Aside0.mk ho
      clear hcall hraw ho hc
      go_wp2_with fail
      refine HCALL.out.mono ?_
      rintro e w2 ⟨rfl, h1, h2, h3⟩
      have hlow := HM.out.low _ b hb
      have HN : Aside0 (RRows w2 base g m bs (marked 1 R (i + 1).toNat)) := ⟨by
        refine ⟨HM.out.len, ?_, HM.out.cap, fun j b' hj => ?_, HM.out.nodup, fun j b' hj => ⟨(HM.out.low j b' hj).1, by have := (HM.out.low j b' hj).2; have := h2.1; omega⟩⟩
        · obtain ⟨cs, ho, hc⟩ := HM.out.outer
          exact ⟨cs, (h2.2 g (blk_lt ho) (fun he => HM.out.ne _ b hb he.symm) (by simp)).trans ho, hc⟩
        · by_cases c : j = i.toNat
          · subst c
            rw [hb] at hj
            cases hj
            have : marked 1 R (i + 1).toNat i.toNat = markL (1 + 4 * i) 4 := by
              unfold marked
              rw [if_pos (by omega), show ((i.toNat : Nat) : Int) = i by omega]
            rw [this]
            exact ⟨markL_length _ _, h1⟩
          · have hne : b'.1 ≠ b.1 := HM.out.nodup j i.toNat b' b hj hb c
            have : marked 1 R (i + 1).toNat j = marked 1 R i.toNat j := by
              unfold marked
              by_cases c2 : j < i.toNat
              · rw [if_pos c2, if_pos (by omega)]
              · rw [if_neg c2, if_neg (by omega)]
            rw [this]
            have h3 := HM.out.raw j b' hj
            exact ⟨h3.1, h3.2.move (h2.2 _ h3.2.lt hne (by simp))⟩⟩
      have HB2 : Aside0 (Below base w0 w2) := ⟨h3 base w0 hlow.1 HB.out⟩
      have hw2 : IntKind.i64.wrap (1 + 4 * i + 4) = 1 + 4 * i + 4 := IntWalk.i64_in _ (by omega)
      clear h1 h2 h3 HM HB HRAW HCALL HO hcell
      go_wp2
      go_roundg d
      case measure => omega
      case rel => exact ⟨i + 1, by congr 1; omega, by first | rfl | (simp [hw1]; done), ⟨by have := HE.out; omega⟩, ⟨by omega⟩, HN, HB2⟩
theorem markIntSS_nil (w : World) : Calls Try.prog 19 #[.slice none 0 0, .int .i64 1] w fun e w' => e = .returned (.int .i64 1) ∧ Below w.heap.size w w' := by
  go_enter Try.func19, Try.ntmps19
  go_wp2
  refine wp_loop_rounds 1 ?_
  rw [rounds_succ]
  go_wp2
  go_ret
  exact ⟨rfl, by repeat (first | exact Below.refl _ _ | apply below_alloc | apply pw_below_drewN | apply below_drew1)⟩
def mrows (m : Nat) : List (List Int) := (List.range m).map (marked 1 (fun _ => []) m)
theorem marked_rows (R : Nat → List Int) (m : Nat) : (List.range m).map (marked 1 R m) = mrows m := by
  unfold mrows
  refine List.map_congr_left (fun j hj => ?_)
  have : j < m := List.mem_range.1 hj
  unfold marked
  rw [if_pos this, if_pos this]
theorem held_marked (m : Nat) (h1 : 1 ≤ m) (h4 : m ≤ 4) : laws_heldIntSS.f 60 (mrows m) 1 = some (1 + 4 * (m : Int)) := by
  have : m = 1 ∨ m = 2 ∨ m = 3 ∨ m = 4 := by omega
  rcases this with rfl | rfl | rfl | rfl <;> decide +kernel
set_option maxHeartbeats 4000000 in
set_option maxRecDepth 100000 in
theorem textCut_no (s : ByteArray) (hs : s.size ≤ 1048576) (hno : tok s = false) (w : World) :
    Calls Try.prog 5 #[.string s] w fun e w' => e = .returned (.bool true) ∧ Below w.heap.size w w' := by
  obtain ⟨K, hK⟩ := specCut_ev s (by omega)
  have HK := Aside0.mk (hK K (Nat.le_refl _))
  have hc : cutT s = [] := by unfold cutT; rw [hno]; rfl
  rw [hc] at HK
  have HN := Aside0.mk (show impl_TextOk.f (s.size + 1) s = some false by rw [implOk_f s (by omega) _ (by omega), hno])
  have HE := Aside0.mk (show laws_eqIntSS.f 5 [] [] = some true from rfl)
  have HH := Aside0.mk (show laws_heldIntSS.f 5 [] 1 = some 1 from rfl)
  have c0 : decide ((s.size : Int) > 1048576) = false := decide_eq_false (by omega)
  have c0' : decide (1048576 < (s.size : Int)) = false := decide_eq_false (by omega)
  clear hK hc hno hs
  go_enter Try.func5, Try.ntmps5
  go_wp2_with fail
  refine (spec_TextCut.calls K s [] _ HK.out).mono ?_
  rintro e w1 ⟨v1, rfl, hS, hb⟩
  obtain ⟨A1, n1, rfl⟩ := Kd.S_slice hS
  have HC1 := Aside0.mk (Kd.S_reads' hS)
  have HB := Aside0.mk hb
  clear hS hb
  go_wp2_with fail
  refine (TextCut_nil s _ _ HN.out).mono ?_
  rintro e w2 ⟨rfl, hb⟩
  have HC2 := Aside0.mk (Kd.C_below HC1.out.2.2 hb)
  have HB2 := Aside0.mk (below_step HB.out hb)
  clear hb
  go_wp2_with fail
  refine (laws_eqIntSS.calls 5 none 0 [] A1 n1 [] true _ (Kd.C_nil _ _) (Nat.le_refl _) HC2.out HC1.out.2.1 HE.out).mono ?_
  rintro e w3 ⟨rfl, ⟨m1, rfl⟩⟩
  go_wp2_with fail
  refine (markIntSS_nil _).mono ?_
  rintro e w4 ⟨rfl, hb⟩
  have HB4 := Aside0.mk (below_step (pw_below_drewN HB2.out m1) hb)
  have HC4 := Aside0.mk (Kd.C_below (Kd.C_drewN HC2.out m1) hb)
  clear hb
  go_wp2_with fail
  refine (laws_heldIntSS.calls 5 none 0 [] 1 1 _ (Kd.C_nil _ _) (Nat.le_refl _) HH.out).mono ?_
  rintro e w5 ⟨rfl, ⟨m2, rfl⟩⟩
  go_wp2_with fail
  refine (TextCut_nil s _ _ HN.out).mono ?_
  rintro e w6 ⟨rfl, hb⟩
  have HC6 := Aside0.mk (Kd.C_below (Kd.C_drewN HC4.out m2) hb)
  have HB6 := Aside0.mk (below_step (pw_below_drewN HB4.out m2) hb)
  clear hb
  go_wp2_with fail
  refine (laws_eqIntSS.calls 5 none 0 [] A1 n1 [] true _ (Kd.C_nil _ _) (Nat.le_refl _) HC6.out HC1.out.2.1 HE.out).mono ?_
  rintro e w7 ⟨rfl, ⟨m3, rfl⟩⟩
  go_wp2_with fail
  refine (laws_heldIntSS.calls 5 none 0 [] 1 1 _ (Kd.C_nil _ _) (Nat.le_refl _) HH.out).mono ?_
  rintro e w8 ⟨rfl, ⟨m4, rfl⟩⟩
  go_wp2
  go_ret
  exact ⟨rfl, by repeat (first | exact HB6.out | apply below_alloc | apply pw_below_drewN | apply below_drew1)⟩
theorem cutOf_four (s : ByteArray) : ∀ r ∈ cutOf s, r.length = 4 := by
  intro r hr
  unfold cutOf at hr
  obtain ⟨k, _, rfl⟩ := List.mem_map.1 hr
  rfl
theorem mrows_length (m : Nat) : (mrows m).length = m := by simp [mrows]
theorem held_c (g m : Nat) (h1 : 1 ≤ m) (h4 : m ≤ 4) (W : World) (h : Kd.C (Kd.slice 3 (Kd.int .i64)) W (some ⟨g, 0, none⟩) m (mrows m)) :
    Calls Try.prog 20 #[.slice (some ⟨g, 0, none⟩) m m, .int .i64 1] W fun e w' => e = .returned (.int .i64 (1 + 4 * (m : Int))) ∧ Drawn0 W w' := by
  have := laws_heldIntSS.calls 60 (some ⟨g, 0, none⟩) m (mrows m) 1 _ W (by rw [mrows_length]; exact h) (by rw [mrows_length]; exact Nat.le_refl _) (held_marked m h1 h4)
  rw [mrows_length] at this
  exact this
theorem eq_c (K : Nat) (rows : List (List Int)) (m : Nat) (hm : rows.length = m) (A B : Option Addr) (a b : Nat) (ha : m ≤ a) (hb : m ≤ b) (hK : laws_eqIntSS.f K rows rows = some true) (W : World) (h1 : Kd.C (Kd.slice 3 (Kd.int .i64)) W A m rows) (h2 : Kd.C (Kd.slice 3 (Kd.int .i64)) W B m rows) :
    Calls Try.prog 18 #[.slice A m a, .slice B m b] W fun e w' => e = .returned (.bool true) ∧ Drawn0 W w' := by
  subst hm
  exact laws_eqIntSS.calls K A a rows B b rows true W h1 ha h2 hb hK
set_option maxHeartbeats 4000000 in
set_option maxRecDepth 100000 in
theorem textCut_yes (s : ByteArray) (hyes : tok s = true) (w : World) :
    Calls Try.prog 5 #[.string s] w fun e w' => e = .returned (.bool true) ∧ Below w.heap.size w w' := by
  obtain ⟨_, hs1, hs2⟩ := (tok_iff s).1 hyes
  obtain ⟨K, hK⟩ := specCut_ev s (by omega)
  have HK0 := hK K (Nat.le_refl _)
  rw [cutT_eq s hyes] at HK0
  have HK := Aside0.mk HK0
  have hsm : Small (cutOf s) := by rw [← cutT_eq s hyes]; exact small_cutT s
  obtain ⟨K2, hK2⟩ := eqSelf (cutOf s) hsm
  have HE := Aside0.mk (hK2 K2 (Nat.le_refl _))
  have HN := Aside0.mk (show impl_TextOk.f (s.size + 1) s = some true by rw [implOk_f s (by omega) _ (by omega), hyes])
  have HL := Aside0.mk (tok_low s hyes)
  have c0 : decide ((s.size : Int) > 1048576) = false := decide_eq_false (by omega)
  have c0' : decide (1048576 < (s.size : Int)) = false := decide_eq_false (by omega)
  have HT := fun (W : World) => TextCut_yes s (s.size + 1) W HN.out (by omega) hs2 HL.out
  obtain ⟨m, hm⟩ : ∃ m, m = chunks s.size := ⟨_, rfl⟩
  rw [← hm] at HT
  have hm1 : 1 ≤ m := by rw [hm]; unfold chunks; omega
  have hm4 : m ≤ 4 := by rw [hm]; unfold chunks; omega
  have HLEN : Aside0 ((cutOf s).length = m) := ⟨by rw [cutOf_length, hm]⟩
  have HT' := Aside0.mk HT
  have hmm : ((1 + 4 * (m : Int)) != (1 + 4 * (m : Int))) = false := by simp
  have hmz : decide (1 + 4 * (m : Int) < 0) = false := decide_eq_false (by omega)
  clear hK hK2 HK0 hsm hyes hm HT HN
  go_enter Try.func5, Try.ntmps5
  go_wp2_with fail
  refine (spec_TextCut.calls K s (cutOf s) _ HK.out).mono ?_
  rintro e w1 ⟨v1, rfl, hS, hb⟩
  obtain ⟨A1, n1, rfl⟩ := Kd.S_slice hS
  have HC1 : Aside0 (m ≤ n1 ∧ Kd.C (Kd.slice 3 (Kd.int .i64)) w1 A1 m (cutOf s)) := ⟨by have := Kd.S_reads' hS; rw [HLEN.out] at this; exact this.2⟩
  have HB1 := Aside0.mk hb
  rw [HLEN.out]
  clear hS hb
  go_wp2_with fail
  refine (HT'.out w1).mono ?_
  rintro e w2 ⟨g, c, rfl, hS, hb⟩
  have hC2 : Kd.C (Kd.slice 3 (Kd.int .i64)) w2 (some ⟨g, 0, none⟩) m (cutOf s) := by have := (Kd.S_reads' hS).2.2; rw [HLEN.out] at this; exact this
  rw [← HLEN.out] at hS
  obtain ⟨bs, hR⟩ := RRows.of_S hS (cutOf_four s)
  rw [HLEN.out] at hR
  have HR2 := Aside0.mk hR
  have HC2 := Aside0.mk hC2
  have HB2 := Aside0.mk hb
  have HD2 := Aside0.mk (Kd.C_below HC1.out.2 hb)
  clear hS hR hC2 hb
  go_wp2_with fail
  refine (eq_c K2 (cutOf s) m HLEN.out (some ⟨g, 0, none⟩) A1 m n1 (Nat.le_refl _) HC1.out.1 HE.out _ HC2.out HD2.out).mono ?_
  rintro e w3 ⟨rfl, ⟨m1, rfl⟩⟩
  go_wp2_with fail
  refine (markIntSS_c w1.heap.size g m m bs _ w1 _ (HR2.out.below (pw_below_drewN (Below.refl _ _) m1)) (by omega) (pw_below_drewN HB2.out m1) (Nat.le_refl _)).mono ?_
  rintro e w4 ⟨rfl, hR, hb⟩
  have HR4 := Aside0.mk hR
  have HB4 := Aside0.mk hb
  have HD4 := Aside0.mk (Kd.C_below HC1.out.2 hb)
  clear hR hb
  have hC4 := RRows.C HR4.out (by omega) (mrows m) (marked_rows _ m).symm
  rw [mrows_length] at hC4
  have HC4 := Aside0.mk hC4
  clear hC4
  go_wp2_with fail
  refine (held_c g m hm1 hm4 _ HC4.out).mono ?_
  rintro e w5 ⟨rfl, ⟨m2, rfl⟩⟩
  go_wp2_with fail
  refine (HT'.out _).mono ?_
  rintro e w6 ⟨g6, c6, rfl, hS, hb⟩
  have hC6 : Kd.C (Kd.slice 3 (Kd.int .i64)) w6 (some ⟨g6, 0, none⟩) m (cutOf s) := by have := (Kd.S_reads' hS).2.2; rw [HLEN.out] at this; exact this
  have HC6 := Aside0.mk hC6
  have HD6 := Aside0.mk (Kd.C_below (Kd.C_drewN HD4.out m2) hb)
  have HG6 := Aside0.mk (Kd.C_below (Kd.C_drewN HC4.out m2) hb)
  have HB6 := Aside0.mk (below_step (below_step HB1.out (pw_below_drewN HB4.out m2)) hb)
  clear hS hC6 hb
  go_wp2_with fail
  refine (eq_c K2 (cutOf s) m HLEN.out (some ⟨g6, 0, none⟩) A1 m n1 (Nat.le_refl _) HC1.out.1 HE.out _ HC6.out HD6.out).mono ?_
  rintro e w7 ⟨rfl, ⟨m3, rfl⟩⟩
  go_wp2_with fail
  refine (held_c g m hm1 hm4 _ (Kd.C_drewN HG6.out m3)).mono ?_
  rintro e w8 ⟨rfl, ⟨m4, rfl⟩⟩
  go_wp2
  go_ret
  exact ⟨rfl, by repeat (first | exact HB6.out | apply below_alloc | apply pw_below_drewN | apply below_drew1)⟩
theorem textCut_long (s : ByteArray) (hs : ¬ s.size ≤ 1048576) (hs2 : s.size ≤ 140737488351232) (w : World) :
    Calls Try.prog 5 #[.string s] w fun e w' => e = .returned (.bool true) ∧ Below w.heap.size w w' := by
  have c0 : decide ((s.size : Int) > 1048576) = true := decide_eq_true (by omega)
  have c0' : decide (1048576 < (s.size : Int)) = true := decide_eq_true (by omega)
  clear hs
  go_enter Try.func5, Try.ntmps5
  go_wp2
  go_ret
  exact ⟨rfl, by repeat (first | exact Below.refl _ _ | apply below_alloc | apply pw_below_drewN | apply below_drew1)⟩
def laws_FnExactTextCut.f (_ : Nat) (a0 : ByteArray) : Option Bool := if a0.size ≤ 140737488351232 then some true else none
theorem laws_FnExactTextCut.calls (k : Nat) (a0 : ByteArray) (r : Bool) (w : World) (h : laws_FnExactTextCut.f k a0 = some r) :
    Calls Try.prog 5 #[.string a0] w fun e w' => e = .returned (.bool r) ∧ Below w.heap.size w w' := by
  unfold laws_FnExactTextCut.f at h
  split at h
  · rename_i hb
    obtain rfl := Option.some.inj h
    by_cases c : a0.size ≤ 1048576
    · by_cases c2 : tok a0 = true
      · exact textCut_yes a0 c2 w
      · rw [Bool.not_eq_true] at c2
        exact textCut_no a0 c c2 w
    · exact textCut_long a0 c hb w
  · cases h
end Go.Proofs.Ytbfkcfmhlanlnaa.K
end
section
namespace Go.Proofs.Ytbfkcfmhlanlnaa.Pure
open Go.RowKit Go.Proofs.Ytbfkcfmhlanlnaa.K
theorem FnExactTextCut : ∀ (a0 : ByteArray), a0.size ≤ 140737488351232 → ∃ k, laws_FnExactTextCut.f k a0 = some true := fun _ h => ⟨0, if_pos h⟩
end Go.Proofs.Ytbfkcfmhlanlnaa.Pure
end
section
namespace Go.Proofs.YtbfkcfmhlanlnaaW.PrintWords
open Go.ChangeShapes Go.WideShapes
theorem sized_ints {H : Type} {enc : TypeId × Value → H} {P : Program} {W : World} {base : Nat} {spare : Nat → Bool} {held : Bool} {t e : TypeId} {k : IntKind} {a : Option Addr} {len cap : Nat} {d : DataW H} {ps : List MemPlace} {ts : List TypeId} {ds : List (DataW H)} {j : Nat}
    (hsz : (DataW.weightsEach P ts ds).all (· ≤ reachBytes) = true) (ht : ts[j]? = some t) (hd : ds[j]? = some d) (hu : P.underlying t = some (.slice e)) (he : P.underlying e = some (.int k)) (hc : P.cellsOf e = 1) {B : Nat} (hB : P.bytesOf e = B)
    (h : DataW.Trod enc P W base spare held t (.slice a len cap) d ps) : len * B ≤ 140737488351232 := by
  obtain ⟨fuel, hf⟩ := h
  rcases open_ints hu he hc hf with ⟨hcs, _⟩ | ⟨x, l, c, zs, hcs, _, hl, _, hz, hx, _, _⟩
  · simp [Value.cells] at hcs
    obtain ⟨rfl, rfl, rfl⟩ := hcs
    simp
  · simp [Value.cells] at hcs
    obtain ⟨rfl, rfl, rfl⟩ := hcs
    obtain ⟨hx, _⟩ := Prod.mk.inj hx
    subst hx
    have z := sized_slice hsz ht hd hu
    rw [hB] at z
    have hl2 : len ≤ zs.length := by
      rw [hz]
      split
      · exact hl
      · exact Nat.le_refl _
    have h1 : (lits (H := H) k (zs.take len)).length + (lits (H := H) k (zs.drop len)).length = zs.length := by
      simp [lits]
      omega
    rw [h1] at z
    exact Nat.le_trans (Nat.mul_le_mul_right _ hl2) z
end Go.Proofs.YtbfkcfmhlanlnaaW.PrintWords
end
section
namespace Go.Proofs.Ytbfkcfmhlanlnaa.fnExactTextCut
open Go.ChangeShapes Go.WideShapes Go.ChangeAt Go.RowKit
open Go.ChangeMaps (open_string shut_string)
set_option linter.unusedVariables false
theorem own : ownKnob Try.prog.godebug = none := by kernel_rfl
theorem laidOut : laidOutB Try.prog = true := by kernel_rfl
set_option maxRecDepth 100000 in
theorem lifted (os : Os) (started : os.Started) (H : Type) (enc : TypeId × Value → H) :
    ReturnsInHanded {} Try.checked os 5 .any (Rows.fnExactTextCutSpec.pre6 enc Try.prog Try.f5 Rows.fnExactTextCutRow.domain false) (Rows.fnExactTextCutSpec.post enc Try.prog Try.f5 false true false false) := by
  refine returnsInHanded_of_change_sized (C := Try.checked) own started (by kernel_rfl) Try.func5
    (ChangeSpec.witness6 (enc := enc) (C := Try.checked) false ⟨#[], #[.string ByteArray.empty], []⟩ 8 (by kernel_rfl) (by kernel_rfl) (by kernel_rfl) (by kernel_rfl)) ?_
  intro W base args ds gs before hval0 hW hcnd hsz0 _
  have hsz : (DataW.weightsEach Try.prog (Try.f5.params.toList ++ Rows.fnExactTextCutSpec.plain.varTypes Try.prog) (ds ++ gs)).all (· ≤ reachBytes) = true := hsz0
  have hval : ∀ (j : Nat) t v, Try.f5.params[j]? = some t → args[j]? = some v → Value.okWide Try.prog W .any base t v := hval0
  have hW' := hW
  obtain ⟨p, q, hA0, hV, rfl, hfz, hnd⟩ := hW
  have hA : DataW.TrodAll enc Try.prog W 0 (fun _ => true) true Try.f5.params.toList args.toList ds p := hA0
  rw [Try.params5] at hA hval hsz
  obtain ⟨v0, vs0, d0, ds0, p0, q0, hargs, rfl, rfl, h0, r0⟩ := trodAll_cons hA
  obtain ⟨rfl, rfl, rfl⟩ := trodAll_nil r0
  obtain rfl : args = #[v0] := by cases args; simp_all
  obtain ⟨rfl, rfl⟩ := trodVars_none hV
  obtain ⟨a0, rfl, rfl, rfl, y0⟩ := open_string Try.underlying9 (hval 0 9 v0 rfl rfl) h0
  have w0 : a0.size ≤ 140737488351232 := by
    have z := sized_string hsz (j := 0) (t := 9) rfl rfl
    rw [Array.length_toList] at z
    exact z
  clear hA0 hval0 hsz0 hsz
  obtain ⟨kq, hq⟩ := Pure.FnExactTextCut a0 w0
  refine (K.laws_FnExactTextCut.calls kq a0 true W  hq).mono fun e W' ⟨he, bel⟩ => ?_
  subst he
  exact ⟨_, rfl, _, _, _, [], _, [], hW', trodAll_mk1 (shut_bool Try.underlying4 _), (trodAll_cons_mk (shut_string Try.underlying9 y0) trodAll_mk0), rfl, bel.frame _, fun h => by cases h⟩
theorem closed : joinedFacts Try.prog 5 Try.f5 Rows.fnExactTextCutSpec Rows.fnExactTextCutRow = true := by
  unfold joinedFacts
  rw [Head.make, Head.final, Head.enter]
  kernel_rfl
theorem over : Rows.fnExactTextCutRow.holds Try.pinned (OpenSpec.ofChange Rows.fnExactTextCutSpec) :=
  OpenClaim.holds_of_wide 5 Try.f5 rfl rfl rfl rfl rfl rfl rfl ⟨rfl, rfl, rfl, rfl, rfl⟩ rfl rfl rfl rfl rfl (by kernel_rfl) Try.func5 closed
    (of_decide_eq_true (by kernel_rfl)) (by unfold Func.isWrapper; first | (rw [if_pos (by decide +kernel)]; kernel_rfl) | (rw [if_neg (by decide +kernel)]; exact ⟨rfl, rfl⟩))
    (fun os started H enc _ => lifted os started H enc)
theorem proved : Rows.FnExactTextCutSaid := over
#print axioms proved
end Go.Proofs.Ytbfkcfmhlanlnaa.fnExactTextCut
end
