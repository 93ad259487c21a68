/- Part 4 of the proof of the statement FnTextBack: what the functions compute, step by step; the last part states it. No condition. -/
import Derived.SizedLaws
import Derived.ChangeSlices
import Derived.Test.YtbfkcfmhlanlnaaRows
import Derived.WalkKit
import Derived.ProofKit
import Derived.OpenShut
import Derived.ShutString
import Derived.ChangeOld
import Derived.Below
import Derived.Test.YtbfkcfmhlanlnaaMFnTextBack1
import Derived.Test.YtbfkcfmhlanlnaaMFnTextBack2
import Derived.Test.YtbfkcfmhlanlnaaMFnTextBack3
section
namespace Go.Proofs.Ytbfkcfmhlanlnaa.K
open Go.RowKit Go.Proofs.YtbfkcfmhlanlnaaW.PrintWords Go.Proofs.YtbfkcfmhlanlnaaW.PrintLast Go.Proofs.YtbfkcfmhlanlnaaW.PrintMore
attribute [local go_sem] max2_int min2_int max_two min_two max_three min_three max_four min_four
set_option linter.unusedVariables false
set_option linter.unusedSimpArgs false
mutual
def spec_l3Same.l0 : Nat → List (List Int) → List (List Int) → Int → Option (Bool)
  | 0, _, _, _ => none
  | k + 1, x0, x1, x5 => if x5 < (x0.length : Int) then (spec_l3Same.l1 k x0 x1 x5 0) else (some true)
def spec_l3Same.l1 : Nat → List (List Int) → List (List Int) → Int → Int → Option (Bool)
  | 0, _, _, _, _ => none
  | k + 1, x0, x1, x5, x6 => if x6 < 4 then (if 0 ≤ x5 then (if x5 < (x0.length : Int) then (if 0 ≤ x6 then (if x6 < ((rd_L1 x0 x5).length : Int) then (if x5 < (x1.length : Int) then (if x6 < ((rd_L1 x1 x5).length : Int) then (if (rd (rd_L1 x0 x5) x6) = (rd (rd_L1 x1 x5) x6) then (spec_l3Same.l1 k x0 x1 x5 (wrap64 (x6 + 1))) else (some false)) else (none)) else (none)) else (none)) else (none)) else (none)) else (none)) else (spec_l3Same.l0 k x0 x1 (wrap64 (x5 + 1)))
end
def spec_l3Same.f (k : Nat) (l0 : List (List Int)) (l1 : List (List Int)) : Option (Bool) := if (l0.length : Int) = (l1.length : Int) then (spec_l3Same.l0 k l0 l1 0) else (some false)
theorem spec_l3Same.mono_l : ∀ k, (∀ y0 y1 y2, LeO (spec_l3Same.l0 k y0 y1 y2) (spec_l3Same.l0 (k + 1) y0 y1 y2)) ∧ (∀ y0 y1 y2 y3, LeO (spec_l3Same.l1 k y0 y1 y2 y3) (spec_l3Same.l1 (k + 1) y0 y1 y2 y3))
  | 0 => ⟨fun _ _ _ r h => by simp [spec_l3Same.l0] at h, fun _ _ _ _ r h => by simp [spec_l3Same.l1] at h⟩
  | k + 1 => by
    obtain ⟨ih0, ih1⟩ := spec_l3Same.mono_l k
    refine ⟨?_, ?_⟩
    · intro y0 y1 y2
      unfold spec_l3Same.l0
      repeat' first
      | (with_reducible exact ih0 _ _ _)
      | (with_reducible exact ih1 _ _ _ _)
      | (with_reducible exact LeO.refl _)
      | (with_reducible exact LeO.none _)
      | (with_reducible refine LeO.ite ?_ ?_)
      | (with_reducible refine LeO.bind ?_ (fun _ => ?_))
      | exact ih0 _ _ _
      | exact ih1 _ _ _ _
      | exact LeO.none _
      | refine LeO.ite ?_ ?_
      | refine LeO.bind ?_ (fun _ => ?_)
    · intro y0 y1 y2 y3
      unfold spec_l3Same.l1
      repeat' first
      | (with_reducible exact ih0 _ _ _)
      | (with_reducible exact ih1 _ _ _ _)
      | (with_reducible exact LeO.refl _)
      | (with_reducible exact LeO.none _)
      | (with_reducible refine LeO.ite ?_ ?_)
      | (with_reducible refine LeO.bind ?_ (fun _ => ?_))
      | exact ih0 _ _ _
      | exact ih1 _ _ _ _
      | exact LeO.none _
      | refine LeO.ite ?_ ?_
      | refine LeO.bind ?_ (fun _ => ?_)
theorem spec_l3Same.mono : ∀ a0 a1 k, LeO (spec_l3Same.f k a0 a1) (spec_l3Same.f (k + 1) a0 a1) := by
  intro a0 a1 k
  obtain ⟨ih0, ih1⟩ := spec_l3Same.mono_l k
  unfold spec_l3Same.f
  repeat' first
      | (with_reducible exact ih0 _ _ _)
      | (with_reducible exact ih1 _ _ _ _)
      | (with_reducible exact LeO.refl _)
      | (with_reducible exact LeO.none _)
      | (with_reducible refine LeO.ite ?_ ?_)
      | (with_reducible refine LeO.bind ?_ (fun _ => ?_))
      | exact ih0 _ _ _
      | exact ih1 _ _ _ _
      | exact LeO.none _
      | refine LeO.ite ?_ ?_
      | refine LeO.bind ?_ (fun _ => ?_)
set_option maxHeartbeats 8000000 in
set_option maxRecDepth 100000 in
theorem spec_l3Same.calls (k : Nat) (A0 : Option Addr) (c0 : Nat) (l0 : List (List Int)) (A1 : Option Addr) (c1 : Nat) (l1 : List (List Int)) (r : Bool) (w : World) (hr0 : Kd.C (Kd.slice 3 (Kd.int .i64)) w A0 l0.length l0) (hc0 : l0.length ≤ c0) (hr1 : Kd.C (Kd.slice 3 (Kd.int .i64)) w A1 l1.length l1) (hc1 : l1.length ≤ c1) (h : spec_l3Same.f k l0 l1 = some r) :
    Calls Try.prog 72 #[.slice A0 l0.length c0, .slice A1 l1.length c1] w fun e w' => e = .returned (.bool r) ∧ Drawn0 w w' := by
  have HR0 := Aside0.mk hr0
  have HC0 := Aside0.mk hc0
  clear hr0 hc0
  have HR1 := Aside0.mk hr1
  have HC1 := Aside0.mk hc1
  clear hr1 hc1
  have H : (if (l0.length : Int) = (l1.length : Int) then (spec_l3Same.l0 k l0 l1 0) else (some false)) = some r := h
  clear h
  by_cases c3 : (l0.length : Int) = (l1.length : Int)
  · rw [if_pos c3] at H
    have c3b0 : ((l0.length : Int) == (l1.length : Int)) = true := beq_iff_eq.mpr c3
    have c3b1 : ((l0.length : Int) != (l1.length : Int)) = false := bne_eq_false_iff_eq.mpr c3
    have c3b2 : (l0.length == l1.length) = true := by first | simpa using c3 | (simp at c3 ⊢; omega)
    clear c3
    have H' := Aside0.mk H
    clear H
    go_enter Try.func72, Try.ntmps72
    go_wp2
    repeat (go_quiet (fail); try go_wp2)
    go_loopg [5] k (fun kq v5 w' => ∃ (x5_1 : Int), v5 = .int .i64 x5_1 ∧ Aside0 (spec_l3Same.l0 kq l0 l1 x5_1 = some r) ∧ Aside0 (kq ≤ k) ∧ Drawn0 w w')
    case atStart => exact ⟨(0), (by first | rfl | (simp; done) | (simp [*]; done)), H', ⟨Nat.le_refl _⟩, by repeat (first | exact Drawn0.refl _ | apply Drawn0.step)⟩
    case round =>
      clear H'
      try clear c1
      try clear p2
      try clear c3
      try clear c3b0
      try clear c3b1
      try clear c3b2
      obtain ⟨x5_1, rfl, HA, HK1, ⟨m1, rfl⟩⟩ := hrel
      cases gk with
      | zero => exact absurd HA.out (by simp [spec_l3Same.l0])
      | succ k1 =>
        have H := HA.out
        clear HA
        simp only [spec_l3Same.l0] at H
        by_cases c4 : x5_1 < (l0.length : Int)
        · rw [if_pos c4] at H
          have c4b0 : decide (x5_1 < (l0.length : Int)) = true := decide_eq_true c4
          clear c4
          have H' := Aside0.mk H
          clear H
          go_wp2
          repeat (go_quiet (fail); try go_wp2)
          go_loopg [6] k1 (fun kq v6 w' => ∃ (x6_2 : Int), v6 = .int .i64 x6_2 ∧ Aside0 (spec_l3Same.l1 kq l0 l1 x5_1 x6_2 = some r) ∧ Aside0 (kq ≤ k1) ∧ Drawn0 w w')
          case atStart => exact ⟨(0), (by first | rfl | (simp; done) | (simp [*]; done)), H', ⟨Nat.le_refl _⟩, by repeat (first | exact Drawn0.refl _ | apply Drawn0.step)⟩
          case round =>
            clear H'
            try clear c1
            try clear p2
            try clear c3
            try clear c3b0
            try clear c3b1
            try clear c3b2
            try clear c4
            try clear c4b0
            try clear p2
            obtain ⟨x6_2, rfl, HA, HK2, ⟨m2, rfl⟩⟩ := hrel
            cases gk with
            | zero => exact absurd HA.out (by simp [spec_l3Same.l1])
            | succ k2 =>
              have H := HA.out
              clear HA
              simp only [spec_l3Same.l1] at H
              by_cases c5 : x6_2 < 4
              · rw [if_pos c5] at H
                have c5b0 : decide (x6_2 < 4) = true := decide_eq_true c5
                clear c5
                by_cases c6 : 0 ≤ x5_1
                · rw [if_pos c6] at H
                  have c6b0 : decide (0 ≤ x5_1) = true := decide_eq_true c6
                  clear c6
                  by_cases c7 : x5_1 < (l0.length : Int)
                  · rw [if_pos c7] at H
                    have c7b0 : decide (x5_1 < (l0.length : Int)) = true := decide_eq_true c7
                    clear c7
                    by_cases c8 : 0 ≤ x6_2
                    · rw [if_pos c8] at H
                      have c8b0 : decide (0 ≤ x6_2) = true := decide_eq_true c8
                      clear c8
                      by_cases c9 : x6_2 < ((rd_L1 l0 x5_1).length : Int)
                      · rw [if_pos c9] at H
                        have c9b0 : decide (x6_2 < ((rd_L1 l0 x5_1).length : Int)) = true := decide_eq_true c9
                        clear c9
                        by_cases c10 : x5_1 < (l1.length : Int)
                        · rw [if_pos c10] at H
                          have c10b0 : decide (x5_1 < (l1.length : Int)) = true := decide_eq_true c10
                          clear c10
                          by_cases c11 : x6_2 < ((rd_L1 l1 x5_1).length : Int)
                          · rw [if_pos c11] at H
                            have c11b0 : decide (x6_2 < ((rd_L1 l1 x5_1).length : Int)) = true := decide_eq_true c11
                            clear c11
                            by_cases c12 : (rd (rd_L1 l0 x5_1) x6_2) = (rd (rd_L1 l1 x5_1) x6_2)
                            · rw [if_pos c12] at H
                              have c12b0 : ((rd (rd_L1 l0 x5_1) x6_2) == (rd (rd_L1 l1 x5_1) x6_2)) = true := beq_iff_eq.mpr c12
                              have c12b1 : ((rd (rd_L1 l0 x5_1) x6_2) != (rd (rd_L1 l1 x5_1) x6_2)) = false := bne_eq_false_iff_eq.mpr c12
                              clear c12
                              have H' := Aside0.mk H
                              clear H
                              have p101 : 0 ≤ (x5_1 : Int) := of_decide_eq_true (by first | (with_reducible assumption) | assumption)
                              have q101 : x5_1 < (l0.length : Int) := of_decide_eq_true (by first | (with_reducible assumption) | assumption)
                              obtain ⟨ad101, A101_0, c101_0, e101, hx101_0, hl101_0, hi101_0⟩ := at_L1 HR0.out x5_1 p101 q101
                              cases e101
                              have HR101_0 := Aside0.mk hi101_0
                              have HC101_0 := Aside0.mk hl101_0
                              clear hi101_0 hl101_0
                              replace p101 := eq_true p101
                              replace q101 := eq_true q101
                              have p102 : 0 ≤ (x6_2 : Int) := of_decide_eq_true (by first | (with_reducible assumption) | assumption)
                              have q102 : x6_2 < ((rd_L1 l0 x5_1).length : Int) := of_decide_eq_true (by first | (with_reducible assumption) | assumption)
                              obtain ⟨ad102, e102, hx102_0⟩ := Kd.at_int HR101_0.out x6_2 p102 q102
                              cases e102
                              replace p102 := eq_true p102
                              replace q102 := eq_true q102
                              have p103 : 0 ≤ (x5_1 : Int) := of_decide_eq_true (by first | (with_reducible assumption) | assumption)
                              have q103 : x5_1 < (l1.length : Int) := of_decide_eq_true (by first | (with_reducible assumption) | assumption)
                              obtain ⟨ad103, A103_0, c103_0, e103, hx103_0, hl103_0, hi103_0⟩ := at_L1 HR1.out x5_1 p103 q103
                              cases e103
                              have HR103_0 := Aside0.mk hi103_0
                              have HC103_0 := Aside0.mk hl103_0
                              clear hi103_0 hl103_0
                              replace p103 := eq_true p103
                              replace q103 := eq_true q103
                              have p104 : 0 ≤ (x6_2 : Int) := of_decide_eq_true (by first | (with_reducible assumption) | assumption)
                              have q104 : x6_2 < ((rd_L1 l1 x5_1).length : Int) := of_decide_eq_true (by first | (with_reducible assumption) | assumption)
                              obtain ⟨ad104, e104, hx104_0⟩ := Kd.at_int HR103_0.out x6_2 p104 q104
                              cases e104
                              replace p104 := eq_true p104
                              replace q104 := eq_true q104
                              go_wp2
                              repeat (go_quiet (fail); try go_wp2)
                              go_roundg k2
                              case measure => have := HK1.out; have := HK2.out; omega
                              case rel => exact ⟨(wrap64 (x6_2 + 1)), (by first | rfl | (simp; done) | (simp [*]; done)), H', ⟨by have := HK1.out; have := HK2.out; omega⟩, by repeat (first | exact Drawn0.refl _ | apply Drawn0.step)⟩
                            · rw [if_neg c12] at H
                              have c12b0 : ((rd (rd_L1 l0 x5_1) x6_2) == (rd (rd_L1 l1 x5_1) x6_2)) = false := beq_eq_false_iff_ne.mpr c12
                              have c12b1 : ((rd (rd_L1 l0 x5_1) x6_2) != (rd (rd_L1 l1 x5_1) x6_2)) = true := bne_iff_ne.mpr c12
                              obtain rfl := Option.some.inj H
                              have p101 : 0 ≤ (x5_1 : Int) := of_decide_eq_true (by first | (with_reducible assumption) | assumption)
                              have q101 : x5_1 < (l0.length : Int) := of_decide_eq_true (by first | (with_reducible assumption) | assumption)
                              obtain ⟨ad101, A101_0, c101_0, e101, hx101_0, hl101_0, hi101_0⟩ := at_L1 HR0.out x5_1 p101 q101
                              cases e101
                              have HR101_0 := Aside0.mk hi101_0
                              have HC101_0 := Aside0.mk hl101_0
                              clear hi101_0 hl101_0
                              replace p101 := eq_true p101
                              replace q101 := eq_true q101
                              have p102 : 0 ≤ (x6_2 : Int) := of_decide_eq_true (by first | (with_reducible assumption) | assumption)
                              have q102 : x6_2 < ((rd_L1 l0 x5_1).length : Int) := of_decide_eq_true (by first | (with_reducible assumption) | assumption)
                              obtain ⟨ad102, e102, hx102_0⟩ := Kd.at_int HR101_0.out x6_2 p102 q102
                              cases e102
                              replace p102 := eq_true p102
                              replace q102 := eq_true q102
                              have p103 : 0 ≤ (x5_1 : Int) := of_decide_eq_true (by first | (with_reducible assumption) | assumption)
                              have q103 : x5_1 < (l1.length : Int) := of_decide_eq_true (by first | (with_reducible assumption) | assumption)
                              obtain ⟨ad103, A103_0, c103_0, e103, hx103_0, hl103_0, hi103_0⟩ := at_L1 HR1.out x5_1 p103 q103
                              cases e103
                              have HR103_0 := Aside0.mk hi103_0
                              have HC103_0 := Aside0.mk hl103_0
                              clear hi103_0 hl103_0
                              replace p103 := eq_true p103
                              replace q103 := eq_true q103
                              have p104 : 0 ≤ (x6_2 : Int) := of_decide_eq_true (by first | (with_reducible assumption) | assumption)
                              have q104 : x6_2 < ((rd_L1 l1 x5_1).length : Int) := of_decide_eq_true (by first | (with_reducible assumption) | assumption)
                              obtain ⟨ad104, e104, hx104_0⟩ := Kd.at_int HR103_0.out x6_2 p104 q104
                              cases e104
                              replace p104 := eq_true p104
                              replace q104 := eq_true q104
                              go_wp2
                              repeat (go_quiet (fail); try go_wp2)
                              go_ret
                              exact ⟨by first | rfl | (simp; done) | (simp [*]; done), by repeat (first | exact Drawn0.refl _ | apply Drawn0.step)⟩
                          · rw [if_neg c11] at H
                            exact absurd H (by simp)
                        · rw [if_neg c10] at H
                          exact absurd H (by simp)
                      · rw [if_neg c9] at H
                        exact absurd H (by simp)
                    · rw [if_neg c8] at H
                      exact absurd H (by simp)
                  · rw [if_neg c7] at H
                    exact absurd H (by simp)
                · rw [if_neg c6] at H
                  exact absurd H (by simp)
              · rw [if_neg c5] at H
                have c5b0 : decide (x6_2 < 4) = false := decide_eq_false c5
                clear c5
                have H' := Aside0.mk H
                clear H
                go_wp2
                repeat (go_quiet (fail); try go_wp2)
                go_roundg k2
                case measure => have := HK1.out; have := HK2.out; omega
                case rel => exact ⟨(wrap64 (x5_1 + 1)), (by first | rfl | (simp; done) | (simp [*]; done)), H', ⟨by have := HK1.out; have := HK2.out; omega⟩, by repeat (first | exact Drawn0.refl _ | apply Drawn0.step)⟩
        · rw [if_neg c4] at H
          have c4b0 : decide (x5_1 < (l0.length : Int)) = false := decide_eq_false c4
          clear c4
          obtain rfl := Option.some.inj H
          go_wp2
          repeat (go_quiet (fail); try go_wp2)
          go_ret
          exact ⟨by first | rfl | (simp; done) | (simp [*]; done), by repeat (first | exact Drawn0.refl _ | apply Drawn0.step)⟩
  · rw [if_neg c3] at H
    have c3b0 : ((l0.length : Int) == (l1.length : Int)) = false := beq_eq_false_iff_ne.mpr c3
    have c3b1 : ((l0.length : Int) != (l1.length : Int)) = true := bne_iff_ne.mpr c3
    have c3b2 : (l0.length == l1.length) = false := by first | simpa using c3 | (simp at c3 ⊢; omega)
    obtain rfl := Option.some.inj H
    go_enter Try.func72, Try.ntmps72
    go_wp2
    repeat (go_quiet (fail); try go_wp2)
    go_ret
    exact ⟨by first | rfl | (simp; done) | (simp [*]; done), by repeat (first | exact Drawn0.refl _ | apply Drawn0.step)⟩
end Go.Proofs.Ytbfkcfmhlanlnaa.K
end
section
namespace Go.Proofs.Ytbfkcfmhlanlnaa.K
open Go.RowKit Go.Proofs.YtbfkcfmhlanlnaaW.PrintWords Go.Proofs.YtbfkcfmhlanlnaaW.PrintLast Go.Proofs.YtbfkcfmhlanlnaaW.PrintMore
attribute [local go_sem] max2_int min2_int max_two min_two max_three min_three max_four min_four
set_option linter.unusedVariables false
set_option linter.unusedSimpArgs false
mutual
def spec_TextJoin.l0 : Nat → List (List Int) → ByteArray → Int → Option (ByteArray × Bool)
  | 0, _, _, _ => none
  | k + 1, x0, x4, x5 => if x5 < (x0.length : Int) then (if 0 ≤ x5 then ((spec_VecOk.f k (rd_L1 x0 x5)).bind fun t102 => (if t102 = true then (spec_TextJoin.l1 k x0 x4 x5 0) else (some ((⟨#[]⟩ : ByteArray), false)))) else (none)) else ((spec_TextOk.f k x4).bind fun t111 => (if t111 = true then ((spec_l51Cut.f k x4).bind fun t112 => ((spec_l3Same.f k t112 x0).bind fun t115 => (if t115 = true then (some (x4, true)) else (some ((⟨#[]⟩ : ByteArray), false))))) else (some ((⟨#[]⟩ : ByteArray), false))))
def spec_TextJoin.l1 : Nat → List (List Int) → ByteArray → Int → Int → Option (ByteArray × Bool)
  | 0, _, _, _, _ => none
  | k + 1, x0, x4, x5, x6 => if 0 ≤ x5 then (if x5 < (x0.length : Int) then (if x6 < ((rd_L1 x0 x5).length : Int) then (if 0 ≤ x6 then (if (rd (rd_L1 x0 x5) x6) > 0 then ((some (([(wrap64 ((wrap64 (97 + (rd (rd_L1 x0 x5) x6))) - 1)) % 256] : List Int) : List Int)).bind fun y108 => (if x4.size + (strOfNums y108).size ≤ 9223372036854775807 then (spec_TextJoin.l1 k x0 (x4 ++ (strOfNums y108)) x5 (wrap64 (x6 + 1))) else (none))) else (spec_TextJoin.l1 k x0 x4 x5 (wrap64 (x6 + 1)))) else (none)) else (spec_TextJoin.l0 k x0 x4 (wrap64 (x5 + 1)))) else (none)) else (none)
end
def spec_TextJoin.f (k : Nat) (l0 : List (List Int)) : Option (ByteArray × Bool) := if (l0.length : Int) > 14 then (some ((⟨#[]⟩ : ByteArray), false)) else (spec_TextJoin.l0 k l0 (⟨#[]⟩ : ByteArray) 0)
theorem spec_TextJoin.mono_l : ∀ k, (∀ y0 y1 y2, LeO (spec_TextJoin.l0 k y0 y1 y2) (spec_TextJoin.l0 (k + 1) y0 y1 y2)) ∧ (∀ y0 y1 y2 y3, LeO (spec_TextJoin.l1 k y0 y1 y2 y3) (spec_TextJoin.l1 (k + 1) y0 y1 y2 y3))
  | 0 => ⟨fun _ _ _ r h => by simp [spec_TextJoin.l0] at h, fun _ _ _ _ r h => by simp [spec_TextJoin.l1] at h⟩
  | k + 1 => by
    obtain ⟨ih0, ih1⟩ := spec_TextJoin.mono_l k
    refine ⟨?_, ?_⟩
    · intro y0 y1 y2
      unfold spec_TextJoin.l0
      repeat' first
      | (with_reducible exact ih0 _ _ _)
      | (with_reducible exact ih1 _ _ _ _)
      | (with_reducible exact spec_TextOk.mono _ _)
      | (with_reducible exact spec_VecOk.mono _ _)
      | (with_reducible exact spec_l3Same.mono _ _ _)
      | (with_reducible exact spec_l51Cut.mono _ _)
      | (with_reducible exact LeO.refl _)
      | (with_reducible exact LeO.none _)
      | (with_reducible refine LeO.ite ?_ ?_)
      | (with_reducible refine LeO.bind ?_ (fun _ => ?_))
      | exact ih0 _ _ _
      | exact ih1 _ _ _ _
      | exact spec_TextOk.mono _ _
      | exact spec_VecOk.mono _ _
      | exact spec_l3Same.mono _ _ _
      | exact spec_l51Cut.mono _ _
      | exact LeO.none _
      | refine LeO.ite ?_ ?_
      | refine LeO.bind ?_ (fun _ => ?_)
    · intro y0 y1 y2 y3
      unfold spec_TextJoin.l1
      repeat' first
      | (with_reducible exact ih0 _ _ _)
      | (with_reducible exact ih1 _ _ _ _)
      | (with_reducible exact spec_TextOk.mono _ _)
      | (with_reducible exact spec_VecOk.mono _ _)
      | (with_reducible exact spec_l3Same.mono _ _ _)
      | (with_reducible exact spec_l51Cut.mono _ _)
      | (with_reducible exact LeO.refl _)
      | (with_reducible exact LeO.none _)
      | (with_reducible refine LeO.ite ?_ ?_)
      | (with_reducible refine LeO.bind ?_ (fun _ => ?_))
      | exact ih0 _ _ _
      | exact ih1 _ _ _ _
      | exact spec_TextOk.mono _ _
      | exact spec_VecOk.mono _ _
      | exact spec_l3Same.mono _ _ _
      | exact spec_l51Cut.mono _ _
      | exact LeO.none _
      | refine LeO.ite ?_ ?_
      | refine LeO.bind ?_ (fun _ => ?_)
theorem spec_TextJoin.mono : ∀ a0 k, LeO (spec_TextJoin.f k a0) (spec_TextJoin.f (k + 1) a0) := by
  intro a0 k
  obtain ⟨ih0, ih1⟩ := spec_TextJoin.mono_l k
  unfold spec_TextJoin.f
  repeat' first
      | (with_reducible exact ih0 _ _ _)
      | (with_reducible exact ih1 _ _ _ _)
      | (with_reducible exact spec_TextOk.mono _ _)
      | (with_reducible exact spec_VecOk.mono _ _)
      | (with_reducible exact spec_l3Same.mono _ _ _)
      | (with_reducible exact spec_l51Cut.mono _ _)
      | (with_reducible exact LeO.refl _)
      | (with_reducible exact LeO.none _)
      | (with_reducible refine LeO.ite ?_ ?_)
      | (with_reducible refine LeO.bind ?_ (fun _ => ?_))
      | exact ih0 _ _ _
      | exact ih1 _ _ _ _
      | exact spec_TextOk.mono _ _
      | exact spec_VecOk.mono _ _
      | exact spec_l3Same.mono _ _ _
      | exact spec_l51Cut.mono _ _
      | exact LeO.none _
      | refine LeO.ite ?_ ?_
      | refine LeO.bind ?_ (fun _ => ?_)
set_option maxHeartbeats 8000000 in
set_option maxRecDepth 100000 in
theorem spec_TextJoin.calls (k : Nat) (A0 : Option Addr) (c0 : Nat) (l0 : List (List Int)) (r1 : ByteArray) (r2 : Bool) (w : World) (hr0 : Kd.C (Kd.slice 3 (Kd.int .i64)) w A0 l0.length l0) (hc0 : l0.length ≤ c0) (h : spec_TextJoin.f k l0 = some (r1, r2)) :
    Calls Try.prog 36 #[.slice A0 l0.length c0] w fun e w' => e = .returned (.tuple #[.string r1, .bool r2]) ∧ Below w.heap.size w w' := by
  have HR0 := Aside0.mk hr0
  have HC0 := Aside0.mk hc0
  clear hr0 hc0
  have HB := Aside0.mk (Below.refl w.heap.size w)
  have H : (if (l0.length : Int) > 14 then (some ((⟨#[]⟩ : ByteArray), false)) else (spec_TextJoin.l0 k l0 (⟨#[]⟩ : ByteArray) 0)) = some (r1, r2) := h
  clear h
  by_cases c2 : (l0.length : Int) > 14
  · rw [if_pos c2] at H
    have c2b0 : decide (14 < (l0.length : Int)) = true := decide_eq_true c2
    have c2b1 : decide (14 < l0.length) = true := decide_eq_true (by omega)
    clear c2
    simp only [Option.some.injEq, Prod.mk.injEq] at H
    obtain ⟨rfl, rfl⟩ := H
    go_enter Try.func36, Try.ntmps36
    go_wp2
    go_ret2
    exact ⟨by first | rfl | (simp [errW_none, errW_some] <;> rfl) | (simp [*, errW_none, errW_some] <;> rfl), by repeat (first | (with_reducible first | exact HB.out | apply below_alloc | apply pw_below_drewN | apply below_drew1) | exact HB.out)⟩
  · rw [if_neg c2] at H
    have c2b0 : decide (14 < (l0.length : Int)) = false := decide_eq_false c2
    have c2b1 : decide (14 < l0.length) = false := decide_eq_false (by omega)
    clear c2
    have H' := Aside0.mk H
    clear H
    go_enter Try.func36, Try.ntmps36
    go_wp2
    go_loopg [4, 5] k (fun kq v4 v5 w' => ∃ (x4_1 : ByteArray) (x5_1 : Int), v4 = .string x4_1 ∧ v5 = .int .i64 x5_1 ∧ Aside0 (spec_TextJoin.l0 kq l0 x4_1 x5_1 = some (r1, r2)) ∧ Aside0 (kq ≤ k) ∧ Aside0 (Below w.heap.size w w'))
    case atStart => exact ⟨((⟨#[]⟩ : ByteArray)), (0), (by first | rfl | (simp; done) | (simp [*]; done)), (by first | rfl | (simp; done) | (simp [*]; done)), H', ⟨Nat.le_refl _⟩, ⟨by repeat (first | (with_reducible first | exact HB.out | apply below_alloc | apply pw_below_drewN | apply below_drew1) | exact HB.out)⟩⟩
    case round =>
      clear H'
      try clear c2
      try clear c2b0
      try clear c2b1
      try clear p2
      obtain ⟨x4_1, x5_1, rfl, rfl, HA, HK1, HB⟩ := hrel
      cases gk with
      | zero => exact absurd HA.out (by simp [spec_TextJoin.l0])
      | succ k1 =>
        have H := HA.out
        clear HA
        simp only [spec_TextJoin.l0] at H
        by_cases c3 : x5_1 < (l0.length : Int)
        · rw [if_pos c3] at H
          have c3b0 : decide (x5_1 < (l0.length : Int)) = true := decide_eq_true c3
          clear c3
          by_cases c4 : 0 ≤ x5_1
          · rw [if_pos c4] at H
            have c4b0 : decide (0 ≤ x5_1) = true := decide_eq_true c4
            clear c4
            replace H := Option.bind_eq_some_iff.mp H
            obtain ⟨t102, A50, H⟩ := H
            replace H : (if t102 = true then (spec_TextJoin.l1 k1 l0 x4_1 x5_1 0) else (some ((⟨#[]⟩ : ByteArray), false))) = some (r1, r2) := H
            have A5 := Aside0.mk A50
            clear A50
            by_cases c6 : t102 = true
            · subst c6
              have H1 : (spec_TextJoin.l1 k1 l0 x4_1 x5_1 0) = some (r1, r2) := by rw [if_pos rfl] at H; exact H
              clear H
              have H := H1
              clear H1
              have H' := Aside0.mk H
              clear H
              have p101 : 0 ≤ (x5_1 : Int) := of_decide_eq_true (by first | (with_reducible assumption) | assumption)
              have q101 : x5_1 < (l0.length : Int) := of_decide_eq_true (by first | (with_reducible assumption) | assumption)
              obtain ⟨ad101, A101_0, c101_0, e101, hx101_0, hl101_0, hi101_0⟩ := at_L1 HR0.out x5_1 p101 q101
              cases e101
              replace hx101_0 := (HB.out.cell (World.block_lt_of_cell? w _ hx101_0)).trans hx101_0
              have HR101_0 := Aside0.mk hi101_0
              have HC101_0 := Aside0.mk hl101_0
              clear hi101_0 hl101_0
              replace p101 := eq_true p101
              replace q101 := eq_true q101
              go_wp2_with (first | ((with_reducible refine gate_callee (f := 71) rfl ?_); refine goesL_ (some 20) rfl rfl Try.func71 (by kernel_rfl) rfl #[.slice A101_0 (rd_L1 l0 x5_1).length c101_0] rfl (by (try simp only [List.map_toArray, List.map_cons, List.map_nil]); first | done | rfl | (simp only [List.length_drop, List.length_take]; rfl)) ?_; (with_reducible refine (spec_VecOk.calls k1 _ _ (rd_L1 l0 x5_1) true _ ?side1 ?side2 A5.out).mono ?_); (case side1 => repeat (first | exact (Kd.C_below HR101_0.out HB.out) | (with_reducible refine Kd.C_alloc ?_ _) | (with_reducible refine Kd.C_drewN ?_ _) | (with_reducible refine Kd.C_drew ?_))); (case side2 => exact HC101_0.out); rintro e w' ⟨rfl, ⟨nd, rfl⟩⟩; refine ⟨_, rfl, ?_⟩))
              go_loopg [4, 6] k1 (fun kq v4 v6 w' => ∃ (x4_2 : ByteArray) (x6_2 : Int), v4 = .string x4_2 ∧ v6 = .int .i64 x6_2 ∧ Aside0 (spec_TextJoin.l1 kq l0 x4_2 x5_1 x6_2 = some (r1, r2)) ∧ Aside0 (kq ≤ k1) ∧ Aside0 (Below w.heap.size w w'))
              case atStart => exact ⟨(x4_1), (0), (by first | rfl | (simp; done) | (simp [*]; done)), (by first | rfl | (simp; done) | (simp [*]; done)), H', ⟨Nat.le_refl _⟩, ⟨by repeat (first | (with_reducible first | exact HB.out | apply below_alloc | apply pw_below_drewN | apply below_drew1) | exact HB.out)⟩⟩
              case round =>
                clear H'
                try clear c1
                try clear p1
                try clear q1
                try clear hx1
                try clear c2
                try clear c2b0
                try clear c2b1
                try clear p2
                try clear c3
                try clear c3b0
                try clear c4
                try clear c4b0
                try clear c6
                try clear hx101_0
                try clear p101
                try clear p2
                try clear q101
                obtain ⟨x4_2, x6_2, rfl, rfl, HA, HK2, HB⟩ := hrel
                cases gk with
                | zero => exact absurd HA.out (by simp [spec_TextJoin.l1])
                | succ k2 =>
                  have H := HA.out
                  clear HA
                  simp only [spec_TextJoin.l1] at H
                  by_cases c7 : 0 ≤ x5_1
                  · rw [if_pos c7] at H
                    have c7b0 : decide (0 ≤ x5_1) = true := decide_eq_true c7
                    clear c7
                    by_cases c8 : x5_1 < (l0.length : Int)
                    · rw [if_pos c8] at H
                      have c8b0 : decide (x5_1 < (l0.length : Int)) = true := decide_eq_true c8
                      clear c8
                      by_cases c9 : x6_2 < ((rd_L1 l0 x5_1).length : Int)
                      · rw [if_pos c9] at H
                        have c9b0 : decide (x6_2 < ((rd_L1 l0 x5_1).length : Int)) = true := decide_eq_true c9
                        clear c9
                        by_cases c10 : 0 ≤ x6_2
                        · rw [if_pos c10] at H
                          have c10b0 : decide (0 ≤ x6_2) = true := decide_eq_true c10
                          clear c10
                          by_cases c11 : (rd (rd_L1 l0 x5_1) x6_2) > 0
                          · rw [if_pos c11] at H
                            have c11b0 : decide (0 < (rd (rd_L1 l0 x5_1) x6_2)) = true := decide_eq_true c11
                            clear c11
                            obtain ⟨y108, hy108⟩ : ∃ y_ : List Int, y_ = (([(wrap64 ((wrap64 (97 + (rd (rd_L1 l0 x5_1) x6_2))) - 1)) % 256] : List Int)) := ⟨_, rfl⟩
                            replace H : (if x4_2.size + (strOfNums y108).size ≤ 9223372036854775807 then (spec_TextJoin.l1 k2 l0 (x4_2 ++ (strOfNums y108)) x5_1 (wrap64 (x6_2 + 1))) else (none)) = some (r1, r2) := by first | (rw [hy108]; with_reducible exact H) | (have H2_ := (Option.bind_some _ _).symm.trans H; rw [hy108]; with_reducible exact H2_) | (have H2_ := (Option.bind_some _ _).symm.trans H; with_reducible exact H2_) | with_reducible exact H | (rw [hy108]; exact H) | exact H
                            have Ny108 := Aside0.mk hy108
                            clear hy108
                            by_cases c12 : x4_2.size + (strOfNums y108).size ≤ 9223372036854775807
                            · rw [if_pos c12] at H
                              have c12b0 := eq_true c12
                              have c12b1 : decide (x4_2.size + (strOfNums y108).size ≤ 9223372036854775807) = true := decide_eq_true c12
                              try have c12b2 : (9223372036854775807 < x4_2.size + (strOfNums y108).size) = False := eq_false (Nat.not_lt.2 c12)
                              have H' := Aside0.mk H
                              clear H
                              have p103 : 0 ≤ (x5_1 : Int) := of_decide_eq_true (by first | (with_reducible assumption) | assumption)
                              have q103 : x5_1 < (l0.length : Int) := of_decide_eq_true (by first | (with_reducible assumption) | assumption)
                              obtain ⟨ad103, A103_0, c103_0, e103, hx103_0, hl103_0, hi103_0⟩ := at_L1 HR0.out x5_1 p103 q103
                              obtain rfl : ad101 = ad103 := (by injection e103)
                              replace hx103_0 := (HB.out.cell (World.block_lt_of_cell? w _ hx103_0)).trans hx103_0
                              have HR103_0 := Aside0.mk hi103_0
                              have HC103_0 := Aside0.mk hl103_0
                              clear hi103_0 hl103_0
                              replace p103 := eq_true p103
                              replace q103 := eq_true q103
                              have p104 : 0 ≤ (x5_1 : Int) := of_decide_eq_true (by first | (with_reducible assumption) | assumption)
                              have q104 : x5_1 < (l0.length : Int) := of_decide_eq_true (by first | (with_reducible assumption) | assumption)
                              obtain ⟨ad104, A104_0, c104_0, e104, hx104_0, hl104_0, hi104_0⟩ := at_L1 HR0.out x5_1 p104 q104
                              obtain rfl : ad101 = ad104 := (by injection e104)
                              replace hx104_0 := (HB.out.cell (World.block_lt_of_cell? w _ hx104_0)).trans hx104_0
                              have HR104_0 := Aside0.mk hi104_0
                              have HC104_0 := Aside0.mk hl104_0
                              clear hi104_0 hl104_0
                              replace p104 := eq_true p104
                              replace q104 := eq_true q104
                              have ea_ := Option.some.inj (hx103_0.symm.trans hx104_0)
                              injection ea_ with ea_ en_ ec_
                              subst ea_
                              subst ec_
                              clear en_
                              have p105 : 0 ≤ (x6_2 : Int) := of_decide_eq_true (by first | (with_reducible assumption) | assumption)
                              have q105 : x6_2 < ((rd_L1 l0 x5_1).length : Int) := of_decide_eq_true (by first | (with_reducible assumption) | assumption)
                              obtain ⟨ad105, e105, hx105_0⟩ := Kd.at_int HR104_0.out x6_2 p105 q105
                              cases e105
                              replace hx105_0 := (HB.out.cell (World.block_lt_of_cell? w _ hx105_0)).trans hx105_0
                              replace p105 := eq_true p105
                              replace q105 := eq_true q105
                              have p106 : 0 ≤ (x5_1 : Int) := of_decide_eq_true (by first | (with_reducible assumption) | assumption)
                              have q106 : x5_1 < (l0.length : Int) := of_decide_eq_true (by first | (with_reducible assumption) | assumption)
                              obtain ⟨ad106, A106_0, c106_0, e106, hx106_0, hl106_0, hi106_0⟩ := at_L1 HR0.out x5_1 p106 q106
                              obtain rfl : ad101 = ad106 := (by injection e106)
                              replace hx106_0 := (HB.out.cell (World.block_lt_of_cell? w _ hx106_0)).trans hx106_0
                              have HR106_0 := Aside0.mk hi106_0
                              have HC106_0 := Aside0.mk hl106_0
                              clear hi106_0 hl106_0
                              replace p106 := eq_true p106
                              replace q106 := eq_true q106
                              have ea_ := Option.some.inj (hx103_0.symm.trans hx106_0)
                              injection ea_ with ea_ en_ ec_
                              subst ea_
                              subst ec_
                              clear en_
                              have p107 : 0 ≤ (x6_2 : Int) := of_decide_eq_true (by first | (with_reducible assumption) | assumption)
                              have q107 : x6_2 < ((rd_L1 l0 x5_1).length : Int) := of_decide_eq_true (by first | (with_reducible assumption) | assumption)
                              obtain ⟨ad107, e107, hx107_0⟩ := Kd.at_int HR106_0.out x6_2 p107 q107
                              cases e107
                              replace hx107_0 := (HB.out.cell (World.block_lt_of_cell? w _ hx107_0)).trans hx107_0
                              replace p107 := eq_true p107
                              replace q107 := eq_true q107
                              go_wp2_with (first | ((with_reducible refine gate_dst (N := 50) rfl ?_); refine Kd.R_lit (Kd.int .u8) _ 5 ?hg (N := 50) ?hd (xs := ([(wrap64 ((wrap64 (97 + (rd (rd_L1 l0 x5_1) x6_2))) - 1)) % 256] : List Int)) (inner := [.int .u8 ((wrap64 ((wrap64 (97 + (rd (rd_L1 l0 x5_1) x6_2))) - 1)) % 256)]) (ok := fun _ => True) (okp := fun _ => True) ?hr ?hp (fun _ hk => hk) trivial (Below.refl _ _) (Nat.le_refl _) (by simp) ?_; (case hd => rfl); (case hg => rfl); (case hr => first | (go_simp; done) | (go_simp; rfl)); (case hp => exact (Reps.one (show Kd.M (Kd.int .u8) _ _ _ ((wrap64 ((wrap64 (97 + (rd (rd_L1 l0 x5_1) x6_2))) - 1)) % 256) [.int .u8 ((wrap64 ((wrap64 (97 + (rd (rd_L1 l0 x5_1) x6_2))) - 1)) % 256)] from rfl) (Reps.none _ _))); intro v109 w13 ho14 hb hg_ hnew_; clear hg_ hnew_; (first | rw [← Ny108.out] at ho14 | (simp only [Int.reduceToNat] at ho14; rw [← Ny108.out] at ho14)); have n0_ := Aside0.mk (Kd.R_lower ho14 (below_size (by repeat (first | (with_reducible first | exact HB.out | apply below_alloc | apply pw_below_drewN | apply below_drew1) | exact HB.out)))); have n1_ := Aside0.mk (below_step (by repeat (first | (with_reducible first | exact HB.out | apply below_alloc | apply pw_below_drewN | apply below_drew1) | exact HB.out)) hb); clear HB; have HO110 := n0_; have HB := n1_; clear n0_ n1_; clear hb ho14; have hcv15 := own_string (P := Try.prog) Try.underlying24 Try.underlying5 Try.underlying9 (Kd.own_of_R HO110.out)))
                              go_roundg k2
                              case measure => have := HK1.out; have := HK2.out; omega
                              case rel => exact ⟨(x4_2 ++ (strOfNums y108)), (wrap64 (x6_2 + 1)), (by first | rfl | (simp; done) | (simp [*]; done)), (by first | rfl | (simp; done) | (simp [*]; done)), H', ⟨by have := HK1.out; have := HK2.out; omega⟩, ⟨by repeat (first | (with_reducible first | exact HB.out | apply below_alloc | apply pw_below_drewN | apply below_drew1) | exact HB.out)⟩⟩
                            · rw [if_neg c12] at H
                              exact absurd H (by simp)
                          · rw [if_neg c11] at H
                            have c11b0 : decide (0 < (rd (rd_L1 l0 x5_1) x6_2)) = false := decide_eq_false c11
                            clear c11
                            have H' := Aside0.mk H
                            clear H
                            have p103 : 0 ≤ (x5_1 : Int) := of_decide_eq_true (by first | (with_reducible assumption) | assumption)
                            have q103 : x5_1 < (l0.length : Int) := of_decide_eq_true (by first | (with_reducible assumption) | assumption)
                            obtain ⟨ad103, A103_0, c103_0, e103, hx103_0, hl103_0, hi103_0⟩ := at_L1 HR0.out x5_1 p103 q103
                            obtain rfl : ad101 = ad103 := (by injection e103)
                            replace hx103_0 := (HB.out.cell (World.block_lt_of_cell? w _ hx103_0)).trans hx103_0
                            have HR103_0 := Aside0.mk hi103_0
                            have HC103_0 := Aside0.mk hl103_0
                            clear hi103_0 hl103_0
                            replace p103 := eq_true p103
                            replace q103 := eq_true q103
                            have p104 : 0 ≤ (x5_1 : Int) := of_decide_eq_true (by first | (with_reducible assumption) | assumption)
                            have q104 : x5_1 < (l0.length : Int) := of_decide_eq_true (by first | (with_reducible assumption) | assumption)
                            obtain ⟨ad104, A104_0, c104_0, e104, hx104_0, hl104_0, hi104_0⟩ := at_L1 HR0.out x5_1 p104 q104
                            obtain rfl : ad101 = ad104 := (by injection e104)
                            replace hx104_0 := (HB.out.cell (World.block_lt_of_cell? w _ hx104_0)).trans hx104_0
                            have HR104_0 := Aside0.mk hi104_0
                            have HC104_0 := Aside0.mk hl104_0
                            clear hi104_0 hl104_0
                            replace p104 := eq_true p104
                            replace q104 := eq_true q104
                            have ea_ := Option.some.inj (hx103_0.symm.trans hx104_0)
                            injection ea_ with ea_ en_ ec_
                            subst ea_
                            subst ec_
                            clear en_
                            have p105 : 0 ≤ (x6_2 : Int) := of_decide_eq_true (by first | (with_reducible assumption) | assumption)
                            have q105 : x6_2 < ((rd_L1 l0 x5_1).length : Int) := of_decide_eq_true (by first | (with_reducible assumption) | assumption)
                            obtain ⟨ad105, e105, hx105_0⟩ := Kd.at_int HR104_0.out x6_2 p105 q105
                            cases e105
                            replace hx105_0 := (HB.out.cell (World.block_lt_of_cell? w _ hx105_0)).trans hx105_0
                            replace p105 := eq_true p105
                            replace q105 := eq_true q105
                            go_wp2
                            go_roundg k2
                            case measure => have := HK1.out; have := HK2.out; omega
                            case rel => exact ⟨(x4_2), (wrap64 (x6_2 + 1)), (by first | rfl | (simp; done) | (simp [*]; done)), (by first | rfl | (simp; done) | (simp [*]; done)), H', ⟨by have := HK1.out; have := HK2.out; omega⟩, ⟨by repeat (first | (with_reducible first | exact HB.out | apply below_alloc | apply pw_below_drewN | apply below_drew1) | exact HB.out)⟩⟩
                        · rw [if_neg c10] at H
                          exact absurd H (by simp)
                      · rw [if_neg c9] at H
                        have c9b0 : decide (x6_2 < ((rd_L1 l0 x5_1).length : Int)) = false := decide_eq_false c9
                        clear c9
                        have H' := Aside0.mk H
                        clear H
                        have p103 : 0 ≤ (x5_1 : Int) := of_decide_eq_true (by first | (with_reducible assumption) | assumption)
                        have q103 : x5_1 < (l0.length : Int) := of_decide_eq_true (by first | (with_reducible assumption) | assumption)
                        obtain ⟨ad103, A103_0, c103_0, e103, hx103_0, hl103_0, hi103_0⟩ := at_L1 HR0.out x5_1 p103 q103
                        obtain rfl : ad101 = ad103 := (by injection e103)
                        replace hx103_0 := (HB.out.cell (World.block_lt_of_cell? w _ hx103_0)).trans hx103_0
                        have HR103_0 := Aside0.mk hi103_0
                        have HC103_0 := Aside0.mk hl103_0
                        clear hi103_0 hl103_0
                        replace p103 := eq_true p103
                        replace q103 := eq_true q103
                        go_wp2
                        go_roundg k2
                        case measure => have := HK1.out; have := HK2.out; omega
                        case rel => exact ⟨(x4_2), (wrap64 (x5_1 + 1)), (by first | rfl | (simp; done) | (simp [*]; done)), (by first | rfl | (simp; done) | (simp [*]; done)), H', ⟨by have := HK1.out; have := HK2.out; omega⟩, ⟨by repeat (first | (with_reducible first | exact HB.out | apply below_alloc | apply pw_below_drewN | apply below_drew1) | exact HB.out)⟩⟩
                    · rw [if_neg c8] at H
                      exact absurd H (by simp)
                  · rw [if_neg c7] at H
                    exact absurd H (by simp)
            · replace c6 := Bool.eq_false_iff.mpr c6
              subst c6
              have H1 : (some ((⟨#[]⟩ : ByteArray), false)) = some (r1, r2) := by rw [if_neg (show ¬ (false = true) by decide)] at H; exact H
              clear H
              have H := H1
              clear H1
              simp only [Option.some.injEq, Prod.mk.injEq] at H
              obtain ⟨rfl, rfl⟩ := H
              have p101 : 0 ≤ (x5_1 : Int) := of_decide_eq_true (by first | (with_reducible assumption) | assumption)
              have q101 : x5_1 < (l0.length : Int) := of_decide_eq_true (by first | (with_reducible assumption) | assumption)
              obtain ⟨ad101, A101_0, c101_0, e101, hx101_0, hl101_0, hi101_0⟩ := at_L1 HR0.out x5_1 p101 q101
              cases e101
              replace hx101_0 := (HB.out.cell (World.block_lt_of_cell? w _ hx101_0)).trans hx101_0
              have HR101_0 := Aside0.mk hi101_0
              have HC101_0 := Aside0.mk hl101_0
              clear hi101_0 hl101_0
              replace p101 := eq_true p101
              replace q101 := eq_true q101
              go_wp2_with (first | ((with_reducible refine gate_callee (f := 71) rfl ?_); refine goesL_ (some 20) rfl rfl Try.func71 (by kernel_rfl) rfl #[.slice A101_0 (rd_L1 l0 x5_1).length c101_0] rfl (by (try simp only [List.map_toArray, List.map_cons, List.map_nil]); first | done | rfl | (simp only [List.length_drop, List.length_take]; rfl)) ?_; (with_reducible refine (spec_VecOk.calls k1 _ _ (rd_L1 l0 x5_1) false _ ?side1 ?side2 A5.out).mono ?_); (case side1 => repeat (first | exact (Kd.C_below HR101_0.out HB.out) | (with_reducible refine Kd.C_alloc ?_ _) | (with_reducible refine Kd.C_drewN ?_ _) | (with_reducible refine Kd.C_drew ?_))); (case side2 => exact HC101_0.out); rintro e w' ⟨rfl, ⟨nd, rfl⟩⟩; refine ⟨_, rfl, ?_⟩))
              go_ret2
              exact ⟨by first | rfl | (simp [errW_none, errW_some] <;> rfl) | (simp [*, errW_none, errW_some] <;> rfl), by repeat (first | (with_reducible first | exact HB.out | apply below_alloc | apply pw_below_drewN | apply below_drew1) | exact HB.out)⟩
          · rw [if_neg c4] at H
            exact absurd H (by simp)
        · rw [if_neg c3] at H
          have c3b0 : decide (x5_1 < (l0.length : Int)) = false := decide_eq_false c3
          clear c3
          replace H := Option.bind_eq_some_iff.mp H
          obtain ⟨t111, A160, H⟩ := H
          replace H : (if t111 = true then ((spec_l51Cut.f k1 x4_1).bind fun t112 => ((spec_l3Same.f k1 t112 l0).bind fun t115 => (if t115 = true then (some (x4_1, true)) else (some ((⟨#[]⟩ : ByteArray), false))))) else (some ((⟨#[]⟩ : ByteArray), false))) = some (r1, r2) := H
          have A16 := Aside0.mk A160
          clear A160
          by_cases c17 : t111 = true
          · subst c17
            have H1 : ((spec_l51Cut.f k1 x4_1).bind fun t112 => ((spec_l3Same.f k1 t112 l0).bind fun t115 => (if t115 = true then (some (x4_1, true)) else (some ((⟨#[]⟩ : ByteArray), false))))) = some (r1, r2) := by rw [if_pos rfl] at H; exact H
            clear H
            have H := H1
            clear H1
            replace H := Option.bind_eq_some_iff.mp H
            obtain ⟨t112, A180, H⟩ := H
            replace H : ((spec_l3Same.f k1 t112 l0).bind fun t115 => (if t115 = true then (some (x4_1, true)) else (some ((⟨#[]⟩ : ByteArray), false)))) = some (r1, r2) := H
            have A18 := Aside0.mk A180
            clear A180
            replace H := Option.bind_eq_some_iff.mp H
            obtain ⟨t115, A190, H⟩ := H
            replace H : (if t115 = true then (some (x4_1, true)) else (some ((⟨#[]⟩ : ByteArray), false))) = some (r1, r2) := H
            have A19 := Aside0.mk A190
            clear A190
            by_cases c20 : t115 = true
            · subst c20
              have H1 : (some (x4_1, true)) = some (r1, r2) := by rw [if_pos rfl] at H; exact H
              clear H
              have H := H1
              clear H1
              simp only [Option.some.injEq, Prod.mk.injEq] at H
              obtain ⟨rfl, rfl⟩ := H
              go_wp2_with (first | ((with_reducible refine gate_callee (f := 32) rfl ?_); refine goesL_ (some 54) rfl rfl Try.func32 (by kernel_rfl) rfl #[.string x4_1] rfl (by (try simp only [List.map_toArray, List.map_cons, List.map_nil]); first | done | rfl | (simp only [List.length_drop, List.length_take]; rfl)) ?_; (with_reducible refine (spec_TextOk.calls k1 x4_1 true _ A16.out).mono ?_); rintro e w' ⟨rfl, ⟨nd, rfl⟩⟩; refine ⟨_, rfl, ?_⟩) | (go_at_call 58; (with_reducible refine (spec_l51Cut.calls k1 x4_1 t112 _ A18.out).mono ?_); rintro e w21 ⟨v113, rfl, ho0, hb⟩; have n0_ := Aside0.mk (Kd.S_lower ho0 (below_size (by repeat (first | (with_reducible first | exact HB.out | apply below_alloc | apply pw_below_drewN | apply below_drew1) | exact HB.out)))); have n1_ := Aside0.mk (below_step (by repeat (first | (with_reducible first | exact HB.out | apply below_alloc | apply pw_below_drewN | apply below_drew1) | exact HB.out)) hb); clear HB; have HO114 := n0_; have HB := n1_; clear n0_ n1_; (try clear hb); (try clear hb2); (try clear hk); (try clear hi); (try clear ho0); obtain ⟨Ao22, co22, eo22⟩ := Kd.S_slice HO114.out; subst eo22) | (go_at_call 72; (with_reducible refine (spec_l3Same.calls k1 _ _ t112 _ _ l0 true _ ?side1 ?side2 ?side3 ?side4 A19.out).mono ?_); (case side1 => repeat (first | exact (Kd.S_reads' HO114.out).2.2 | (with_reducible refine Kd.C_alloc ?_ _) | (with_reducible refine Kd.C_drewN ?_ _) | (with_reducible refine Kd.C_drew ?_))); (case side2 => exact (Kd.S_reads' HO114.out).2.1); (case side3 => repeat (first | exact (Kd.C_below HR0.out HB.out) | (with_reducible refine Kd.C_alloc ?_ _) | (with_reducible refine Kd.C_drewN ?_ _) | (with_reducible refine Kd.C_drew ?_))); (case side4 => exact HC0.out); rintro e w' ⟨rfl, ⟨nd, rfl⟩⟩))
              go_ret2
              exact ⟨by first | rfl | (simp [errW_none, errW_some] <;> rfl) | (simp [*, errW_none, errW_some] <;> rfl), by repeat (first | (with_reducible first | exact HB.out | apply below_alloc | apply pw_below_drewN | apply below_drew1) | exact HB.out)⟩
            · replace c20 := Bool.eq_false_iff.mpr c20
              subst c20
              have H1 : (some ((⟨#[]⟩ : ByteArray), false)) = some (r1, r2) := by rw [if_neg (show ¬ (false = true) by decide)] at H; exact H
              clear H
              have H := H1
              clear H1
              simp only [Option.some.injEq, Prod.mk.injEq] at H
              obtain ⟨rfl, rfl⟩ := H
              go_wp2_with (first | ((with_reducible refine gate_callee (f := 32) rfl ?_); refine goesL_ (some 54) rfl rfl Try.func32 (by kernel_rfl) rfl #[.string x4_1] rfl (by (try simp only [List.map_toArray, List.map_cons, List.map_nil]); first | done | rfl | (simp only [List.length_drop, List.length_take]; rfl)) ?_; (with_reducible refine (spec_TextOk.calls k1 x4_1 true _ A16.out).mono ?_); rintro e w' ⟨rfl, ⟨nd, rfl⟩⟩; refine ⟨_, rfl, ?_⟩) | (go_at_call 58; (with_reducible refine (spec_l51Cut.calls k1 x4_1 t112 _ A18.out).mono ?_); rintro e w23 ⟨v113, rfl, ho0, hb⟩; have n0_ := Aside0.mk (Kd.S_lower ho0 (below_size (by repeat (first | (with_reducible first | exact HB.out | apply below_alloc | apply pw_below_drewN | apply below_drew1) | exact HB.out)))); have n1_ := Aside0.mk (below_step (by repeat (first | (with_reducible first | exact HB.out | apply below_alloc | apply pw_below_drewN | apply below_drew1) | exact HB.out)) hb); clear HB; have HO114 := n0_; have HB := n1_; clear n0_ n1_; (try clear hb); (try clear hb2); (try clear hk); (try clear hi); (try clear ho0); obtain ⟨Ao24, co24, eo24⟩ := Kd.S_slice HO114.out; subst eo24) | (go_at_call 72; (with_reducible refine (spec_l3Same.calls k1 _ _ t112 _ _ l0 false _ ?side1 ?side2 ?side3 ?side4 A19.out).mono ?_); (case side1 => repeat (first | exact (Kd.S_reads' HO114.out).2.2 | (with_reducible refine Kd.C_alloc ?_ _) | (with_reducible refine Kd.C_drewN ?_ _) | (with_reducible refine Kd.C_drew ?_))); (case side2 => exact (Kd.S_reads' HO114.out).2.1); (case side3 => repeat (first | exact (Kd.C_below HR0.out HB.out) | (with_reducible refine Kd.C_alloc ?_ _) | (with_reducible refine Kd.C_drewN ?_ _) | (with_reducible refine Kd.C_drew ?_))); (case side4 => exact HC0.out); rintro e w' ⟨rfl, ⟨nd, rfl⟩⟩))
              go_ret2
              exact ⟨by first | rfl | (simp [errW_none, errW_some] <;> rfl) | (simp [*, errW_none, errW_some] <;> rfl), by repeat (first | (with_reducible first | exact HB.out | apply below_alloc | apply pw_below_drewN | apply below_drew1) | exact HB.out)⟩
          · replace c17 := Bool.eq_false_iff.mpr c17
            subst c17
            have H1 : (some ((⟨#[]⟩ : ByteArray), false)) = some (r1, r2) := by rw [if_neg (show ¬ (false = true) by decide)] at H; exact H
            clear H
            have H := H1
            clear H1
            simp only [Option.some.injEq, Prod.mk.injEq] at H
            obtain ⟨rfl, rfl⟩ := H
            go_wp2_with (first | ((with_reducible refine gate_callee (f := 32) rfl ?_); refine goesL_ (some 54) rfl rfl Try.func32 (by kernel_rfl) rfl #[.string x4_1] rfl (by (try simp only [List.map_toArray, List.map_cons, List.map_nil]); first | done | rfl | (simp only [List.length_drop, List.length_take]; rfl)) ?_; (with_reducible refine (spec_TextOk.calls k1 x4_1 false _ A16.out).mono ?_); rintro e w' ⟨rfl, ⟨nd, rfl⟩⟩; refine ⟨_, rfl, ?_⟩))
            go_ret2
            exact ⟨by first | rfl | (simp [errW_none, errW_some] <;> rfl) | (simp [*, errW_none, errW_some] <;> rfl), by repeat (first | (with_reducible first | exact HB.out | apply below_alloc | apply pw_below_drewN | apply below_drew1) | exact HB.out)⟩
end Go.Proofs.Ytbfkcfmhlanlnaa.K
end
section
namespace Go.Proofs.Ytbfkcfmhlanlnaa.K
set_option linter.unusedVariables false
set_option linter.unusedSimpArgs false
open Go.RowKit Go.Proofs.YtbfkcfmhlanlnaaW.PrintWords Go.Proofs.YtbfkcfmhlanlnaaW.PrintLast Go.Proofs.YtbfkcfmhlanlnaaW.PrintMore
theorem rd_get_j (l : List Int) (i : Nat) (h : i < l.length) : rd l (i : Int) = l[i] := by unfold rd; simp [h]
theorem rdL_get_j (l : List (List Int)) (i : Nat) (h : i < l.length) : rd_L1 l (i : Int) = l[i] := by unfold rd_L1; simp [h]
theorem lkInts_l (a b : List Int) (hl : a.length ≤ 140737488351232) (h : a.length = b.length) (d : Nat) : ∀ (i : Nat), i + d = a.length → Ev (fun k => laws_lkInts.l0 k a b (i : Int)) (decide (a.drop i = b.drop i)) := by
  induction d with
  | zero =>
    intro i hi
    refine Ev.step (fun k => rfl) (tv_neg (by omega) (tv_eq (Ev.now _) ?_))
    rw [List.drop_eq_nil_of_le (by omega), List.drop_eq_nil_of_le (by omega)]; simp
  | succ d ih =>
    intro i hi
    have hlt : i < a.length := by omega
    have hlt2 : i < b.length := by omega
    refine Ev.step (fun k => rfl) (tv_pos (by omega) (tv_pos (by omega) (tv_pos (by omega) ?_)))
    rw [rd_get_j a i hlt, rd_get_j b i hlt2, w64t (by omega) (by omega), show ((i : Int) + 1) = ((i + 1 : Nat) : Int) by omega]
    have ea : a.drop i = a[i] :: a.drop (i + 1) := List.drop_eq_getElem_cons hlt
    have eb : b.drop i = b[i] :: b.drop (i + 1) := List.drop_eq_getElem_cons hlt2
    generalize a.drop i = da at *
    generalize b.drop i = db at *
    by_cases c : a[i] = b[i]
    · refine tv_pos c (tv_eq (ih (i + 1) (by omega)) ?_)
      rw [ea, eb, c]; exact decide_eq_decide.mpr (by rw [List.cons.injEq]; exact ⟨fun h => ⟨rfl, h⟩, fun h => h.2⟩)
    · refine tv_neg c (tv_eq (Ev.now _) ?_)
      rw [ea, eb]; exact (decide_eq_false (by rw [List.cons.injEq]; exact fun h => c h.1)).symm
theorem lkInts_ev (a b : List Int) (hl : a.length ≤ 140737488351232) : Ev (fun k => laws_lkInts.f k a b) (decide (a = b)) := by
  unfold laws_lkInts.f
  by_cases c : a.length = b.length
  · refine tv_pos (by omega) (tv_eq (lkInts_l a b hl c a.length 0 (by omega)) ?_)
    simp
  · refine tv_neg (by omega) (tv_eq (Ev.now _) ?_)
    symm
    rw [decide_eq_false_iff_not]
    intro h
    exact c (by rw [h])
def Small (m : List (List Int)) : Prop := m.length ≤ 140737488351232 ∧ ∀ r ∈ m, r.length ≤ 140737488351232
theorem lkRows_l (a b : List (List Int)) (hl : Small a) (h : a.length = b.length) (d : Nat) : ∀ (i : Nat), i + d = a.length → Ev (fun k => laws_lkRows.l0 k a b (i : Int)) (decide (a.drop i = b.drop i)) := by
  have hl0 := hl.1
  induction d with
  | zero =>
    intro i hi
    refine Ev.step (fun k => rfl) (tv_neg (by omega) (tv_eq (Ev.now _) ?_))
    rw [List.drop_eq_nil_of_le (by omega), List.drop_eq_nil_of_le (by omega)]; simp
  | succ d ih =>
    intro i hi
    have hlt : i < a.length := by omega
    have hlt2 : i < b.length := by omega
    refine Ev.step (fun k => rfl) (tv_pos (by omega) (tv_pos (by omega) (tv_pos (by omega) ?_)))
    rw [rdL_get_j a i hlt, rdL_get_j b i hlt2, w64t (by omega) (by omega), show ((i : Int) + 1) = ((i + 1 : Nat) : Int) by omega]
    refine (lkInts_ev a[i] b[i] (hl.2 _ (List.getElem_mem _))).bind ?_
    have ea : a.drop i = a[i] :: a.drop (i + 1) := List.drop_eq_getElem_cons hlt
    have eb : b.drop i = b[i] :: b.drop (i + 1) := List.drop_eq_getElem_cons hlt2
    generalize a.drop i = da at *
    generalize b.drop i = db at *
    by_cases c : a[i] = b[i]
    · refine tv_pos (decide_eq_true c) (tv_eq (ih (i + 1) (by omega)) ?_)
      rw [ea, eb, c]; exact decide_eq_decide.mpr (by rw [List.cons.injEq]; exact ⟨fun h => ⟨rfl, h⟩, fun h => h.2⟩)
    · refine tv_neg (by rw [decide_eq_false c]; simp) (tv_eq (Ev.now _) ?_)
      rw [ea, eb]; exact (decide_eq_false (by rw [List.cons.injEq]; exact fun h => c h.1)).symm
theorem lkRows_ev (a b : List (List Int)) (hl : Small a) : Ev (fun k => laws_lkRows.f k a b) (decide (a = b)) := by
  unfold laws_lkRows.f
  by_cases c : a.length = b.length
  · refine tv_pos (by omega) (tv_eq (lkRows_l a b hl c a.length 0 (by omega)) ?_)
    simp
  · refine tv_neg (by omega) (tv_eq (Ev.now _) ?_)
    symm
    rw [decide_eq_false_iff_not]
    intro h
    exact c (by rw [h])
def put1 (acc : List Int) (n : Int) : List Int := if 1 ≤ n ∧ n ≤ 26 ∧ acc.length ≤ 14 then acc ++ [n + 96] else acc
theorem put1_len (acc : List Int) (n : Int) (h : acc.length ≤ 15) : (put1 acc n).length ≤ 15 := by
  unfold put1; split
  · rw [List.length_append, List.length_singleton]; omega
  · exact h
theorem puts_len (l : List Int) : ∀ acc : List Int, acc.length ≤ 15 → (l.foldl put1 acc).length ≤ 15 := by
  induction l with
  | nil => intro acc h; exact h
  | cons a l ih => intro acc h; exact ih _ (put1_len acc a h)
theorem letters_lt (s : ByteArray) (i : Nat) (hi : i < s.size) (hlow : allLow s) : 1 ≤ letter s i ∧ letter s i ≤ 26 ∧ letter s i + 96 = bt s i := by
  unfold letter; rw [if_pos hi]; have := hlow i hi; omega
theorem flat_cut (s : ByteArray) : (cutOf s).flatten = (List.range (4 * chunks s.size)).map (fun i => letter s i) := by
  unfold cutOf
  generalize chunks s.size = n
  induction n with
  | zero => rfl
  | succ n ih =>
    rw [List.range_succ, List.map_append, List.flatten_append, ih, show 4 * (n + 1) = 4 * n + 1 + 1 + 1 + 1 by omega, List.range_succ, List.range_succ, List.range_succ, List.range_succ]
    simp [row4]
theorem take_up (s : ByteArray) (hlow : allLow s) (hs : s.size ≤ 14) : ∀ n, ((List.range n).map fun i => letter s i).foldl put1 [] = (bytesOf s).take n := by
  intro n
  induction n with
  | zero => simp
  | succ n ih =>
    rw [List.range_succ, List.map_append, List.foldl_append, ih]
    have hlen : (bytesOf s).length = s.size := bytesOf_length s
    by_cases c : n < s.size
    · obtain ⟨h1, h2, h3⟩ := letters_lt s n c hlow
      have hl : ((bytesOf s).take n).length ≤ 14 := by rw [List.length_take]; omega
      show put1 _ (letter s n) = _
      unfold put1
      rw [if_pos ⟨h1, h2, hl⟩, h3, List.take_succ_eq_append_getElem (by rw [hlen]; exact c)]
      congr 2
      rw [← rd_bytesOf, rd_get_j _ _ (by rw [hlen]; exact c)]
    · have h0 : letter s n = 0 := by unfold letter; rw [if_neg c]
      show put1 _ (letter s n) = _
      unfold put1
      rw [h0, if_neg (by omega), List.take_of_length_le (by rw [hlen]; omega), List.take_of_length_le (by rw [hlen]; omega)]
theorem back_bytes (s : ByteArray) (hlow : allLow s) (hs : s.size ≤ 14) : (cutOf s).flatten.foldl put1 [] = bytesOf s := by
  rw [flat_cut, take_up s hlow hs, List.take_of_length_le]
  rw [bytesOf_length]; unfold chunks; omega
theorem strOfNums_bytesOf (s : ByteArray) : strOfNums (bytesOf s) = s := by
  unfold strOfNums bytesOf
  apply ByteArray.ext
  rw [List.map_map]
  apply Array.ext'
  rw [List.toList_toArray]
  refine (List.map_congr_left (g := id) (fun b _ => ?_)).trans (List.map_id _)
  simp
theorem back_text (s : ByteArray) (h : tok s = true) : strOfNums ((cutOf s).flatten.foldl put1 []) = s := by
  rw [back_bytes s (tok_low s h) ((tok_iff s).1 h).2.2]
  exact strOfNums_bytesOf s
theorem cut_inj (s t : ByteArray) (hs : tok s = true) (ht : tok t = true) (h : cutOf s = cutOf t) : s = t := by
  rw [← back_text s hs, ← back_text t ht, h]
def JoinIs (m : List (List Int)) (x : ByteArray × Bool) : Prop := (x.2 = true ∧ tok x.1 = true ∧ cutOf x.1 = m) ∨ (x.2 = false ∧ x.1 = (⟨#[]⟩ : ByteArray) ∧ ∀ t, tok t = true → cutOf t ≠ m)
theorem JoinIs.unique {m : List (List Int)} {x y : ByteArray × Bool} (hx : JoinIs m x) (hy : JoinIs m y) : x = y := by
  rcases hx with ⟨h1, h2, h3⟩ | ⟨h1, h2, h3⟩ <;> rcases hy with ⟨g1, g2, g3⟩ | ⟨g1, g2, g3⟩
  · exact Prod.ext (cut_inj _ _ h2 g2 (h3.trans g3.symm)) (h1.trans g1.symm)
  · exact absurd h3 (g3 _ h2)
  · exact absurd g3 (h3 _ g2)
  · exact Prod.ext (h2.trans g2.symm) (h1.trans g1.symm)
def joinEnd (m : List (List Int)) (acc : List Int) : ByteArray × Bool := if tok (strOfNums acc) = true ∧ cutOf (strOfNums acc) = m then (strOfNums acc, true) else (⟨#[]⟩, false)
theorem join_l1 (m : List (List Int)) (hm : Small m) (x13 : Int) (row : List Int) (hr : row.length ≤ 140737488351232) (r : ByteArray × Bool) (d : Nat) : ∀ (i : Nat) (acc : List Int), i + d = row.length → acc.length ≤ 15 →
    Ev (fun k => impl_TextJoin.l0 k m ((row.drop i).foldl put1 acc) m (m.length : Int) (wrap64 (x13 + 1))) r →
    Ev (fun k => impl_TextJoin.l1 k m acc m (m.length : Int) x13 row (row.length : Int) (i : Int)) r := by
  induction d with
  | zero =>
    intro i acc hi ha h
    refine Ev.step (fun k => rfl) (tv_neg (by omega) ?_)
    rw [List.drop_eq_nil_of_le (by omega)] at h
    exact h
  | succ d ih =>
    intro i acc hi ha h
    have hlt : i < row.length := by omega
    rw [List.drop_eq_getElem_cons hlt, List.foldl_cons] at h
    refine Ev.step (fun k => rfl) (tv_pos (by omega) (tv_pos (by omega) (tv_pos (by omega) ?_)))
    rw [rd_get_j row i hlt, w64t (x := (i : Int) + 1) (by omega) (by omega), show ((i : Int) + 1) = ((i + 1 : Nat) : Int) by omega]
    generalize row[i] = n at h ⊢
    have hw : impl_within.f n 1 26 = some (decide (1 ≤ n) && decide (n ≤ 26)) := by
      unfold impl_within.f
      by_cases c : n ≥ 1
      · rw [if_pos c]; simp [c]
      · rw [if_neg c]; simp [c]
    refine tv_call hw ?_
    by_cases c : 1 ≤ n ∧ n ≤ 26
    · have hb : (decide (1 ≤ n) && decide (n ≤ 26)) = true := by simp [c]
      refine tv_pos hb ?_
      by_cases c2 : acc.length ≤ 14
      · have hp : put1 acc n = acc ++ [n + 96] := by unfold put1; rw [if_pos ⟨c.1, c.2, c2⟩]
        have he : ((wrap64 (n - 1)) + 97) % 256 = n + 96 := by rw [w64t (by omega) (by omega)]; omega
        rw [hp] at h
        refine tv_pos (by omega) (tv_pos (by omega) ?_)
        rw [he]
        exact ih (i + 1) _ (by omega) (by rw [List.length_append, List.length_singleton]; omega) h
      · have hp : put1 acc n = acc := by unfold put1; rw [if_neg (fun hh => c2 hh.2.2)]
        rw [hp] at h
        exact tv_neg (by omega) (ih (i + 1) acc (by omega) ha h)
    · have hb : ¬ (decide (1 ≤ n) && decide (n ≤ 26)) = true := by simpa using c
      have hp : put1 acc n = acc := by unfold put1; rw [if_neg (fun hh => c ⟨hh.1, hh.2.1⟩)]
      rw [hp] at h
      exact tv_neg hb (ih (i + 1) acc (by omega) ha h)
theorem cutT_eq (s : ByteArray) (h : tok s = true) : cutT s = cutOf s := by unfold cutT; rw [if_pos h]
theorem join_l0 (m : List (List Int)) (hm : Small m) (d : Nat) : ∀ (i : Nat) (acc : List Int), i + d = m.length → acc.length ≤ 15 →
    Ev (fun k => impl_TextJoin.l0 k m acc m (m.length : Int) (i : Int)) (joinEnd m ((m.drop i).flatten.foldl put1 acc)) := by
  have hm0 := hm.1
  induction d with
  | zero =>
    intro i acc hi ha
    rw [List.drop_eq_nil_of_le (by omega)]
    refine Ev.step (fun k => rfl) (tv_neg (by omega) ?_)
    have hs : (strOfNums acc).size ≤ 15 := by rw [strOfNums_size]; exact ha
    refine (show Ev (fun k => impl_TextOk.f k (strOfNums acc)) _ from ⟨(strOfNums acc).size + 1, fun k hk => implOk_f _ (by omega) k (by omega)⟩).bind ?_
    show Ev _ (joinEnd m acc)
    by_cases c : tok (strOfNums acc) = true
    · refine tv_pos c (tv_call (implCut_f _ (by omega)) ?_)
      rw [cutT_eq _ c]
      refine tv_call (rfl : slices_EqualFunc_int_int_int_int.f _ m = some (decide (cutOf (strOfNums acc) = m))) ?_
      by_cases c2 : cutOf (strOfNums acc) = m
      · exact tv_pos (decide_eq_true c2) (tv_eq (Ev.now _) (show (strOfNums acc, true) = joinEnd m acc from (if_pos ⟨c, c2⟩).symm))
      · exact tv_neg (by rw [decide_eq_false c2]; simp) (tv_eq (Ev.now _) (show ((⟨#[]⟩ : ByteArray), false) = joinEnd m acc from (if_neg (fun h => c2 h.2)).symm))
    · exact tv_neg c (tv_eq (Ev.now _) (show ((⟨#[]⟩ : ByteArray), false) = joinEnd m acc from (if_neg (fun h => c h.1)).symm))
  | succ d ih =>
    intro i acc hi ha
    have hlt : i < m.length := by omega
    rw [List.drop_eq_getElem_cons hlt, List.flatten_cons, List.foldl_append]
    refine Ev.step (fun k => rfl) (tv_pos (by omega) (tv_pos (by omega) (tv_pos (by omega) ?_)))
    rw [rdL_get_j m i hlt]
    refine join_l1 m hm (i : Int) m[i] (hm.2 _ (List.getElem_mem _)) _ m[i].length 0 acc (by omega) ha ?_
    rw [w64t (x := (i : Int) + 1) (by omega) (by omega), show ((i : Int) + 1) = ((i + 1 : Nat) : Int) by omega, List.drop_zero]
    exact ih (i + 1) _ (by omega) (puts_len _ _ ha)
theorem implJoin_ev (m : List (List Int)) (hm : Small m) : ∃ x, Ev (fun k => impl_TextJoin.f k m) x ∧ JoinIs m x := by
  refine ⟨_, join_l0 m hm m.length 0 [] (by omega) (by simp), ?_⟩
  rw [List.drop_zero]
  unfold joinEnd
  generalize hacc : m.flatten.foldl put1 [] = acc
  by_cases c : tok (strOfNums acc) = true ∧ cutOf (strOfNums acc) = m
  · rw [if_pos c]; exact .inl ⟨rfl, c.1, c.2⟩
  · rw [if_neg c]
    refine .inr ⟨rfl, rfl, fun t ht h => c ?_⟩
    have : strOfNums acc = t := by rw [← hacc, ← h]; exact back_text t ht
    rw [this]; exact ⟨ht, h⟩
theorem specCut_l1 (s : ByteArray) (hs : s.size ≤ 14) (hlow : allLow s) (acc : List (List Int)) (ha : acc.length ≤ 1000) (n : Nat) (hn : n ≤ 1000) (r : List (List Int)) (h : Ev (fun k => spec_l51Cut.l0 k s (acc ++ [row4 s n]) ((n + 1 : Nat) : Int)) r) :
    Ev (fun k => spec_l51Cut.l1 k s acc (n : Int) (List.replicate 4 0) 0) r := by
  have step : ∀ (j : Nat) (row : List Int), j < 4 → row.length = 4 → row[j]? = some 0 → Ev (fun k => spec_l51Cut.l1 k s acc (n : Int) (row.set j (letter s (4 * n + j))) ((j + 1 : Nat) : Int)) r → Ev (fun k => spec_l51Cut.l1 k s acc (n : Int) row (j : Int)) r := by
    intro j row hj hr h0 h
    have e4 : wrap64 ((wrap64 ((n : Int) * 4)) + (j : Int)) = ((4 * n + j : Nat) : Int) := by
      rw [w64t (x := (n : Int) * 4) (by omega) (by omega), w64t (by omega) (by omega)]; omega
    refine Ev.step (fun k => rfl) (tv_pos (by omega) ?_)
    rw [e4, w64t (x := (j : Int) + 1) (by omega) (by omega), show ((j : Int) + 1) = ((j + 1 : Nat) : Int) by omega, Int.toNat_natCast]
    by_cases c : 4 * n + j < s.size
    · obtain ⟨h1, h2, h3⟩ := letters_lt s _ c hlow
      refine tv_pos (by omega) (tv_pos (by omega) (tv_pos (by omega) (tv_pos (by omega) ?_)))
      rw [show (bt s ((4 * n + j : Nat) : Int) - 97) % 256 + 1 = letter s (4 * n + j) by omega]
      exact h
    · have hz : letter s (4 * n + j) = 0 := by unfold letter; rw [if_neg c]
      refine tv_neg (by omega) ?_
      rw [hz, show row.set j 0 = row from by
        obtain ⟨hj', he⟩ := List.getElem?_eq_some_iff.1 h0
        rw [← he]; exact List.set_getElem_self hj'] at h
      exact h
  refine step 0 _ (by omega) rfl rfl (step 1 _ (by omega) rfl rfl (step 2 _ (by omega) rfl rfl (step 3 _ (by omega) rfl rfl ?_)))
  refine Ev.step (fun k => rfl) (tv_neg (by omega) (tv_pos (by omega) ?_))
  rw [w64t (x := (n : Int) + 1) (by omega) (by omega), show ((n : Int) + 1) = ((n + 1 : Nat) : Int) by omega]
  exact h
theorem specl51Cut_ev (s : ByteArray) (hs : s.size ≤ 14) (hlow : allLow s) : Ev (fun k => spec_l51Cut.f k s) (cutOf s) := by
  have key : ∀ (d n : Nat), n + d = chunks s.size → Ev (fun k => spec_l51Cut.l0 k s ((List.range n).map (row4 s)) (n : Int)) (cutOf s) := by
    intro d
    have hc : chunks s.size ≤ 4 := by unfold chunks; omega
    induction d with
    | zero =>
      intro n hn
      refine Ev.step (fun k => by rw [spec_l51Cut.l0]) (tv_call (specl51Rows_t s (by omega)) ?_)
      refine tv_neg (by omega) (tv_eq (Ev.now _) ?_)
      rw [show n = chunks s.size by omega]; rfl
    | succ d ih =>
      intro n hn
      refine Ev.step (fun k => by rw [spec_l51Cut.l0]) (tv_call (specl51Rows_t s (by omega)) ?_)
      refine tv_pos (by omega) (tv_pos (by omega) ?_)
      refine specCut_l1 s hs hlow _ (by simp; omega) n (by omega) _ ?_
      have := ih (n + 1) (by omega)
      rw [List.range_succ, List.map_append] at this
      exact this
  exact key (chunks s.size) 0 (by omega)
theorem specCut_ev (s : ByteArray) (hs : s.size ≤ 140737488351232) : Ev (fun k => spec_TextCut.f k s) (cutT s) := by
  refine (specOk_t s hs).bind ?_
  unfold cutT
  by_cases c : tok s = true
  · rw [if_pos c]
    exact tv_pos c ((specl51Cut_ev s ((tok_iff s).1 c).2.2 (tok_low s c)).bind (Ev.now _))
  · rw [if_neg c]
    exact tv_neg c (Ev.now _)
theorem small_cutT (s : ByteArray) : Small (cutT s) := by
  unfold cutT
  by_cases c : tok s = true
  · rw [if_pos c]
    have := (tok_iff s).1 c
    refine ⟨by rw [cutOf_length]; unfold chunks; omega, fun r hr => ?_⟩
    unfold cutOf at hr
    obtain ⟨k, _, rfl⟩ := List.mem_map.1 hr
    show 4 ≤ _
    omega
  · rw [if_neg c]; exact ⟨by simp, fun r hr => by simp at hr⟩
end Go.Proofs.Ytbfkcfmhlanlnaa.K
end
section
namespace Go.Proofs.Ytbfkcfmhlanlnaa.Pure
open Go.RowKit Go.Proofs.Ytbfkcfmhlanlnaa.K Go.Proofs.YtbfkcfmhlanlnaaW.PrintWords Go.Proofs.YtbfkcfmhlanlnaaW.PrintLast
theorem row4_ok (s : ByteArray) (hlow : allLow s) (k : Nat) : impl_VecOk.f (row4 s k) = some true := by
  have h : ∀ i, fld (letter s i) = true := fun i => by
    unfold fld
    by_cases c : i < s.size
    · have := letters_lt s i c hlow
      simp only [Bool.and_eq_true, decide_eq_true_eq]; omega
    · have : letter s i = 0 := by unfold letter; rw [if_neg c]
      rw [this]; rfl
  unfold impl_VecOk.f impl_elementsOk.f
  rw [if_pos (by show 4 ≤ _; omega)]
  simp only [row4, List.all_cons, List.all_nil, h]
  rfl
theorem back_loop (s : ByteArray) (h : tok s = true) (d : Nat) : ∀ (i : Nat), i + d = chunks s.size → Ev (fun k => laws_FnTextBack.l0 k s (cutOf s) s true (i : Int)) true := by
  have hc : chunks s.size ≤ 4 := by have := (tok_iff s).1 h; unfold chunks; omega
  have hl := cutOf_length s
  induction d with
  | zero =>
    intro i hi
    refine Ev.step (fun k => rfl) (tv_neg (by omega) (tv_pos rfl (tv_pos rfl (tv_call (implRows_f s (by have := (tok_iff s).1 h; omega)) (tv_eq (Ev.now _) ?_)))))
    have : rowsT s = (chunks s.size : Nat) := if_pos h
    rw [this, hl]; simp
  | succ d ih =>
    intro i hi
    refine Ev.step (fun k => rfl) (tv_pos (by omega) (tv_pos (by omega) ?_))
    rw [rdL_get_j _ i (by omega), w64t (by omega) (by omega), show ((i : Int) + 1) = ((i + 1 : Nat) : Int) by omega]
    have e : (cutOf s)[i]'(by omega) = row4 s i := by unfold cutOf; simp
    rw [e]
    exact tv_call (row4_ok s (tok_low s h) i) (tv_pos rfl (ih (i + 1) (by omega)))
theorem FnTextBack : laws_FnTextBack.Pure := by
  intro l _ _ hb
  refine Ev.rounds (g := fun k => laws_FnTextBack.f k l) (r := true) ?_
  unfold laws_FnTextBack.f
  by_cases h : (l.length : Int) > 1048576
  · simp only [if_pos h]; exact Ev.now true
  simp only [if_neg h]
  obtain ⟨l', eo, hl, hb'⟩ := open_some_t l hb
  obtain ⟨s, q, hs, hsz, _, _⟩ := text_ev l' hl hb' 0 (by omega) (by omega)
  have hd : Ev (fun k => spec_DrawTextCut.f k l) s := by
    unfold spec_DrawTextCut.f
    exact tv_call eo (hs.bind (Ev.now _))
  have hss : s.size ≤ 140737488351232 := by omega
  have hlk : Ev (fun k => laws_lkRows.f k (cutT s) (cutT s)) true := tv_eq (lkRows_ev _ _ (small_cutT s)) (by simp)
  refine hd.bind (tv_call (implCut_f s hss) ?_)
  refine (specCut_ev s hss).bind ?_
  refine hlk.bind (tv_pos rfl ?_)
  refine (specOk_t s hss).bind ?_
  by_cases c : tok s = true
  · rw [c]
    refine Ev.step (fun k => by rw [laws_FnTextBack.j0]) ?_
    refine tv_neg (by simp) ?_
    obtain ⟨x, hx, hj⟩ := implJoin_ev (cutT s) (small_cutT s)
    have hx2 : x = (s, true) := hj.unique (.inl ⟨rfl, c, (cutT_eq s c).symm⟩)
    subst hx2
    refine hx.bind ?_
    rw [cutT_eq s c]
    exact back_loop s c (chunks s.size) 0 (by omega)
  · rw [Bool.not_eq_true] at c
    rw [c]
    refine Ev.step (fun k => by rw [laws_FnTextBack.j0]) ?_
    exact tv_pos rfl ((specCut_ev s hss).bind (hlk.bind (Ev.now _)))
end Go.Proofs.Ytbfkcfmhlanlnaa.Pure
end
section
namespace Go.Proofs.YtbfkcfmhlanlnaaW.PrintWords
open Go.ChangeShapes Go.WideShapes
theorem sized_ints {H : Type} {enc : TypeId × Value → H} {P : Program} {W : World} {base : Nat} {spare : Nat → Bool} {held : Bool} {t e : TypeId} {k : IntKind} {a : Option Addr} {len cap : Nat} {d : DataW H} {ps : List MemPlace} {ts : List TypeId} {ds : List (DataW H)} {j : Nat}
    (hsz : (DataW.weightsEach P ts ds).all (· ≤ reachBytes) = true) (ht : ts[j]? = some t) (hd : ds[j]? = some d) (hu : P.underlying t = some (.slice e)) (he : P.underlying e = some (.int k)) (hc : P.cellsOf e = 1) {B : Nat} (hB : P.bytesOf e = B)
    (h : DataW.Trod enc P W base spare held t (.slice a len cap) d ps) : len * B ≤ 140737488351232 := by
  obtain ⟨fuel, hf⟩ := h
  rcases open_ints hu he hc hf with ⟨hcs, _⟩ | ⟨x, l, c, zs, hcs, _, hl, _, hz, hx, _, _⟩
  · simp [Value.cells] at hcs
    obtain ⟨rfl, rfl, rfl⟩ := hcs
    simp
  · simp [Value.cells] at hcs
    obtain ⟨rfl, rfl, rfl⟩ := hcs
    obtain ⟨hx, _⟩ := Prod.mk.inj hx
    subst hx
    have z := sized_slice hsz ht hd hu
    rw [hB] at z
    have hl2 : len ≤ zs.length := by
      rw [hz]
      split
      · exact hl
      · exact Nat.le_refl _
    have h1 : (lits (H := H) k (zs.take len)).length + (lits (H := H) k (zs.drop len)).length = zs.length := by
      simp [lits]
      omega
    rw [h1] at z
    exact Nat.le_trans (Nat.mul_le_mul_right _ hl2) z
end Go.Proofs.YtbfkcfmhlanlnaaW.PrintWords
end
section
namespace Go.Proofs.Ytbfkcfmhlanlnaa.fnTextBack
open Go.ChangeShapes Go.WideShapes Go.ChangeAt Go.RowKit
open Go.ChangeMaps (open_string shut_string)
set_option linter.unusedVariables false
theorem own : ownKnob Try.prog.godebug = none := by kernel_rfl
theorem laidOut : laidOutB Try.prog = true := by kernel_rfl
def IsRow (k : IntKind) (w : World) (a : Option Addr) (len cap : Nat) (zs : List Int) : Prop :=
  (a = none ∧ len = 0 ∧ cap = 0 ∧ zs = []) ∨
  ∃ x, a = some x ∧ len ≤ cap ∧ cap ≤ maxLen ∧ zs.length = cap ∧ (∀ i, i < zs.length → w.cell? (x.add i) = some (.int k (zs.getD i 0))) ∧ ∀ n ∈ zs, (Lit.int k n).wf = true
set_option maxRecDepth 100000 in
theorem lifted (os : Os) (started : os.Started) (H : Type) (enc : TypeId × Value → H) :
    ReturnsInHanded {} Try.checked os 7 .any (Rows.fnTextBackSpec.pre6 enc Try.prog Try.f7 Rows.fnTextBackRow.domain false) (Rows.fnTextBackSpec.post enc Try.prog Try.f7 false true false false) := by
  refine returnsInHanded_of_change_sized (C := Try.checked) own started (by kernel_rfl) Try.func7
    (ChangeSpec.witness6 (enc := enc) (C := Try.checked) false ⟨#[], #[.slice none 0 0], []⟩ 8 (by kernel_rfl) (by kernel_rfl) (by kernel_rfl) (by kernel_rfl)) ?_
  intro W base args ds gs before hval0 hW hcnd hsz0 _
  have hsz : (DataW.weightsEach Try.prog (Try.f7.params.toList ++ Rows.fnTextBackSpec.plain.varTypes Try.prog) (ds ++ gs)).all (· ≤ reachBytes) = true := hsz0
  have hval : ∀ (j : Nat) t v, Try.f7.params[j]? = some t → args[j]? = some v → Value.okWide Try.prog W .any base t v := hval0
  have hW' := hW
  obtain ⟨p, q, hA0, hV, rfl, hfz, hnd⟩ := hW
  have hA : DataW.TrodAll enc Try.prog W 0 (fun _ => true) true Try.f7.params.toList args.toList ds p := hA0
  rw [Try.params7] at hA hval hsz
  obtain ⟨v0, vs0, d0, ds0, p0, q0, hargs, rfl, rfl, h0, r0⟩ := trodAll_cons hA
  obtain ⟨rfl, rfl, rfl⟩ := trodAll_nil r0
  obtain rfl : args = #[v0] := by cases args; simp_all
  obtain ⟨rfl, rfl⟩ := trodVars_none hV
  obtain ⟨a0, len0, cap0, rfl⟩ := okWide_slice Try.underlying24 (hval 0 24 v0 rfl rfl)
  have k0 := h0
  have lt0 : ∀ x ∈ p0, x.block < W.heap.size := by obtain ⟨m, hm⟩ := k0; exact DataW.trod_lt m _ _ _ hm
  obtain ⟨z0, w0⟩ : ∃ zs, IsRow .u8 W a0 len0 cap0 zs := by
    obtain ⟨fuel, hf⟩ := h0
    rcases open_ints Try.underlying24 Try.underlying5 (by kernel_rfl) hf with ⟨hcs, _⟩ | ⟨x, l, c, zs, hcs, _, hl, hm, hz, _, hcell, hwz⟩
    · simp [Value.cells] at hcs
      obtain ⟨rfl, rfl, rfl⟩ := hcs
      exact ⟨[], .inl ⟨rfl, rfl, rfl, rfl⟩⟩
    · simp [Value.cells] at hcs
      obtain ⟨rfl, rfl, rfl⟩ := hcs
      exact ⟨zs, .inr ⟨_, rfl, hl, hm, by simpa using hz, hcell, hwz⟩⟩
  have y0 : len0 * 1 ≤ 140737488351232 := Go.Proofs.YtbfkcfmhlanlnaaW.PrintWords.sized_ints hsz (j := 0) (t := 24) rfl rfl Try.underlying24 Try.underlying5 (by kernel_rfl) (by kernel_rfl) h0
  clear hA0 hval0 hsz0 hsz
  refine (K.laws_FnTextBack.walk Pure.FnTextBack a0 len0 cap0 z0 W w0 y0).mono fun e W' ⟨he, bel⟩ => ?_
  subst he
  exact ⟨_, rfl, _, _, _, [], _, [], hW', trodAll_mk1 (shut_bool Try.underlying4 _), (trodAll_cons_mk (Below.trod laidOut (by kernel_rfl) (of_decide_eq_true (by kernel_rfl)) k0 bel lt0) trodAll_mk0), rfl, bel.frame _, fun h => by cases h⟩
theorem closed : joinedFacts Try.prog 7 Try.f7 Rows.fnTextBackSpec Rows.fnTextBackRow = true := by
  unfold joinedFacts
  rw [Head.make, Head.final, Head.enter]
  kernel_rfl
theorem over : Rows.fnTextBackRow.holds Try.pinned (OpenSpec.ofChange Rows.fnTextBackSpec) :=
  OpenClaim.holds_of_wide 7 Try.f7 rfl rfl rfl rfl rfl rfl rfl ⟨rfl, rfl, rfl, rfl, rfl⟩ rfl rfl rfl rfl rfl (by kernel_rfl) Try.func7 closed
    (of_decide_eq_true (by kernel_rfl)) (by unfold Func.isWrapper; first | (rw [if_pos (by decide +kernel)]; kernel_rfl) | (rw [if_neg (by decide +kernel)]; exact ⟨rfl, rfl⟩))
    (fun os started H enc _ => lifted os started H enc)
theorem proved : Rows.FnTextBackSaid := over
#print axioms proved
end Go.Proofs.Ytbfkcfmhlanlnaa.fnTextBack
namespace Go.Proofs.Ytbfkcfmhlanlnaa
theorem fnTextBack_holds : Rows.FnTextBackSaid := fnTextBack.proved
end Go.Proofs.Ytbfkcfmhlanlnaa
end
