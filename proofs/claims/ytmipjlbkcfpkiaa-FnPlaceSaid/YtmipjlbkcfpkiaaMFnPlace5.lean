/- Part 5 of the proof of the statement FnPlace: what the functions compute, step by step; the last part states it. No condition. -/
import Derived.SizedLaws
import Derived.ChangeSlices
import Derived.Test.YtmipjlbkcfpkiaaRows
import Derived.WalkKit
import Derived.ProofKit
import Derived.OpenShut
import Derived.ShutString
import Derived.ChangeOld
import Derived.Below
import Derived.Test.YtmipjlbkcfpkiaaMFnPlace1
import Derived.Test.YtmipjlbkcfpkiaaMFnPlace2
import Derived.Test.YtmipjlbkcfpkiaaMFnPlace3
import Derived.Test.YtmipjlbkcfpkiaaMFnPlace4
section
namespace Go.Proofs.Ytmipjlbkcfpkiaa.K
open Go.RowKit Go.Proofs.YtmipjlbkcfpkiaaW.PrintWords Go.Proofs.YtmipjlbkcfpkiaaW.PrintLast Go.Proofs.YtmipjlbkcfpkiaaW.PrintMore
attribute [local go_sem] max2_int min2_int max_two min_two max_three min_three max_four min_four
set_option linter.unusedVariables false
set_option linter.unusedSimpArgs false
mutual
def laws_FnPlace.j0 : Nat → Int → List (S42) → List Int → Bool → List Int → Bool → Bool → Option (Bool)
  | 0, _, _, _, _, _, _, _ => none
  | k + 1, x3, x4, x5, x6, x7, x8, x47 => if x47 = true then (if (x8 == x6) = true then ((laws_lkInts.f k x7 x5).bind fun t114 => (some t114)) else (some false)) else ((impl_HouseRanks.f k x3 x4).bind fun t115 => (laws_FnPlace.l0 k x4 x7 t115 (-1) (([0, 0, 0, 0, 0] : List Int)) 0))
def laws_FnPlace.l0 : Nat → List (S42) → List Int → List Int → Int → List Int → Int → Option (Bool)
  | 0, _, _, _, _, _, _ => none
  | k + 1, x4, x7, x9, x10, x11, x12 => if x12 < (x7.length : Int) then (if 0 ≤ x12 then ((impl_HouseRack.f k x4 (rd x7 x12)).bind fun t122 => (laws_FnPlace.l1 k x4 x7 x9 x10 x11 x12 t122 0)) else (none)) else (some ((x7.length : Int) == 8))
def laws_FnPlace.j3 : Nat → List (S42) → List Int → List Int → Int → List Int → Int → Int → Int → Option (Bool)
  | 0, _, _, _, _, _, _, _, _ => none
  | k + 1, x4, x7, x9, x10, x11, x12, x13, x14 => if x13 = 0 then (laws_FnPlace.j4 k x4 x7 x9 x11 x12 x13 x14 true) else (if x14 ≤ x10 then (laws_FnPlace.j4 k x4 x7 x9 x11 x12 x13 x14 true) else (laws_FnPlace.j4 k x4 x7 x9 x11 x12 x13 x14 (x14 == (x9.length : Int))))
def laws_FnPlace.j4 : Nat → List (S42) → List Int → List Int → List Int → Int → Int → Int → Bool → Option (Bool)
  | 0, _, _, _, _, _, _, _, _ => none
  | k + 1, x4, x7, x9, x11, x12, x13, x14, x101 => if x101 = true then (some false) else (if 0 ≤ x13 then (if x13 < (x11.length : Int) then ((some (x11.set (x13 : Int).toNat (wrap64 ((rd x11 x13) + 1)) : List Int)).bind fun y126 => (if (rd y126 x13) > 3 then (some false) else (laws_FnPlace.l0 k x4 x7 x9 x14 y126 (wrap64 (x12 + 1))))) else (none)) else (none))
def laws_FnPlace.l1 : Nat → List (S42) → List Int → List Int → Int → List Int → Int → Int → Int → Option (Bool)
  | 0, _, _, _, _, _, _, _, _ => none
  | k + 1, x4, x7, x9, x10, x11, x12, x13, x14 => if x14 < (x9.length : Int) then (if 0 ≤ x14 then (if 0 ≤ x12 then (if x12 < (x7.length : Int) then (if (rd x9 x14) = (rd x7 x12) then (laws_FnPlace.j3 k x4 x7 x9 x10 x11 x12 x13 x14) else (laws_FnPlace.l1 k x4 x7 x9 x10 x11 x12 x13 (wrap64 (x14 + 1)))) else (none)) else (none)) else (none)) else (laws_FnPlace.j3 k x4 x7 x9 x10 x11 x12 x13 x14)
end
def laws_FnPlace.f (k : Nat) (l0 : List Int) : Option (Bool) := if (l0.length : Int) > 1048576 then (some true) else ((spec_DrawPlaceOf.f k l0).bind fun bt101 => ((spec_PlaceOf.f k bt101.1 bt101.2).bind fun bt105 => ((impl_PlaceOf.f k bt101.1 bt101.2).bind fun bt109 => (if (bt109.2 != bt105.2) = true then (laws_FnPlace.j0 k bt101.1 bt101.2 bt105.1 bt105.2 bt109.1 bt109.2 true) else ((laws_lkInts.f k bt109.1 bt105.1).bind fun t113 => (if t113 = true then (laws_FnPlace.j0 k bt101.1 bt101.2 bt105.1 bt105.2 bt109.1 bt109.2 (!bt109.2)) else (laws_FnPlace.j0 k bt101.1 bt101.2 bt105.1 bt105.2 bt109.1 bt109.2 true)))))))
theorem laws_FnPlace.mono_l : ∀ k, (∀ y0 y1 y2 y3 y4 y5 y6, LeO (laws_FnPlace.j0 k y0 y1 y2 y3 y4 y5 y6) (laws_FnPlace.j0 (k + 1) y0 y1 y2 y3 y4 y5 y6)) ∧ (∀ y0 y1 y2 y3 y4 y5, LeO (laws_FnPlace.l0 k y0 y1 y2 y3 y4 y5) (laws_FnPlace.l0 (k + 1) y0 y1 y2 y3 y4 y5)) ∧ (∀ y0 y1 y2 y3 y4 y5 y6 y7, LeO (laws_FnPlace.j3 k y0 y1 y2 y3 y4 y5 y6 y7) (laws_FnPlace.j3 (k + 1) y0 y1 y2 y3 y4 y5 y6 y7)) ∧ (∀ y0 y1 y2 y3 y4 y5 y6 y7, LeO (laws_FnPlace.j4 k y0 y1 y2 y3 y4 y5 y6 y7) (laws_FnPlace.j4 (k + 1) y0 y1 y2 y3 y4 y5 y6 y7)) ∧ (∀ y0 y1 y2 y3 y4 y5 y6 y7, LeO (laws_FnPlace.l1 k y0 y1 y2 y3 y4 y5 y6 y7) (laws_FnPlace.l1 (k + 1) y0 y1 y2 y3 y4 y5 y6 y7))
  | 0 => ⟨fun _ _ _ _ _ _ _ r h => by simp [laws_FnPlace.j0] at h, fun _ _ _ _ _ _ r h => by simp [laws_FnPlace.l0] at h, fun _ _ _ _ _ _ _ _ r h => by simp [laws_FnPlace.j3] at h, fun _ _ _ _ _ _ _ _ r h => by simp [laws_FnPlace.j4] at h, fun _ _ _ _ _ _ _ _ r h => by simp [laws_FnPlace.l1] at h⟩
  | k + 1 => by
    obtain ⟨ih0, ih1, ih2, ih3, ih4⟩ := laws_FnPlace.mono_l k
    refine ⟨?_, ?_, ?_, ?_, ?_⟩
    · intro y0 y1 y2 y3 y4 y5 y6
      unfold laws_FnPlace.j0
      repeat' first
      | (with_reducible exact ih0 _ _ _ _ _ _ _)
      | (with_reducible exact ih1 _ _ _ _ _ _)
      | (with_reducible exact ih2 _ _ _ _ _ _ _ _)
      | (with_reducible exact ih3 _ _ _ _ _ _ _ _)
      | (with_reducible exact ih4 _ _ _ _ _ _ _ _)
      | (with_reducible exact impl_HouseRack.mono _ _ _)
      | (with_reducible exact impl_HouseRanks.mono _ _ _)
      | (with_reducible exact impl_PlaceOf.mono _ _ _)
      | (with_reducible exact laws_lkInts.mono _ _ _)
      | (with_reducible exact spec_DrawPlaceOf.mono _ _)
      | (with_reducible exact spec_PlaceOf.mono _ _ _)
      | (with_reducible exact LeO.refl _)
      | (with_reducible exact LeO.none _)
      | (with_reducible refine LeO.ite ?_ ?_)
      | (with_reducible refine LeO.bind ?_ (fun _ => ?_))
      | exact ih0 _ _ _ _ _ _ _
      | exact ih1 _ _ _ _ _ _
      | exact ih2 _ _ _ _ _ _ _ _
      | exact ih3 _ _ _ _ _ _ _ _
      | exact ih4 _ _ _ _ _ _ _ _
      | exact impl_HouseRack.mono _ _ _
      | exact impl_HouseRanks.mono _ _ _
      | exact impl_PlaceOf.mono _ _ _
      | exact laws_lkInts.mono _ _ _
      | exact spec_DrawPlaceOf.mono _ _
      | exact spec_PlaceOf.mono _ _ _
      | exact LeO.none _
      | refine LeO.ite ?_ ?_
      | refine LeO.bind ?_ (fun _ => ?_)
    · intro y0 y1 y2 y3 y4 y5
      unfold laws_FnPlace.l0
      repeat' first
      | (with_reducible exact ih0 _ _ _ _ _ _ _)
      | (with_reducible exact ih1 _ _ _ _ _ _)
      | (with_reducible exact ih2 _ _ _ _ _ _ _ _)
      | (with_reducible exact ih3 _ _ _ _ _ _ _ _)
      | (with_reducible exact ih4 _ _ _ _ _ _ _ _)
      | (with_reducible exact impl_HouseRack.mono _ _ _)
      | (with_reducible exact impl_HouseRanks.mono _ _ _)
      | (with_reducible exact impl_PlaceOf.mono _ _ _)
      | (with_reducible exact laws_lkInts.mono _ _ _)
      | (with_reducible exact spec_DrawPlaceOf.mono _ _)
      | (with_reducible exact spec_PlaceOf.mono _ _ _)
      | (with_reducible exact LeO.refl _)
      | (with_reducible exact LeO.none _)
      | (with_reducible refine LeO.ite ?_ ?_)
      | (with_reducible refine LeO.bind ?_ (fun _ => ?_))
      | exact ih0 _ _ _ _ _ _ _
      | exact ih1 _ _ _ _ _ _
      | exact ih2 _ _ _ _ _ _ _ _
      | exact ih3 _ _ _ _ _ _ _ _
      | exact ih4 _ _ _ _ _ _ _ _
      | exact impl_HouseRack.mono _ _ _
      | exact impl_HouseRanks.mono _ _ _
      | exact impl_PlaceOf.mono _ _ _
      | exact laws_lkInts.mono _ _ _
      | exact spec_DrawPlaceOf.mono _ _
      | exact spec_PlaceOf.mono _ _ _
      | exact LeO.none _
      | refine LeO.ite ?_ ?_
      | refine LeO.bind ?_ (fun _ => ?_)
    · intro y0 y1 y2 y3 y4 y5 y6 y7
      unfold laws_FnPlace.j3
      repeat' first
      | (with_reducible exact ih0 _ _ _ _ _ _ _)
      | (with_reducible exact ih1 _ _ _ _ _ _)
      | (with_reducible exact ih2 _ _ _ _ _ _ _ _)
      | (with_reducible exact ih3 _ _ _ _ _ _ _ _)
      | (with_reducible exact ih4 _ _ _ _ _ _ _ _)
      | (with_reducible exact impl_HouseRack.mono _ _ _)
      | (with_reducible exact impl_HouseRanks.mono _ _ _)
      | (with_reducible exact impl_PlaceOf.mono _ _ _)
      | (with_reducible exact laws_lkInts.mono _ _ _)
      | (with_reducible exact spec_DrawPlaceOf.mono _ _)
      | (with_reducible exact spec_PlaceOf.mono _ _ _)
      | (with_reducible exact LeO.refl _)
      | (with_reducible exact LeO.none _)
      | (with_reducible refine LeO.ite ?_ ?_)
      | (with_reducible refine LeO.bind ?_ (fun _ => ?_))
      | exact ih0 _ _ _ _ _ _ _
      | exact ih1 _ _ _ _ _ _
      | exact ih2 _ _ _ _ _ _ _ _
      | exact ih3 _ _ _ _ _ _ _ _
      | exact ih4 _ _ _ _ _ _ _ _
      | exact impl_HouseRack.mono _ _ _
      | exact impl_HouseRanks.mono _ _ _
      | exact impl_PlaceOf.mono _ _ _
      | exact laws_lkInts.mono _ _ _
      | exact spec_DrawPlaceOf.mono _ _
      | exact spec_PlaceOf.mono _ _ _
      | exact LeO.none _
      | refine LeO.ite ?_ ?_
      | refine LeO.bind ?_ (fun _ => ?_)
    · intro y0 y1 y2 y3 y4 y5 y6 y7
      unfold laws_FnPlace.j4
      repeat' first
      | (with_reducible exact ih0 _ _ _ _ _ _ _)
      | (with_reducible exact ih1 _ _ _ _ _ _)
      | (with_reducible exact ih2 _ _ _ _ _ _ _ _)
      | (with_reducible exact ih3 _ _ _ _ _ _ _ _)
      | (with_reducible exact ih4 _ _ _ _ _ _ _ _)
      | (with_reducible exact impl_HouseRack.mono _ _ _)
      | (with_reducible exact impl_HouseRanks.mono _ _ _)
      | (with_reducible exact impl_PlaceOf.mono _ _ _)
      | (with_reducible exact laws_lkInts.mono _ _ _)
      | (with_reducible exact spec_DrawPlaceOf.mono _ _)
      | (with_reducible exact spec_PlaceOf.mono _ _ _)
      | (with_reducible exact LeO.refl _)
      | (with_reducible exact LeO.none _)
      | (with_reducible refine LeO.ite ?_ ?_)
      | (with_reducible refine LeO.bind ?_ (fun _ => ?_))
      | exact ih0 _ _ _ _ _ _ _
      | exact ih1 _ _ _ _ _ _
      | exact ih2 _ _ _ _ _ _ _ _
      | exact ih3 _ _ _ _ _ _ _ _
      | exact ih4 _ _ _ _ _ _ _ _
      | exact impl_HouseRack.mono _ _ _
      | exact impl_HouseRanks.mono _ _ _
      | exact impl_PlaceOf.mono _ _ _
      | exact laws_lkInts.mono _ _ _
      | exact spec_DrawPlaceOf.mono _ _
      | exact spec_PlaceOf.mono _ _ _
      | exact LeO.none _
      | refine LeO.ite ?_ ?_
      | refine LeO.bind ?_ (fun _ => ?_)
    · intro y0 y1 y2 y3 y4 y5 y6 y7
      unfold laws_FnPlace.l1
      repeat' first
      | (with_reducible exact ih0 _ _ _ _ _ _ _)
      | (with_reducible exact ih1 _ _ _ _ _ _)
      | (with_reducible exact ih2 _ _ _ _ _ _ _ _)
      | (with_reducible exact ih3 _ _ _ _ _ _ _ _)
      | (with_reducible exact ih4 _ _ _ _ _ _ _ _)
      | (with_reducible exact impl_HouseRack.mono _ _ _)
      | (with_reducible exact impl_HouseRanks.mono _ _ _)
      | (with_reducible exact impl_PlaceOf.mono _ _ _)
      | (with_reducible exact laws_lkInts.mono _ _ _)
      | (with_reducible exact spec_DrawPlaceOf.mono _ _)
      | (with_reducible exact spec_PlaceOf.mono _ _ _)
      | (with_reducible exact LeO.refl _)
      | (with_reducible exact LeO.none _)
      | (with_reducible refine LeO.ite ?_ ?_)
      | (with_reducible refine LeO.bind ?_ (fun _ => ?_))
      | exact ih0 _ _ _ _ _ _ _
      | exact ih1 _ _ _ _ _ _
      | exact ih2 _ _ _ _ _ _ _ _
      | exact ih3 _ _ _ _ _ _ _ _
      | exact ih4 _ _ _ _ _ _ _ _
      | exact impl_HouseRack.mono _ _ _
      | exact impl_HouseRanks.mono _ _ _
      | exact impl_PlaceOf.mono _ _ _
      | exact laws_lkInts.mono _ _ _
      | exact spec_DrawPlaceOf.mono _ _
      | exact spec_PlaceOf.mono _ _ _
      | exact LeO.none _
      | refine LeO.ite ?_ ?_
      | refine LeO.bind ?_ (fun _ => ?_)
theorem laws_FnPlace.mono : ∀ a0 k, LeO (laws_FnPlace.f k a0) (laws_FnPlace.f (k + 1) a0) := by
  intro a0 k
  obtain ⟨ih0, ih1, ih2, ih3, ih4⟩ := laws_FnPlace.mono_l k
  unfold laws_FnPlace.f
  repeat' first
      | (with_reducible exact ih0 _ _ _ _ _ _ _)
      | (with_reducible exact ih1 _ _ _ _ _ _)
      | (with_reducible exact ih2 _ _ _ _ _ _ _ _)
      | (with_reducible exact ih3 _ _ _ _ _ _ _ _)
      | (with_reducible exact ih4 _ _ _ _ _ _ _ _)
      | (with_reducible exact impl_HouseRack.mono _ _ _)
      | (with_reducible exact impl_HouseRanks.mono _ _ _)
      | (with_reducible exact impl_PlaceOf.mono _ _ _)
      | (with_reducible exact laws_lkInts.mono _ _ _)
      | (with_reducible exact spec_DrawPlaceOf.mono _ _)
      | (with_reducible exact spec_PlaceOf.mono _ _ _)
      | (with_reducible exact LeO.refl _)
      | (with_reducible exact LeO.none _)
      | (with_reducible refine LeO.ite ?_ ?_)
      | (with_reducible refine LeO.bind ?_ (fun _ => ?_))
      | exact ih0 _ _ _ _ _ _ _
      | exact ih1 _ _ _ _ _ _
      | exact ih2 _ _ _ _ _ _ _ _
      | exact ih3 _ _ _ _ _ _ _ _
      | exact ih4 _ _ _ _ _ _ _ _
      | exact impl_HouseRack.mono _ _ _
      | exact impl_HouseRanks.mono _ _ _
      | exact impl_PlaceOf.mono _ _ _
      | exact laws_lkInts.mono _ _ _
      | exact spec_DrawPlaceOf.mono _ _
      | exact spec_PlaceOf.mono _ _ _
      | exact LeO.none _
      | refine LeO.ite ?_ ?_
      | refine LeO.bind ?_ (fun _ => ?_)
set_option maxHeartbeats 8000000 in
set_option maxRecDepth 100000 in
theorem laws_FnPlace.calls (k : Nat) (A0 : Option Addr) (c0 : Nat) (l0 : List Int) (r : Bool) (w : World) (hr0 : Kd.C (Kd.int .u8) w A0 l0.length l0) (hc0 : l0.length ≤ c0) (h : laws_FnPlace.f k l0 = some r) :
    Calls Try.prog 5 #[.slice A0 l0.length c0] w fun e w' => e = .returned (.bool r) ∧ Below w.heap.size w w' := by
  have HR0 := Aside0.mk hr0
  have HC0 := Aside0.mk hc0
  clear hr0 hc0
  have HB := Aside0.mk (Below.refl w.heap.size w)
  have H : (if (l0.length : Int) > 1048576 then (some true) else ((spec_DrawPlaceOf.f k l0).bind fun bt101 => ((spec_PlaceOf.f k bt101.1 bt101.2).bind fun bt105 => ((impl_PlaceOf.f k bt101.1 bt101.2).bind fun bt109 => (if (bt109.2 != bt105.2) = true then (laws_FnPlace.j0 k bt101.1 bt101.2 bt105.1 bt105.2 bt109.1 bt109.2 true) else ((laws_lkInts.f k bt109.1 bt105.1).bind fun t113 => (if t113 = true then (laws_FnPlace.j0 k bt101.1 bt101.2 bt105.1 bt105.2 bt109.1 bt109.2 (!bt109.2)) else (laws_FnPlace.j0 k bt101.1 bt101.2 bt105.1 bt105.2 bt109.1 bt109.2 true)))))))) = some r := h
  clear h
  by_cases c2 : (l0.length : Int) > 1048576
  · rw [if_pos c2] at H
    have c2b0 : decide (1048576 < (l0.length : Int)) = true := decide_eq_true c2
    have c2b1 : decide (1048576 < l0.length) = true := decide_eq_true (by omega)
    clear c2
    obtain rfl := Option.some.inj H
    go_enter Try.func5, Try.ntmps5
    go_wp2
    repeat (go_quiet (fail); try go_wp2)
    go_ret
    exact ⟨by first | rfl | (simp [errW_none, errW_some] <;> rfl) | (simp [*, errW_none, errW_some] <;> rfl), by repeat (first | (with_reducible first | exact HB.out | apply below_alloc | apply pw_below_drewN | apply below_drew1) | exact HB.out)⟩
  · rw [if_neg c2] at H
    have c2b0 : decide (1048576 < (l0.length : Int)) = false := decide_eq_false c2
    have c2b1 : decide (1048576 < l0.length) = false := decide_eq_false (by omega)
    clear c2
    replace H := Option.bind_eq_some_iff.mp H
    obtain ⟨⟨t101, t102⟩, A30, H⟩ := H
    replace H : ((spec_PlaceOf.f k t101 t102).bind fun bt105 => ((impl_PlaceOf.f k t101 t102).bind fun bt109 => (if (bt109.2 != bt105.2) = true then (laws_FnPlace.j0 k t101 t102 bt105.1 bt105.2 bt109.1 bt109.2 true) else ((laws_lkInts.f k bt109.1 bt105.1).bind fun t113 => (if t113 = true then (laws_FnPlace.j0 k t101 t102 bt105.1 bt105.2 bt109.1 bt109.2 (!bt109.2)) else (laws_FnPlace.j0 k t101 t102 bt105.1 bt105.2 bt109.1 bt109.2 true)))))) = some r := H
    have A3 := Aside0.mk A30
    clear A30
    replace H := Option.bind_eq_some_iff.mp H
    obtain ⟨⟨t105, t106⟩, A40, H⟩ := H
    replace H : ((impl_PlaceOf.f k t101 t102).bind fun bt109 => (if (bt109.2 != t106) = true then (laws_FnPlace.j0 k t101 t102 t105 t106 bt109.1 bt109.2 true) else ((laws_lkInts.f k bt109.1 t105).bind fun t113 => (if t113 = true then (laws_FnPlace.j0 k t101 t102 t105 t106 bt109.1 bt109.2 (!bt109.2)) else (laws_FnPlace.j0 k t101 t102 t105 t106 bt109.1 bt109.2 true))))) = some r := H
    have A4 := Aside0.mk A40
    clear A40
    replace H := Option.bind_eq_some_iff.mp H
    obtain ⟨⟨t109, t110⟩, A50, H⟩ := H
    replace H : (if (t110 != t106) = true then (laws_FnPlace.j0 k t101 t102 t105 t106 t109 t110 true) else ((laws_lkInts.f k t109 t105).bind fun t113 => (if t113 = true then (laws_FnPlace.j0 k t101 t102 t105 t106 t109 t110 (!t110)) else (laws_FnPlace.j0 k t101 t102 t105 t106 t109 t110 true)))) = some r := H
    have A5 := Aside0.mk A50
    clear A50
    have HC6 := Aside0.mk H
    clear H
    go_enter Try.func5, Try.ntmps5
    go_upto_region 6 with (first | (go_at_call 21; (with_reducible refine (spec_DrawPlaceOf.calls k _ _ l0 t101 t102 _ ?side1 ?side2 A3.out).mono ?_); (case side1 => repeat (first | exact HR0.out | (with_reducible refine Kd.C_alloc ?_ _) | (with_reducible refine Kd.C_drewN ?_ _) | (with_reducible refine Kd.C_drew ?_))); (case side2 => exact HC0.out); rintro e w7 ⟨v103, rfl, ho0, hb⟩; have n0_ := Aside0.mk (Kd.R_lower ho0 (below_size (by repeat (first | (with_reducible first | exact HB.out | apply below_alloc | apply pw_below_drewN | apply below_drew1) | exact HB.out)))); have n1_ := Aside0.mk (below_step (by repeat (first | (with_reducible first | exact HB.out | apply below_alloc | apply pw_below_drewN | apply below_drew1) | exact HB.out)) hb); clear HB; have HO104 := n0_; have HB := n1_; clear n0_ n1_; (try clear hb); (try clear hb2); (try clear hk); (try clear hi); (try clear ho0); obtain ⟨Ao8, co8, eo8⟩ := Kd.R_slice HO104.out; subst eo8) | (go_at_call 13; (with_reducible refine (spec_PlaceOf.calls k t101 _ _ t102 t105 t106 _ ?side1 ?side2 A4.out).mono ?_); (case side1 => repeat (first | exact (Kd.R_reads' HO104.out).2.2 | (with_reducible refine Kd.C_alloc ?_ _) | (with_reducible refine Kd.C_drewN ?_ _) | (with_reducible refine Kd.C_drew ?_))); (case side2 => exact (Kd.R_reads' HO104.out).2.1); rintro e w9 ⟨v107, rfl, ho0, hb⟩; have n0_ := Aside0.mk (Kd.R_below (by (with_reducible repeat (first | apply Kd.R_alloc | apply Kd.R_drewN | apply Kd.R_drew)); exact HO104.out) hb); have n1_ := Aside0.mk (Kd.R_lower ho0 (below_size (by repeat (first | (with_reducible first | exact HB.out | apply below_alloc | apply pw_below_drewN | apply below_drew1) | exact HB.out)))); have n2_ := Aside0.mk (below_step (by repeat (first | (with_reducible first | exact HB.out | apply below_alloc | apply pw_below_drewN | apply below_drew1) | exact HB.out)) hb); clear HO104; clear HB; have HO104 := n0_; have HO108 := n1_; have HB := n2_; clear n0_ n1_ n2_; (try clear hb); (try clear hb2); (try clear hk); (try clear hi); (try clear ho0)) | (go_at_call 15; (with_reducible refine (impl_PlaceOf.calls k t101 _ _ t102 t109 t110 _ ?side1 ?side2 A5.out).mono ?_); (case side1 => repeat (first | exact (Kd.R_reads' HO104.out).2.2 | (with_reducible refine Kd.C_alloc ?_ _) | (with_reducible refine Kd.C_drewN ?_ _) | (with_reducible refine Kd.C_drew ?_))); (case side2 => exact (Kd.R_reads' HO104.out).2.1); rintro e w10 ⟨v111, rfl, ho0, hb⟩; have n0_ := Aside0.mk (Kd.R_below (by (with_reducible repeat (first | apply Kd.R_alloc | apply Kd.R_drewN | apply Kd.R_drew)); exact HO104.out) hb); have n1_ := Aside0.mk (Kd.R_elder' (by (with_reducible repeat (first | apply Kd.R_alloc | apply Kd.R_drewN | apply Kd.R_drew)); exact HO108.out) (Kd.R_base ho0) hb); have n2_ := Aside0.mk (Kd.R_lower (Kd.R_new' ho0 (Kd.R_lt (by (with_reducible repeat (first | apply Kd.R_alloc | apply Kd.R_drewN | apply Kd.R_drew)); exact HO108.out))) (below_size (by repeat (first | (with_reducible first | exact HB.out | apply below_alloc | apply pw_below_drewN | apply below_drew1) | exact HB.out)))); have n3_ := Aside0.mk (below_step (by repeat (first | (with_reducible first | exact HB.out | apply below_alloc | apply pw_below_drewN | apply below_drew1) | exact HB.out)) hb); clear HO104; clear HO108; clear HB; have HO104 := n0_; have HO108 := n1_; have HO112 := n2_; have HB := n3_; clear n0_ n1_ n2_ n3_; (try clear hb); (try clear hb2); (try clear hk); (try clear hi); (try clear ho0)))
    repeat (go_quiet (first | (go_at_call 21; (with_reducible refine (spec_DrawPlaceOf.calls k _ _ l0 t101 t102 _ ?side1 ?side2 A3.out).mono ?_); (case side1 => repeat (first | exact HR0.out | (with_reducible refine Kd.C_alloc ?_ _) | (with_reducible refine Kd.C_drewN ?_ _) | (with_reducible refine Kd.C_drew ?_))); (case side2 => exact HC0.out); rintro e w7 ⟨v103, rfl, ho0, hb⟩; have n0_ := Aside0.mk (Kd.R_lower ho0 (below_size (by repeat (first | (with_reducible first | exact HB.out | apply below_alloc | apply pw_below_drewN | apply below_drew1) | exact HB.out)))); have n1_ := Aside0.mk (below_step (by repeat (first | (with_reducible first | exact HB.out | apply below_alloc | apply pw_below_drewN | apply below_drew1) | exact HB.out)) hb); clear HB; have HO104 := n0_; have HB := n1_; clear n0_ n1_; (try clear hb); (try clear hb2); (try clear hk); (try clear hi); (try clear ho0); obtain ⟨Ao8, co8, eo8⟩ := Kd.R_slice HO104.out; subst eo8) | (go_at_call 13; (with_reducible refine (spec_PlaceOf.calls k t101 _ _ t102 t105 t106 _ ?side1 ?side2 A4.out).mono ?_); (case side1 => repeat (first | exact (Kd.R_reads' HO104.out).2.2 | (with_reducible refine Kd.C_alloc ?_ _) | (with_reducible refine Kd.C_drewN ?_ _) | (with_reducible refine Kd.C_drew ?_))); (case side2 => exact (Kd.R_reads' HO104.out).2.1); rintro e w9 ⟨v107, rfl, ho0, hb⟩; have n0_ := Aside0.mk (Kd.R_below (by (with_reducible repeat (first | apply Kd.R_alloc | apply Kd.R_drewN | apply Kd.R_drew)); exact HO104.out) hb); have n1_ := Aside0.mk (Kd.R_lower ho0 (below_size (by repeat (first | (with_reducible first | exact HB.out | apply below_alloc | apply pw_below_drewN | apply below_drew1) | exact HB.out)))); have n2_ := Aside0.mk (below_step (by repeat (first | (with_reducible first | exact HB.out | apply below_alloc | apply pw_below_drewN | apply below_drew1) | exact HB.out)) hb); clear HO104; clear HB; have HO104 := n0_; have HO108 := n1_; have HB := n2_; clear n0_ n1_ n2_; (try clear hb); (try clear hb2); (try clear hk); (try clear hi); (try clear ho0)) | (go_at_call 15; (with_reducible refine (impl_PlaceOf.calls k t101 _ _ t102 t109 t110 _ ?side1 ?side2 A5.out).mono ?_); (case side1 => repeat (first | exact (Kd.R_reads' HO104.out).2.2 | (with_reducible refine Kd.C_alloc ?_ _) | (with_reducible refine Kd.C_drewN ?_ _) | (with_reducible refine Kd.C_drew ?_))); (case side2 => exact (Kd.R_reads' HO104.out).2.1); rintro e w10 ⟨v111, rfl, ho0, hb⟩; have n0_ := Aside0.mk (Kd.R_below (by (with_reducible repeat (first | apply Kd.R_alloc | apply Kd.R_drewN | apply Kd.R_drew)); exact HO104.out) hb); have n1_ := Aside0.mk (Kd.R_elder' (by (with_reducible repeat (first | apply Kd.R_alloc | apply Kd.R_drewN | apply Kd.R_drew)); exact HO108.out) (Kd.R_base ho0) hb); have n2_ := Aside0.mk (Kd.R_lower (Kd.R_new' ho0 (Kd.R_lt (by (with_reducible repeat (first | apply Kd.R_alloc | apply Kd.R_drewN | apply Kd.R_drew)); exact HO108.out))) (below_size (by repeat (first | (with_reducible first | exact HB.out | apply below_alloc | apply pw_below_drewN | apply below_drew1) | exact HB.out)))); have n3_ := Aside0.mk (below_step (by repeat (first | (with_reducible first | exact HB.out | apply below_alloc | apply pw_below_drewN | apply below_drew1) | exact HB.out)) hb); clear HO104; clear HO108; clear HB; have HO104 := n0_; have HO108 := n1_; have HO112 := n2_; have HB := n3_; clear n0_ n1_ n2_ n3_; (try clear hb); (try clear hb2); (try clear hk); (try clear hi); (try clear ho0))); go_upto_region 6 with (first | (go_at_call 21; (with_reducible refine (spec_DrawPlaceOf.calls k _ _ l0 t101 t102 _ ?side1 ?side2 A3.out).mono ?_); (case side1 => repeat (first | exact HR0.out | (with_reducible refine Kd.C_alloc ?_ _) | (with_reducible refine Kd.C_drewN ?_ _) | (with_reducible refine Kd.C_drew ?_))); (case side2 => exact HC0.out); rintro e w7 ⟨v103, rfl, ho0, hb⟩; have n0_ := Aside0.mk (Kd.R_lower ho0 (below_size (by repeat (first | (with_reducible first | exact HB.out | apply below_alloc | apply pw_below_drewN | apply below_drew1) | exact HB.out)))); have n1_ := Aside0.mk (below_step (by repeat (first | (with_reducible first | exact HB.out | apply below_alloc | apply pw_below_drewN | apply below_drew1) | exact HB.out)) hb); clear HB; have HO104 := n0_; have HB := n1_; clear n0_ n1_; (try clear hb); (try clear hb2); (try clear hk); (try clear hi); (try clear ho0); obtain ⟨Ao8, co8, eo8⟩ := Kd.R_slice HO104.out; subst eo8) | (go_at_call 13; (with_reducible refine (spec_PlaceOf.calls k t101 _ _ t102 t105 t106 _ ?side1 ?side2 A4.out).mono ?_); (case side1 => repeat (first | exact (Kd.R_reads' HO104.out).2.2 | (with_reducible refine Kd.C_alloc ?_ _) | (with_reducible refine Kd.C_drewN ?_ _) | (with_reducible refine Kd.C_drew ?_))); (case side2 => exact (Kd.R_reads' HO104.out).2.1); rintro e w9 ⟨v107, rfl, ho0, hb⟩; have n0_ := Aside0.mk (Kd.R_below (by (with_reducible repeat (first | apply Kd.R_alloc | apply Kd.R_drewN | apply Kd.R_drew)); exact HO104.out) hb); have n1_ := Aside0.mk (Kd.R_lower ho0 (below_size (by repeat (first | (with_reducible first | exact HB.out | apply below_alloc | apply pw_below_drewN | apply below_drew1) | exact HB.out)))); have n2_ := Aside0.mk (below_step (by repeat (first | (with_reducible first | exact HB.out | apply below_alloc | apply pw_below_drewN | apply below_drew1) | exact HB.out)) hb); clear HO104; clear HB; have HO104 := n0_; have HO108 := n1_; have HB := n2_; clear n0_ n1_ n2_; (try clear hb); (try clear hb2); (try clear hk); (try clear hi); (try clear ho0)) | (go_at_call 15; (with_reducible refine (impl_PlaceOf.calls k t101 _ _ t102 t109 t110 _ ?side1 ?side2 A5.out).mono ?_); (case side1 => repeat (first | exact (Kd.R_reads' HO104.out).2.2 | (with_reducible refine Kd.C_alloc ?_ _) | (with_reducible refine Kd.C_drewN ?_ _) | (with_reducible refine Kd.C_drew ?_))); (case side2 => exact (Kd.R_reads' HO104.out).2.1); rintro e w10 ⟨v111, rfl, ho0, hb⟩; have n0_ := Aside0.mk (Kd.R_below (by (with_reducible repeat (first | apply Kd.R_alloc | apply Kd.R_drewN | apply Kd.R_drew)); exact HO104.out) hb); have n1_ := Aside0.mk (Kd.R_elder' (by (with_reducible repeat (first | apply Kd.R_alloc | apply Kd.R_drewN | apply Kd.R_drew)); exact HO108.out) (Kd.R_base ho0) hb); have n2_ := Aside0.mk (Kd.R_lower (Kd.R_new' ho0 (Kd.R_lt (by (with_reducible repeat (first | apply Kd.R_alloc | apply Kd.R_drewN | apply Kd.R_drew)); exact HO108.out))) (below_size (by repeat (first | (with_reducible first | exact HB.out | apply below_alloc | apply pw_below_drewN | apply below_drew1) | exact HB.out)))); have n3_ := Aside0.mk (below_step (by repeat (first | (with_reducible first | exact HB.out | apply below_alloc | apply pw_below_drewN | apply below_drew1) | exact HB.out)) hb); clear HO104; clear HO108; clear HB; have HO104 := n0_; have HO108 := n1_; have HO112 := n2_; have HB := n3_; clear n0_ n1_ n2_ n3_; (try clear hb); (try clear hb2); (try clear hk); (try clear hi); (try clear ho0))))
    (try simp only [Act.put, List.setIfInBounds_toArray, List.set_cons_zero, List.set_cons_succ])
    go_cut [47] (fun v47 wc => ∃ (kq : Nat) (x47_5 : Bool), v47 = .bool x47_5 ∧ Aside0 (laws_FnPlace.j0 kq t101 t102 t105 t106 t109 t110 x47_5 = some r) ∧ Aside0 (kq ≤ k) ∧ Aside0 (Kd.R k42 42 wc w.heap.size (fun _ => True) (.slice Ao8 t102.length co8) t102) ∧ Aside0 (Kd.R (Kd.int .i64) 3 wc w.heap.size (fun k_ => some k_ ≠ (v111 : Value).ownBlock) v107 t105) ∧ Aside0 (Kd.R (Kd.int .i64) 3 wc w.heap.size (fun k_ => some k_ ≠ (v107 : Value).ownBlock) v111 t109) ∧ Aside0 (Below w.heap.size w wc))
    case first =>
      have H := HC6.out
      clear HC6
      by_cases c11 : (t110 != t106) = true
      · rw [if_pos c11] at H
        have c11b0 : (t110 != t106) = true := c11
        (try (have c11b1 : decide (t110 = t106) = false := by simpa using c11))
        (try (have c11b2 : (t110 == t106) = false := by simpa using c11))
        (try (have c11b3 : ¬ (t110 = t106) := by simpa using c11))
        clear c11
        (first | rw [c11b0] | (simp only [i64_w, i32_w]; rw [c11b0]) | skip)
        have H' := Aside0.mk H
        clear H
        go_wp2
        repeat (go_quiet (fail); try go_wp2)
        go_meet
        case rel => exact ⟨_, (true), (by first | rfl | (simp; done) | (simp [*]; done)), H', ⟨by first | omega | exact Nat.le_refl _⟩, ⟨by (with_reducible repeat (first | apply Kd.R_alloc | apply Kd.R_drewN | apply Kd.R_drew)); exact HO104.out⟩, ⟨by (with_reducible repeat (first | apply Kd.R_alloc | apply Kd.R_drewN | apply Kd.R_drew)); exact Kd.R_mono HO108.out (fun _ hk => hk.2)⟩, ⟨by (with_reducible repeat (first | apply Kd.R_alloc | apply Kd.R_drewN | apply Kd.R_drew)); exact Kd.R_mono HO112.out (fun _ hk => hk.2)⟩, ⟨by repeat (first | (with_reducible first | exact HB.out | apply below_alloc | apply pw_below_drewN | apply below_drew1) | exact HB.out)⟩⟩
      · rw [if_neg c11] at H
        have c11b0 : (t110 != t106) = false := by simpa using c11
        (try (have c11b1 : decide (t110 = t106) = true := by simpa using c11))
        (try (have c11b2 : (t110 == t106) = true := by simpa using c11))
        clear c11
        (first | rw [c11b0] | (simp only [i64_w, i32_w]; rw [c11b0]) | skip)
        replace H := Option.bind_eq_some_iff.mp H
        obtain ⟨t113, A120, H⟩ := H
        replace H : (if t113 = true then (laws_FnPlace.j0 k t101 t102 t105 t106 t109 t110 (!t110)) else (laws_FnPlace.j0 k t101 t102 t105 t106 t109 t110 true)) = some r := H
        have A12 := Aside0.mk A120
        clear A120
        by_cases c13 : t113 = true
        · subst c13
          have H1 : (laws_FnPlace.j0 k t101 t102 t105 t106 t109 t110 (!t110)) = some r := by rw [if_pos rfl] at H; exact H
          clear H
          have H := H1
          clear H1
          have H' := Aside0.mk H
          clear H
          obtain ⟨Ao14, co14, eo14⟩ := Kd.R_slice HO112.out
          subst eo14
          obtain ⟨Ao15, co15, eo15⟩ := Kd.R_slice HO108.out
          subst eo15
          go_wp2_with (first | (go_at_call 22; (with_reducible refine (laws_lkInts.calls k _ _ t109 _ _ t105 true _ ?side1 ?side2 ?side3 ?side4 A12.out).mono ?_); (case side1 => repeat (first | exact (Kd.R_reads' HO112.out).2.2 | (with_reducible refine Kd.C_alloc ?_ _) | (with_reducible refine Kd.C_drewN ?_ _) | (with_reducible refine Kd.C_drew ?_))); (case side2 => exact (Kd.R_reads' HO112.out).2.1); (case side3 => repeat (first | exact (Kd.R_reads' HO108.out).2.2 | (with_reducible refine Kd.C_alloc ?_ _) | (with_reducible refine Kd.C_drewN ?_ _) | (with_reducible refine Kd.C_drew ?_))); (case side4 => exact (Kd.R_reads' HO108.out).2.1); rintro e w' ⟨rfl, ⟨nd, rfl⟩⟩; (try first | exact ⟨rfl, _, World.drewN_drewN _ _ _⟩ | exact ⟨rfl, _, Eq.trans (World.drewN_drewN _ _ _) (congrArg (World.drewN _) (Nat.add_assoc _ _ _))⟩)))
          repeat (go_quiet (first | (go_at_call 22; (with_reducible refine (laws_lkInts.calls k _ _ t109 _ _ t105 true _ ?side1 ?side2 ?side3 ?side4 A12.out).mono ?_); (case side1 => repeat (first | exact (Kd.R_reads' HO112.out).2.2 | (with_reducible refine Kd.C_alloc ?_ _) | (with_reducible refine Kd.C_drewN ?_ _) | (with_reducible refine Kd.C_drew ?_))); (case side2 => exact (Kd.R_reads' HO112.out).2.1); (case side3 => repeat (first | exact (Kd.R_reads' HO108.out).2.2 | (with_reducible refine Kd.C_alloc ?_ _) | (with_reducible refine Kd.C_drewN ?_ _) | (with_reducible refine Kd.C_drew ?_))); (case side4 => exact (Kd.R_reads' HO108.out).2.1); rintro e w' ⟨rfl, ⟨nd, rfl⟩⟩; (try first | exact ⟨rfl, _, World.drewN_drewN _ _ _⟩ | exact ⟨rfl, _, Eq.trans (World.drewN_drewN _ _ _) (congrArg (World.drewN _) (Nat.add_assoc _ _ _))⟩))); try go_wp2_with (first | (go_at_call 22; (with_reducible refine (laws_lkInts.calls k _ _ t109 _ _ t105 true _ ?side1 ?side2 ?side3 ?side4 A12.out).mono ?_); (case side1 => repeat (first | exact (Kd.R_reads' HO112.out).2.2 | (with_reducible refine Kd.C_alloc ?_ _) | (with_reducible refine Kd.C_drewN ?_ _) | (with_reducible refine Kd.C_drew ?_))); (case side2 => exact (Kd.R_reads' HO112.out).2.1); (case side3 => repeat (first | exact (Kd.R_reads' HO108.out).2.2 | (with_reducible refine Kd.C_alloc ?_ _) | (with_reducible refine Kd.C_drewN ?_ _) | (with_reducible refine Kd.C_drew ?_))); (case side4 => exact (Kd.R_reads' HO108.out).2.1); rintro e w' ⟨rfl, ⟨nd, rfl⟩⟩; (try first | exact ⟨rfl, _, World.drewN_drewN _ _ _⟩ | exact ⟨rfl, _, Eq.trans (World.drewN_drewN _ _ _) (congrArg (World.drewN _) (Nat.add_assoc _ _ _))⟩))))
          go_meet
          case rel => exact ⟨_, (!t110), (by first | rfl | (simp; done) | (simp [*]; done)), H', ⟨by first | omega | exact Nat.le_refl _⟩, ⟨by (with_reducible repeat (first | apply Kd.R_alloc | apply Kd.R_drewN | apply Kd.R_drew)); exact HO104.out⟩, ⟨by (with_reducible repeat (first | apply Kd.R_alloc | apply Kd.R_drewN | apply Kd.R_drew)); exact Kd.R_mono HO108.out (fun _ hk => hk.2)⟩, ⟨by (with_reducible repeat (first | apply Kd.R_alloc | apply Kd.R_drewN | apply Kd.R_drew)); exact Kd.R_mono HO112.out (fun _ hk => hk.2)⟩, ⟨by repeat (first | (with_reducible first | exact HB.out | apply below_alloc | apply pw_below_drewN | apply below_drew1) | exact HB.out)⟩⟩
        · replace c13 := Bool.eq_false_iff.mpr c13
          subst c13
          have H1 : (laws_FnPlace.j0 k t101 t102 t105 t106 t109 t110 true) = some r := by rw [if_neg (show ¬ (false = true) by decide)] at H; exact H
          clear H
          have H := H1
          clear H1
          have H' := Aside0.mk H
          clear H
          obtain ⟨Ao16, co16, eo16⟩ := Kd.R_slice HO112.out
          subst eo16
          obtain ⟨Ao17, co17, eo17⟩ := Kd.R_slice HO108.out
          subst eo17
          go_wp2_with (first | (go_at_call 22; (with_reducible refine (laws_lkInts.calls k _ _ t109 _ _ t105 false _ ?side1 ?side2 ?side3 ?side4 A12.out).mono ?_); (case side1 => repeat (first | exact (Kd.R_reads' HO112.out).2.2 | (with_reducible refine Kd.C_alloc ?_ _) | (with_reducible refine Kd.C_drewN ?_ _) | (with_reducible refine Kd.C_drew ?_))); (case side2 => exact (Kd.R_reads' HO112.out).2.1); (case side3 => repeat (first | exact (Kd.R_reads' HO108.out).2.2 | (with_reducible refine Kd.C_alloc ?_ _) | (with_reducible refine Kd.C_drewN ?_ _) | (with_reducible refine Kd.C_drew ?_))); (case side4 => exact (Kd.R_reads' HO108.out).2.1); rintro e w' ⟨rfl, ⟨nd, rfl⟩⟩; (try first | exact ⟨rfl, _, World.drewN_drewN _ _ _⟩ | exact ⟨rfl, _, Eq.trans (World.drewN_drewN _ _ _) (congrArg (World.drewN _) (Nat.add_assoc _ _ _))⟩)))
          repeat (go_quiet (first | (go_at_call 22; (with_reducible refine (laws_lkInts.calls k _ _ t109 _ _ t105 false _ ?side1 ?side2 ?side3 ?side4 A12.out).mono ?_); (case side1 => repeat (first | exact (Kd.R_reads' HO112.out).2.2 | (with_reducible refine Kd.C_alloc ?_ _) | (with_reducible refine Kd.C_drewN ?_ _) | (with_reducible refine Kd.C_drew ?_))); (case side2 => exact (Kd.R_reads' HO112.out).2.1); (case side3 => repeat (first | exact (Kd.R_reads' HO108.out).2.2 | (with_reducible refine Kd.C_alloc ?_ _) | (with_reducible refine Kd.C_drewN ?_ _) | (with_reducible refine Kd.C_drew ?_))); (case side4 => exact (Kd.R_reads' HO108.out).2.1); rintro e w' ⟨rfl, ⟨nd, rfl⟩⟩; (try first | exact ⟨rfl, _, World.drewN_drewN _ _ _⟩ | exact ⟨rfl, _, Eq.trans (World.drewN_drewN _ _ _) (congrArg (World.drewN _) (Nat.add_assoc _ _ _))⟩))); try go_wp2_with (first | (go_at_call 22; (with_reducible refine (laws_lkInts.calls k _ _ t109 _ _ t105 false _ ?side1 ?side2 ?side3 ?side4 A12.out).mono ?_); (case side1 => repeat (first | exact (Kd.R_reads' HO112.out).2.2 | (with_reducible refine Kd.C_alloc ?_ _) | (with_reducible refine Kd.C_drewN ?_ _) | (with_reducible refine Kd.C_drew ?_))); (case side2 => exact (Kd.R_reads' HO112.out).2.1); (case side3 => repeat (first | exact (Kd.R_reads' HO108.out).2.2 | (with_reducible refine Kd.C_alloc ?_ _) | (with_reducible refine Kd.C_drewN ?_ _) | (with_reducible refine Kd.C_drew ?_))); (case side4 => exact (Kd.R_reads' HO108.out).2.1); rintro e w' ⟨rfl, ⟨nd, rfl⟩⟩; (try first | exact ⟨rfl, _, World.drewN_drewN _ _ _⟩ | exact ⟨rfl, _, Eq.trans (World.drewN_drewN _ _ _) (congrArg (World.drewN _) (Nat.add_assoc _ _ _))⟩))))
          go_meet
          case rel => exact ⟨_, (true), (by first | rfl | (simp; done) | (simp [*]; done)), H', ⟨by first | omega | exact Nat.le_refl _⟩, ⟨by (with_reducible repeat (first | apply Kd.R_alloc | apply Kd.R_drewN | apply Kd.R_drew)); exact HO104.out⟩, ⟨by (with_reducible repeat (first | apply Kd.R_alloc | apply Kd.R_drewN | apply Kd.R_drew)); exact Kd.R_mono HO108.out (fun _ hk => hk.2)⟩, ⟨by (with_reducible repeat (first | apply Kd.R_alloc | apply Kd.R_drewN | apply Kd.R_drew)); exact Kd.R_mono HO112.out (fun _ hk => hk.2)⟩, ⟨by repeat (first | (with_reducible first | exact HB.out | apply below_alloc | apply pw_below_drewN | apply below_drew1) | exact HB.out)⟩⟩
    case rest =>
      clear HC6
      try clear c1
      try clear c2
      try clear c2b0
      try clear c2b1
      try clear p2
      try clear c5
      try clear c11
      try clear c11b0
      try clear c11b1
      try clear c11b2
      try clear c13
      obtain ⟨kq, x47_5, rfl, HA, HJ5, HO_4, HO_5, HO_7, HB⟩ := hcut
      cases kq with
      | zero => exact absurd HA.out (by simp [laws_FnPlace.j0])
      | succ kj5 =>
        have H := HA.out
        clear HA
        simp only [laws_FnPlace.j0] at H
        by_cases c18 : x47_5 = true
        · subst c18
          have H1 : (if (t110 == t106) = true then ((laws_lkInts.f kj5 t109 t105).bind fun t114 => (some t114)) else (some false)) = some r := by rw [if_pos rfl] at H; exact H
          clear H
          have H := H1
          clear H1
          by_cases c19 : (t110 == t106) = true
          · rw [if_pos c19] at H
            have c19b0 : (t110 == t106) = true := c19
            (try (have c19b1 : decide (t110 = t106) = true := by simpa using c19))
            (try (have c19b2 : (t110 == t106) = true := by simpa using c19))
            clear c19
            replace H := Option.bind_eq_some_iff.mp H
            obtain ⟨t114, A200, H⟩ := H
            replace H : (some t114) = some r := H
            have A20 := Aside0.mk A200
            clear A200
            obtain rfl := Option.some.inj H
            obtain ⟨Ao21, co21, eo21⟩ := Kd.R_slice HO_7.out
            subst eo21
            obtain ⟨Ao22, co22, eo22⟩ := Kd.R_slice HO_5.out
            subst eo22
            go_wp2_with (first | (go_at_call 22; (with_reducible refine (laws_lkInts.calls kj5 _ _ t109 _ _ t105 t114 _ ?side1 ?side2 ?side3 ?side4 A20.out).mono ?_); (case side1 => repeat (first | exact (Kd.R_reads' HO_7.out).2.2 | (with_reducible refine Kd.C_alloc ?_ _) | (with_reducible refine Kd.C_drewN ?_ _) | (with_reducible refine Kd.C_drew ?_))); (case side2 => exact (Kd.R_reads' HO_7.out).2.1); (case side3 => repeat (first | exact (Kd.R_reads' HO_5.out).2.2 | (with_reducible refine Kd.C_alloc ?_ _) | (with_reducible refine Kd.C_drewN ?_ _) | (with_reducible refine Kd.C_drew ?_))); (case side4 => exact (Kd.R_reads' HO_5.out).2.1); rintro e w' ⟨rfl, ⟨nd, rfl⟩⟩; (try first | exact ⟨rfl, _, World.drewN_drewN _ _ _⟩ | exact ⟨rfl, _, Eq.trans (World.drewN_drewN _ _ _) (congrArg (World.drewN _) (Nat.add_assoc _ _ _))⟩)))
            repeat (go_quiet (first | (go_at_call 22; (with_reducible refine (laws_lkInts.calls kj5 _ _ t109 _ _ t105 t114 _ ?side1 ?side2 ?side3 ?side4 A20.out).mono ?_); (case side1 => repeat (first | exact (Kd.R_reads' HO_7.out).2.2 | (with_reducible refine Kd.C_alloc ?_ _) | (with_reducible refine Kd.C_drewN ?_ _) | (with_reducible refine Kd.C_drew ?_))); (case side2 => exact (Kd.R_reads' HO_7.out).2.1); (case side3 => repeat (first | exact (Kd.R_reads' HO_5.out).2.2 | (with_reducible refine Kd.C_alloc ?_ _) | (with_reducible refine Kd.C_drewN ?_ _) | (with_reducible refine Kd.C_drew ?_))); (case side4 => exact (Kd.R_reads' HO_5.out).2.1); rintro e w' ⟨rfl, ⟨nd, rfl⟩⟩; (try first | exact ⟨rfl, _, World.drewN_drewN _ _ _⟩ | exact ⟨rfl, _, Eq.trans (World.drewN_drewN _ _ _) (congrArg (World.drewN _) (Nat.add_assoc _ _ _))⟩))); try go_wp2_with (first | (go_at_call 22; (with_reducible refine (laws_lkInts.calls kj5 _ _ t109 _ _ t105 t114 _ ?side1 ?side2 ?side3 ?side4 A20.out).mono ?_); (case side1 => repeat (first | exact (Kd.R_reads' HO_7.out).2.2 | (with_reducible refine Kd.C_alloc ?_ _) | (with_reducible refine Kd.C_drewN ?_ _) | (with_reducible refine Kd.C_drew ?_))); (case side2 => exact (Kd.R_reads' HO_7.out).2.1); (case side3 => repeat (first | exact (Kd.R_reads' HO_5.out).2.2 | (with_reducible refine Kd.C_alloc ?_ _) | (with_reducible refine Kd.C_drewN ?_ _) | (with_reducible refine Kd.C_drew ?_))); (case side4 => exact (Kd.R_reads' HO_5.out).2.1); rintro e w' ⟨rfl, ⟨nd, rfl⟩⟩; (try first | exact ⟨rfl, _, World.drewN_drewN _ _ _⟩ | exact ⟨rfl, _, Eq.trans (World.drewN_drewN _ _ _) (congrArg (World.drewN _) (Nat.add_assoc _ _ _))⟩))))
            go_ret
            exact ⟨by first | rfl | (simp [errW_none, errW_some] <;> rfl) | (simp [*, errW_none, errW_some] <;> rfl), by repeat (first | (with_reducible first | exact HB.out | apply below_alloc | apply pw_below_drewN | apply below_drew1) | exact HB.out)⟩
          · rw [if_neg c19] at H
            have c19b0 : (t110 == t106) = false := by simpa using c19
            (try (have c19b1 : decide (t110 = t106) = false := by simpa using c19))
            (try (have c19b2 : (t110 == t106) = false := by simpa using c19))
            (try (have c19b3 : ¬ (t110 = t106) := by simpa using c19))
            clear c19
            obtain rfl := Option.some.inj H
            go_wp2
            repeat (go_quiet (fail); try go_wp2)
            go_ret
            exact ⟨by first | rfl | (simp [errW_none, errW_some] <;> rfl) | (simp [*, errW_none, errW_some] <;> rfl), by repeat (first | (with_reducible first | exact HB.out | apply below_alloc | apply pw_below_drewN | apply below_drew1) | exact HB.out)⟩
        · replace c18 := Bool.eq_false_iff.mpr c18
          subst c18
          have H1 : ((impl_HouseRanks.f kj5 t101 t102).bind fun t115 => (laws_FnPlace.l0 kj5 t102 t109 t115 (-1) (([0, 0, 0, 0, 0] : List Int)) 0)) = some r := by rw [if_neg (show ¬ (false = true) by decide)] at H; exact H
          clear H
          have H := H1
          clear H1
          replace H := Option.bind_eq_some_iff.mp H
          obtain ⟨t115, A230, H⟩ := H
          replace H : (laws_FnPlace.l0 kj5 t102 t109 t115 (-1) (([0, 0, 0, 0, 0] : List Int)) 0) = some r := H
          have A23 := Aside0.mk A230
          clear A230
          obtain ⟨y118, hy118⟩ : ∃ y_ : List Int, y_ = (([0, 0, 0, 0, 0] : List Int)) := ⟨_, rfl⟩
          replace H : (laws_FnPlace.l0 kj5 t102 t109 t115 (-1) y118 0) = some r := by first | (rw [hy118]; with_reducible exact H) | (have H2_ := (Option.bind_some _ _).symm.trans H; rw [hy118]; with_reducible exact H2_) | (have H2_ := (Option.bind_some _ _).symm.trans H; with_reducible exact H2_) | with_reducible exact H | (rw [hy118]; exact H) | exact H
          have Ny118 := Aside0.mk hy118
          clear hy118
          have H' := Aside0.mk H
          clear H
          go_wp2_with (first | (go_at_call 24; (with_reducible refine (impl_HouseRanks.calls kj5 t101 _ _ t102 t115 _ ?side1 ?side2 A23.out).mono ?_); (case side1 => repeat (first | exact (Kd.R_reads' HO_4.out).2.2 | (with_reducible refine Kd.C_alloc ?_ _) | (with_reducible refine Kd.C_drewN ?_ _) | (with_reducible refine Kd.C_drew ?_))); (case side2 => exact (Kd.R_reads' HO_4.out).2.1); rintro e w24 ⟨v116, rfl, ho0, hb⟩; have n0_ := Aside0.mk (Kd.R_below (by (with_reducible repeat (first | apply Kd.R_alloc | apply Kd.R_drewN | apply Kd.R_drew)); exact HO_4.out) hb); have n1_ := Aside0.mk (Kd.R_elder' (by (with_reducible repeat (first | apply Kd.R_alloc | apply Kd.R_drewN | apply Kd.R_drew)); exact HO_5.out) (Kd.R_base ho0) hb); have n2_ := Aside0.mk (Kd.R_elder' (by (with_reducible repeat (first | apply Kd.R_alloc | apply Kd.R_drewN | apply Kd.R_drew)); exact HO_7.out) (Kd.R_base ho0) hb); have n3_ := Aside0.mk (Kd.R_lower (Kd.R_new' (Kd.R_new' ho0 (Kd.R_lt (by (with_reducible repeat (first | apply Kd.R_alloc | apply Kd.R_drewN | apply Kd.R_drew)); exact HO_5.out))) (Kd.R_lt (by (with_reducible repeat (first | apply Kd.R_alloc | apply Kd.R_drewN | apply Kd.R_drew)); exact HO_7.out))) (below_size (by repeat (first | (with_reducible first | exact HB.out | apply below_alloc | apply pw_below_drewN | apply below_drew1) | exact HB.out)))); have n4_ := Aside0.mk (below_step (by repeat (first | (with_reducible first | exact HB.out | apply below_alloc | apply pw_below_drewN | apply below_drew1) | exact HB.out)) hb); clear HO_4; clear HO_5; clear HO_7; clear HB; have HO_4 := n0_; have HO_5 := n1_; have HO_7 := n2_; have HO117 := n3_; have HB := n4_; clear n0_ n1_ n2_ n3_ n4_; (try clear hb); (try clear hb2); (try clear hk); (try clear hi); (try clear ho0)) | ((with_reducible refine gate_dst (N := 59) rfl ?_); (try (refine gate_guard (by rfl) ?_; dsimp only)); refine Kd.R_lit (Kd.int .i64) _ 3 ?hg (N := 59) ?hd (xs := ([0, 0, 0, 0, 0] : List Int)) (inner := [.int .i64 0, .int .i64 0, .int .i64 0, .int .i64 0, .int .i64 0]) (ok := fun _ => True) (okp := fun _ => True) ?hr ?hp (fun _ hk => hk) trivial (Below.refl _ _) (Nat.le_refl _) (by simp) ?_; (case hd => rfl); (case hg => rfl); (case hr => first | (go_simp; done) | (go_simp; rfl)); (case hp => exact (Reps.one (show Kd.M (Kd.int .i64) _ _ _ 0 [.int .i64 0] from rfl) (Reps.one (show Kd.M (Kd.int .i64) _ _ _ 0 [.int .i64 0] from rfl) (Reps.one (show Kd.M (Kd.int .i64) _ _ _ 0 [.int .i64 0] from rfl) (Reps.one (show Kd.M (Kd.int .i64) _ _ _ 0 [.int .i64 0] from rfl) (Reps.one (show Kd.M (Kd.int .i64) _ _ _ 0 [.int .i64 0] from rfl) (Reps.none _ _))))))); intro v119 w25 ho26 hb hg_ hnew_; clear hg_ hnew_; (first | rw [← Ny118.out] at ho26 | (simp only [Int.reduceToNat] at ho26; rw [← Ny118.out] at ho26)); have n0_ := Aside0.mk (Kd.R_below (by (with_reducible repeat (first | apply Kd.R_alloc | apply Kd.R_drewN | apply Kd.R_drew)); exact HO_4.out) hb); have n1_ := Aside0.mk (Kd.R_elder' (by (with_reducible repeat (first | apply Kd.R_alloc | apply Kd.R_drewN | apply Kd.R_drew)); exact HO_5.out) (Kd.R_base ho26) hb); have n2_ := Aside0.mk (Kd.R_elder' (by (with_reducible repeat (first | apply Kd.R_alloc | apply Kd.R_drewN | apply Kd.R_drew)); exact HO_7.out) (Kd.R_base ho26) hb); have n3_ := Aside0.mk (Kd.R_elder' (by (with_reducible repeat (first | apply Kd.R_alloc | apply Kd.R_drewN | apply Kd.R_drew)); exact HO117.out) (Kd.R_base ho26) hb); have n4_ := Aside0.mk (Kd.R_lower (Kd.R_new' (Kd.R_new' (Kd.R_new' ho26 (Kd.R_lt (by (with_reducible repeat (first | apply Kd.R_alloc | apply Kd.R_drewN | apply Kd.R_drew)); exact HO_5.out))) (Kd.R_lt (by (with_reducible repeat (first | apply Kd.R_alloc | apply Kd.R_drewN | apply Kd.R_drew)); exact HO_7.out))) (Kd.R_lt (by (with_reducible repeat (first | apply Kd.R_alloc | apply Kd.R_drewN | apply Kd.R_drew)); exact HO117.out))) (below_size (by repeat (first | (with_reducible first | exact HB.out | apply below_alloc | apply pw_below_drewN | apply below_drew1) | exact HB.out)))); have n5_ := Aside0.mk (below_step (by repeat (first | (with_reducible first | exact HB.out | apply below_alloc | apply pw_below_drewN | apply below_drew1) | exact HB.out)) hb); clear HO_4; clear HO_5; clear HO_7; clear HO117; clear HB; have HO_4 := n0_; have HO_5 := n1_; have HO_7 := n2_; have HO117 := n3_; have HO120 := n4_; have HB := n5_; clear n0_ n1_ n2_ n3_ n4_ n5_; clear hb ho26))
          repeat (go_quiet (first | (go_at_call 24; (with_reducible refine (impl_HouseRanks.calls kj5 t101 _ _ t102 t115 _ ?side1 ?side2 A23.out).mono ?_); (case side1 => repeat (first | exact (Kd.R_reads' HO_4.out).2.2 | (with_reducible refine Kd.C_alloc ?_ _) | (with_reducible refine Kd.C_drewN ?_ _) | (with_reducible refine Kd.C_drew ?_))); (case side2 => exact (Kd.R_reads' HO_4.out).2.1); rintro e w24 ⟨v116, rfl, ho0, hb⟩; have n0_ := Aside0.mk (Kd.R_below (by (with_reducible repeat (first | apply Kd.R_alloc | apply Kd.R_drewN | apply Kd.R_drew)); exact HO_4.out) hb); have n1_ := Aside0.mk (Kd.R_elder' (by (with_reducible repeat (first | apply Kd.R_alloc | apply Kd.R_drewN | apply Kd.R_drew)); exact HO_5.out) (Kd.R_base ho0) hb); have n2_ := Aside0.mk (Kd.R_elder' (by (with_reducible repeat (first | apply Kd.R_alloc | apply Kd.R_drewN | apply Kd.R_drew)); exact HO_7.out) (Kd.R_base ho0) hb); have n3_ := Aside0.mk (Kd.R_lower (Kd.R_new' (Kd.R_new' ho0 (Kd.R_lt (by (with_reducible repeat (first | apply Kd.R_alloc | apply Kd.R_drewN | apply Kd.R_drew)); exact HO_5.out))) (Kd.R_lt (by (with_reducible repeat (first | apply Kd.R_alloc | apply Kd.R_drewN | apply Kd.R_drew)); exact HO_7.out))) (below_size (by repeat (first | (with_reducible first | exact HB.out | apply below_alloc | apply pw_below_drewN | apply below_drew1) | exact HB.out)))); have n4_ := Aside0.mk (below_step (by repeat (first | (with_reducible first | exact HB.out | apply below_alloc | apply pw_below_drewN | apply below_drew1) | exact HB.out)) hb); clear HO_4; clear HO_5; clear HO_7; clear HB; have HO_4 := n0_; have HO_5 := n1_; have HO_7 := n2_; have HO117 := n3_; have HB := n4_; clear n0_ n1_ n2_ n3_ n4_; (try clear hb); (try clear hb2); (try clear hk); (try clear hi); (try clear ho0)) | ((with_reducible refine gate_dst (N := 59) rfl ?_); (try (refine gate_guard (by rfl) ?_; dsimp only)); refine Kd.R_lit (Kd.int .i64) _ 3 ?hg (N := 59) ?hd (xs := ([0, 0, 0, 0, 0] : List Int)) (inner := [.int .i64 0, .int .i64 0, .int .i64 0, .int .i64 0, .int .i64 0]) (ok := fun _ => True) (okp := fun _ => True) ?hr ?hp (fun _ hk => hk) trivial (Below.refl _ _) (Nat.le_refl _) (by simp) ?_; (case hd => rfl); (case hg => rfl); (case hr => first | (go_simp; done) | (go_simp; rfl)); (case hp => exact (Reps.one (show Kd.M (Kd.int .i64) _ _ _ 0 [.int .i64 0] from rfl) (Reps.one (show Kd.M (Kd.int .i64) _ _ _ 0 [.int .i64 0] from rfl) (Reps.one (show Kd.M (Kd.int .i64) _ _ _ 0 [.int .i64 0] from rfl) (Reps.one (show Kd.M (Kd.int .i64) _ _ _ 0 [.int .i64 0] from rfl) (Reps.one (show Kd.M (Kd.int .i64) _ _ _ 0 [.int .i64 0] from rfl) (Reps.none _ _))))))); intro v119 w25 ho26 hb hg_ hnew_; clear hg_ hnew_; (first | rw [← Ny118.out] at ho26 | (simp only [Int.reduceToNat] at ho26; rw [← Ny118.out] at ho26)); have n0_ := Aside0.mk (Kd.R_below (by (with_reducible repeat (first | apply Kd.R_alloc | apply Kd.R_drewN | apply Kd.R_drew)); exact HO_4.out) hb); have n1_ := Aside0.mk (Kd.R_elder' (by (with_reducible repeat (first | apply Kd.R_alloc | apply Kd.R_drewN | apply Kd.R_drew)); exact HO_5.out) (Kd.R_base ho26) hb); have n2_ := Aside0.mk (Kd.R_elder' (by (with_reducible repeat (first | apply Kd.R_alloc | apply Kd.R_drewN | apply Kd.R_drew)); exact HO_7.out) (Kd.R_base ho26) hb); have n3_ := Aside0.mk (Kd.R_elder' (by (with_reducible repeat (first | apply Kd.R_alloc | apply Kd.R_drewN | apply Kd.R_drew)); exact HO117.out) (Kd.R_base ho26) hb); have n4_ := Aside0.mk (Kd.R_lower (Kd.R_new' (Kd.R_new' (Kd.R_new' ho26 (Kd.R_lt (by (with_reducible repeat (first | apply Kd.R_alloc | apply Kd.R_drewN | apply Kd.R_drew)); exact HO_5.out))) (Kd.R_lt (by (with_reducible repeat (first | apply Kd.R_alloc | apply Kd.R_drewN | apply Kd.R_drew)); exact HO_7.out))) (Kd.R_lt (by (with_reducible repeat (first | apply Kd.R_alloc | apply Kd.R_drewN | apply Kd.R_drew)); exact HO117.out))) (below_size (by repeat (first | (with_reducible first | exact HB.out | apply below_alloc | apply pw_below_drewN | apply below_drew1) | exact HB.out)))); have n5_ := Aside0.mk (below_step (by repeat (first | (with_reducible first | exact HB.out | apply below_alloc | apply pw_below_drewN | apply below_drew1) | exact HB.out)) hb); clear HO_4; clear HO_5; clear HO_7; clear HO117; clear HB; have HO_4 := n0_; have HO_5 := n1_; have HO_7 := n2_; have HO117 := n3_; have HO120 := n4_; have HB := n5_; clear n0_ n1_ n2_ n3_ n4_ n5_; clear hb ho26)); try go_wp2_with (first | (go_at_call 24; (with_reducible refine (impl_HouseRanks.calls kj5 t101 _ _ t102 t115 _ ?side1 ?side2 A23.out).mono ?_); (case side1 => repeat (first | exact (Kd.R_reads' HO_4.out).2.2 | (with_reducible refine Kd.C_alloc ?_ _) | (with_reducible refine Kd.C_drewN ?_ _) | (with_reducible refine Kd.C_drew ?_))); (case side2 => exact (Kd.R_reads' HO_4.out).2.1); rintro e w24 ⟨v116, rfl, ho0, hb⟩; have n0_ := Aside0.mk (Kd.R_below (by (with_reducible repeat (first | apply Kd.R_alloc | apply Kd.R_drewN | apply Kd.R_drew)); exact HO_4.out) hb); have n1_ := Aside0.mk (Kd.R_elder' (by (with_reducible repeat (first | apply Kd.R_alloc | apply Kd.R_drewN | apply Kd.R_drew)); exact HO_5.out) (Kd.R_base ho0) hb); have n2_ := Aside0.mk (Kd.R_elder' (by (with_reducible repeat (first | apply Kd.R_alloc | apply Kd.R_drewN | apply Kd.R_drew)); exact HO_7.out) (Kd.R_base ho0) hb); have n3_ := Aside0.mk (Kd.R_lower (Kd.R_new' (Kd.R_new' ho0 (Kd.R_lt (by (with_reducible repeat (first | apply Kd.R_alloc | apply Kd.R_drewN | apply Kd.R_drew)); exact HO_5.out))) (Kd.R_lt (by (with_reducible repeat (first | apply Kd.R_alloc | apply Kd.R_drewN | apply Kd.R_drew)); exact HO_7.out))) (below_size (by repeat (first | (with_reducible first | exact HB.out | apply below_alloc | apply pw_below_drewN | apply below_drew1) | exact HB.out)))); have n4_ := Aside0.mk (below_step (by repeat (first | (with_reducible first | exact HB.out | apply below_alloc | apply pw_below_drewN | apply below_drew1) | exact HB.out)) hb); clear HO_4; clear HO_5; clear HO_7; clear HB; have HO_4 := n0_; have HO_5 := n1_; have HO_7 := n2_; have HO117 := n3_; have HB := n4_; clear n0_ n1_ n2_ n3_ n4_; (try clear hb); (try clear hb2); (try clear hk); (try clear hi); (try clear ho0)) | ((with_reducible refine gate_dst (N := 59) rfl ?_); (try (refine gate_guard (by rfl) ?_; dsimp only)); refine Kd.R_lit (Kd.int .i64) _ 3 ?hg (N := 59) ?hd (xs := ([0, 0, 0, 0, 0] : List Int)) (inner := [.int .i64 0, .int .i64 0, .int .i64 0, .int .i64 0, .int .i64 0]) (ok := fun _ => True) (okp := fun _ => True) ?hr ?hp (fun _ hk => hk) trivial (Below.refl _ _) (Nat.le_refl _) (by simp) ?_; (case hd => rfl); (case hg => rfl); (case hr => first | (go_simp; done) | (go_simp; rfl)); (case hp => exact (Reps.one (show Kd.M (Kd.int .i64) _ _ _ 0 [.int .i64 0] from rfl) (Reps.one (show Kd.M (Kd.int .i64) _ _ _ 0 [.int .i64 0] from rfl) (Reps.one (show Kd.M (Kd.int .i64) _ _ _ 0 [.int .i64 0] from rfl) (Reps.one (show Kd.M (Kd.int .i64) _ _ _ 0 [.int .i64 0] from rfl) (Reps.one (show Kd.M (Kd.int .i64) _ _ _ 0 [.int .i64 0] from rfl) (Reps.none _ _))))))); intro v119 w25 ho26 hb hg_ hnew_; clear hg_ hnew_; (first | rw [← Ny118.out] at ho26 | (simp only [Int.reduceToNat] at ho26; rw [← Ny118.out] at ho26)); have n0_ := Aside0.mk (Kd.R_below (by (with_reducible repeat (first | apply Kd.R_alloc | apply Kd.R_drewN | apply Kd.R_drew)); exact HO_4.out) hb); have n1_ := Aside0.mk (Kd.R_elder' (by (with_reducible repeat (first | apply Kd.R_alloc | apply Kd.R_drewN | apply Kd.R_drew)); exact HO_5.out) (Kd.R_base ho26) hb); have n2_ := Aside0.mk (Kd.R_elder' (by (with_reducible repeat (first | apply Kd.R_alloc | apply Kd.R_drewN | apply Kd.R_drew)); exact HO_7.out) (Kd.R_base ho26) hb); have n3_ := Aside0.mk (Kd.R_elder' (by (with_reducible repeat (first | apply Kd.R_alloc | apply Kd.R_drewN | apply Kd.R_drew)); exact HO117.out) (Kd.R_base ho26) hb); have n4_ := Aside0.mk (Kd.R_lower (Kd.R_new' (Kd.R_new' (Kd.R_new' ho26 (Kd.R_lt (by (with_reducible repeat (first | apply Kd.R_alloc | apply Kd.R_drewN | apply Kd.R_drew)); exact HO_5.out))) (Kd.R_lt (by (with_reducible repeat (first | apply Kd.R_alloc | apply Kd.R_drewN | apply Kd.R_drew)); exact HO_7.out))) (Kd.R_lt (by (with_reducible repeat (first | apply Kd.R_alloc | apply Kd.R_drewN | apply Kd.R_drew)); exact HO117.out))) (below_size (by repeat (first | (with_reducible first | exact HB.out | apply below_alloc | apply pw_below_drewN | apply below_drew1) | exact HB.out)))); have n5_ := Aside0.mk (below_step (by repeat (first | (with_reducible first | exact HB.out | apply below_alloc | apply pw_below_drewN | apply below_drew1) | exact HB.out)) hb); clear HO_4; clear HO_5; clear HO_7; clear HO117; clear HB; have HO_4 := n0_; have HO_5 := n1_; have HO_7 := n2_; have HO117 := n3_; have HO120 := n4_; have HB := n5_; clear n0_ n1_ n2_ n3_ n4_ n5_; clear hb ho26)))
          go_loopg [10, 12] kj5 (fun kq v10 v12 w' => ∃ (x10_2 : Int) (x11_2 : List Int) (x12_2 : Int), v10 = .int .i64 x10_2 ∧ v12 = .int .i64 x12_2 ∧ Aside0 (laws_FnPlace.l0 kq t102 t109 t115 x10_2 x11_2 x12_2 = some r) ∧ Aside0 (kq ≤ kj5) ∧ Aside0 (Kd.R k42 42 w' w.heap.size (fun _ => True) (.slice Ao8 t102.length co8) t102) ∧ Aside0 (Kd.R (Kd.int .i64) 3 w' w.heap.size (fun k_ => some k_ ≠ (v116 : Value).ownBlock ∧ some k_ ≠ (v119 : Value).ownBlock) v111 t109) ∧ Aside0 (Kd.R (Kd.int .i64) 3 w' w.heap.size (fun k_ => some k_ ≠ (v111 : Value).ownBlock ∧ some k_ ≠ (v119 : Value).ownBlock) v116 t115) ∧ Aside0 (Kd.R (Kd.int .i64) 3 w' w.heap.size (fun k_ => some k_ ≠ (v111 : Value).ownBlock ∧ some k_ ≠ (v116 : Value).ownBlock) v119 x11_2) ∧ Aside0 (Below w.heap.size w w'))
          case atStart => exact ⟨((-1)), (y118), (0), (by first | rfl | (simp; done) | (simp [*]; done)), (by first | rfl | (simp; done) | (simp [*]; done)), H', ⟨Nat.le_refl _⟩, ⟨by (with_reducible repeat (first | apply Kd.R_alloc | apply Kd.R_drewN | apply Kd.R_drew)); exact HO_4.out⟩, ⟨by (with_reducible repeat (first | apply Kd.R_alloc | apply Kd.R_drewN | apply Kd.R_drew)); exact Kd.R_mono HO_7.out (fun _ hk => ⟨hk.1.2, hk.2⟩)⟩, ⟨by (with_reducible repeat (first | apply Kd.R_alloc | apply Kd.R_drewN | apply Kd.R_drew)); exact Kd.R_mono HO117.out (fun _ hk => ⟨hk.1.2, hk.2⟩)⟩, ⟨by (with_reducible repeat (first | apply Kd.R_alloc | apply Kd.R_drewN | apply Kd.R_drew)); exact Kd.R_mono HO120.out (fun _ hk => ⟨hk.1.2, hk.2⟩)⟩, ⟨by repeat (first | (with_reducible first | exact HB.out | apply below_alloc | apply pw_below_drewN | apply below_drew1) | exact HB.out)⟩⟩
          case round =>
            clear H'
            try clear c1
            try clear c2
            try clear c2b0
            try clear c2b1
            try clear p2
            try clear c5
            try clear c11
            try clear c11b0
            try clear c11b1
            try clear c11b2
            try clear c13
            try clear c18
            try clear c19
            try clear c19b0
            try clear c19b1
            try clear c19b2
            try clear p2
            obtain ⟨x10_2, x11_2, x12_2, rfl, rfl, HA, HK2, HO_4, HO_7, HO_9, HO_11, HB⟩ := hrel
            cases gk with
            | zero => exact absurd HA.out (by simp [laws_FnPlace.l0])
            | succ k2 =>
              have H := HA.out
              clear HA
              simp only [laws_FnPlace.l0] at H
              by_cases c27 : x12_2 < (t109.length : Int)
              · rw [if_pos c27] at H
                have c27b0 : decide (x12_2 < (t109.length : Int)) = true := decide_eq_true c27
                clear c27
                by_cases c28 : 0 ≤ x12_2
                · rw [if_pos c28] at H
                  have c28b0 : decide (0 ≤ x12_2) = true := decide_eq_true c28
                  clear c28
                  replace H := Option.bind_eq_some_iff.mp H
                  obtain ⟨t122, A290, H⟩ := H
                  replace H : (laws_FnPlace.l1 k2 t102 t109 t115 x10_2 x11_2 x12_2 t122 0) = some r := H
                  have A29 := Aside0.mk A290
                  clear A290
                  have HC30 := Aside0.mk H
                  clear H
                  obtain ⟨Ao31, co31, eo31⟩ := Kd.R_slice HO_7.out
                  subst eo31
                  have p121 : 0 ≤ (x12_2 : Int) := of_decide_eq_true (by first | (with_reducible assumption) | assumption)
                  have q121 : x12_2 < (t109.length : Int) := of_decide_eq_true (by first | (with_reducible assumption) | assumption)
                  obtain ⟨ad121, e121, hx121_0⟩ := Kd.at_int (Kd.R_reads' HO_7.out).2.2 x12_2 p121 q121
                  cases e121
                  replace p121 := eq_true p121
                  replace q121 := eq_true q121
                  go_upto_block 2 with (first | (go_at_call 23; (with_reducible refine (impl_HouseRack.calls k2 _ _ t102 (rd t109 x12_2) t122 _ ?side1 ?side2 A29.out).mono ?_); (case side1 => repeat (first | exact (Kd.R_reads' HO_4.out).2.2 | (with_reducible refine Kd.C_alloc ?_ _) | (with_reducible refine Kd.C_drewN ?_ _) | (with_reducible refine Kd.C_drew ?_))); (case side2 => exact (Kd.R_reads' HO_4.out).2.1); rintro e w32 ⟨rfl, hb⟩; have n0_ := Aside0.mk (Kd.R_below (by (with_reducible repeat (first | apply Kd.R_alloc | apply Kd.R_drewN | apply Kd.R_drew)); exact HO_4.out) hb); have n1_ := Aside0.mk (Kd.R_below (by (with_reducible repeat (first | apply Kd.R_alloc | apply Kd.R_drewN | apply Kd.R_drew)); exact HO_7.out) hb); have n2_ := Aside0.mk (Kd.R_below (by (with_reducible repeat (first | apply Kd.R_alloc | apply Kd.R_drewN | apply Kd.R_drew)); exact HO_9.out) hb); have n3_ := Aside0.mk (Kd.R_below (by (with_reducible repeat (first | apply Kd.R_alloc | apply Kd.R_drewN | apply Kd.R_drew)); exact HO_11.out) hb); have n4_ := Aside0.mk (below_step (by repeat (first | (with_reducible first | exact HB.out | apply below_alloc | apply pw_below_drewN | apply below_drew1) | exact HB.out)) hb); clear HO_4; clear HO_7; clear HO_9; clear HO_11; clear HB; have HO_4 := n0_; have HO_7 := n1_; have HO_9 := n2_; have HO_11 := n3_; have HB := n4_; clear n0_ n1_ n2_ n3_ n4_; (try clear hb); (try clear hb2); (try clear hk); (try clear hi)))
                  repeat (go_quiet (first | (go_at_call 23; (with_reducible refine (impl_HouseRack.calls k2 _ _ t102 (rd t109 x12_2) t122 _ ?side1 ?side2 A29.out).mono ?_); (case side1 => repeat (first | exact (Kd.R_reads' HO_4.out).2.2 | (with_reducible refine Kd.C_alloc ?_ _) | (with_reducible refine Kd.C_drewN ?_ _) | (with_reducible refine Kd.C_drew ?_))); (case side2 => exact (Kd.R_reads' HO_4.out).2.1); rintro e w32 ⟨rfl, hb⟩; have n0_ := Aside0.mk (Kd.R_below (by (with_reducible repeat (first | apply Kd.R_alloc | apply Kd.R_drewN | apply Kd.R_drew)); exact HO_4.out) hb); have n1_ := Aside0.mk (Kd.R_below (by (with_reducible repeat (first | apply Kd.R_alloc | apply Kd.R_drewN | apply Kd.R_drew)); exact HO_7.out) hb); have n2_ := Aside0.mk (Kd.R_below (by (with_reducible repeat (first | apply Kd.R_alloc | apply Kd.R_drewN | apply Kd.R_drew)); exact HO_9.out) hb); have n3_ := Aside0.mk (Kd.R_below (by (with_reducible repeat (first | apply Kd.R_alloc | apply Kd.R_drewN | apply Kd.R_drew)); exact HO_11.out) hb); have n4_ := Aside0.mk (below_step (by repeat (first | (with_reducible first | exact HB.out | apply below_alloc | apply pw_below_drewN | apply below_drew1) | exact HB.out)) hb); clear HO_4; clear HO_7; clear HO_9; clear HO_11; clear HB; have HO_4 := n0_; have HO_7 := n1_; have HO_9 := n2_; have HO_11 := n3_; have HB := n4_; clear n0_ n1_ n2_ n3_ n4_; (try clear hb); (try clear hb2); (try clear hk); (try clear hi))); go_upto_block 2 with (first | (go_at_call 23; (with_reducible refine (impl_HouseRack.calls k2 _ _ t102 (rd t109 x12_2) t122 _ ?side1 ?side2 A29.out).mono ?_); (case side1 => repeat (first | exact (Kd.R_reads' HO_4.out).2.2 | (with_reducible refine Kd.C_alloc ?_ _) | (with_reducible refine Kd.C_drewN ?_ _) | (with_reducible refine Kd.C_drew ?_))); (case side2 => exact (Kd.R_reads' HO_4.out).2.1); rintro e w32 ⟨rfl, hb⟩; have n0_ := Aside0.mk (Kd.R_below (by (with_reducible repeat (first | apply Kd.R_alloc | apply Kd.R_drewN | apply Kd.R_drew)); exact HO_4.out) hb); have n1_ := Aside0.mk (Kd.R_below (by (with_reducible repeat (first | apply Kd.R_alloc | apply Kd.R_drewN | apply Kd.R_drew)); exact HO_7.out) hb); have n2_ := Aside0.mk (Kd.R_below (by (with_reducible repeat (first | apply Kd.R_alloc | apply Kd.R_drewN | apply Kd.R_drew)); exact HO_9.out) hb); have n3_ := Aside0.mk (Kd.R_below (by (with_reducible repeat (first | apply Kd.R_alloc | apply Kd.R_drewN | apply Kd.R_drew)); exact HO_11.out) hb); have n4_ := Aside0.mk (below_step (by repeat (first | (with_reducible first | exact HB.out | apply below_alloc | apply pw_below_drewN | apply below_drew1) | exact HB.out)) hb); clear HO_4; clear HO_7; clear HO_9; clear HO_11; clear HB; have HO_4 := n0_; have HO_7 := n1_; have HO_9 := n2_; have HO_11 := n3_; have HB := n4_; clear n0_ n1_ n2_ n3_ n4_; (try clear hb); (try clear hb2); (try clear hk); (try clear hi))))
                  (try simp only [Act.put, List.setIfInBounds_toArray, List.set_cons_zero, List.set_cons_succ])
                  go_cut [14] (fun v14 wc => ∃ (kq : Nat) (x14_29 : Int), v14 = .int .i64 x14_29 ∧ Aside0 (laws_FnPlace.j3 kq t102 t109 t115 x10_2 x11_2 x12_2 t122 x14_29 = some r) ∧ Aside0 (kq ≤ k2) ∧ Aside0 (Kd.R k42 42 wc w.heap.size (fun _ => True) (.slice Ao8 t102.length co8) t102) ∧ Aside0 (Kd.R (Kd.int .i64) 3 wc w.heap.size (fun k_ => some k_ ≠ (v116 : Value).ownBlock ∧ some k_ ≠ (v119 : Value).ownBlock) (.slice (some ad121) t109.length co31) t109) ∧ Aside0 (Kd.R (Kd.int .i64) 3 wc w.heap.size (fun k_ => some k_ ≠ ((.slice (some ad121) t109.length co31) : Value).ownBlock ∧ some k_ ≠ (v119 : Value).ownBlock) v116 t115) ∧ Aside0 (Kd.R (Kd.int .i64) 3 wc w.heap.size (fun k_ => some k_ ≠ ((.slice (some ad121) t109.length co31) : Value).ownBlock ∧ some k_ ≠ (v116 : Value).ownBlock) v119 x11_2) ∧ Aside0 (Below w.heap.size w wc))
                  case first =>
                    have H := HC30.out
                    clear HC30
                    have H' := Aside0.mk H
                    clear H
                    go_wp2
                    repeat (go_quiet (fail); try go_wp2)
                    go_loopg [14] k2 (fun kq v14 w' => ∃ (x14_3 : Int), v14 = .int .i64 x14_3 ∧ Aside0 (laws_FnPlace.l1 kq t102 t109 t115 x10_2 x11_2 x12_2 t122 x14_3 = some r) ∧ Aside0 (kq ≤ k2) ∧ Aside0 (Kd.R k42 42 w' w.heap.size (fun _ => True) (.slice Ao8 t102.length co8) t102) ∧ Aside0 (Kd.R (Kd.int .i64) 3 w' w.heap.size (fun k_ => some k_ ≠ (v116 : Value).ownBlock ∧ some k_ ≠ (v119 : Value).ownBlock) (.slice (some ad121) t109.length co31) t109) ∧ Aside0 (Kd.R (Kd.int .i64) 3 w' w.heap.size (fun k_ => some k_ ≠ ((.slice (some ad121) t109.length co31) : Value).ownBlock ∧ some k_ ≠ (v119 : Value).ownBlock) v116 t115) ∧ Aside0 (Kd.R (Kd.int .i64) 3 w' w.heap.size (fun k_ => some k_ ≠ ((.slice (some ad121) t109.length co31) : Value).ownBlock ∧ some k_ ≠ (v116 : Value).ownBlock) v119 x11_2) ∧ Aside0 (Below w.heap.size w w'))
                    case atStart => exact ⟨(0), (by first | rfl | (simp; done) | (simp [*]; done)), H', ⟨Nat.le_refl _⟩, ⟨by (with_reducible repeat (first | apply Kd.R_alloc | apply Kd.R_drewN | apply Kd.R_drew)); exact HO_4.out⟩, ⟨by (with_reducible repeat (first | apply Kd.R_alloc | apply Kd.R_drewN | apply Kd.R_drew)); exact HO_7.out⟩, ⟨by (with_reducible repeat (first | apply Kd.R_alloc | apply Kd.R_drewN | apply Kd.R_drew)); exact HO_9.out⟩, ⟨by (with_reducible repeat (first | apply Kd.R_alloc | apply Kd.R_drewN | apply Kd.R_drew)); exact HO_11.out⟩, ⟨by repeat (first | (with_reducible first | exact HB.out | apply below_alloc | apply pw_below_drewN | apply below_drew1) | exact HB.out)⟩⟩
                    case round =>
                      clear H'
                      try clear c1
                      try clear p1
                      try clear q1
                      try clear hx1
                      try clear c2
                      try clear c2b0
                      try clear c2b1
                      try clear p2
                      try clear c5
                      try clear c11
                      try clear c11b0
                      try clear c11b1
                      try clear c11b2
                      try clear p12
                      try clear q12
                      try clear hx12
                      try clear c13
                      try clear c18
                      try clear c19
                      try clear c19b0
                      try clear c19b1
                      try clear c19b2
                      try clear c27
                      try clear c27b0
                      try clear c28
                      try clear c28b0
                      try clear hx121_0
                      try clear p121
                      try clear p2
                      try clear q121
                      obtain ⟨x14_3, rfl, HA, HK3, HO_4, HO_7, HO_9, HO_11, HB⟩ := hrel
                      cases gk with
                      | zero => exact absurd HA.out (by simp [laws_FnPlace.l1])
                      | succ k3 =>
                        have H := HA.out
                        clear HA
                        simp only [laws_FnPlace.l1] at H
                        by_cases c33 : x14_3 < (t115.length : Int)
                        · rw [if_pos c33] at H
                          have c33b0 : decide (x14_3 < (t115.length : Int)) = true := decide_eq_true c33
                          clear c33
                          (first | rw [c33b0] | (simp only [i64_w, i32_w]; rw [c33b0]) | skip)
                          by_cases c34 : 0 ≤ x14_3
                          · rw [if_pos c34] at H
                            have c34b0 : decide (0 ≤ x14_3) = true := decide_eq_true c34
                            clear c34
                            by_cases c35 : 0 ≤ x12_2
                            · rw [if_pos c35] at H
                              have c35b0 : decide (0 ≤ x12_2) = true := decide_eq_true c35
                              clear c35
                              by_cases c36 : x12_2 < (t109.length : Int)
                              · rw [if_pos c36] at H
                                have c36b0 : decide (x12_2 < (t109.length : Int)) = true := decide_eq_true c36
                                clear c36
                                by_cases c37 : (rd t115 x14_3) = (rd t109 x12_2)
                                · rw [if_pos c37] at H
                                  have c37b0 : ((rd t115 x14_3) == (rd t109 x12_2)) = true := beq_iff_eq.mpr c37
                                  have c37b1 : ((rd t115 x14_3) != (rd t109 x12_2)) = false := bne_eq_false_iff_eq.mpr c37
                                  clear c37
                                  have H' := Aside0.mk H
                                  clear H
                                  obtain ⟨Ao38, co38, eo38⟩ := Kd.R_slice HO_9.out
                                  subst eo38
                                  have p123 : 0 ≤ (x14_3 : Int) := of_decide_eq_true (by first | (with_reducible assumption) | assumption)
                                  have q123 : x14_3 < (t115.length : Int) := of_decide_eq_true (by first | (with_reducible assumption) | assumption)
                                  obtain ⟨ad123, e123, hx123_0⟩ := Kd.at_int (Kd.R_reads' HO_9.out).2.2 x14_3 p123 q123
                                  cases e123
                                  replace p123 := eq_true p123
                                  replace q123 := eq_true q123
                                  have p124 : 0 ≤ (x12_2 : Int) := of_decide_eq_true (by first | (with_reducible assumption) | assumption)
                                  have q124 : x12_2 < (t109.length : Int) := of_decide_eq_true (by first | (with_reducible assumption) | assumption)
                                  obtain ⟨ad124, e124, hx124_0⟩ := Kd.at_int (Kd.R_reads' HO_7.out).2.2 x12_2 p124 q124
                                  obtain rfl : ad121 = ad124 := (by injection e124)
                                  replace p124 := eq_true p124
                                  replace q124 := eq_true q124
                                  go_wp2
                                  repeat (go_quiet (fail); try go_wp2)
                                  go_meet
                                  case rel => exact ⟨_, (x14_3), (by first | rfl | (simp; done) | (simp [*]; done)), H', ⟨by have := HJ5.out; have := HK2.out; have := HK3.out; first | omega | exact Nat.le_refl _⟩, ⟨by (with_reducible repeat (first | apply Kd.R_alloc | apply Kd.R_drewN | apply Kd.R_drew)); exact HO_4.out⟩, ⟨by (with_reducible repeat (first | apply Kd.R_alloc | apply Kd.R_drewN | apply Kd.R_drew)); exact HO_7.out⟩, ⟨by (with_reducible repeat (first | apply Kd.R_alloc | apply Kd.R_drewN | apply Kd.R_drew)); exact HO_9.out⟩, ⟨by (with_reducible repeat (first | apply Kd.R_alloc | apply Kd.R_drewN | apply Kd.R_drew)); exact HO_11.out⟩, ⟨by repeat (first | (with_reducible first | exact HB.out | apply below_alloc | apply pw_below_drewN | apply below_drew1) | exact HB.out)⟩⟩
                                · rw [if_neg c37] at H
                                  have c37b0 : ((rd t115 x14_3) == (rd t109 x12_2)) = false := beq_eq_false_iff_ne.mpr c37
                                  have c37b1 : ((rd t115 x14_3) != (rd t109 x12_2)) = true := bne_iff_ne.mpr c37
                                  have H' := Aside0.mk H
                                  clear H
                                  obtain ⟨Ao39, co39, eo39⟩ := Kd.R_slice HO_9.out
                                  subst eo39
                                  have p123 : 0 ≤ (x14_3 : Int) := of_decide_eq_true (by first | (with_reducible assumption) | assumption)
                                  have q123 : x14_3 < (t115.length : Int) := of_decide_eq_true (by first | (with_reducible assumption) | assumption)
                                  obtain ⟨ad123, e123, hx123_0⟩ := Kd.at_int (Kd.R_reads' HO_9.out).2.2 x14_3 p123 q123
                                  cases e123
                                  replace p123 := eq_true p123
                                  replace q123 := eq_true q123
                                  have p124 : 0 ≤ (x12_2 : Int) := of_decide_eq_true (by first | (with_reducible assumption) | assumption)
                                  have q124 : x12_2 < (t109.length : Int) := of_decide_eq_true (by first | (with_reducible assumption) | assumption)
                                  obtain ⟨ad124, e124, hx124_0⟩ := Kd.at_int (Kd.R_reads' HO_7.out).2.2 x12_2 p124 q124
                                  obtain rfl : ad121 = ad124 := (by injection e124)
                                  replace p124 := eq_true p124
                                  replace q124 := eq_true q124
                                  go_wp2
                                  repeat (go_quiet (fail); try go_wp2)
                                  go_roundg k3
                                  case measure => have := HJ5.out; have := HK2.out; have := HK3.out; omega
                                  case rel => exact ⟨(wrap64 (x14_3 + 1)), (by first | rfl | (simp; done) | (simp [*]; done)), H', ⟨by have := HJ5.out; have := HK2.out; have := HK3.out; omega⟩, ⟨by (with_reducible repeat (first | apply Kd.R_alloc | apply Kd.R_drewN | apply Kd.R_drew)); exact HO_4.out⟩, ⟨by (with_reducible repeat (first | apply Kd.R_alloc | apply Kd.R_drewN | apply Kd.R_drew)); exact HO_7.out⟩, ⟨by (with_reducible repeat (first | apply Kd.R_alloc | apply Kd.R_drewN | apply Kd.R_drew)); exact HO_9.out⟩, ⟨by (with_reducible repeat (first | apply Kd.R_alloc | apply Kd.R_drewN | apply Kd.R_drew)); exact HO_11.out⟩, ⟨by repeat (first | (with_reducible first | exact HB.out | apply below_alloc | apply pw_below_drewN | apply below_drew1) | exact HB.out)⟩⟩
                              · rw [if_neg c36] at H
                                exact absurd H (by simp)
                            · rw [if_neg c35] at H
                              exact absurd H (by simp)
                          · rw [if_neg c34] at H
                            exact absurd H (by simp)
                        · rw [if_neg c33] at H
                          have c33b0 : decide (x14_3 < (t115.length : Int)) = false := decide_eq_false c33
                          clear c33
                          (first | rw [c33b0] | (simp only [i64_w, i32_w]; rw [c33b0]) | skip)
                          have H' := Aside0.mk H
                          clear H
                          obtain ⟨Ao40, co40, eo40⟩ := Kd.R_slice HO_9.out
                          subst eo40
                          go_wp2
                          repeat (go_quiet (fail); try go_wp2)
                          go_meet
                          case rel => exact ⟨_, (x14_3), (by first | rfl | (simp; done) | (simp [*]; done)), H', ⟨by have := HJ5.out; have := HK2.out; have := HK3.out; first | omega | exact Nat.le_refl _⟩, ⟨by (with_reducible repeat (first | apply Kd.R_alloc | apply Kd.R_drewN | apply Kd.R_drew)); exact HO_4.out⟩, ⟨by (with_reducible repeat (first | apply Kd.R_alloc | apply Kd.R_drewN | apply Kd.R_drew)); exact HO_7.out⟩, ⟨by (with_reducible repeat (first | apply Kd.R_alloc | apply Kd.R_drewN | apply Kd.R_drew)); exact HO_9.out⟩, ⟨by (with_reducible repeat (first | apply Kd.R_alloc | apply Kd.R_drewN | apply Kd.R_drew)); exact HO_11.out⟩, ⟨by repeat (first | (with_reducible first | exact HB.out | apply below_alloc | apply pw_below_drewN | apply below_drew1) | exact HB.out)⟩⟩
                  case rest =>
                    clear HC30
                    try clear c1
                    try clear p1
                    try clear q1
                    try clear hx1
                    try clear c2
                    try clear c2b0
                    try clear c2b1
                    try clear p2
                    try clear c3
                    try clear c5
                    try clear p6
                    try clear c11
                    try clear c11b0
                    try clear c11b1
                    try clear c11b2
                    try clear p12
                    try clear q12
                    try clear hx12
                    try clear c13
                    try clear c18
                    try clear c19
                    try clear c19b0
                    try clear c19b1
                    try clear c19b2
                    try clear c27
                    try clear c27b0
                    try clear c28
                    try clear c28b0
                    try clear c33
                    try clear c33b0
                    try clear c34
                    try clear c34b0
                    try clear c35
                    try clear c35b0
                    try clear c36
                    try clear c36b0
                    try clear c37
                    try clear c37b0
                    try clear c37b1
                    try clear hx121_0
                    try clear hx123_0
                    try clear hx124_0
                    try clear p1
                    try clear p12
                    try clear p121
                    try clear p123
                    try clear p124
                    try clear p2
                    try clear q1
                    try clear q12
                    try clear q121
                    try clear q123
                    try clear q124
                    obtain ⟨kq, x14_29, rfl, HA, HJ29, HO_4, HO_7, HO_9, HO_11, HB⟩ := hcut
                    cases kq with
                    | zero => exact absurd HA.out (by simp [laws_FnPlace.j3])
                    | succ kj29 =>
                      have H := HA.out
                      clear HA
                      simp only [laws_FnPlace.j3] at H
                      have HC41 := Aside0.mk H
                      clear H
                      go_upto_region 18 with (fail)
                      repeat (go_quiet (fail); go_upto_region 18 with (fail))
                      go_cut [101] (fun v101 wc => ∃ (kq : Nat) (x101_40 : Bool), v101 = .bool x101_40 ∧ Aside0 (laws_FnPlace.j4 kq t102 t109 t115 x11_2 x12_2 t122 x14_29 x101_40 = some r) ∧ Aside0 (kq ≤ kj29) ∧ Aside0 (Kd.R k42 42 wc w.heap.size (fun _ => True) (.slice Ao8 t102.length co8) t102) ∧ Aside0 (Kd.R (Kd.int .i64) 3 wc w.heap.size (fun k_ => some k_ ≠ (v116 : Value).ownBlock ∧ some k_ ≠ (v119 : Value).ownBlock) (.slice (some ad121) t109.length co31) t109) ∧ Aside0 (Kd.R (Kd.int .i64) 3 wc w.heap.size (fun k_ => some k_ ≠ ((.slice (some ad121) t109.length co31) : Value).ownBlock ∧ some k_ ≠ (v119 : Value).ownBlock) v116 t115) ∧ Aside0 (Kd.R (Kd.int .i64) 3 wc w.heap.size (fun k_ => some k_ ≠ ((.slice (some ad121) t109.length co31) : Value).ownBlock ∧ some k_ ≠ (v116 : Value).ownBlock) v119 x11_2) ∧ Aside0 (Below w.heap.size w wc))
                      case first =>
                        have H := HC41.out
                        clear HC41
                        by_cases c42 : t122 = 0
                        · rw [if_pos c42] at H
                          have c42b0 : (t122 == 0) = true := beq_iff_eq.mpr c42
                          have c42b1 : (t122 != 0) = false := bne_eq_false_iff_eq.mpr c42
                          clear c42
                          (first | rw [c42b0] | (simp only [i64_w, i32_w]; rw [c42b0]) | skip)
                          have H' := Aside0.mk H
                          clear H
                          go_wp2
                          repeat (go_quiet (fail); try go_wp2)
                          go_meet
                          case rel => exact ⟨_, (true), (by first | rfl | (simp; done) | (simp [*]; done)), H', ⟨by have := HJ5.out; have := HK2.out; have := HJ29.out; first | omega | exact Nat.le_refl _⟩, ⟨by (with_reducible repeat (first | apply Kd.R_alloc | apply Kd.R_drewN | apply Kd.R_drew)); exact HO_4.out⟩, ⟨by (with_reducible repeat (first | apply Kd.R_alloc | apply Kd.R_drewN | apply Kd.R_drew)); exact HO_7.out⟩, ⟨by (with_reducible repeat (first | apply Kd.R_alloc | apply Kd.R_drewN | apply Kd.R_drew)); exact HO_9.out⟩, ⟨by (with_reducible repeat (first | apply Kd.R_alloc | apply Kd.R_drewN | apply Kd.R_drew)); exact HO_11.out⟩, ⟨by repeat (first | (with_reducible first | exact HB.out | apply below_alloc | apply pw_below_drewN | apply below_drew1) | exact HB.out)⟩⟩
                        · rw [if_neg c42] at H
                          have c42b0 : (t122 == 0) = false := beq_eq_false_iff_ne.mpr c42
                          have c42b1 : (t122 != 0) = true := bne_iff_ne.mpr c42
                          (first | rw [c42b0] | (simp only [i64_w, i32_w]; rw [c42b0]) | skip)
                          by_cases c43 : x14_29 ≤ x10_2
                          · rw [if_pos c43] at H
                            have c43b0 : decide (x14_29 ≤ x10_2) = true := decide_eq_true c43
                            clear c43
                            have H' := Aside0.mk H
                            clear H
                            go_wp2
                            repeat (go_quiet (fail); try go_wp2)
                            go_meet
                            case rel => exact ⟨_, (true), (by first | rfl | (simp; done) | (simp [*]; done)), H', ⟨by have := HJ5.out; have := HK2.out; have := HJ29.out; first | omega | exact Nat.le_refl _⟩, ⟨by (with_reducible repeat (first | apply Kd.R_alloc | apply Kd.R_drewN | apply Kd.R_drew)); exact HO_4.out⟩, ⟨by (with_reducible repeat (first | apply Kd.R_alloc | apply Kd.R_drewN | apply Kd.R_drew)); exact HO_7.out⟩, ⟨by (with_reducible repeat (first | apply Kd.R_alloc | apply Kd.R_drewN | apply Kd.R_drew)); exact HO_9.out⟩, ⟨by (with_reducible repeat (first | apply Kd.R_alloc | apply Kd.R_drewN | apply Kd.R_drew)); exact HO_11.out⟩, ⟨by repeat (first | (with_reducible first | exact HB.out | apply below_alloc | apply pw_below_drewN | apply below_drew1) | exact HB.out)⟩⟩
                          · rw [if_neg c43] at H
                            have c43b0 : decide (x14_29 ≤ x10_2) = false := decide_eq_false c43
                            clear c43
                            have H' := Aside0.mk H
                            clear H
                            obtain ⟨Ao44, co44, eo44⟩ := Kd.R_slice HO_9.out
                            subst eo44
                            go_wp2
                            repeat (go_quiet (fail); try go_wp2)
                            go_meet
                            case rel => exact ⟨_, ((x14_29 == (t115.length : Int))), (by first | rfl | (simp; done) | (simp [*]; done)), H', ⟨by have := HJ5.out; have := HK2.out; have := HJ29.out; first | omega | exact Nat.le_refl _⟩, ⟨by (with_reducible repeat (first | apply Kd.R_alloc | apply Kd.R_drewN | apply Kd.R_drew)); exact HO_4.out⟩, ⟨by (with_reducible repeat (first | apply Kd.R_alloc | apply Kd.R_drewN | apply Kd.R_drew)); exact HO_7.out⟩, ⟨by (with_reducible repeat (first | apply Kd.R_alloc | apply Kd.R_drewN | apply Kd.R_drew)); exact HO_9.out⟩, ⟨by (with_reducible repeat (first | apply Kd.R_alloc | apply Kd.R_drewN | apply Kd.R_drew)); exact HO_11.out⟩, ⟨by repeat (first | (with_reducible first | exact HB.out | apply below_alloc | apply pw_below_drewN | apply below_drew1) | exact HB.out)⟩⟩
                      case rest =>
                        clear HC41
                        try clear c1
                        try clear p1
                        try clear q1
                        try clear hx1
                        try clear c2
                        try clear c2b0
                        try clear c2b1
                        try clear p2
                        try clear c3
                        try clear c4
                        try clear c5
                        try clear p6
                        try clear c11
                        try clear c11b0
                        try clear c11b1
                        try clear c11b2
                        try clear p12
                        try clear q12
                        try clear hx12
                        try clear c13
                        try clear c18
                        try clear c19
                        try clear c19b0
                        try clear c19b1
                        try clear c19b2
                        try clear c27
                        try clear c27b0
                        try clear c28
                        try clear c28b0
                        try clear c33
                        try clear c33b0
                        try clear c34
                        try clear c34b0
                        try clear c35
                        try clear c35b0
                        try clear c36
                        try clear c36b0
                        try clear c37
                        try clear c37b0
                        try clear c37b1
                        try clear c42
                        try clear c42b0
                        try clear c42b1
                        try clear c43
                        try clear c43b0
                        try clear hx121_0
                        try clear hx123_0
                        try clear hx124_0
                        try clear p1
                        try clear p12
                        try clear p121
                        try clear p123
                        try clear p124
                        try clear p2
                        try clear p6
                        try clear q1
                        try clear q12
                        try clear q121
                        try clear q123
                        try clear q124
                        obtain ⟨kq, x101_40, rfl, HA, HJ40, HO_4, HO_7, HO_9, HO_11, HB⟩ := hcut
                        cases kq with
                        | zero => exact absurd HA.out (by simp [laws_FnPlace.j4])
                        | succ kj40 =>
                          have H := HA.out
                          clear HA
                          simp only [laws_FnPlace.j4] at H
                          by_cases c45 : x101_40 = true
                          · subst c45
                            have H1 : (some false) = some r := by rw [if_pos rfl] at H; exact H
                            clear H
                            have H := H1
                            clear H1
                            obtain rfl := Option.some.inj H
                            go_wp2
                            repeat (go_quiet (fail); try go_wp2)
                            go_ret
                            exact ⟨by first | rfl | (simp [errW_none, errW_some] <;> rfl) | (simp [*, errW_none, errW_some] <;> rfl), by repeat (first | (with_reducible first | exact HB.out | apply below_alloc | apply pw_below_drewN | apply below_drew1) | exact HB.out)⟩
                          · replace c45 := Bool.eq_false_iff.mpr c45
                            subst c45
                            have H1 : (if 0 ≤ t122 then (if t122 < (x11_2.length : Int) then ((some (x11_2.set (t122 : Int).toNat (wrap64 ((rd x11_2 t122) + 1)) : List Int)).bind fun y126 => (if (rd y126 t122) > 3 then (some false) else (laws_FnPlace.l0 kj40 t102 t109 t115 x14_29 y126 (wrap64 (x12_2 + 1))))) else (none)) else (none)) = some r := by rw [if_neg (show ¬ (false = true) by decide)] at H; exact H
                            clear H
                            have H := H1
                            clear H1
                            by_cases c46 : 0 ≤ t122
                            · rw [if_pos c46] at H
                              have c46b0 : decide (0 ≤ t122) = true := decide_eq_true c46
                              clear c46
                              by_cases c47 : t122 < (x11_2.length : Int)
                              · rw [if_pos c47] at H
                                have c47b0 : decide (t122 < (x11_2.length : Int)) = true := decide_eq_true c47
                                clear c47
                                obtain ⟨y126, hy126⟩ : ∃ y_ : List Int, y_ = (x11_2.set (t122 : Int).toNat (wrap64 ((rd x11_2 t122) + 1))) := ⟨_, rfl⟩
                                replace H : (if (rd y126 t122) > 3 then (some false) else (laws_FnPlace.l0 kj40 t102 t109 t115 x14_29 y126 (wrap64 (x12_2 + 1)))) = some r := by first | (rw [hy126]; with_reducible exact H) | (have H2_ := (Option.bind_some _ _).symm.trans H; rw [hy126]; with_reducible exact H2_) | (have H2_ := (Option.bind_some _ _).symm.trans H; with_reducible exact H2_) | with_reducible exact H | (rw [hy126]; exact H) | exact H
                                have Ny126 := Aside0.mk hy126
                                clear hy126
                                by_cases c49 : (rd y126 t122) > 3
                                · rw [if_pos c49] at H
                                  have c49b0 : decide (3 < (rd y126 t122)) = true := decide_eq_true c49
                                  clear c49
                                  obtain rfl := Option.some.inj H
                                  obtain ⟨Ao50, co50, eo50⟩ := Kd.R_slice HO_11.out
                                  subst eo50
                                  have p125 : 0 ≤ (t122 : Int) := of_decide_eq_true (by first | (with_reducible assumption) | assumption)
                                  have q125 : t122 < (x11_2.length : Int) := of_decide_eq_true (by first | (with_reducible assumption) | assumption)
                                  obtain ⟨ad125, e125, hx125_0⟩ := Kd.at_int (Kd.R_reads' HO_11.out).2.2 t122 p125 q125
                                  cases e125
                                  replace p125 := eq_true p125
                                  replace q125 := eq_true q125
                                  have p48 : 0 ≤ (t122 : Int) := of_decide_eq_true (by first | (with_reducible assumption) | assumption)
                                  have q48 : (t122 : Int) < ((x11_2.length : Int) : Int) := of_decide_eq_true (by first | (with_reducible assumption) | assumption)
                                  obtain ⟨go48, co48, eo48, gb48, gl48, cl48, HG48⟩ := Kd.R_form HO_11.out (by omega)
                                  (first | cases eo48 | (injection eo48 with ea_ en_ ec_; (first | subst ea_ | (injection ea_ with ea_; subst ea_)); subst ec_; clear en_))
                                  have GB48 := Aside0.mk gb48
                                  have GG48 := Aside0.mk HG48
                                  clear gb48 gl48 HG48
                                  (first | simp only [add_plain] at hx125_0 | skip)
                                  obtain ⟨hx48_0, hf48_0⟩ := Kd.R_celln 0 HO_11.out (t122 : Int) p48 q48
                                  replace p48 := eq_true p48
                                  replace q48 := eq_true q48
                                  have HP51 := Kd.R_putg HO_11.out (t122 : Int) (wrap64 ((rd x11_2 t122) + 1))
                                  go_wp2_with (first | ((with_reducible refine gate_store (t := 3) (p := 109) rfl ?_); (try (rw [drewN_self wc]; generalize hq_ : World.drewN wc _ = wc; have n0_ := Aside0.mk (Kd.R_at hq_ HO_4.out); have n1_ := Aside0.mk (Kd.R_at hq_ HO_7.out); have n2_ := Aside0.mk (Kd.R_at hq_ HO_9.out); have n3_ := Aside0.mk (Kd.R_at hq_ HO_11.out); have n4_ := Aside0.mk (below_at hq_ HB.out); clear hq_ HO_4 HO_7 HO_9 HO_11 HB; have HO_4 := n0_; have HO_7 := n1_; have HO_9 := n2_; have HO_11 := n3_; have HB := n4_; clear n0_ n1_ n2_ n3_ n4_; (try (have HP51 := Kd.R_putg HO_11.out (t122 : Int) (wrap64 ((rd x11_2 t122) + 1)))))); refine store_event (t := 3) (p := 109) (v := ?vo_w52) (w1 := (wc.setCell ⟨go48, (t122 : Int).toNat, none⟩ (.int .i64 (wrap64 ((rd x11_2 t122) + 1))))) ?hg ?ho ?hn ?hr ?_; (case ho => rfl); (case hg => rfl); (case hn => rfl); (case hr => first | (go_simp; done) | (go_simp; rfl)); intro w52 hw; have hg : wc.grownBy w52 (some go48) := (by rw [hw]; exact HP51.2); have hp_ : Kd.R (Kd.int .i64) 3 w52 w.heap.size (fun k_ => some k_ ≠ (.slice (some ad121) t109.length co31 : Value).ownBlock ∧ some k_ ≠ (v116 : Value).ownBlock) (.slice (some ⟨go48, 0, none⟩) x11_2.length co50) y126 := (by rw [hw, Ny126.out]; exact HP51.1); clear HP51; have n0_ := Aside0.mk (Kd.R_over' (v := (.slice (some ⟨go48, 0, none⟩) x11_2.length co50)) (by (with_reducible repeat (first | apply Kd.R_alloc | apply Kd.R_drewN | apply Kd.R_drew)); exact HO_4.out) (Kd.R_typed HO_11.out) (by decide) hg); have n1_ := Aside0.mk (Kd.R_after (v := (.slice (some ⟨go48, 0, none⟩) x11_2.length co50)) (v1 := (.slice (some ⟨go48, 0, none⟩) x11_2.length co50)) (ok := (fun k_ => some k_ ≠ (v116 : Value).ownBlock)) (by (with_reducible repeat (first | apply Kd.R_alloc | apply Kd.R_drewN | apply Kd.R_drew)); exact HO_7.out) hg (.inl rfl)); have n2_ := Aside0.mk (Kd.R_after (v := (.slice (some ⟨go48, 0, none⟩) x11_2.length co50)) (v1 := (.slice (some ⟨go48, 0, none⟩) x11_2.length co50)) (ok := (fun k_ => some k_ ≠ (.slice (some ad121) t109.length co31 : Value).ownBlock)) (by (with_reducible repeat (first | apply Kd.R_alloc | apply Kd.R_drewN | apply Kd.R_drew)); exact HO_9.out) hg (.inl rfl)); have n3_ := Aside0.mk (hp_); have n4_ := Aside0.mk ((by rw [hw]; exact below_set (HB.out) GB48.out : Below w.heap.size w w52)); clear HO_4; clear HO_7; clear HO_9; clear HO_11; clear HB; have HO_4 := n0_; have HO_7 := n1_; have HO_9 := n2_; have HO_11 := n3_; have HB := n4_; clear n0_ n1_ n2_ n3_ n4_; clear hg hw hp_; have p127 : 0 ≤ (t122 : Int) := of_decide_eq_true (by first | (with_reducible assumption) | assumption); have q127 : t122 < (y126.length : Int) := (by have h_ : (t122 : Int) < ((x11_2.length : Int) : Int) := of_decide_eq_true (by first | (with_reducible assumption) | assumption); first | (have e_ := (Kd.R_reads' HO_11.out).1; omega) | simpa only [Ny126.out, List.length_set] using h_); have ql127 : ((t122 : Int) < ((x11_2.length : Int) : Int)) = True := eq_true (of_decide_eq_true (by first | (with_reducible assumption) | assumption)); obtain ⟨ad127, e127, hx127_0⟩ := Kd.at_int (Kd.R_reads' HO_11.out).2.2 t122 p127 q127; obtain rfl : (⟨go48, 0, none⟩ : Addr) = ad127 := (by injection e127); (first | simp only [add_plain] at hx127_0 | simp only [add_at] at hx127_0 | simp only [Addr.add, Nat.zero_add] at hx127_0 | skip); replace p127 := eq_true p127; replace q127 := eq_true q127))
                                  repeat (go_quiet (first | ((with_reducible refine gate_store (t := 3) (p := 109) rfl ?_); (try (rw [drewN_self wc]; generalize hq_ : World.drewN wc _ = wc; have n0_ := Aside0.mk (Kd.R_at hq_ HO_4.out); have n1_ := Aside0.mk (Kd.R_at hq_ HO_7.out); have n2_ := Aside0.mk (Kd.R_at hq_ HO_9.out); have n3_ := Aside0.mk (Kd.R_at hq_ HO_11.out); have n4_ := Aside0.mk (below_at hq_ HB.out); clear hq_ HO_4 HO_7 HO_9 HO_11 HB; have HO_4 := n0_; have HO_7 := n1_; have HO_9 := n2_; have HO_11 := n3_; have HB := n4_; clear n0_ n1_ n2_ n3_ n4_; (try (have HP51 := Kd.R_putg HO_11.out (t122 : Int) (wrap64 ((rd x11_2 t122) + 1)))))); refine store_event (t := 3) (p := 109) (v := ?vo_w52) (w1 := (wc.setCell ⟨go48, (t122 : Int).toNat, none⟩ (.int .i64 (wrap64 ((rd x11_2 t122) + 1))))) ?hg ?ho ?hn ?hr ?_; (case ho => rfl); (case hg => rfl); (case hn => rfl); (case hr => first | (go_simp; done) | (go_simp; rfl)); intro w52 hw; have hg : wc.grownBy w52 (some go48) := (by rw [hw]; exact HP51.2); have hp_ : Kd.R (Kd.int .i64) 3 w52 w.heap.size (fun k_ => some k_ ≠ (.slice (some ad121) t109.length co31 : Value).ownBlock ∧ some k_ ≠ (v116 : Value).ownBlock) (.slice (some ⟨go48, 0, none⟩) x11_2.length co50) y126 := (by rw [hw, Ny126.out]; exact HP51.1); clear HP51; have n0_ := Aside0.mk (Kd.R_over' (v := (.slice (some ⟨go48, 0, none⟩) x11_2.length co50)) (by (with_reducible repeat (first | apply Kd.R_alloc | apply Kd.R_drewN | apply Kd.R_drew)); exact HO_4.out) (Kd.R_typed HO_11.out) (by decide) hg); have n1_ := Aside0.mk (Kd.R_after (v := (.slice (some ⟨go48, 0, none⟩) x11_2.length co50)) (v1 := (.slice (some ⟨go48, 0, none⟩) x11_2.length co50)) (ok := (fun k_ => some k_ ≠ (v116 : Value).ownBlock)) (by (with_reducible repeat (first | apply Kd.R_alloc | apply Kd.R_drewN | apply Kd.R_drew)); exact HO_7.out) hg (.inl rfl)); have n2_ := Aside0.mk (Kd.R_after (v := (.slice (some ⟨go48, 0, none⟩) x11_2.length co50)) (v1 := (.slice (some ⟨go48, 0, none⟩) x11_2.length co50)) (ok := (fun k_ => some k_ ≠ (.slice (some ad121) t109.length co31 : Value).ownBlock)) (by (with_reducible repeat (first | apply Kd.R_alloc | apply Kd.R_drewN | apply Kd.R_drew)); exact HO_9.out) hg (.inl rfl)); have n3_ := Aside0.mk (hp_); have n4_ := Aside0.mk ((by rw [hw]; exact below_set (HB.out) GB48.out : Below w.heap.size w w52)); clear HO_4; clear HO_7; clear HO_9; clear HO_11; clear HB; have HO_4 := n0_; have HO_7 := n1_; have HO_9 := n2_; have HO_11 := n3_; have HB := n4_; clear n0_ n1_ n2_ n3_ n4_; clear hg hw hp_; have p127 : 0 ≤ (t122 : Int) := of_decide_eq_true (by first | (with_reducible assumption) | assumption); have q127 : t122 < (y126.length : Int) := (by have h_ : (t122 : Int) < ((x11_2.length : Int) : Int) := of_decide_eq_true (by first | (with_reducible assumption) | assumption); first | (have e_ := (Kd.R_reads' HO_11.out).1; omega) | simpa only [Ny126.out, List.length_set] using h_); have ql127 : ((t122 : Int) < ((x11_2.length : Int) : Int)) = True := eq_true (of_decide_eq_true (by first | (with_reducible assumption) | assumption)); obtain ⟨ad127, e127, hx127_0⟩ := Kd.at_int (Kd.R_reads' HO_11.out).2.2 t122 p127 q127; obtain rfl : (⟨go48, 0, none⟩ : Addr) = ad127 := (by injection e127); (first | simp only [add_plain] at hx127_0 | simp only [add_at] at hx127_0 | simp only [Addr.add, Nat.zero_add] at hx127_0 | skip); replace p127 := eq_true p127; replace q127 := eq_true q127)); try go_wp2_with (first | ((with_reducible refine gate_store (t := 3) (p := 109) rfl ?_); (try (rw [drewN_self wc]; generalize hq_ : World.drewN wc _ = wc; have n0_ := Aside0.mk (Kd.R_at hq_ HO_4.out); have n1_ := Aside0.mk (Kd.R_at hq_ HO_7.out); have n2_ := Aside0.mk (Kd.R_at hq_ HO_9.out); have n3_ := Aside0.mk (Kd.R_at hq_ HO_11.out); have n4_ := Aside0.mk (below_at hq_ HB.out); clear hq_ HO_4 HO_7 HO_9 HO_11 HB; have HO_4 := n0_; have HO_7 := n1_; have HO_9 := n2_; have HO_11 := n3_; have HB := n4_; clear n0_ n1_ n2_ n3_ n4_; (try (have HP51 := Kd.R_putg HO_11.out (t122 : Int) (wrap64 ((rd x11_2 t122) + 1)))))); refine store_event (t := 3) (p := 109) (v := ?vo_w52) (w1 := (wc.setCell ⟨go48, (t122 : Int).toNat, none⟩ (.int .i64 (wrap64 ((rd x11_2 t122) + 1))))) ?hg ?ho ?hn ?hr ?_; (case ho => rfl); (case hg => rfl); (case hn => rfl); (case hr => first | (go_simp; done) | (go_simp; rfl)); intro w52 hw; have hg : wc.grownBy w52 (some go48) := (by rw [hw]; exact HP51.2); have hp_ : Kd.R (Kd.int .i64) 3 w52 w.heap.size (fun k_ => some k_ ≠ (.slice (some ad121) t109.length co31 : Value).ownBlock ∧ some k_ ≠ (v116 : Value).ownBlock) (.slice (some ⟨go48, 0, none⟩) x11_2.length co50) y126 := (by rw [hw, Ny126.out]; exact HP51.1); clear HP51; have n0_ := Aside0.mk (Kd.R_over' (v := (.slice (some ⟨go48, 0, none⟩) x11_2.length co50)) (by (with_reducible repeat (first | apply Kd.R_alloc | apply Kd.R_drewN | apply Kd.R_drew)); exact HO_4.out) (Kd.R_typed HO_11.out) (by decide) hg); have n1_ := Aside0.mk (Kd.R_after (v := (.slice (some ⟨go48, 0, none⟩) x11_2.length co50)) (v1 := (.slice (some ⟨go48, 0, none⟩) x11_2.length co50)) (ok := (fun k_ => some k_ ≠ (v116 : Value).ownBlock)) (by (with_reducible repeat (first | apply Kd.R_alloc | apply Kd.R_drewN | apply Kd.R_drew)); exact HO_7.out) hg (.inl rfl)); have n2_ := Aside0.mk (Kd.R_after (v := (.slice (some ⟨go48, 0, none⟩) x11_2.length co50)) (v1 := (.slice (some ⟨go48, 0, none⟩) x11_2.length co50)) (ok := (fun k_ => some k_ ≠ (.slice (some ad121) t109.length co31 : Value).ownBlock)) (by (with_reducible repeat (first | apply Kd.R_alloc | apply Kd.R_drewN | apply Kd.R_drew)); exact HO_9.out) hg (.inl rfl)); have n3_ := Aside0.mk (hp_); have n4_ := Aside0.mk ((by rw [hw]; exact below_set (HB.out) GB48.out : Below w.heap.size w w52)); clear HO_4; clear HO_7; clear HO_9; clear HO_11; clear HB; have HO_4 := n0_; have HO_7 := n1_; have HO_9 := n2_; have HO_11 := n3_; have HB := n4_; clear n0_ n1_ n2_ n3_ n4_; clear hg hw hp_; have p127 : 0 ≤ (t122 : Int) := of_decide_eq_true (by first | (with_reducible assumption) | assumption); have q127 : t122 < (y126.length : Int) := (by have h_ : (t122 : Int) < ((x11_2.length : Int) : Int) := of_decide_eq_true (by first | (with_reducible assumption) | assumption); first | (have e_ := (Kd.R_reads' HO_11.out).1; omega) | simpa only [Ny126.out, List.length_set] using h_); have ql127 : ((t122 : Int) < ((x11_2.length : Int) : Int)) = True := eq_true (of_decide_eq_true (by first | (with_reducible assumption) | assumption)); obtain ⟨ad127, e127, hx127_0⟩ := Kd.at_int (Kd.R_reads' HO_11.out).2.2 t122 p127 q127; obtain rfl : (⟨go48, 0, none⟩ : Addr) = ad127 := (by injection e127); (first | simp only [add_plain] at hx127_0 | simp only [add_at] at hx127_0 | simp only [Addr.add, Nat.zero_add] at hx127_0 | skip); replace p127 := eq_true p127; replace q127 := eq_true q127)))
                                  go_ret
                                  exact ⟨by first | rfl | (simp [errW_none, errW_some] <;> rfl) | (simp [*, errW_none, errW_some] <;> rfl), by repeat (first | (with_reducible first | exact HB.out | apply below_alloc | apply pw_below_drewN | apply below_drew1) | exact HB.out)⟩
                                · rw [if_neg c49] at H
                                  have c49b0 : decide (3 < (rd y126 t122)) = false := decide_eq_false c49
                                  clear c49
                                  have H' := Aside0.mk H
                                  clear H
                                  obtain ⟨Ao53, co53, eo53⟩ := Kd.R_slice HO_11.out
                                  subst eo53
                                  have p125 : 0 ≤ (t122 : Int) := of_decide_eq_true (by first | (with_reducible assumption) | assumption)
                                  have q125 : t122 < (x11_2.length : Int) := of_decide_eq_true (by first | (with_reducible assumption) | assumption)
                                  obtain ⟨ad125, e125, hx125_0⟩ := Kd.at_int (Kd.R_reads' HO_11.out).2.2 t122 p125 q125
                                  cases e125
                                  replace p125 := eq_true p125
                                  replace q125 := eq_true q125
                                  have p48 : 0 ≤ (t122 : Int) := of_decide_eq_true (by first | (with_reducible assumption) | assumption)
                                  have q48 : (t122 : Int) < ((x11_2.length : Int) : Int) := of_decide_eq_true (by first | (with_reducible assumption) | assumption)
                                  obtain ⟨go48, co48, eo48, gb48, gl48, cl48, HG48⟩ := Kd.R_form HO_11.out (by omega)
                                  (first | cases eo48 | (injection eo48 with ea_ en_ ec_; (first | subst ea_ | (injection ea_ with ea_; subst ea_)); subst ec_; clear en_))
                                  have GB48 := Aside0.mk gb48
                                  have GG48 := Aside0.mk HG48
                                  clear gb48 gl48 HG48
                                  (first | simp only [add_plain] at hx125_0 | skip)
                                  obtain ⟨hx48_0, hf48_0⟩ := Kd.R_celln 0 HO_11.out (t122 : Int) p48 q48
                                  replace p48 := eq_true p48
                                  replace q48 := eq_true q48
                                  have HP54 := Kd.R_putg HO_11.out (t122 : Int) (wrap64 ((rd x11_2 t122) + 1))
                                  go_wp2_with (first | ((with_reducible refine gate_store (t := 3) (p := 109) rfl ?_); (try (rw [drewN_self wc]; generalize hq_ : World.drewN wc _ = wc; have n0_ := Aside0.mk (Kd.R_at hq_ HO_4.out); have n1_ := Aside0.mk (Kd.R_at hq_ HO_7.out); have n2_ := Aside0.mk (Kd.R_at hq_ HO_9.out); have n3_ := Aside0.mk (Kd.R_at hq_ HO_11.out); have n4_ := Aside0.mk (below_at hq_ HB.out); clear hq_ HO_4 HO_7 HO_9 HO_11 HB; have HO_4 := n0_; have HO_7 := n1_; have HO_9 := n2_; have HO_11 := n3_; have HB := n4_; clear n0_ n1_ n2_ n3_ n4_; (try (have HP54 := Kd.R_putg HO_11.out (t122 : Int) (wrap64 ((rd x11_2 t122) + 1)))))); refine store_event (t := 3) (p := 109) (v := ?vo_w55) (w1 := (wc.setCell ⟨go48, (t122 : Int).toNat, none⟩ (.int .i64 (wrap64 ((rd x11_2 t122) + 1))))) ?hg ?ho ?hn ?hr ?_; (case ho => rfl); (case hg => rfl); (case hn => rfl); (case hr => first | (go_simp; done) | (go_simp; rfl)); intro w55 hw; have hg : wc.grownBy w55 (some go48) := (by rw [hw]; exact HP54.2); have hp_ : Kd.R (Kd.int .i64) 3 w55 w.heap.size (fun k_ => some k_ ≠ (.slice (some ad121) t109.length co31 : Value).ownBlock ∧ some k_ ≠ (v116 : Value).ownBlock) (.slice (some ⟨go48, 0, none⟩) x11_2.length co53) y126 := (by rw [hw, Ny126.out]; exact HP54.1); clear HP54; have n0_ := Aside0.mk (Kd.R_over' (v := (.slice (some ⟨go48, 0, none⟩) x11_2.length co53)) (by (with_reducible repeat (first | apply Kd.R_alloc | apply Kd.R_drewN | apply Kd.R_drew)); exact HO_4.out) (Kd.R_typed HO_11.out) (by decide) hg); have n1_ := Aside0.mk (Kd.R_after (v := (.slice (some ⟨go48, 0, none⟩) x11_2.length co53)) (v1 := (.slice (some ⟨go48, 0, none⟩) x11_2.length co53)) (ok := (fun k_ => some k_ ≠ (v116 : Value).ownBlock)) (by (with_reducible repeat (first | apply Kd.R_alloc | apply Kd.R_drewN | apply Kd.R_drew)); exact HO_7.out) hg (.inl rfl)); have n2_ := Aside0.mk (Kd.R_after (v := (.slice (some ⟨go48, 0, none⟩) x11_2.length co53)) (v1 := (.slice (some ⟨go48, 0, none⟩) x11_2.length co53)) (ok := (fun k_ => some k_ ≠ (.slice (some ad121) t109.length co31 : Value).ownBlock)) (by (with_reducible repeat (first | apply Kd.R_alloc | apply Kd.R_drewN | apply Kd.R_drew)); exact HO_9.out) hg (.inl rfl)); have n3_ := Aside0.mk (hp_); have n4_ := Aside0.mk ((by rw [hw]; exact below_set (HB.out) GB48.out : Below w.heap.size w w55)); clear HO_4; clear HO_7; clear HO_9; clear HO_11; clear HB; have HO_4 := n0_; have HO_7 := n1_; have HO_9 := n2_; have HO_11 := n3_; have HB := n4_; clear n0_ n1_ n2_ n3_ n4_; clear hg hw hp_; have p127 : 0 ≤ (t122 : Int) := of_decide_eq_true (by first | (with_reducible assumption) | assumption); have q127 : t122 < (y126.length : Int) := (by have h_ : (t122 : Int) < ((x11_2.length : Int) : Int) := of_decide_eq_true (by first | (with_reducible assumption) | assumption); first | (have e_ := (Kd.R_reads' HO_11.out).1; omega) | simpa only [Ny126.out, List.length_set] using h_); have ql127 : ((t122 : Int) < ((x11_2.length : Int) : Int)) = True := eq_true (of_decide_eq_true (by first | (with_reducible assumption) | assumption)); obtain ⟨ad127, e127, hx127_0⟩ := Kd.at_int (Kd.R_reads' HO_11.out).2.2 t122 p127 q127; obtain rfl : (⟨go48, 0, none⟩ : Addr) = ad127 := (by injection e127); (first | simp only [add_plain] at hx127_0 | simp only [add_at] at hx127_0 | simp only [Addr.add, Nat.zero_add] at hx127_0 | skip); replace p127 := eq_true p127; replace q127 := eq_true q127))
                                  repeat (go_quiet (first | ((with_reducible refine gate_store (t := 3) (p := 109) rfl ?_); (try (rw [drewN_self wc]; generalize hq_ : World.drewN wc _ = wc; have n0_ := Aside0.mk (Kd.R_at hq_ HO_4.out); have n1_ := Aside0.mk (Kd.R_at hq_ HO_7.out); have n2_ := Aside0.mk (Kd.R_at hq_ HO_9.out); have n3_ := Aside0.mk (Kd.R_at hq_ HO_11.out); have n4_ := Aside0.mk (below_at hq_ HB.out); clear hq_ HO_4 HO_7 HO_9 HO_11 HB; have HO_4 := n0_; have HO_7 := n1_; have HO_9 := n2_; have HO_11 := n3_; have HB := n4_; clear n0_ n1_ n2_ n3_ n4_; (try (have HP54 := Kd.R_putg HO_11.out (t122 : Int) (wrap64 ((rd x11_2 t122) + 1)))))); refine store_event (t := 3) (p := 109) (v := ?vo_w55) (w1 := (wc.setCell ⟨go48, (t122 : Int).toNat, none⟩ (.int .i64 (wrap64 ((rd x11_2 t122) + 1))))) ?hg ?ho ?hn ?hr ?_; (case ho => rfl); (case hg => rfl); (case hn => rfl); (case hr => first | (go_simp; done) | (go_simp; rfl)); intro w55 hw; have hg : wc.grownBy w55 (some go48) := (by rw [hw]; exact HP54.2); have hp_ : Kd.R (Kd.int .i64) 3 w55 w.heap.size (fun k_ => some k_ ≠ (.slice (some ad121) t109.length co31 : Value).ownBlock ∧ some k_ ≠ (v116 : Value).ownBlock) (.slice (some ⟨go48, 0, none⟩) x11_2.length co53) y126 := (by rw [hw, Ny126.out]; exact HP54.1); clear HP54; have n0_ := Aside0.mk (Kd.R_over' (v := (.slice (some ⟨go48, 0, none⟩) x11_2.length co53)) (by (with_reducible repeat (first | apply Kd.R_alloc | apply Kd.R_drewN | apply Kd.R_drew)); exact HO_4.out) (Kd.R_typed HO_11.out) (by decide) hg); have n1_ := Aside0.mk (Kd.R_after (v := (.slice (some ⟨go48, 0, none⟩) x11_2.length co53)) (v1 := (.slice (some ⟨go48, 0, none⟩) x11_2.length co53)) (ok := (fun k_ => some k_ ≠ (v116 : Value).ownBlock)) (by (with_reducible repeat (first | apply Kd.R_alloc | apply Kd.R_drewN | apply Kd.R_drew)); exact HO_7.out) hg (.inl rfl)); have n2_ := Aside0.mk (Kd.R_after (v := (.slice (some ⟨go48, 0, none⟩) x11_2.length co53)) (v1 := (.slice (some ⟨go48, 0, none⟩) x11_2.length co53)) (ok := (fun k_ => some k_ ≠ (.slice (some ad121) t109.length co31 : Value).ownBlock)) (by (with_reducible repeat (first | apply Kd.R_alloc | apply Kd.R_drewN | apply Kd.R_drew)); exact HO_9.out) hg (.inl rfl)); have n3_ := Aside0.mk (hp_); have n4_ := Aside0.mk ((by rw [hw]; exact below_set (HB.out) GB48.out : Below w.heap.size w w55)); clear HO_4; clear HO_7; clear HO_9; clear HO_11; clear HB; have HO_4 := n0_; have HO_7 := n1_; have HO_9 := n2_; have HO_11 := n3_; have HB := n4_; clear n0_ n1_ n2_ n3_ n4_; clear hg hw hp_; have p127 : 0 ≤ (t122 : Int) := of_decide_eq_true (by first | (with_reducible assumption) | assumption); have q127 : t122 < (y126.length : Int) := (by have h_ : (t122 : Int) < ((x11_2.length : Int) : Int) := of_decide_eq_true (by first | (with_reducible assumption) | assumption); first | (have e_ := (Kd.R_reads' HO_11.out).1; omega) | simpa only [Ny126.out, List.length_set] using h_); have ql127 : ((t122 : Int) < ((x11_2.length : Int) : Int)) = True := eq_true (of_decide_eq_true (by first | (with_reducible assumption) | assumption)); obtain ⟨ad127, e127, hx127_0⟩ := Kd.at_int (Kd.R_reads' HO_11.out).2.2 t122 p127 q127; obtain rfl : (⟨go48, 0, none⟩ : Addr) = ad127 := (by injection e127); (first | simp only [add_plain] at hx127_0 | simp only [add_at] at hx127_0 | simp only [Addr.add, Nat.zero_add] at hx127_0 | skip); replace p127 := eq_true p127; replace q127 := eq_true q127)); try go_wp2_with (first | ((with_reducible refine gate_store (t := 3) (p := 109) rfl ?_); (try (rw [drewN_self wc]; generalize hq_ : World.drewN wc _ = wc; have n0_ := Aside0.mk (Kd.R_at hq_ HO_4.out); have n1_ := Aside0.mk (Kd.R_at hq_ HO_7.out); have n2_ := Aside0.mk (Kd.R_at hq_ HO_9.out); have n3_ := Aside0.mk (Kd.R_at hq_ HO_11.out); have n4_ := Aside0.mk (below_at hq_ HB.out); clear hq_ HO_4 HO_7 HO_9 HO_11 HB; have HO_4 := n0_; have HO_7 := n1_; have HO_9 := n2_; have HO_11 := n3_; have HB := n4_; clear n0_ n1_ n2_ n3_ n4_; (try (have HP54 := Kd.R_putg HO_11.out (t122 : Int) (wrap64 ((rd x11_2 t122) + 1)))))); refine store_event (t := 3) (p := 109) (v := ?vo_w55) (w1 := (wc.setCell ⟨go48, (t122 : Int).toNat, none⟩ (.int .i64 (wrap64 ((rd x11_2 t122) + 1))))) ?hg ?ho ?hn ?hr ?_; (case ho => rfl); (case hg => rfl); (case hn => rfl); (case hr => first | (go_simp; done) | (go_simp; rfl)); intro w55 hw; have hg : wc.grownBy w55 (some go48) := (by rw [hw]; exact HP54.2); have hp_ : Kd.R (Kd.int .i64) 3 w55 w.heap.size (fun k_ => some k_ ≠ (.slice (some ad121) t109.length co31 : Value).ownBlock ∧ some k_ ≠ (v116 : Value).ownBlock) (.slice (some ⟨go48, 0, none⟩) x11_2.length co53) y126 := (by rw [hw, Ny126.out]; exact HP54.1); clear HP54; have n0_ := Aside0.mk (Kd.R_over' (v := (.slice (some ⟨go48, 0, none⟩) x11_2.length co53)) (by (with_reducible repeat (first | apply Kd.R_alloc | apply Kd.R_drewN | apply Kd.R_drew)); exact HO_4.out) (Kd.R_typed HO_11.out) (by decide) hg); have n1_ := Aside0.mk (Kd.R_after (v := (.slice (some ⟨go48, 0, none⟩) x11_2.length co53)) (v1 := (.slice (some ⟨go48, 0, none⟩) x11_2.length co53)) (ok := (fun k_ => some k_ ≠ (v116 : Value).ownBlock)) (by (with_reducible repeat (first | apply Kd.R_alloc | apply Kd.R_drewN | apply Kd.R_drew)); exact HO_7.out) hg (.inl rfl)); have n2_ := Aside0.mk (Kd.R_after (v := (.slice (some ⟨go48, 0, none⟩) x11_2.length co53)) (v1 := (.slice (some ⟨go48, 0, none⟩) x11_2.length co53)) (ok := (fun k_ => some k_ ≠ (.slice (some ad121) t109.length co31 : Value).ownBlock)) (by (with_reducible repeat (first | apply Kd.R_alloc | apply Kd.R_drewN | apply Kd.R_drew)); exact HO_9.out) hg (.inl rfl)); have n3_ := Aside0.mk (hp_); have n4_ := Aside0.mk ((by rw [hw]; exact below_set (HB.out) GB48.out : Below w.heap.size w w55)); clear HO_4; clear HO_7; clear HO_9; clear HO_11; clear HB; have HO_4 := n0_; have HO_7 := n1_; have HO_9 := n2_; have HO_11 := n3_; have HB := n4_; clear n0_ n1_ n2_ n3_ n4_; clear hg hw hp_; have p127 : 0 ≤ (t122 : Int) := of_decide_eq_true (by first | (with_reducible assumption) | assumption); have q127 : t122 < (y126.length : Int) := (by have h_ : (t122 : Int) < ((x11_2.length : Int) : Int) := of_decide_eq_true (by first | (with_reducible assumption) | assumption); first | (have e_ := (Kd.R_reads' HO_11.out).1; omega) | simpa only [Ny126.out, List.length_set] using h_); have ql127 : ((t122 : Int) < ((x11_2.length : Int) : Int)) = True := eq_true (of_decide_eq_true (by first | (with_reducible assumption) | assumption)); obtain ⟨ad127, e127, hx127_0⟩ := Kd.at_int (Kd.R_reads' HO_11.out).2.2 t122 p127 q127; obtain rfl : (⟨go48, 0, none⟩ : Addr) = ad127 := (by injection e127); (first | simp only [add_plain] at hx127_0 | simp only [add_at] at hx127_0 | simp only [Addr.add, Nat.zero_add] at hx127_0 | skip); replace p127 := eq_true p127; replace q127 := eq_true q127)))
                                  go_roundg kj40
                                  case measure => have := HJ5.out; have := HK2.out; have := HJ29.out; have := HJ40.out; omega
                                  case rel => exact ⟨(x14_29), (y126), (wrap64 (x12_2 + 1)), (by first | rfl | (simp; done) | (simp [*]; done)), (by first | rfl | (simp; done) | (simp [*]; done)), H', ⟨by have := HJ5.out; have := HK2.out; have := HJ29.out; have := HJ40.out; omega⟩, ⟨by (with_reducible repeat (first | apply Kd.R_alloc | apply Kd.R_drewN | apply Kd.R_drew)); exact HO_4.out⟩, ⟨by (with_reducible repeat (first | apply Kd.R_alloc | apply Kd.R_drewN | apply Kd.R_drew)); exact HO_7.out⟩, ⟨by (with_reducible repeat (first | apply Kd.R_alloc | apply Kd.R_drewN | apply Kd.R_drew)); exact HO_9.out⟩, ⟨by (with_reducible repeat (first | apply Kd.R_alloc | apply Kd.R_drewN | apply Kd.R_drew)); exact HO_11.out⟩, ⟨by repeat (first | (with_reducible first | exact HB.out | apply below_alloc | apply pw_below_drewN | apply below_drew1) | exact HB.out)⟩⟩
                              · rw [if_neg c47] at H
                                exact absurd H (by simp)
                            · rw [if_neg c46] at H
                              exact absurd H (by simp)
                · rw [if_neg c28] at H
                  exact absurd H (by simp)
              · rw [if_neg c27] at H
                have c27b0 : decide (x12_2 < (t109.length : Int)) = false := decide_eq_false c27
                clear c27
                obtain rfl := Option.some.inj H
                obtain ⟨Ao56, co56, eo56⟩ := Kd.R_slice HO_7.out
                subst eo56
                go_wp2
                repeat (go_quiet (fail); try go_wp2)
                go_ret
                exact ⟨by first | rfl | (simp [errW_none, errW_some] <;> rfl) | (simp [*, errW_none, errW_some] <;> rfl), by repeat (first | (with_reducible first | exact HB.out | apply below_alloc | apply pw_below_drewN | apply below_drew1) | exact HB.out)⟩
def laws_FnPlace.Pure : Prop := ∀ (l0 : List Int), l0.length ≤ maxLen → l0.length * 1 ≤ 140737488351232 → (∀ x ∈ l0, (Lit.int .u8 x).wf = true) → ∃ k, laws_FnPlace.f k l0 = some true
theorem laws_FnPlace.walk (P : laws_FnPlace.Pure) (a0 : Option Addr) (len0 cap0 : Nat) (z0 : List Int) (w : World) (w0 : (a0 = none ∧ len0 = 0 ∧ cap0 = 0 ∧ z0 = []) ∨ ∃ x, a0 = some x ∧ len0 ≤ cap0 ∧ cap0 ≤ maxLen ∧ z0.length = cap0 ∧ (∀ i, i < z0.length → w.cell? (x.add i) = some (.int .u8 (z0.getD i 0))) ∧ ∀ n ∈ z0, (Lit.int .u8 n).wf = true) (y0 : len0 * 1 ≤ 140737488351232) :
    Calls Try.prog 5 #[.slice a0 len0 cap0] w fun e w' => e = .returned (.bool true) ∧ Below w.heap.size w w' := by
  obtain ⟨l0, rfl, hr0, hm0, hw0, hc0⟩ := ReadsInt.ofRowC w0
  obtain ⟨k, h⟩ := P l0 hm0 y0 hw0
  refine (laws_FnPlace.calls k _ _ l0 true w (Kd.C_of_reads (d := (0 : Int)) (h1 := fun _ => rfl) hr0) hc0 h).mono ?_
  rintro e w' ⟨rfl, hd⟩
  exact ⟨rfl, hd⟩
end Go.Proofs.Ytmipjlbkcfpkiaa.K
end
section
namespace Go.Proofs.Ytmipjlbkcfpkiaa.K
set_option linter.unusedVariables false
set_option linter.unusedSimpArgs false
open Go.RowKit Go.Proofs.YtmipjlbkcfpkiaaW.PrintWords Go.Proofs.YtmipjlbkcfpkiaaW.PrintLast Go.Proofs.YtmipjlbkcfpkiaaW.PrintMore
open Go.Sort (PermIn SortedIn SWO)
open Go.Proofs (ltOf)
theorem w64h {x : Int} (h1 : -9223372036854775808 ≤ x) (h2 : x < 9223372036854775808) : wrap64 x = x := by unfold wrap64; omega
theorem hv_pos {α : Type} {c : Prop} [Decidable c] {f g : Nat → Option α} {r : α} (h : c) (k : Ev f r) : Ev (fun n => if c then f n else g n) r := Ev.congr (fun _ => if_pos h) k
theorem hv_neg {α : Type} {c : Prop} [Decidable c] {f g : Nat → Option α} {r : α} (h : ¬ c) (k : Ev g r) : Ev (fun n => if c then f n else g n) r := Ev.congr (fun _ => if_neg h) k
theorem hv_call {α β : Type} {g : Option α} {f : Nat → α → Option β} {a : α} {r : β} (h : g = some a) (k : Ev (fun n => f n a) r) : Ev (fun n => g.bind (f n)) r := Ev.congr (fun n => by rw [h]; rfl) k
theorem hv_eq {α : Type} {g : Nat → Option α} {r r' : α} (h : Ev g r) (e : r = r') : Ev g r' := e ▸ h
theorem xor_nn_h (a b : Int) (h1 : 0 ≤ a) (h2 : a < 9223372036854775808) (h3 : 0 ≤ b) (h4 : b < 9223372036854775808) : 0 ≤ Go.bits .xor .i64 a b := by
  obtain ⟨a, rfl⟩ := Int.eq_ofNat_of_zero_le h1
  obtain ⟨b, rfl⟩ := Int.eq_ofNat_of_zero_le h3
  have hx : a ^^^ b < 2 ^ 63 := Nat.xor_lt_two_pow (by omega) (by omega)
  have e1 : (BitVec.ofInt 64 (a : Int)).toNat = a := by
    rw [BitVec.ofInt_natCast, BitVec.toNat_ofNat]; exact Nat.mod_eq_of_lt (by omega)
  have e2 : (BitVec.ofInt 64 (b : Int)).toNat = b := by
    rw [BitVec.ofInt_natCast, BitVec.toNat_ofNat]; exact Nat.mod_eq_of_lt (by omega)
  show 0 ≤ IntKind.i64.wrap ((BitVec.ofInt 64 (a : Int) ^^^ BitVec.ofInt 64 (b : Int)).toNat : Int)
  rw [BitVec.toNat_xor, e1, e2]
  simp [IntKind.wrap, IntKind.bits, IntKind.signed]
  omega
theorem rd_byte_h (l : List Int) (hb : ∀ x ∈ l, 0 ≤ x ∧ x ≤ 255) (i : Int) : 0 ≤ rd l i ∧ rd l i ≤ 255 := by
  unfold rd
  by_cases h : i.toNat < l.length
  · rw [show l.getD i.toNat 0 = l[i.toNat] by simp [h]]; exact hb _ (List.getElem_mem h)
  · rw [show l.getD i.toNat 0 = 0 by simp [show l.length ≤ i.toNat by omega]]; omega
theorem tmod_in_h {a b : Int} (h : 0 ≤ a) (hb : 0 < b) : 0 ≤ Int.tmod a b ∧ Int.tmod a b < b :=
  ⟨Int.tmod_nonneg _ h, Int.tmod_lt_of_pos _ hb⟩
theorem pick_some_h (l : List Int) (hl : l.length ≤ 2000) (hb : ∀ x ∈ l, 0 ≤ x ∧ x ≤ 255) (p n : Int) (hp : 0 ≤ p) (hp2 : p ≤ 1000000000) (hn : 1 ≤ n) (hn2 : n ≤ 1000000) (k : Nat) (hk : 1 ≤ k) :
    ∃ v, spec_l6Rd_pick.f k l p n = some (v, p + 1) ∧ 0 ≤ v ∧ v < n := by
  obtain ⟨k, rfl⟩ : ∃ m, k = m + 1 := ⟨k - 1, by omega⟩
  have ep : wrap64 (p + 1) = p + 1 := w64h (by omega) (by omega)
  have eq : wrap64 (p + 1 - 1) = p := by rw [show p + 1 - 1 = p by omega]; exact w64h (by omega) (by omega)
  unfold spec_l6Rd_pick.f
  rw [if_neg (by omega), ep]
  simp only [spec_l6Rd_pick.j0, eq]
  by_cases hz : l.length = 0
  · exact ⟨0, by simp [hz], by omega, by omega⟩
  · have hz' : ((l.length : Int) == 0) = false := by rw [beq_eq_false_iff_ne]; omega
    rw [hz', if_neg (by simp)]
    by_cases hlt : p < (l.length : Int)
    · rw [if_pos hlt, if_pos hp, if_neg (by omega)]
      have hr := rd_byte_h l hb p
      rw [w64h (x := rd l p) (by omega) (by omega)]
      have ht := tmod_in_h (a := rd l p) (b := n) (by omega) (by omega)
      exact ⟨_, rfl, ht.1, ht.2⟩
    · have e7 : wrap64 (p * 7) = p * 7 := w64h (by omega) (by omega)
      have e73 : wrap64 (p * 7 + 3) = p * 7 + 3 := w64h (by omega) (by omega)
      have t1 := tmod_in_h (a := p) (b := (l.length : Int)) hp (by omega)
      have t2 := tmod_in_h (a := p * 7 + 3) (b := (l.length : Int)) (by omega) (by omega)
      rw [if_neg hlt, if_neg (by omega), if_pos t1.1, if_pos t1.2, e7, e73, if_pos t2.1, if_pos t2.2, if_neg (by omega)]
      have r1 := rd_byte_h l hb (Int.tmod p l.length)
      have r2 := rd_byte_h l hb (Int.tmod (p * 7 + 3) l.length)
      have q1 : 0 ≤ Int.tdiv p l.length := Int.tdiv_nonneg hp (by omega)
      have q2 : Int.tdiv p l.length ≤ p := by
        rw [Int.tdiv_eq_ediv_of_nonneg hp]
        exact Int.ediv_le_self _ hp
      generalize rd l (Int.tmod p l.length) = a at *
      generalize rd l (Int.tmod (p * 7 + 3) l.length) = b at *
      generalize Int.tdiv p l.length = q at *
      have hX : wrap64 ((wrap64 ((wrap64 ((wrap64 ((wrap64 a) * 131)) + (wrap64 ((wrap64 b) * 1117)))) + (wrap64 (p * 29)))) + (wrap64 ((wrap64 q) * 53))) = a * 131 + b * 1117 + p * 29 + q * 53 := by
        rw [w64h (x := a) (by omega) (by omega), w64h (x := b) (by omega) (by omega), w64h (x := q) (by omega) (by omega)]
        rw [w64h (x := a * 131) (by omega) (by omega), w64h (x := b * 1117) (by omega) (by omega), w64h (x := p * 29) (by omega) (by omega), w64h (x := q * 53) (by omega) (by omega)]
        rw [w64h (x := a * 131 + b * 1117) (by omega) (by omega), w64h (x := a * 131 + b * 1117 + p * 29) (by omega) (by omega)]
        exact w64h (by omega) (by omega)
      rw [hX]
      have hX0 : 0 ≤ a * 131 + b * 1117 + p * 29 + q * 53 := by omega
      have hX1 : a * 131 + b * 1117 + p * 29 + q * 53 ≤ 100000000000 := by omega
      generalize a * 131 + b * 1117 + p * 29 + q * 53 = X at *
      have d0 : 0 ≤ Int.tdiv X 64 := Int.tdiv_nonneg hX0 (by omega)
      have d1 : Int.tdiv X 64 ≤ X := by
        rw [Int.tdiv_eq_ediv_of_nonneg hX0]
        exact Int.ediv_le_self _ hX0
      rw [w64h (x := Int.tdiv X 64) (by omega) (by omega)]
      have hx := xor_nn_h X (Int.tdiv X 64) hX0 (by omega) d0 (by omega)
      have ht := tmod_in_h (a := Go.bits .xor .i64 X (Int.tdiv X 64)) (b := n) hx (by omega)
      exact ⟨_, rfl, ht.1, ht.2⟩
theorem open_some_h (l : List Int) (hb : ∀ x ∈ l, (Lit.int .u8 x).wf = true) : ∃ l', spec_l6Open.f l = some (l', 0) ∧ l'.length ≤ 2000 ∧ ∀ x ∈ l', 0 ≤ x ∧ x ≤ 255 := by
  have hb' : ∀ x ∈ l, 0 ≤ x ∧ x ≤ 255 := fun x hx => by
    have := hb x hx
    simp [Lit.wf, IntKind.min, IntKind.max, IntKind.signed, IntKind.bits] at this
    omega
  unfold spec_l6Open.f
  by_cases h : (l.length : Int) > 2000
  · rw [if_pos h, if_pos (by omega)]
    exact ⟨_, rfl, by rw [List.length_take]; omega, fun x hx => hb' x (List.mem_of_mem_take hx)⟩
  · rw [if_neg h]
    exact ⟨_, rfl, by omega, hb'⟩
def vH (x : S42) : Bool := decide (1 ≤ x.f0) && decide (x.f0 ≤ 12) && (decide (1 ≤ x.f1) && decide (x.f1 ≤ 4)) && (decide (1 ≤ x.f2) && decide (x.f2 ≤ 9))
def okFrom : Int → List S42 → Bool
  | _, [] => true
  | p, x :: r => vH x && decide (p < x.f0) && okFrom x.f0 r
def okH (l : List S42) : Bool := okFrom 0 l
theorem specIn_h (a b c : Int) : spec_l6In.f a b c = some (decide (b ≤ a) && decide (a ≤ c)) := by
  unfold spec_l6In.f
  by_cases h : b ≤ a
  · rw [if_pos h]; simp [h]
  · rw [if_neg h]; simp [h]
theorem within_h (a b c : Int) : impl_within.f a b c = some (decide (b ≤ a) && decide (a ≤ c)) := by
  unfold impl_within.f
  by_cases h : b ≤ a
  · rw [if_pos h]; simp [h]
  · rw [if_neg h]; simp [h]
theorem specHouse_h (x : S42) : spec_l31House.f x.f0 x.f1 x.f2 = some (vH x) := by
  unfold spec_l31House.f vH
  simp only [specIn_h, Option.bind_some]
  by_cases h1 : (decide (1 ≤ x.f0) && decide (x.f0 ≤ 12)) = true
  · rw [if_pos h1, h1]
    by_cases h2 : (decide (1 ≤ x.f1) && decide (x.f1 ≤ 4)) = true
    · rw [if_pos h2, h2]; rfl
    · rw [if_neg h2, Bool.eq_false_iff.mpr h2]; rfl
  · rw [if_neg h1, Bool.eq_false_iff.mpr h1]; rfl
theorem implHouse_h (x : S42) : impl_House_valid.f x.f0 x.f1 x.f2 = some (vH x) := by
  unfold impl_House_valid.f vH
  simp only [within_h, Option.bind_some]
  by_cases h1 : (decide (1 ≤ x.f0) && decide (x.f0 ≤ 12)) = true
  · rw [if_pos h1, h1]
    by_cases h2 : (decide (1 ≤ x.f1) && decide (x.f1 ≤ 4)) = true
    · rw [if_pos h2, h2]; rfl
    · rw [if_neg h2, Bool.eq_false_iff.mpr h2]; rfl
  · rw [if_neg h1, Bool.eq_false_iff.mpr h1]; rfl
theorem rdH_get (l : List S42) (i : Nat) (h : i < l.length) : rd_T42 l (i : Int) = l[i] := by
  simp [rd_T42, List.getD_eq_getElem?_getD, h]
theorem vH_pos {x : S42} (h : vH x = true) : 1 ≤ x.f0 ∧ x.f0 ≤ 12 ∧ 1 ≤ x.f1 ∧ x.f1 ≤ 4 ∧ 1 ≤ x.f2 ∧ x.f2 ≤ 9 := by
  simp [vH] at h
  omega
def idAt (l : List S42) (i : Nat) : Int := if i = 0 then 0 else (rd_T42 l ((i : Int) - 1)).f0
theorem idAt_succ (l : List S42) (i : Nat) (h : i < l.length) : idAt l (i + 1) = l[i].f0 := by
  unfold idAt
  rw [if_neg (by omega), show ((i + 1 : Nat) : Int) - 1 = (i : Int) by omega, rdH_get l i h]
theorem specHousesOk_l (l : List S42) (hl : l.length ≤ 9223372036854775807) (d : Nat) : ∀ (i k : Nat), i + d = l.length → d < k → spec_HousesOk.l0 k l (i : Int) = some (okFrom (idAt l i) (l.drop i)) := by
  induction d with
  | zero =>
    intro i k hi hk
    obtain ⟨k, rfl⟩ : ∃ m, k = m + 1 := ⟨k - 1, by omega⟩
    simp only [spec_HousesOk.l0]
    rw [if_neg (by omega), List.drop_eq_nil_of_le (by omega)]
    rfl
  | succ d ih =>
    intro i k hi hk
    obtain ⟨k, rfl⟩ : ∃ m, k = m + 1 := ⟨k - 1, by omega⟩
    have hlt : i < l.length := by omega
    simp only [spec_HousesOk.l0]
    rw [if_pos (by omega), if_pos (by omega), rdH_get l i hlt, specHouse_h, List.drop_eq_getElem_cons hlt]
    simp only [Option.bind_some, okFrom]
    by_cases hv : vH l[i] = true
    · rw [if_pos hv, hv]
      have hn : wrap64 ((i : Int) + 1) = ((i + 1 : Nat) : Int) := by rw [w64h (by omega) (by omega)]; omega
      have hp := vH_pos hv
      by_cases h0 : i = 0
      · subst h0
        rw [if_neg (by omega), hn, ih 1 k (by omega) (by omega), idAt_succ l 0 hlt]
        have : idAt l 0 < l[0].f0 := by unfold idAt; rw [if_pos rfl]; omega
        simp [this]
      · have hm : wrap64 ((i : Int) - 1) = (i : Int) - 1 := w64h (by omega) (by omega)
        rw [if_pos (by omega), hm, if_pos (by omega), if_pos (by omega)]
        have hid : (rd_T42 l ((i : Int) - 1)).f0 = idAt l i := by unfold idAt; rw [if_neg h0]
        rw [hid]
        by_cases hc : idAt l i < l[i].f0
        · rw [if_neg (by omega), hn, ih (i + 1) k (by omega) (by omega), idAt_succ l i hlt]
          simp [hc]
        · rw [if_pos (by omega)]
          simp [hc]
    · rw [if_neg hv, Bool.eq_false_iff.mpr hv]
      rfl
theorem specHousesOk_ev (l : List S42) (hl : l.length ≤ 9223372036854775807) : Ev (fun k => spec_HousesOk.f k l) (okH l) := by
  refine ⟨l.length + 1, fun k hk => ?_⟩
  have := specHousesOk_l l hl l.length 0 k (by omega) (by omega)
  exact this
theorem implHousesOk_l (l : List S42) (hl : l.length ≤ 9223372036854775807) (d : Nat) : ∀ (i k : Nat), i + d = l.length → d < k → impl_HousesOk.l0 k l l (l.length : Int) (i : Int) = some (okFrom (idAt l i) (l.drop i)) := by
  induction d with
  | zero =>
    intro i k hi hk
    obtain ⟨k, rfl⟩ : ∃ m, k = m + 1 := ⟨k - 1, by omega⟩
    simp only [impl_HousesOk.l0]
    rw [if_neg (by omega), List.drop_eq_nil_of_le (by omega)]
    rfl
  | succ d ih =>
    intro i k hi hk
    obtain ⟨k, rfl⟩ : ∃ m, k = m + 1 := ⟨k - 1, by omega⟩
    have hlt : i < l.length := by omega
    simp only [impl_HousesOk.l0]
    rw [if_pos (by omega), if_pos (by omega), if_pos (by omega), rdH_get l i hlt, implHouse_h, List.drop_eq_getElem_cons hlt]
    simp only [Option.bind_some, okFrom]
    by_cases hv : vH l[i] = true
    · rw [if_pos hv, hv]
      have hn : wrap64 ((i : Int) + 1) = ((i + 1 : Nat) : Int) := by rw [w64h (by omega) (by omega)]; omega
      have hp := vH_pos hv
      by_cases h0 : i = 0
      · subst h0
        rw [if_neg (by omega), hn, ih 1 k (by omega) (by omega), idAt_succ l 0 hlt]
        have : idAt l 0 < l[0].f0 := by unfold idAt; rw [if_pos rfl]; omega
        simp [this]
      · have hm : wrap64 ((i : Int) - 1) = (i : Int) - 1 := w64h (by omega) (by omega)
        rw [if_pos (by omega), hm, if_pos (by omega), if_pos (by omega)]
        have hid : (rd_T42 l ((i : Int) - 1)).f0 = idAt l i := by unfold idAt; rw [if_neg h0]
        rw [hid]
        by_cases hc : idAt l i < l[i].f0
        · rw [if_neg (by omega), hn, ih (i + 1) k (by omega) (by omega), idAt_succ l i hlt]
          simp [hc]
        · rw [if_pos (by omega)]
          simp [hc]
    · rw [if_neg hv, Bool.eq_false_iff.mpr hv]
      rfl
theorem implHousesOk_ev (l : List S42) (hl : l.length ≤ 9223372036854775807) : Ev (fun k => impl_HousesOk.f k l) (okH l) := by
  refine ⟨l.length + 1, fun k hk => ?_⟩
  have := implHousesOk_l l hl l.length 0 k (by omega) (by omega)
  exact this
theorem okFrom_iff (l : List S42) : ∀ p : Int, okFrom p l = true ↔ (∀ x ∈ l, vH x = true) ∧ (∀ x ∈ l, p < x.f0) ∧ l.Pairwise (fun x y => x.f0 < y.f0) := by
  induction l with
  | nil => intro p; simp [okFrom]
  | cons x r ih =>
    intro p
    simp only [okFrom, Bool.and_eq_true, decide_eq_true_eq, ih, List.mem_cons, List.pairwise_cons]
    constructor
    · rintro ⟨⟨h1, h2⟩, h3, h4, h5⟩
      refine ⟨?_, ?_, h4, h5⟩
      · rintro y (rfl | hy)
        · exact h1
        · exact h3 y hy
      · rintro y (rfl | hy)
        · exact h2
        · have := h4 y hy; omega
    · rintro ⟨h1, h2, h3, h4⟩
      exact ⟨⟨h1 x (.inl rfl), h2 x (.inl rfl)⟩, fun y hy => h1 y (.inr hy), h3, h4⟩
theorem okFrom_len (l : List S42) : ∀ p : Int, p ≤ 12 → okFrom p l = true → (l.length : Int) ≤ 12 - p := by
  induction l with
  | nil => intro p hp _; simp; omega
  | cons x r ih =>
    intro p hp h
    simp only [okFrom, Bool.and_eq_true, decide_eq_true_eq] at h
    have hx := vH_pos h.1.1
    have := ih x.f0 (by omega) h.2
    simp only [List.length_cons]
    omega
theorem okH_len {l : List S42} (h : okH l = true) : l.length ≤ 12 := by
  have := okFrom_len l 0 (by omega) h
  omega
def Ah (nm : Int) (x y : S42) : Prop := scH nm y < scH nm x ∨ (scH nm y = scH nm x ∧ x.f0 < y.f0)
theorem Ah_irrefl {nm : Int} {x : S42} : ¬ Ah nm x x := by unfold Ah; omega
theorem Ah_trans {nm : Int} {x y z : S42} (h : Ah nm x y) (h2 : Ah nm y z) : Ah nm x z := by unfold Ah at *; omega
theorem rank_key (nm : Int) (l : List S42) : ∃ D : Array S42, rankL nm l = D.toList ∧ PermIn 0 l.toArray.size l.toArray D ∧ SortedIn (ltOf (cmpH nm)) 0 l.toArray.size D := ⟨_, rfl, insH nm l.toArray⟩
theorem rank_perm (nm : Int) (l : List S42) : (rankL nm l).Perm l := by
  obtain ⟨D, e, ⟨h1, _, h3⟩, _⟩ := rank_key nm l
  rw [e]
  rw [Array.extract_size] at h3
  rw [← h1, Array.extract_size] at h3
  simpa using h3
theorem rank_sorted (nm : Int) (l : List S42) : (rankL nm l).Pairwise (fun x y => ¬ Ah nm y x) := by
  obtain ⟨D, e, ⟨h1, _, _⟩, h2⟩ := rank_key nm l
  rw [e, List.pairwise_iff_getElem]
  intro i j hi hj hij
  simp only [Array.length_toList] at hi hj
  have h3 := h2 i j (Nat.zero_le _) hij (by omega)
  rw [getElem!_pos _ j hj, getElem!_pos _ i hi] at h3
  simp only [Array.getElem_toList]
  intro h4
  unfold Ah at h4
  rw [Bool.eq_false_iff, Ne, ltH_iff] at h3
  exact h3 h4
theorem rank_len (nm : Int) (l : List S42) : (rankL nm l).length = l.length := (rank_perm nm l).length_eq
theorem okH_ids {l : List S42} (h : okH l = true) : l.Pairwise (fun x y => x.f0 ≠ y.f0) := (((okFrom_iff l 0).1 h).2.2).imp (fun h => by omega)
theorem rank_ids {nm : Int} {l : List S42} (h : okH l = true) : (rankL nm l).Pairwise (fun x y => x.f0 ≠ y.f0) :=
  ((rank_perm nm l).pairwise_iff (fun h => Ne.symm h)).2 (okH_ids h)
theorem rank_strict {nm : Int} {l : List S42} (h : okH l = true) : (rankL nm l).Pairwise (Ah nm) := by
  refine ((rank_sorted nm l).and (rank_ids h)).imp ?_
  rintro x y ⟨h1, h2⟩
  unfold Ah at *
  omega
theorem rank_vH {nm : Int} {l : List S42} (h : okH l = true) : ∀ x ∈ rankL nm l, vH x = true := fun x hx => ((okFrom_iff l 0).1 h).1 x ((rank_perm nm l).mem_iff.1 hx)
theorem specScore_h (nm : Int) (x : S42) (h0 : 0 ≤ nm) (h1 : nm ≤ 99) (hv : vH x = true) : spec_l31Score.f nm x.f0 x.f1 x.f2 = some (scH nm x) := by
  have hp := vH_pos hv
  unfold spec_l31Score.f scH hsc
  have e : 13 * nm * x.f0 = nm * x.f0 * 13 := by rw [Int.mul_comm 13 nm, Int.mul_assoc, Int.mul_comm 13 x.f0, ← Int.mul_assoc]
  have q0 : 0 ≤ nm * x.f0 := Int.mul_nonneg h0 (by omega)
  have q1 : nm * x.f0 ≤ 99 * 12 := Int.mul_le_mul h1 (by omega) (by omega) (by omega)
  have e13 : wrap64 (13 * nm) = 13 * nm := w64h (by omega) (by omega)
  rw [e13, e]
  generalize nm * x.f0 = q at *
  have a1 : wrap64 (nm * 37) = 37 * nm := by rw [w64h (by omega) (by omega)]; omega
  have a2 : wrap64 (37 * nm) = 37 * nm := w64h (by omega) (by omega)
  have a3 : wrap64 (x.f0 * 61) = wrap64 (61 * x.f0) := by rw [Int.mul_comm]
  have a4 : wrap64 q = q := w64h (by omega) (by omega)
  rw [a1, a2, a3, a4]
end Go.Proofs.Ytmipjlbkcfpkiaa.K
end
section
namespace Go.Proofs.Ytmipjlbkcfpkiaa.K
set_option linter.unusedVariables false
set_option linter.unusedSimpArgs false
open Go.RowKit Go.Proofs.YtmipjlbkcfpkiaaW.PrintWords Go.Proofs.YtmipjlbkcfpkiaaW.PrintLast Go.Proofs.YtmipjlbkcfpkiaaW.PrintMore
open Go.Proofs (ltOf)
def gH (l : List S42) (j : Nat) : S42 := rd_T42 l (j : Int)
def dnH (d : List Bool) (j : Nat) : Bool := rdOf false d (j : Int)
theorem gH_get {l : List S42} {j : Nat} (h : j < l.length) : gH l j = l[j] := rdH_get l j h
theorem gH_mem {l : List S42} {j : Nat} (h : j < l.length) : gH l j ∈ l := by rw [gH_get h]; exact List.getElem_mem h
theorem dnH_set (d : List Bool) (b j : Nat) (hb : b < d.length) : dnH (d.set b true) j = if j = b then true else dnH d j := by
  unfold dnH rdOf
  rw [Int.toNat_natCast, List.getD_eq_getElem?_getD, List.getD_eq_getElem?_getD, List.getElem?_set]
  by_cases h : b = j
  · subst h; simp [hb]
  · rw [if_neg h, if_neg (Ne.symm h)]
theorem gH_ids {l : List S42} (h : okH l = true) {i j : Nat} (hij : i < j) (hj : j < l.length) : (gH l i).f0 < (gH l j).f0 := by
  rw [gH_get (by omega), gH_get hj]
  exact (List.pairwise_iff_getElem.1 ((okFrom_iff l 0).1 h).2.2) i j (by omega) hj hij
theorem gH_vH {l : List S42} (h : okH l = true) {j : Nat} (hj : j < l.length) : vH (gH l j) = true := ((okFrom_iff l 0).1 h).1 _ (gH_mem hj)
def InvB (nm : Int) (l : List S42) (d : List Bool) (best : Int) (i : Nat) : Prop :=
  (best = -1 ∧ ∀ j, j < i → dnH d j = true) ∨ (∃ b : Nat, best = (b : Int) ∧ b < i ∧ dnH d b = false ∧ ∀ j, j < i → dnH d j = false → j = b ∨ Ah nm (gH l b) (gH l j))
theorem specRanks_in (nm : Int) (l : List S42) (h : okH l = true) (n0 : 0 ≤ nm) (n1 : nm ≤ 99) (out : List Int) (hout : out.length < 17592186044416) (d : List Bool) (hd : d.length = l.length) (hex : ∃ j, j < l.length ∧ dnH d j = false) (r : List Int)
    (K : ∀ b : Nat, b < l.length → dnH d b = false → (∀ j, j < l.length → dnH d j = false → j = b ∨ Ah nm (gH l b) (gH l j)) → Ev (fun k => spec_l31Ranks.l0 k nm l (out ++ [(gH l b).f0]) (d.set b true)) r) (e : Nat) :
    ∀ (i : Nat) (best : Int), i + e = l.length → InvB nm l d best i → Ev (fun k => spec_l31Ranks.l1 k nm l out d best (i : Int)) r := by
  have hl := okH_len h
  induction e with
  | zero =>
    intro i best hi hb
    refine Ev.step (fun k => by rw [spec_l31Ranks.l1]) ?_
    refine hv_neg (by omega) ?_
    rcases hb with ⟨_, hb⟩ | ⟨b, rfl, hlt, hdb, hall⟩
    · obtain ⟨j, hj, hj2⟩ := hex
      rw [hb j (by omega)] at hj2
      cases hj2
    · refine hv_pos (by omega) (hv_pos (by omega) (hv_pos (by omega) (hv_pos hout ?_)))
      rw [Int.toNat_natCast]
      exact K b (by omega) hdb (fun j hj hdj => hall j (by omega) hdj)
  | succ e ih =>
    intro i best hi hb
    have hlt : i < l.length := by omega
    have hn : wrap64 ((i : Int) + 1) = ((i + 1 : Nat) : Int) := by rw [w64h (by omega) (by omega)]; omega
    refine Ev.step (fun k => by rw [spec_l31Ranks.l1]) ?_
    refine hv_pos (by omega) (hv_pos (by omega) (hv_pos (by omega) ?_))
    rw [hn]
    by_cases hdi : dnH d i = true
    · refine hv_pos hdi ?_
      refine ih (i + 1) best (by omega) ?_
      rcases hb with ⟨h1, h2⟩ | ⟨b, h1, h2, h3, h4⟩
      · refine .inl ⟨h1, fun j hj => ?_⟩
        by_cases e : j = i
        · subst e; exact hdi
        · exact h2 j (by omega)
      · refine .inr ⟨b, h1, by omega, h3, fun j hj hdj => ?_⟩
        by_cases e : j = i
        · subst e; rw [hdi] at hdj; cases hdj
        · exact h4 j (by omega) hdj
    · refine hv_neg hdi ?_
      have hdi' := Bool.eq_false_iff.mpr hdi
      rcases hb with ⟨rfl, h2⟩ | ⟨b, rfl, h2, h3, h4⟩
      · refine hv_pos (by omega) ?_
        refine ih (i + 1) (i : Int) (by omega) (.inr ⟨i, rfl, by omega, hdi', fun j hj hdj => ?_⟩)
        by_cases e : j = i
        · exact .inl e
        · rw [h2 j (by omega)] at hdj; cases hdj
      · refine hv_neg (by omega) ?_
        have s1 := specScore_h nm (gH l i) n0 n1 (gH_vH h hlt)
        have s2 := specScore_h nm (gH l b) n0 n1 (gH_vH h (by omega : b < l.length))
        refine hv_call s1 (hv_pos (by omega) (hv_pos (by omega) (hv_call s2 ?_)))
        by_cases c : scH nm (gH l i) > scH nm (gH l b)
        · refine hv_pos c ?_
          have hab : Ah nm (gH l i) (gH l b) := .inl c
          refine ih (i + 1) (i : Int) (by omega) (.inr ⟨i, rfl, by omega, hdi', fun j hj hdj => ?_⟩)
          by_cases e : j = i
          · exact .inl e
          · rcases h4 j (by omega) hdj with rfl | h5
            · exact .inr hab
            · exact .inr (Ah_trans hab h5)
        · refine hv_neg c ?_
          refine ih (i + 1) (b : Int) (by omega) (.inr ⟨b, rfl, by omega, h3, fun j hj hdj => ?_⟩)
          by_cases e : j = i
          · subst e
            refine .inr ?_
            have := gH_ids h h2 hlt
            unfold Ah
            omega
          · exact h4 j (by omega) hdj
theorem specRanks_out (nm : Int) (l : List S42) (h : okH l = true) (n0 : 0 ≤ nm) (n1 : nm ≤ 99) (e : Nat) :
    ∀ (m : Nat) (d : List Bool), m + e = l.length → d.length = l.length → (∀ j, j < l.length → (dnH d j = true ↔ gH l j ∈ (rankL nm l).take m)) → Ev (fun k => spec_l31Ranks.l0 k nm l (((rankL nm l).take m).map (·.f0)) d) ((rankL nm l).map (·.f0)) := by
  have hl := okH_len h
  have hR := rank_len nm l
  induction e with
  | zero =>
    intro m d hm hd hj
    refine Ev.step (fun k => by rw [spec_l31Ranks.l0]) ?_
    have hm' : m = (rankL nm l).length := by omega
    subst hm'
    rw [List.take_length]
    refine hv_neg ?_ (Ev.now _)
    rw [List.length_map]
    omega
  | succ e ih =>
    intro m d hm hd hj
    refine Ev.step (fun k => by rw [spec_l31Ranks.l0]) ?_
    have hlen : (((rankL nm l).take m).map (·.f0)).length = m := by
      rw [List.length_map, List.length_take]
      omega
    refine hv_pos (by omega) ?_
    have hmR : m < (rankL nm l).length := by omega
    have hst := rank_strict (nm := nm) h
    rw [List.pairwise_iff_getElem] at hst
    have hin : ∀ q (hq : q < (rankL nm l).length), (rankL nm l)[q] ∈ (rankL nm l).take m → q < m := by
      intro q hq hmem
      obtain ⟨p, hp, he⟩ := List.mem_iff_getElem.1 hmem
      rw [List.length_take] at hp
      rw [List.getElem_take] at he
      rcases Nat.lt_trichotomy p q with hlt | rfl | hlt
      · have h2 := hst p q (by omega) hq hlt
        rw [he] at h2
        exact absurd h2 Ah_irrefl
      · omega
      · have h2 := hst q p hq (by omega) hlt
        rw [he] at h2
        exact absurd h2 Ah_irrefl
    have hof : ∀ x ∈ rankL nm l, ∃ j, j < l.length ∧ gH l j = x := by
      intro x hx
      obtain ⟨j, hj, he⟩ := List.mem_iff_getElem.1 ((rank_perm nm l).mem_iff.1 hx)
      exact ⟨j, hj, by rw [gH_get hj]; exact he⟩
    obtain ⟨j0, hj0, e0⟩ := hof _ (List.getElem_mem hmR)
    have hd0 : dnH d j0 = false := by
      rw [Bool.eq_false_iff, Ne, hj j0 hj0, e0]
      intro hmem
      exact absurd (hin m hmR hmem) (Nat.lt_irrefl _)
    refine specRanks_in nm l h n0 n1 _ (by omega) d hd ⟨j0, hj0, hd0⟩ _ (fun b hb hdb hall => ?_) l.length 0 (-1) (by omega) (.inl ⟨rfl, fun j hj => absurd hj (Nat.not_lt_zero _)⟩)
    have hbm : gH l b = (rankL nm l)[m] := by
      rcases hall j0 hj0 hd0 with rfl | hA
      · exact e0
      · rw [e0] at hA
        obtain ⟨q, hq, he⟩ := List.mem_iff_getElem.1 ((rank_perm nm l).mem_iff.2 (gH_mem hb))
        have hqm : ¬ q < m := by
          intro hlt
          have : dnH d b = true := (hj b hb).2 (by
            rw [← he]
            exact List.mem_iff_getElem.2 ⟨q, by rw [List.length_take]; omega, List.getElem_take⟩)
          rw [this] at hdb
          cases hdb
        rcases Nat.lt_or_ge m q with hlt | hge
        · have h2 := hst m q hmR hq hlt
          rw [he] at h2
          exact absurd (Ah_trans hA h2) Ah_irrefl
        · obtain rfl : q = m := by omega
          exact he.symm
    have htake : ((rankL nm l).take (m + 1)) = (rankL nm l).take m ++ [gH l b] := by
      rw [List.take_succ_eq_append_getElem hmR, hbm]
    have hnext : ((rankL nm l).take m).map (·.f0) ++ [(gH l b).f0] = ((rankL nm l).take (m + 1)).map (·.f0) := by
      rw [htake, List.map_append]
      rfl
    rw [hnext]
    refine ih (m + 1) (d.set b true) (by omega) (by rw [List.length_set]; exact hd) (fun j hj' => ?_)
    rw [dnH_set d b j (by omega), htake, List.mem_append]
    by_cases ejb : j = b
    · subst ejb
      simp
    · rw [if_neg ejb, hj j hj']
      constructor
      · exact fun hh => .inl hh
      · rintro (hh | hh)
        · exact hh
        · exfalso
          have e2 : gH l j = gH l b := by simpa using hh
          rcases Nat.lt_trichotomy j b with hlt | rfl | hlt
          · have := gH_ids h hlt hb; rw [e2] at this; omega
          · exact ejb rfl
          · have := gH_ids h hlt hj'; rw [e2] at this; omega
theorem specRanks_ev (nm : Int) (l : List S42) (h : okH l = true) (n0 : 0 ≤ nm) (n1 : nm ≤ 99) : Ev (fun k => spec_l31Ranks.f k nm l) ((rankL nm l).map (·.f0)) := by
  have hl := okH_len h
  unfold spec_l31Ranks.f
  refine hv_pos (by omega) (hv_pos (by omega) ?_)
  refine specRanks_out nm l h n0 n1 l.length 0 _ (by omega) (by simp) (fun j hj => ?_)
  constructor
  · intro hd
    exfalso
    unfold dnH rdOf at hd
    simp [hj] at hd
  · intro hd
    simp at hd
end Go.Proofs.Ytmipjlbkcfpkiaa.K
end
section
namespace Go.Proofs.Ytmipjlbkcfpkiaa.K
set_option linter.unusedVariables false
set_option linter.unusedSimpArgs false
open Go.RowKit Go.Proofs.YtmipjlbkcfpkiaaW.PrintWords Go.Proofs.YtmipjlbkcfpkiaaW.PrintLast Go.Proofs.YtmipjlbkcfpkiaaW.PrintMore
def rackL : List S42 → Int → Int
  | [], _ => 0
  | x :: r, id => if x.f0 = id then x.f1 else rackL r id
theorem specRack_l (l : List S42) (id : Int) (hl : l.length ≤ 140737488351232) (d : Nat) : ∀ i : Nat, i + d = l.length → Ev (fun k => spec_l31Rack.l0 k l id (i : Int)) (rackL (l.drop i) id) := by
  induction d with
  | zero =>
    intro i hi
    refine Ev.step (fun k => by rw [spec_l31Rack.l0]) ?_
    rw [List.drop_eq_nil_of_le (by omega)]
    exact hv_neg (by omega) (Ev.now _)
  | succ d ih =>
    intro i hi
    have hlt : i < l.length := by omega
    have hn : wrap64 ((i : Int) + 1) = ((i + 1 : Nat) : Int) := by rw [w64h (by omega) (by omega)]; omega
    refine Ev.step (fun k => by rw [spec_l31Rack.l0]) ?_
    rw [List.drop_eq_getElem_cons hlt, rackL, hn, rdH_get l i hlt]
    refine hv_pos (by omega) (hv_pos (by omega) ?_)
    by_cases c : l[i].f0 = id
    · rw [if_pos c]; exact hv_pos c (Ev.now _)
    · rw [if_neg c]; exact hv_neg c (ih (i + 1) (by omega))
theorem specRack_ev (l : List S42) (id : Int) (hl : l.length ≤ 140737488351232) : Ev (fun k => spec_l31Rack.f k l id) (rackL l id) := specRack_l l id hl l.length 0 (by omega)
theorem implRack_l (l : List S42) (id : Int) (hl : l.length ≤ 140737488351232) (d : Nat) : ∀ i : Nat, i + d = l.length → Ev (fun k => impl_HouseRack.l0 k id l (l.length : Int) (i : Int)) (rackL (l.drop i) id) := by
  induction d with
  | zero =>
    intro i hi
    refine Ev.step (fun k => by rw [impl_HouseRack.l0]) ?_
    rw [List.drop_eq_nil_of_le (by omega)]
    exact hv_neg (by omega) (Ev.now _)
  | succ d ih =>
    intro i hi
    have hlt : i < l.length := by omega
    have hn : wrap64 ((i : Int) + 1) = ((i + 1 : Nat) : Int) := by rw [w64h (by omega) (by omega)]; omega
    refine Ev.step (fun k => by rw [impl_HouseRack.l0]) ?_
    rw [List.drop_eq_getElem_cons hlt, rackL, hn, rdH_get l i hlt]
    refine hv_pos (by omega) (hv_pos (by omega) (hv_pos (by omega) ?_))
    by_cases c : l[i].f0 = id
    · rw [if_pos c]; exact hv_pos c (Ev.now _)
    · rw [if_neg c]; exact hv_neg c (ih (i + 1) (by omega))
theorem implRack_ev (l : List S42) (id : Int) (h : okH l = true) : Ev (fun k => impl_HouseRack.f k l id) (rackL l id) := by
  have hl := okH_len h
  unfold impl_HouseRack.f
  refine (implHousesOk_ev l (by omega)).bind ?_
  rw [h]
  refine hv_pos rfl (implRack_l l id (by omega) l.length 0 (by omega))
theorem rackL_mem (l : List S42) (h : l.Pairwise (fun x y => x.f0 ≠ y.f0)) : ∀ x ∈ l, rackL l x.f0 = x.f1 := by
  induction l with
  | nil => intro x hx; cases hx
  | cons y r ih =>
    intro x hx
    rw [List.pairwise_cons] at h
    rw [rackL]
    rcases List.mem_cons.1 hx with rfl | hx
    · rw [if_pos rfl]
    · rw [if_neg (h.1 x hx), ih h.2 x hx]
theorem placeGo_full : ∀ (R : List S42) (rk out : List Int), 8 ≤ out.length → placeGo R rk out = out
  | [], _, _, _ => rfl
  | x :: xs, rk, out, h => by rw [placeGo_cons, if_neg (by omega)]; exact placeGo_full xs rk out h
theorem specPlace_l (l : List S42) (h : okH l = true) (R : List S42) (hR : ∀ x ∈ R, x ∈ l) (hRl : R.length ≤ 12) (d : Nat) : ∀ (i : Nat) (rk out : List Int), i + d = R.length → rk.length = 5 → out.length ≤ i →
    Ev (fun k => spec_PlaceOf.l0 k l out (R.map (·.f0)) rk (i : Int)) (placeEnd (placeGo (R.drop i) rk out)) := by
  have hl := okH_len h
  have hend : ∀ (rk out : List Int) (i : Int), Ev (fun k => spec_PlaceOf.j2 k l out (R.map (·.f0)) rk i false) (placeEnd out) := by
    intro rk out i
    refine Ev.step (fun k => by rw [spec_PlaceOf.j2]) ?_
    refine hv_neg (by decide) ?_
    unfold placeEnd
    by_cases c : out.length < 8
    · rw [if_pos c]; exact hv_pos (by omega) (Ev.now _)
    · rw [if_neg c]; exact hv_neg (by omega) (Ev.now _)
  induction d with
  | zero =>
    intro i rk out hi hrk ho
    refine Ev.step (fun k => by rw [spec_PlaceOf.l0]) ?_
    rw [List.drop_eq_nil_of_le (by omega)]
    refine hv_neg (by rw [List.length_map]; omega) ?_
    exact hend rk out _
  | succ d ih =>
    intro i rk out hi hrk ho
    have hlt : i < R.length := by omega
    refine Ev.step (fun k => by rw [spec_PlaceOf.l0]) ?_
    refine hv_pos (by rw [List.length_map]; omega) ?_
    by_cases c8 : out.length < 8
    · rw [decide_eq_true (show (out.length : Int) < 8 by omega)]
      refine Ev.step (fun k => by rw [spec_PlaceOf.j2]) ?_
      have hn : wrap64 ((i : Int) + 1) = ((i + 1 : Nat) : Int) := by rw [w64h (by omega) (by omega)]; omega
      rw [List.drop_eq_getElem_cons hlt, placeGo_cons, if_pos c8, hn]
      have hrd : rd (R.map (·.f0)) (i : Int) = R[i].f0 := by
        unfold rd
        simp [hlt]
      have hx := hR _ (List.getElem_mem hlt)
      have hv := vH_pos (((okFrom_iff l 0).1 h).1 _ hx)
      have hrack : rackL l R[i].f0 = R[i].f1 := rackL_mem l (okH_ids h) _ hx
      refine hv_pos rfl (hv_pos (by omega) (hv_pos (by rw [List.length_map]; omega) ?_))
      rw [hrd]
      refine (specRack_ev l R[i].f0 (by omega)).bind ?_
      rw [hrack]
      refine hv_pos (by omega) (hv_pos (by omega) ?_)
      by_cases c3 : rd rk R[i].f1 < 3
      · rw [if_pos c3]
        refine hv_pos c3 (hv_pos (by omega) ?_)
        exact ih (i + 1) _ _ (by omega) (by rw [List.length_set]; exact hrk) (by rw [List.length_append]; simp; omega)
      · rw [if_neg c3]
        refine hv_neg c3 ?_
        exact ih (i + 1) _ _ (by omega) hrk (by omega)
    · rw [decide_eq_false (show ¬ (out.length : Int) < 8 by omega), placeGo_full _ _ _ (by omega)]
      exact hend rk out _
def okP (nm : Int) (l : List S42) : Bool := decide (0 ≤ nm) && decide (nm ≤ 99) && okH l
def placeF (nm : Int) (l : List S42) : List Int × Bool := if okP nm l = true then placeEnd (placeGo (rankL nm l) [0, 0, 0, 0, 0] []) else ([], false)
theorem specPlace_ev (nm : Int) (l : List S42) (hl : l.length ≤ 9223372036854775807) : Ev (fun k => spec_PlaceOf.f k nm l) (placeF nm l) := by
  unfold spec_PlaceOf.f placeF okP
  refine hv_call rfl ?_
  refine hv_call (specIn_h nm 0 99) ?_
  have hbad : Ev (fun k => spec_PlaceOf.j0 k nm l ([] : List Int) true) (([] : List Int), false) := by
    refine Ev.step (fun k => by rw [spec_PlaceOf.j0]) ?_
    exact hv_pos rfl (Ev.now _)
  by_cases hn : (decide (0 ≤ nm) && decide (nm ≤ 99)) = true
  · rw [hn]
    refine hv_pos rfl ((specHousesOk_ev l hl).bind ?_)
    rw [Bool.true_and]
    by_cases h : okH l = true
    · rw [h, if_pos rfl]
      refine Ev.step (fun k => by rw [spec_PlaceOf.j0]) ?_
      refine hv_neg (by decide) ?_
      simp only [Bool.and_eq_true, decide_eq_true_eq] at hn
      have hl2 := okH_len h
      refine (specRanks_ev nm l h hn.1 hn.2).bind (hv_pos (by omega) ?_)
      exact specPlace_l l h (rankL nm l) (fun x hx => (rank_perm nm l).mem_iff.1 hx) (by rw [rank_len]; omega) (rankL nm l).length 0 _ _ (by omega) (by simp) (Nat.zero_le _)
    · rw [if_neg h, Bool.eq_false_iff.mpr h]
      exact hbad
  · rw [Bool.eq_false_iff.mpr hn]
    refine hv_neg (by decide) ?_
    rw [Bool.false_and, if_neg (by decide)]
    exact hbad
theorem nameOk_h (nm : Int) : impl_nameOk.f nm = some (decide (0 ≤ nm) && decide (nm ≤ 99)) := by
  unfold impl_nameOk.f
  rw [within_h]
  rfl
theorem implRanks_h {nm : Int} {l : List S42} (h : okH l = true) : impl_ranks.f nm l = some (rankL nm l) := by
  unfold impl_ranks.f
  rw [if_pos (okH_len h)]
theorem rackOk_rank {nm : Int} {l : List S42} (h : okH l = true) : rackOk (rankL nm l) = true := by
  unfold rackOk
  rw [List.all_eq_true]
  intro x hx
  have := vH_pos (rank_vH h x hx)
  simp
  omega
theorem implPlace_ev (nm : Int) (l : List S42) (hl : l.length ≤ 9223372036854775807) : Ev (fun k => impl_PlaceOf.f k nm l) (placeF nm l) := by
  unfold impl_PlaceOf.f placeF okP
  refine hv_call (nameOk_h nm) ?_
  by_cases hn : (decide (0 ≤ nm) && decide (nm ≤ 99)) = true
  · rw [hn]
    refine hv_pos rfl ((implHousesOk_ev l hl).bind ?_)
    rw [Bool.true_and]
    by_cases h : okH l = true
    · rw [h]
      simp only [↓reduceIte]
      refine hv_call (implRanks_h h) ?_
      exact hv_pos (rackOk_rank h) (Ev.now _)
    · rw [Bool.eq_false_iff.mpr h]
      simp only [Bool.false_eq_true, ↓reduceIte]
      exact Ev.now _
  · rw [Bool.eq_false_iff.mpr hn]
    refine hv_neg (by decide) ?_
    rw [Bool.false_and, if_neg (by decide)]
    exact Ev.now _
theorem implHouseRanks_l (R : List S42) (hR : R.length ≤ 12) (d : Nat) : ∀ i : Nat, i + d = R.length → Ev (fun k => impl_HouseRanks.l0 k ((R.take i).map (·.f0)) R (R.length : Int) (i : Int)) (R.map (·.f0)) := by
  induction d with
  | zero =>
    intro i hi
    obtain rfl : i = R.length := by omega
    refine Ev.step (fun k => by rw [impl_HouseRanks.l0]) ?_
    rw [List.take_length]
    exact hv_neg (by omega) (Ev.now _)
  | succ d ih =>
    intro i hi
    have hlt : i < R.length := by omega
    have hn : wrap64 ((i : Int) + 1) = ((i + 1 : Nat) : Int) := by rw [w64h (by omega) (by omega)]; omega
    refine Ev.step (fun k => by rw [impl_HouseRanks.l0]) ?_
    refine hv_pos (by omega) (hv_pos (by omega) (hv_pos (by omega) (hv_pos (by rw [List.length_map, List.length_take]; omega) ?_)))
    rw [hn, rdH_get R i hlt]
    have := ih (i + 1) (by omega)
    rw [List.take_succ_eq_append_getElem hlt, List.map_append] at this
    exact this
theorem implHouseRanks_ev (nm : Int) (l : List S42) (h : okP nm l = true) : Ev (fun k => impl_HouseRanks.f k nm l) ((rankL nm l).map (·.f0)) := by
  unfold okP at h
  rw [Bool.and_eq_true] at h
  have hl := okH_len h.2
  unfold impl_HouseRanks.f
  refine hv_call (nameOk_h nm) ?_
  rw [h.1]
  refine hv_pos rfl ((implHousesOk_ev l (by omega)).bind ?_)
  rw [h.2]
  refine Ev.step (fun k => by rw [impl_HouseRanks.j0]) ?_
  refine hv_neg (by decide) (hv_pos (by omega) (hv_pos (by omega) (hv_call (implRanks_h h.2) ?_)))
  exact implHouseRanks_l (rankL nm l) (by rw [rank_len]; omega) (rankL nm l).length 0 (by omega)
end Go.Proofs.Ytmipjlbkcfpkiaa.K
end
section
namespace Go.Proofs.Ytmipjlbkcfpkiaa.K
set_option linter.unusedVariables false
set_option linter.unusedSimpArgs false
open Go.RowKit Go.Proofs.YtmipjlbkcfpkiaaW.PrintWords Go.Proofs.YtmipjlbkcfpkiaaW.PrintLast Go.Proofs.YtmipjlbkcfpkiaaW.PrintMore
theorem pickH_ev (l : List Int) (hl : l.length ≤ 2000) (hb : ∀ x ∈ l, 0 ≤ x ∧ x ≤ 255) (p n : Int) (hp : 0 ≤ p) (hp2 : p ≤ 1000000000) (hn : 1 ≤ n) (hn2 : n ≤ 1000000) :
    ∃ v, Ev (fun k => spec_l6Rd_pick.f k l p n) (v, p + 1) ∧ 0 ≤ v ∧ v < n := by
  obtain ⟨v, e, h0, h1⟩ := pick_some_h l hl hb p n hp hp2 hn hn2 1 (Nat.le_refl _)
  exact ⟨v, Ev.of (fun k => spec_l6Rd_pick.mono _ _ _ _) e, h0, h1⟩
theorem racksDraw_l (l : List Int) (hl : l.length ≤ 2000) (hb : ∀ x ∈ l, 0 ≤ x ∧ x ≤ 255) (d : Nat) : ∀ (i : Nat) (hs : List S42) (p : Int), i + d = hs.length → hs.length ≤ 20 → 0 ≤ p → p + d ≤ 1000000 →
    ∃ r q, Ev (fun k => spec_l92Houses.l1 k hs (i : Int) l p) (r, q) ∧ r.length ≤ 20 ∧ p ≤ q ∧ q ≤ p + d := by
  induction d with
  | zero =>
    intro i hs p hi hh hp hp2
    refine ⟨hs, p, Ev.step (fun k => by rw [spec_l92Houses.l1]) (hv_neg (by omega) (Ev.now _)), hh, by omega, by omega⟩
  | succ d ih =>
    intro i hs p hi hh hp hp2
    obtain ⟨v, e, h0, h1⟩ := pickH_ev l hl hb p 2 hp (by omega) (by omega) (by omega)
    have hn : wrap64 ((i : Int) + 1) = ((i + 1 : Nat) : Int) := by rw [w64h (by omega) (by omega)]; omega
    obtain ⟨r, q, e2, h3, h4, h5⟩ := ih (i + 1) (hs.set (i : Int).toNat (⟨(rd_T42 hs i).f0, wrap64 (1 + v), (rd_T42 hs i).f2⟩ : S42)) (p + 1) (by rw [List.length_set]; omega) (by rw [List.length_set]; exact hh) (by omega) (by omega)
    refine ⟨r, q, Ev.step (fun k => by rw [spec_l92Houses.l1]) ?_, h3, by omega, by omega⟩
    refine hv_pos (by omega) (e.bind (hv_pos (by omega) ?_))
    rw [hn]
    exact e2
theorem housesDraw_l (l : List Int) (hl : l.length ≤ 2000) (hb : ∀ x ∈ l, 0 ≤ x ∧ x ≤ 255) (d : Nat) : ∀ (i : Nat) (hs : List S42) (p : Int), i + d = 13 → hs.length ≤ i → 0 ≤ p → p + 2 * d ≤ 10000 →
    ∃ r q, Ev (fun k => spec_l92Houses.l0 k hs (i : Int) l p) (r, q) ∧ r.length ≤ 20 ∧ p ≤ q ∧ q ≤ 100000 := by
  induction d with
  | zero =>
    intro i hs p hi hh hp hp2
    obtain ⟨v, e, h0, h1⟩ := pickH_ev l hl hb p 30 hp (by omega) (by omega) (by omega)
    by_cases c0 : v = 0
    · obtain ⟨v2, e2, h2, h3⟩ := pickH_ev l hl hb (p + 1) 14 (by omega) (by omega) (by omega) (by omega)
      refine ⟨hs ++ [(⟨v2, 1, 1⟩ : S42)], p + 1 + 1, Ev.step (fun k => by rw [spec_l92Houses.l0]) (hv_neg (by omega) (e.bind (hv_pos c0 (e2.bind (hv_pos (show hs.length < 5864062014805 by omega) (Ev.now _)))))), ?_, by omega, by omega⟩
      rw [List.length_append]
      simp
      omega
    · by_cases c1 : v = 1
      · obtain ⟨r, q, e2, h3, h4, h5⟩ := racksDraw_l l hl hb hs.length 0 hs (p + 1) (by omega) (by omega) (by omega) (by omega)
        refine ⟨r, q, Ev.step (fun k => by rw [spec_l92Houses.l0]) (hv_neg (by omega) (e.bind (hv_neg c0 (hv_pos c1 e2)))), h3, by omega, by omega⟩
      · refine ⟨hs, p + 1, Ev.step (fun k => by rw [spec_l92Houses.l0]) (hv_neg (by omega) (e.bind (hv_neg c0 (hv_neg c1 (Ev.now _))))), by omega, by omega, by omega⟩
  | succ d ih =>
    intro i hs p hi hh hp hp2
    have hn : wrap64 ((i : Int) + 1) = ((i + 1 : Nat) : Int) := by rw [w64h (by omega) (by omega)]; omega
    obtain ⟨v, e, h0, h1⟩ := pickH_ev l hl hb p 8 hp (by omega) (by omega) (by omega)
    by_cases c0 : v > 0
    · obtain ⟨v2, e2, h2, h3⟩ := pickH_ev l hl hb (p + 1) 9 (by omega) (by omega) (by omega) (by omega)
      obtain ⟨r, q, e3, h4, h5, h6⟩ := ih (i + 1) (hs ++ [(⟨(i : Int), wrap64 (1 + (Int.tmod (i : Int) 4)), wrap64 (1 + v2)⟩ : S42)]) (p + 1 + 1) (by omega) (by rw [List.length_append]; simp; omega) (by omega) (by omega)
      refine ⟨r, q, Ev.step (fun k => by rw [spec_l92Houses.l0]) (hv_pos (by omega) (e.bind (hv_pos c0 (e2.bind (hv_pos (show hs.length < 5864062014805 by omega) ?_))))), h4, by omega, h6⟩
      rw [hn]
      exact e3
    · obtain ⟨r, q, e3, h4, h5, h6⟩ := ih (i + 1) hs (p + 1) (by omega) (by omega) (by omega) (by omega)
      refine ⟨r, q, Ev.step (fun k => by rw [spec_l92Houses.l0]) (hv_pos (by omega) (e.bind (hv_neg c0 ?_))), h4, by omega, h6⟩
      rw [hn]
      exact e3
theorem drawPlace_ev (l : List Int) (hb : ∀ x ∈ l, (Lit.int .u8 x).wf = true) : ∃ nm hs, Ev (fun k => spec_DrawPlaceOf.f k l) (nm, hs) ∧ hs.length ≤ 20 := by
  obtain ⟨l', e0, hl, hb'⟩ := open_some_h l hb
  obtain ⟨v1, e1, a1, b1⟩ := pickH_ev l' hl hb' 0 100 (by omega) (by omega) (by omega) (by omega)
  obtain ⟨v2, e2, a2, b2⟩ := pickH_ev l' hl hb' (0 + 1) 24 (by omega) (by omega) (by omega) (by omega)
  obtain ⟨r, q, e3, h4, h5, h6⟩ := housesDraw_l l' hl hb' 12 1 [] (0 + 1 + 1) (by omega) (by simp) (by omega) (by omega)
  exact ⟨_, r, hv_call e0 (e1.bind (e2.bind (Ev.bind (g := fun k => spec_l92Houses.f k l' (0 + 1 + 1)) e3 (Ev.now _)))), h4⟩
theorem lkInts_l (a b : List Int) (hl : a.length ≤ 140737488351232) (h : a.length = b.length) (d : Nat) : ∀ (i : Nat), i + d = a.length → Ev (fun k => laws_lkInts.l0 k a b (i : Int)) (decide (a.drop i = b.drop i)) := by
  induction d with
  | zero =>
    intro i hi
    refine Ev.step (fun k => by rw [laws_lkInts.l0]) (hv_neg (by omega) ?_)
    rw [List.drop_eq_nil_of_le (by omega), List.drop_eq_nil_of_le (by omega), decide_eq_true rfl]
    exact Ev.now _
  | succ d ih =>
    intro i hi
    have h1 : i < a.length := by omega
    have h2 : i < b.length := by omega
    have hn : wrap64 ((i : Int) + 1) = ((i + 1 : Nat) : Int) := by rw [w64h (by omega) (by omega)]; omega
    have ra : rd a (i : Int) = a[i] := by unfold rd; simp [h1]
    have rb : rd b (i : Int) = b[i] := by unfold rd; simp [h2]
    refine Ev.step (fun k => by rw [laws_lkInts.l0]) (hv_pos (by omega) (hv_pos (by omega) (hv_pos (by omega) ?_)))
    rw [List.drop_eq_getElem_cons h1, List.drop_eq_getElem_cons h2, hn, ra, rb]
    by_cases c : a[i] = b[i]
    · refine hv_pos c ?_
      rw [show decide (a[i] :: a.drop (i + 1) = b[i] :: b.drop (i + 1)) = decide (a.drop (i + 1) = b.drop (i + 1)) from by rw [c]; exact decide_eq_decide.2 ⟨fun h => (List.cons.inj h).2, fun h => by rw [h]⟩]
      exact ih (i + 1) (by omega)
    · refine hv_neg c ?_
      rw [decide_eq_false (fun h => c (List.cons.inj h).1)]
      exact Ev.now _
theorem lkInts_ev (a b : List Int) (hl : a.length ≤ 140737488351232) : Ev (fun k => laws_lkInts.f k a b) (decide (a = b)) := by
  unfold laws_lkInts.f
  by_cases h : a.length = b.length
  · exact hv_pos (by omega) (lkInts_l a b hl h a.length 0 (by omega))
  · refine hv_neg (by omega) ?_
    rw [decide_eq_false (by intro e; rw [e] at h; exact h rfl)]
    exact Ev.now _
theorem lkInts_self (a : List Int) (hl : a.length ≤ 140737488351232) : Ev (fun k => laws_lkInts.f k a a) true := by
  have := lkInts_ev a a hl
  simpa using this
def chosen : List S42 → List Int → Nat → List S42
  | [], _, _ => []
  | x :: xs, rk, n => if n < 8 then (if rd rk x.f1 < 3 then x :: chosen xs (rk.set x.f1.toNat (wrap64 (rd rk x.f1 + 1))) (n + 1) else chosen xs rk n) else chosen xs rk n
theorem chosen_cons (x : S42) (xs : List S42) (rk : List Int) (n : Nat) : chosen (x :: xs) rk n = if n < 8 then (if rd rk x.f1 < 3 then x :: chosen xs (rk.set x.f1.toNat (wrap64 (rd rk x.f1 + 1))) (n + 1) else chosen xs rk n) else chosen xs rk n := rfl
theorem placeGo_chosen : ∀ (R : List S42) (rk out : List Int), placeGo R rk out = out ++ (chosen R rk out.length).map (·.f0)
  | [], rk, out => by simp [placeGo, chosen]
  | x :: xs, rk, out => by
    rw [placeGo_cons, chosen_cons]
    by_cases c : out.length < 8
    · rw [if_pos c, if_pos c]
      by_cases c3 : rd rk x.f1 < 3
      · rw [if_pos c3, if_pos c3, placeGo_chosen xs]
        simp
      · rw [if_neg c3, if_neg c3, placeGo_chosen xs]
    · rw [if_neg c, if_neg c, placeGo_chosen xs]
theorem chosen_sub : ∀ (R : List S42) (rk : List Int) (n : Nat), (chosen R rk n).Sublist R
  | [], rk, n => List.Sublist.slnil
  | x :: xs, rk, n => by
    rw [chosen_cons]
    by_cases c : n < 8
    · rw [if_pos c]
      by_cases c3 : rd rk x.f1 < 3
      · rw [if_pos c3]; exact (chosen_sub xs _ _).cons_cons x
      · rw [if_neg c3]; exact (chosen_sub xs _ _).cons x
    · rw [if_neg c]; exact (chosen_sub xs _ _).cons x
theorem chosen_len : ∀ (R : List S42) (rk : List Int) (n : Nat), n ≤ 8 → n + (chosen R rk n).length ≤ 8
  | [], rk, n, h => by simpa [chosen] using h
  | x :: xs, rk, n, h => by
    rw [chosen_cons]
    by_cases c : n < 8
    · rw [if_pos c]
      by_cases c3 : rd rk x.f1 < 3
      · rw [if_pos c3]
        have := chosen_len xs (rk.set x.f1.toNat (wrap64 (rd rk x.f1 + 1))) (n + 1) (by omega)
        simp only [List.length_cons]
        omega
      · rw [if_neg c3]; exact chosen_len xs rk n h
    · rw [if_neg c]; exact chosen_len xs rk n h
theorem rd_set_h (rk : List Int) (i j : Int) (v : Int) (hi : 0 ≤ i) (hi5 : i < (rk.length : Int)) (hj : 0 ≤ j) : rd (rk.set i.toNat v) j = if i = j then v else rd rk j := by
  unfold rd
  rw [List.getD_eq_getElem?_getD, List.getD_eq_getElem?_getD, List.getElem?_set]
  by_cases h : i = j
  · subst h
    rw [if_pos rfl, if_pos rfl, if_pos (by omega)]
    rfl
  · rw [if_neg h, if_neg (by omega)]
def cntR : List S42 → Int → Int
  | [], _ => 0
  | x :: r, k => (if x.f1 = k then 1 else 0) + cntR r k
theorem cntR_nn : ∀ (P : List S42) (k : Int), 0 ≤ cntR P k
  | [], k => by simp [cntR]
  | x :: r, k => by
    have := cntR_nn r k
    rw [cntR]
    split <;> omega
theorem chosen_cnt (k : Int) (hk : 0 ≤ k) : ∀ (R : List S42) (rk : List Int) (n : Nat), (∀ x ∈ R, 1 ≤ x.f1 ∧ x.f1 ≤ 4) → rk.length = 5 → 0 ≤ rd rk k → rd rk k ≤ 3 → rd rk k + cntR (chosen R rk n) k ≤ 3
  | [], rk, n, _, _, _, h => by simp [chosen, cntR]; exact h
  | x :: xs, rk, n, hx, h5, h0, h => by
    have hx1 := hx x List.mem_cons_self
    have hxs : ∀ y ∈ xs, 1 ≤ y.f1 ∧ y.f1 ≤ 4 := fun y hy => hx y (List.mem_cons_of_mem _ hy)
    rw [chosen_cons]
    by_cases c : n < 8
    · rw [if_pos c]
      by_cases c3 : rd rk x.f1 < 3
      · rw [if_pos c3, cntR]
        have hs := rd_set_h rk x.f1 k (wrap64 (rd rk x.f1 + 1)) (by omega) (by omega) hk
        by_cases e : x.f1 = k
        · subst e
          rw [if_pos rfl] at hs
          rw [if_pos rfl]
          have hw : wrap64 (rd rk x.f1 + 1) = rd rk x.f1 + 1 := w64h (by omega) (by omega)
          rw [hw] at hs ⊢
          have := chosen_cnt x.f1 hk xs (rk.set x.f1.toNat (rd rk x.f1 + 1)) (n + 1) hxs (by rw [List.length_set]; exact h5) (by rw [hs]; omega) (by rw [hs]; omega)
          rw [hs] at this
          omega
        · rw [if_neg e] at hs
          rw [if_neg e]
          have := chosen_cnt k hk xs (rk.set x.f1.toNat (wrap64 (rd rk x.f1 + 1))) (n + 1) hxs (by rw [List.length_set]; exact h5) (by rw [hs]; omega) (by rw [hs]; omega)
          rw [hs] at this
          omega
      · rw [if_neg c3]; exact chosen_cnt k hk xs rk n hxs h5 h0 h
    · rw [if_neg c]; exact chosen_cnt k hk xs rk n hxs h5 h0 h
def chs (nm : Int) (l : List S42) : List S42 := chosen (rankL nm l) [0, 0, 0, 0, 0] 0
theorem chs_racks {nm : Int} {l : List S42} (h : okH l = true) : ∀ x ∈ chs nm l, 1 ≤ x.f1 ∧ x.f1 ≤ 4 := fun x hx => by
  have := vH_pos (rank_vH h x ((chosen_sub _ _ _).subset hx))
  omega
theorem chs_cnt {nm : Int} {l : List S42} (h : okH l = true) (k : Int) (h1 : 1 ≤ k) (h4 : k ≤ 4) : cntR (chs nm l) k ≤ 3 := by
  have hz : rd [0, 0, 0, 0, 0] k = 0 := by
    have : k = 1 ∨ k = 2 ∨ k = 3 ∨ k = 4 := by omega
    rcases this with rfl | rfl | rfl | rfl <;> rfl
  have := chosen_cnt k (by omega) (rankL nm l) [0, 0, 0, 0, 0] 0 (fun x hx => by have := vH_pos (rank_vH h x hx); omega) rfl (by omega) (by omega)
  rw [hz] at this
  unfold chs
  omega
theorem placeF_true {nm : Int} {l : List S42} (h : (placeF nm l).2 = true) : okP nm l = true ∧ okH l = true ∧ placeF nm l = ((chs nm l).map (·.f0), true) ∧ (chs nm l).length = 8 := by
  unfold placeF at h ⊢
  by_cases c : okP nm l = true
  · rw [if_pos c] at h ⊢
    have c2 : okH l = true := by
      unfold okP at c
      rw [Bool.and_eq_true] at c
      exact c.2
    have hle := chosen_len (rankL nm l) [0, 0, 0, 0, 0] 0 (by omega)
    have e : placeGo (rankL nm l) [0, 0, 0, 0, 0] [] = (chs nm l).map (·.f0) := by
      rw [placeGo_chosen]
      rfl
    rw [e] at h ⊢
    unfold placeEnd at h ⊢
    by_cases c8 : ((chs nm l).map (·.f0)).length < 8
    · rw [if_pos c8] at h; cases h
    · rw [if_neg c8]
      rw [List.length_map] at c8
      refine ⟨c, c2, rfl, ?_⟩
      unfold chs at *
      omega
  · rw [if_neg c] at h; cases h
theorem placeF_len (nm : Int) (l : List S42) : (placeF nm l).1.length ≤ 8 := by
  by_cases h : (placeF nm l).2 = true
  · obtain ⟨_, _, h3, h4⟩ := placeF_true h
    rw [h3]
    simp [h4]
  · unfold placeF at h ⊢
    split at h
    · rename_i c
      rw [if_pos c]
      unfold placeEnd at h ⊢
      split at h
      · rename_i c2; rw [if_pos c2]; simp
      · exact absurd rfl h
    · rename_i c
      rw [if_neg c]
      simp
end Go.Proofs.Ytmipjlbkcfpkiaa.K
end
section
namespace Go.Proofs.Ytmipjlbkcfpkiaa.Pure
open Go.RowKit Go.Proofs.Ytmipjlbkcfpkiaa.K Go.Proofs.YtmipjlbkcfpkiaaW.PrintWords Go.Proofs.YtmipjlbkcfpkiaaW.PrintLast
set_option linter.unusedVariables false
set_option linter.unusedSimpArgs false
theorem sub_cons_fp {x : S42} {P : List S42} : ∀ {L : List S42}, (x :: P).Sublist L → ∃ q, ∃ h : q < L.length, L[q] = x ∧ P.Sublist (L.drop (q + 1))
  | [], h => by cases h
  | y :: L, h => by
    rcases h with _ | h | h
    · rename_i h
      obtain ⟨q, hq, e, hs⟩ := sub_cons_fp h
      exact ⟨q + 1, by simpa using hq, by simpa using e, by simpa using hs⟩
    · rename_i h
      exact ⟨0, by simp, rfl, by simpa using h⟩
theorem cnt_app_fp : ∀ (A B : List S42) (k : Int), cntR (A ++ B) k = cntR A k + cntR B k
  | [], B, k => by simp [cntR]
  | x :: A, B, k => by
    rw [List.cons_append, cntR, cntR, cnt_app_fp A B k]
    omega
theorem cnt_take_fp (P : List S42) (i : Nat) (k : Int) : cntR (P.take i) k ≤ cntR P k := by
  have h := cnt_app_fp (P.take i) (P.drop i) k
  rw [List.take_append_drop] at h
  have := cntR_nn (P.drop i) k
  omega
theorem search_fp (hs R : List S42) (p rk : List Int) (at_ r : Int) (i q : Nat) (hq : q < R.length) (hR : R.length ≤ 12) (hi : i < p.length) (hid : ∀ j (h : j < q), R[j].f0 ≠ rd p (i : Int)) (he : R[q].f0 = rd p (i : Int)) (d : Nat)
    (K : Ev (fun k => laws_FnPlace.j3 k hs p (R.map (·.f0)) at_ rk (i : Int) r (q : Int)) true) :
    ∀ j : Nat, j + d = q → Ev (fun k => laws_FnPlace.l1 k hs p (R.map (·.f0)) at_ rk (i : Int) r (j : Int)) true := by
  induction d with
  | zero =>
    intro j hj
    obtain rfl : j = q := by omega
    refine Ev.step (fun k => by rw [laws_FnPlace.l1]) ?_
    refine hv_pos (by rw [List.length_map]; omega) (hv_pos (by omega) (hv_pos (by omega) (hv_pos (by omega) ?_)))
    refine hv_pos ?_ K
    rw [← he]
    unfold rd
    simp [hq]
  | succ d ih =>
    intro j hj
    have hw : wrap64 ((j : Int) + 1) = ((j + 1 : Nat) : Int) := by rw [w64h (by omega) (by omega)]; omega
    refine Ev.step (fun k => by rw [laws_FnPlace.l1]) ?_
    refine hv_pos (by rw [List.length_map]; omega) (hv_pos (by omega) (hv_pos (by omega) (hv_pos (by omega) ?_)))
    refine hv_neg ?_ ?_
    · intro e
      refine hid j (by omega) ?_
      rw [← e]
      unfold rd
      simp [show j < R.length by omega]
    · rw [hw]
      exact ih (j + 1) (by omega)
theorem place_l (hs R P : List S42) (h8 : P.length = 8) (ho : okH hs = true) (hR : R.length ≤ 12) (hRid : R.Pairwise (fun x y => x.f0 ≠ y.f0)) (hPm : ∀ x ∈ P, x ∈ hs) (hPr : ∀ x ∈ P, 1 ≤ x.f1 ∧ x.f1 ≤ 4) (hPc : ∀ k : Int, 1 ≤ k → k ≤ 4 → cntR P k ≤ 3) (d : Nat) :
    ∀ (i m : Nat) (rk : List Int), i + d = 8 → rk.length = 5 → m ≤ 12 → (∀ k : Int, 1 ≤ k → k ≤ 4 → rd rk k = cntR (P.take i) k) → (P.drop i).Sublist (R.drop m) →
    Ev (fun k => laws_FnPlace.l0 k hs (P.map (·.f0)) (R.map (·.f0)) ((m : Int) - 1) rk (i : Int)) true := by
  induction d with
  | zero =>
    intro i m rk hi h5 hm hrk hsub
    refine Ev.step (fun k => by rw [laws_FnPlace.l0]) ?_
    refine hv_neg (by rw [List.length_map]; omega) ?_
    refine hv_eq (Ev.now _) ?_
    rw [List.length_map, h8]
    rfl
  | succ d ih =>
    intro i m rk hi h5 hm hrk hsub
    have hlt : i < P.length := by omega
    refine Ev.step (fun k => by rw [laws_FnPlace.l0]) ?_
    refine hv_pos (by rw [List.length_map]; omega) (hv_pos (by omega) ?_)
    have ep : rd (P.map (·.f0)) (i : Int) = P[i].f0 := by unfold rd; simp [hlt]
    have EP := Aside0.mk ep
    rw [ep]
    clear ep
    refine (implRack_ev hs _ ho).bind ?_
    rw [rackL_mem hs (okH_ids ho) _ (hPm _ (List.getElem_mem hlt))]
    have hr := hPr _ (List.getElem_mem hlt)
    rw [List.drop_eq_getElem_cons hlt] at hsub
    obtain ⟨q, hq, eq_, hsub2⟩ := sub_cons_fp hsub
    rw [List.length_drop] at hq
    rw [List.getElem_drop] at eq_
    rw [List.drop_drop] at hsub2
    have hmq : m + q < R.length := by omega
    refine search_fp hs R (P.map (·.f0)) rk _ _ i (m + q) hmq hR (by rw [List.length_map]; exact hlt) ?_ ?_ (m + q) ?_ 0 (by omega)
    · intro j hj e
      rw [EP.out, ← eq_] at e
      exact (List.pairwise_iff_getElem.1 hRid) j (m + q) (by omega) hmq hj e
    · rw [EP.out, ← eq_]
    · clear EP
      refine Ev.step (fun k => by rw [laws_FnPlace.j3]) ?_
      refine hv_neg (by omega) (hv_neg (by omega) ?_)
      rw [show (((m + q : Nat) : Int) == ((R.map (·.f0)).length : Int)) = false from by rw [List.length_map, beq_eq_false_iff_ne]; omega]
      refine Ev.step (fun k => by rw [laws_FnPlace.j4]) ?_
      refine hv_neg (by decide) (hv_pos (by omega) (hv_pos (by omega) ?_))
      have hc0 := hrk P[i].f1 hr.1 hr.2
      have htake : P.take (i + 1) = P.take i ++ [P[i]] := List.take_succ_eq_append_getElem hlt
      have hle := cnt_take_fp P (i + 1) P[i].f1
      have hmax := hPc P[i].f1 hr.1 hr.2
      have hnn := cntR_nn (P.take i) P[i].f1
      have hcs : ∀ k : Int, cntR (P.take (i + 1)) k = cntR (P.take i) k + (if P[i].f1 = k then 1 else 0) := by
        intro k
        rw [htake, cnt_app_fp]
        simp [cntR]
      have hcs1 := hcs P[i].f1
      rw [if_pos rfl] at hcs1
      have hwv : wrap64 (rd rk P[i].f1 + 1) = cntR (P.take (i + 1)) P[i].f1 := by rw [hc0, w64h (by omega) (by omega), hcs1]
      rw [hwv]
      refine hv_call rfl ?_
      have hset := fun k hk => rd_set_h rk P[i].f1 k (cntR (P.take (i + 1)) P[i].f1) (by omega) (by omega) hk
      have hs0 := hset P[i].f1 (by omega)
      rw [if_pos rfl] at hs0
      rw [hs0]
      refine hv_neg (by omega) ?_
      have hw : wrap64 ((i : Int) + 1) = ((i + 1 : Nat) : Int) := by rw [w64h (by omega) (by omega)]; omega
      rw [hw]
      have := ih (i + 1) (m + q + 1) (rk.set P[i].f1.toNat (cntR (P.take (i + 1)) P[i].f1)) (by omega) (by rw [List.length_set]; exact h5) (by omega) ?_ hsub2
      · rw [show ((m + q + 1 : Nat) : Int) - 1 = ((m + q : Nat) : Int) by omega] at this
        exact this
      · intro k k1 k4
        rw [hset k (by omega), hcs k]
        by_cases e : P[i].f1 = k
        · subst e
          rw [if_pos rfl, if_pos rfl, hcs1]
        · rw [if_neg e, if_neg e, hrk k k1 k4]
          omega
theorem FnPlace : laws_FnPlace.Pure := by
  intro l hm hm2 hb
  refine Ev.rounds (g := fun k => laws_FnPlace.f k l) (r := true) ?_
  unfold laws_FnPlace.f
  by_cases c : (l.length : Int) > 1048576
  · exact hv_pos c (Ev.now _)
  refine hv_neg c ?_
  obtain ⟨nm, hs, hd, hl⟩ := drawPlace_ev l hb
  refine hd.bind ?_
  refine (specPlace_ev nm hs (by omega)).bind ((implPlace_ev nm hs (by omega)).bind ?_)
  have h8 := placeF_len nm hs
  refine hv_neg (by simp) ((lkInts_self _ (by omega)).bind (hv_pos rfl ?_))
  refine Ev.step (fun k => by rw [laws_FnPlace.j0]) ?_
  by_cases ok : (placeF nm hs).2 = true
  · obtain ⟨h1, h2, h3, h4⟩ := placeF_true ok
    refine hv_neg (by rw [ok]; decide) ?_
    have e : (placeF nm hs).1 = (chs nm hs).map (·.f0) := by rw [h3]
    rw [e]
    refine (implHouseRanks_ev nm hs h1).bind ?_
    exact place_l hs (rankL nm hs) (chs nm hs) h4 h2 (by rw [rank_len]; exact okH_len h2) (rank_ids h2) (fun x hx => (rank_perm nm hs).mem_iff.1 ((chosen_sub _ _ _).subset hx)) (chs_racks h2) (chs_cnt h2) 8 0 0 _ (by omega) rfl (by omega)
      (fun k k1 k4 => by
        have : k = 1 ∨ k = 2 ∨ k = 3 ∨ k = 4 := by omega
        rcases this with rfl | rfl | rfl | rfl <;> rfl) (chosen_sub _ _ _)
  · refine hv_pos (by rw [Bool.eq_false_iff.mpr ok]; rfl) (hv_pos (by simp) ?_)
    exact (lkInts_self _ (by omega)).bind (Ev.now _)
end Go.Proofs.Ytmipjlbkcfpkiaa.Pure
end
section
namespace Go.Proofs.YtmipjlbkcfpkiaaW.PrintWords
open Go.ChangeShapes Go.WideShapes
theorem sized_ints {H : Type} {enc : TypeId × Value → H} {P : Program} {W : World} {base : Nat} {spare : Nat → Bool} {held : Bool} {t e : TypeId} {k : IntKind} {a : Option Addr} {len cap : Nat} {d : DataW H} {ps : List MemPlace} {ts : List TypeId} {ds : List (DataW H)} {j : Nat}
    (hsz : (DataW.weightsEach P ts ds).all (· ≤ reachBytes) = true) (ht : ts[j]? = some t) (hd : ds[j]? = some d) (hu : P.underlying t = some (.slice e)) (he : P.underlying e = some (.int k)) (hc : P.cellsOf e = 1) {B : Nat} (hB : P.bytesOf e = B)
    (h : DataW.Trod enc P W base spare held t (.slice a len cap) d ps) : len * B ≤ 140737488351232 := by
  obtain ⟨fuel, hf⟩ := h
  rcases open_ints hu he hc hf with ⟨hcs, _⟩ | ⟨x, l, c, zs, hcs, _, hl, _, hz, hx, _, _⟩
  · simp [Value.cells] at hcs
    obtain ⟨rfl, rfl, rfl⟩ := hcs
    simp
  · simp [Value.cells] at hcs
    obtain ⟨rfl, rfl, rfl⟩ := hcs
    obtain ⟨hx, _⟩ := Prod.mk.inj hx
    subst hx
    have z := sized_slice hsz ht hd hu
    rw [hB] at z
    have hl2 : len ≤ zs.length := by
      rw [hz]
      split
      · exact hl
      · exact Nat.le_refl _
    have h1 : (lits (H := H) k (zs.take len)).length + (lits (H := H) k (zs.drop len)).length = zs.length := by
      simp [lits]
      omega
    rw [h1] at z
    exact Nat.le_trans (Nat.mul_le_mul_right _ hl2) z
end Go.Proofs.YtmipjlbkcfpkiaaW.PrintWords
end
section
namespace Go.Proofs.Ytmipjlbkcfpkiaa.fnPlace
open Go.ChangeShapes Go.WideShapes Go.ChangeAt Go.RowKit
open Go.ChangeMaps (open_string shut_string)
set_option linter.unusedVariables false
theorem own : ownKnob Try.prog.godebug = none := by kernel_rfl
theorem laidOut : laidOutB Try.prog = true := by kernel_rfl
def IsRow (k : IntKind) (w : World) (a : Option Addr) (len cap : Nat) (zs : List Int) : Prop :=
  (a = none ∧ len = 0 ∧ cap = 0 ∧ zs = []) ∨
  ∃ x, a = some x ∧ len ≤ cap ∧ cap ≤ maxLen ∧ zs.length = cap ∧ (∀ i, i < zs.length → w.cell? (x.add i) = some (.int k (zs.getD i 0))) ∧ ∀ n ∈ zs, (Lit.int k n).wf = true
set_option maxRecDepth 100000 in
theorem lifted (os : Os) (started : os.Started) (H : Type) (enc : TypeId × Value → H) :
    ReturnsInHanded {} Try.checked os 5 .any (Rows.fnPlaceSpec.pre6 enc Try.prog Try.f5 Rows.fnPlaceRow.domain false) (Rows.fnPlaceSpec.post enc Try.prog Try.f5 false true false false) := by
  refine returnsInHanded_of_change_sized (C := Try.checked) own started (by kernel_rfl) Try.func5
    (ChangeSpec.witness6 (enc := enc) (C := Try.checked) false ⟨#[], #[.slice none 0 0], []⟩ 8 (by kernel_rfl) (by kernel_rfl) (by kernel_rfl) (by kernel_rfl)) ?_
  intro W base args ds gs before hval0 hW hcnd hsz0 _
  have hsz : (DataW.weightsEach Try.prog (Try.f5.params.toList ++ Rows.fnPlaceSpec.plain.varTypes Try.prog) (ds ++ gs)).all (· ≤ reachBytes) = true := hsz0
  have hval : ∀ (j : Nat) t v, Try.f5.params[j]? = some t → args[j]? = some v → Value.okWide Try.prog W .any base t v := hval0
  have hW' := hW
  obtain ⟨p, q, hA0, hV, rfl, hfz, hnd⟩ := hW
  have hA : DataW.TrodAll enc Try.prog W 0 (fun _ => true) true Try.f5.params.toList args.toList ds p := hA0
  rw [Try.params5] at hA hval hsz
  obtain ⟨v0, vs0, d0, ds0, p0, q0, hargs, rfl, rfl, h0, r0⟩ := trodAll_cons hA
  obtain ⟨rfl, rfl, rfl⟩ := trodAll_nil r0
  obtain rfl : args = #[v0] := by cases args; simp_all
  obtain ⟨rfl, rfl⟩ := trodVars_none hV
  obtain ⟨a0, len0, cap0, rfl⟩ := okWide_slice Try.underlying34 (hval 0 34 v0 rfl rfl)
  have k0 := h0
  have lt0 : ∀ x ∈ p0, x.block < W.heap.size := by obtain ⟨m, hm⟩ := k0; exact DataW.trod_lt m _ _ _ hm
  obtain ⟨z0, w0⟩ : ∃ zs, IsRow .u8 W a0 len0 cap0 zs := by
    obtain ⟨fuel, hf⟩ := h0
    rcases open_ints Try.underlying34 Try.underlying5 (by kernel_rfl) hf with ⟨hcs, _⟩ | ⟨x, l, c, zs, hcs, _, hl, hm, hz, _, hcell, hwz⟩
    · simp [Value.cells] at hcs
      obtain ⟨rfl, rfl, rfl⟩ := hcs
      exact ⟨[], .inl ⟨rfl, rfl, rfl, rfl⟩⟩
    · simp [Value.cells] at hcs
      obtain ⟨rfl, rfl, rfl⟩ := hcs
      exact ⟨zs, .inr ⟨_, rfl, hl, hm, by simpa using hz, hcell, hwz⟩⟩
  have y0 : len0 * 1 ≤ 140737488351232 := Go.Proofs.YtmipjlbkcfpkiaaW.PrintWords.sized_ints hsz (j := 0) (t := 34) rfl rfl Try.underlying34 Try.underlying5 (by kernel_rfl) (by kernel_rfl) h0
  clear hA0 hval0 hsz0 hsz
  refine (K.laws_FnPlace.walk Pure.FnPlace a0 len0 cap0 z0 W w0 y0).mono fun e W' ⟨he, bel⟩ => ?_
  subst he
  exact ⟨_, rfl, _, _, _, [], _, [], hW', trodAll_mk1 (shut_bool Try.underlying4 _), (trodAll_cons_mk (Below.trod laidOut (by kernel_rfl) (of_decide_eq_true (by kernel_rfl)) k0 bel lt0) trodAll_mk0), rfl, bel.frame _, fun h => by cases h⟩
theorem closed : joinedFacts Try.prog 5 Try.f5 Rows.fnPlaceSpec Rows.fnPlaceRow = true := by
  unfold joinedFacts
  rw [Head.make, Head.final, Head.enter]
  kernel_rfl
theorem over : Rows.fnPlaceRow.holds Try.pinned (OpenSpec.ofChange Rows.fnPlaceSpec) :=
  OpenClaim.holds_of_wide 5 Try.f5 rfl rfl rfl rfl rfl rfl rfl ⟨rfl, rfl, rfl, rfl, rfl⟩ rfl rfl rfl rfl rfl (by kernel_rfl) Try.func5 closed
    (of_decide_eq_true (by kernel_rfl)) (by unfold Func.isWrapper; first | (rw [if_pos (by decide +kernel)]; kernel_rfl) | (rw [if_neg (by decide +kernel)]; exact ⟨rfl, rfl⟩))
    (fun os started H enc _ => lifted os started H enc)
theorem proved : Rows.FnPlaceSaid := over
#print axioms proved
end Go.Proofs.Ytmipjlbkcfpkiaa.fnPlace
namespace Go.Proofs.Ytmipjlbkcfpkiaa
theorem fnPlace_holds : Rows.FnPlaceSaid := fnPlace.proved
end Go.Proofs.Ytmipjlbkcfpkiaa
end
