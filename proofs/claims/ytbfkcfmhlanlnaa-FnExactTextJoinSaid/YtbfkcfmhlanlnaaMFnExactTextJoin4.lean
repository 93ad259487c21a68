/- Part 4 of the proof of the statement FnExactTextJoin: what the functions compute, step by step; the last part states it. No condition. -/
import Derived.SizedLaws
import Derived.ChangeSlices
import Derived.Test.YtbfkcfmhlanlnaaRows
import Derived.WalkKit
import Derived.ProofKit
import Derived.OpenShut
import Derived.ShutString
import Derived.ChangeOld
import Derived.Below
import Derived.Test.YtbfkcfmhlanlnaaMFnExactTextJoin1
import Derived.Test.YtbfkcfmhlanlnaaMFnExactTextJoin2
import Derived.Test.YtbfkcfmhlanlnaaMFnExactTextJoin3
section
namespace Go.Proofs.Ytbfkcfmhlanlnaa.K
open Go.RowKit Go.Proofs.YtbfkcfmhlanlnaaW.PrintWords Go.Proofs.YtbfkcfmhlanlnaaW.PrintLast Go.Proofs.YtbfkcfmhlanlnaaW.PrintMore
attribute [local go_sem] max2_int min2_int max_two min_two max_three min_three max_four min_four
set_option linter.unusedVariables false
set_option linter.unusedSimpArgs false
def spec_l6Rd_of.f (k : Nat) (s0_0 : List Int) (s0_1 : Int) (l1 : List ByteArray) : Option (ByteArray × Int) := (spec_l6Rd_pick.f k s0_0 s0_1 (l1.length : Int)).bind fun bt101 => (if 0 ≤ bt101.1 then (if bt101.1 < (l1.length : Int) then (some (rdOf ByteArray.empty l1 bt101.1, bt101.2)) else (none)) else (none))
theorem spec_l6Rd_of.mono : ∀ a0 a1 a2 k, LeO (spec_l6Rd_of.f k a0 a1 a2) (spec_l6Rd_of.f (k + 1) a0 a1 a2) := by
  intro a0 a1 a2 k
  unfold spec_l6Rd_of.f
  repeat' first
      | (with_reducible exact spec_l6Rd_pick.mono _ _ _ _)
      | (with_reducible exact LeO.refl _)
      | (with_reducible exact LeO.none _)
      | (with_reducible refine LeO.ite ?_ ?_)
      | (with_reducible refine LeO.bind ?_ (fun _ => ?_))
      | exact spec_l6Rd_pick.mono _ _ _ _
      | exact LeO.none _
      | refine LeO.ite ?_ ?_
      | refine LeO.bind ?_ (fun _ => ?_)
set_option maxHeartbeats 8000000 in
set_option maxRecDepth 100000 in
theorem spec_l6Rd_of.calls (k : Nat) (g : Nat) (s0_0 : List Int) (s0_1 : Int) (A1 : Option Addr) (c1 : Nat) (l1 : List ByteArray) (r1 : ByteArray) (r2 : Int) (w0 w : World) (hI : IsS102 w0 w g s0_0 s0_1) (hB : Below w0.heap.size w0 w) (hr1 : Kd.C Kd.string w A1 l1.length l1) (hc1 : l1.length ≤ c1) (hf1 : ∀ ad, A1 = some ad → 0 < l1.length → ad.block ≠ g) (h : spec_l6Rd_of.f k s0_0 s0_1 l1 = some (r1, r2)) :
    Calls Try.prog 91 #[.pointer (some ⟨g, 0, none⟩), .slice A1 l1.length c1] w fun e w' => e = .returned (.string r1) ∧ IsS102 w0 w' g s0_0 r2 ∧ Below w0.heap.size w0 w' ∧ KeepBut w w' g none := by
  have HR1 := Aside0.mk hr1
  have HC1 := Aside0.mk hc1
  clear hr1 hc1
  have HI0 := Aside0.mk hI
  have HK := Aside0.mk (KeepBut.refl w g none)
  have HL := Aside0.mk hB.size
  clear hI
  have HW0 := Aside0.mk hB.size
  have HB := Aside0.mk hB
  clear hB
  have H : ((spec_l6Rd_pick.f k s0_0 s0_1 (l1.length : Int)).bind fun bt101 => (if 0 ≤ bt101.1 then (if bt101.1 < (l1.length : Int) then (some (rdOf ByteArray.empty l1 bt101.1, bt101.2)) else (none)) else (none))) = some (r1, r2) := h
  clear h
  replace H := Option.bind_eq_some_iff.mp H
  obtain ⟨⟨t101, t102⟩, A30, H⟩ := H
  replace H : (if 0 ≤ t101 then (if t101 < (l1.length : Int) then (some (rdOf ByteArray.empty l1 t101, t102)) else (none)) else (none)) = some (r1, r2) := H
  have A3 := Aside0.mk A30
  clear A30
  by_cases c4 : 0 ≤ t101
  · rw [if_pos c4] at H
    have c4b0 : decide (0 ≤ t101) = true := decide_eq_true c4
    clear c4
    by_cases c5 : t101 < (l1.length : Int)
    · rw [if_pos c5] at H
      have c5b0 : decide (t101 < (l1.length : Int)) = true := decide_eq_true c5
      clear c5
      simp only [Option.some.injEq, Prod.mk.injEq] at H
      obtain ⟨rfl, rfl⟩ := H
      go_enter Try.func91, Try.ntmps91
      go_wp2_with (first | ((with_reducible refine gate_callee (f := 73) rfl ?_); refine goesL_ (some 9) rfl rfl Try.func73 (by kernel_rfl) rfl #[.pointer (some ⟨g, 0, none⟩), .int .i64 (l1.length : Int)] rfl (by (try simp only [List.map_toArray, List.map_cons, List.map_nil]); first | done | rfl | (simp only [List.length_drop, List.length_take]; rfl)) ?_; (with_reducible refine (spec_l6Rd_pick.calls k g s0_0 s0_1 (l1.length : Int) t101 t102 w0 _ ?side1 ?side2 A3.out).mono ?_); (case side1 => repeat (first | (with_reducible first | exact HI0.out | apply IsS102.alloc | apply IsS102.drewN | apply IsS102.drew | apply IsS102.set_1) | exact HI0.out)); (case side2 => repeat (first | (with_reducible first | exact HB.out | apply below_alloc | apply pw_below_drewN | apply below_drew1 | refine below_set ?_ (IsS102.ge HI0.out)) | exact HB.out)); rintro e w6 ⟨rfl, hi, hb, hk⟩; refine ⟨_, rfl, ?_⟩; have n0_ := Aside0.mk (KeepBut.trans (by repeat (first | (with_reducible first | exact HK.out | apply KeepBut.set_ | apply keep_drewN | apply keep_drew | apply keep_alloc) | exact HK.out)) hk (.inl rfl)); have n1_ := Aside0.mk (hb); have n2_ := Aside0.mk (hi); clear HK; clear HB; clear HI0; have HK := n0_; have HB := n1_; have HI0 := n2_; clear n0_ n1_ n2_; (try clear hb); (try clear hb2); (try clear hk); (try clear hi); have p103 : 0 ≤ (t101 : Int) := of_decide_eq_true (by first | (with_reducible assumption) | assumption); have q103 : t101 < (l1.length : Int) := of_decide_eq_true (by first | (with_reducible assumption) | assumption); obtain ⟨ad103, e103, hx103_0⟩ := Kd.at_string HR1.out t101 p103 q103; cases e103; replace hx103_0 := keep_cell HK.out hx103_0 (by first | (rw [add_block]; exact hf1 _ rfl (by omega)) | exact hf1 _ rfl (by omega) | exact hf1 ad103 rfl (by omega)); replace p103 := eq_true p103; replace q103 := eq_true q103))
      go_ret
      exact ⟨by first | rfl | (simp [errW_none, errW_some] <;> rfl) | (simp [*, errW_none, errW_some] <;> rfl), by repeat (first | (with_reducible first | exact HI0.out | apply IsS102.alloc | apply IsS102.drewN | apply IsS102.drew | apply IsS102.set_1) | exact HI0.out), by repeat (first | (with_reducible first | exact HB.out | apply below_alloc | apply pw_below_drewN | apply below_drew1 | refine below_set ?_ (IsS102.ge HI0.out)) | exact HB.out), by repeat (first | (with_reducible first | exact HK.out | apply KeepBut.set_ | apply keep_drewN | apply keep_drew | apply keep_alloc) | exact HK.out)⟩
    · rw [if_neg c5] at H
      exact absurd H (by simp)
  · rw [if_neg c4] at H
    exact absurd H (by simp)
end Go.Proofs.Ytbfkcfmhlanlnaa.K
end
section
namespace Go.Proofs.Ytbfkcfmhlanlnaa.K
open Go.RowKit Go.Proofs.YtbfkcfmhlanlnaaW.PrintWords Go.Proofs.YtbfkcfmhlanlnaaW.PrintLast Go.Proofs.YtbfkcfmhlanlnaaW.PrintMore
attribute [local go_sem] max2_int min2_int max_two min_two max_three min_three max_four min_four
set_option linter.unusedVariables false
set_option linter.unusedSimpArgs false
def spec_l93Text.l0 : Nat → ByteArray → Int → List Int → Int → Option (ByteArray × Int)
  | 0, _, _, _, _ => none
  | k + 1, x3, x4, x1000, x1001 => if x4 > 0 then ((spec_l6Rd_pick.f k x1000 x1001 26).bind fun bt103 => ((some (([(wrap64 (97 + bt103.1)) % 256] : List Int) : List Int)).bind fun y105 => (if x3.size + (strOfNums y105).size ≤ 9223372036854775807 then (spec_l93Text.l0 k (x3 ++ (strOfNums y105)) (wrap64 (x4 - 1)) x1000 bt103.2) else (none)))) else ((spec_l6Rd_pick.f k x1000 x1001 30).bind fun bt108 => (if bt108.1 = 0 then (if x3.size + 1 ≤ 9223372036854775807 then ((spec_l6Rd_of.f k x1000 bt108.2 (([(⟨#[]⟩ : ByteArray), x3 ++ (⟨#[65]⟩ : ByteArray), (⟨#[97, 98, 99, 100, 101, 102, 103, 104, 105, 106, 107, 108, 109, 110, 111]⟩ : ByteArray), (⟨#[97, 32, 98]⟩ : ByteArray)] : List ByteArray))).bind fun bt113 => (some (bt113.1, bt113.2))) else (none)) else (some (x3, bt108.2))))
def spec_l93Text.f (k : Nat) (s0_0 : List Int) (s0_1 : Int) : Option (ByteArray × Int) := (spec_l6Rd_pick.f k s0_0 s0_1 9).bind fun bt101 => (spec_l93Text.l0 k (⟨#[]⟩ : ByteArray) (wrap64 (1 + bt101.1)) s0_0 bt101.2)
theorem spec_l93Text.mono_l : ∀ k, (∀ y0 y1 y2 y3, LeO (spec_l93Text.l0 k y0 y1 y2 y3) (spec_l93Text.l0 (k + 1) y0 y1 y2 y3))
  | 0 => fun _ _ _ _ r h => by simp [spec_l93Text.l0] at h
  | k + 1 => by
    have ih0 := spec_l93Text.mono_l k
    · intro y0 y1 y2 y3
      unfold spec_l93Text.l0
      repeat' first
      | (with_reducible exact ih0 _ _ _ _)
      | (with_reducible exact spec_l6Rd_of.mono _ _ _ _)
      | (with_reducible exact spec_l6Rd_pick.mono _ _ _ _)
      | (with_reducible exact LeO.refl _)
      | (with_reducible exact LeO.none _)
      | (with_reducible refine LeO.ite ?_ ?_)
      | (with_reducible refine LeO.bind ?_ (fun _ => ?_))
      | exact ih0 _ _ _ _
      | exact spec_l6Rd_of.mono _ _ _ _
      | exact spec_l6Rd_pick.mono _ _ _ _
      | exact LeO.none _
      | refine LeO.ite ?_ ?_
      | refine LeO.bind ?_ (fun _ => ?_)
theorem spec_l93Text.mono : ∀ a0 a1 k, LeO (spec_l93Text.f k a0 a1) (spec_l93Text.f (k + 1) a0 a1) := by
  intro a0 a1 k
  have ih0 := spec_l93Text.mono_l k
  unfold spec_l93Text.f
  repeat' first
      | (with_reducible exact ih0 _ _ _ _)
      | (with_reducible exact spec_l6Rd_of.mono _ _ _ _)
      | (with_reducible exact spec_l6Rd_pick.mono _ _ _ _)
      | (with_reducible exact LeO.refl _)
      | (with_reducible exact LeO.none _)
      | (with_reducible refine LeO.ite ?_ ?_)
      | (with_reducible refine LeO.bind ?_ (fun _ => ?_))
      | exact ih0 _ _ _ _
      | exact spec_l6Rd_of.mono _ _ _ _
      | exact spec_l6Rd_pick.mono _ _ _ _
      | exact LeO.none _
      | refine LeO.ite ?_ ?_
      | refine LeO.bind ?_ (fun _ => ?_)
set_option maxHeartbeats 8000000 in
set_option maxRecDepth 100000 in
theorem spec_l93Text.calls (k : Nat) (g : Nat) (s0_0 : List Int) (s0_1 : Int) (r1 : ByteArray) (r2 : Int) (w0 w : World) (hI : IsS102 w0 w g s0_0 s0_1) (hB : Below w0.heap.size w0 w) (h : spec_l93Text.f k s0_0 s0_1 = some (r1, r2)) :
    Calls Try.prog 56 #[.pointer (some ⟨g, 0, none⟩)] w fun e w' => e = .returned (.string r1) ∧ IsS102 w0 w' g s0_0 r2 ∧ Below w0.heap.size w0 w' ∧ KeepBut w w' g none := by
  have HI0 := Aside0.mk hI
  have HK := Aside0.mk (KeepBut.refl w g none)
  have HL := Aside0.mk hB.size
  clear hI
  have HW0 := Aside0.mk hB.size
  have HB := Aside0.mk hB
  clear hB
  have H : ((spec_l6Rd_pick.f k s0_0 s0_1 9).bind fun bt101 => (spec_l93Text.l0 k (⟨#[]⟩ : ByteArray) (wrap64 (1 + bt101.1)) s0_0 bt101.2)) = some (r1, r2) := h
  clear h
  replace H := Option.bind_eq_some_iff.mp H
  obtain ⟨⟨t101, t102⟩, A20, H⟩ := H
  replace H : (spec_l93Text.l0 k (⟨#[]⟩ : ByteArray) (wrap64 (1 + t101)) s0_0 t102) = some (r1, r2) := H
  have A2 := Aside0.mk A20
  clear A20
  have H' := Aside0.mk H
  clear H
  go_enter Try.func56, Try.ntmps56
  go_wp2_with (first | ((with_reducible refine gate_callee (f := 73) rfl ?_); refine goesL_ (some 6) rfl rfl Try.func73 (by kernel_rfl) rfl #[.pointer (some ⟨g, 0, none⟩), .int .i64 9] rfl (by (try simp only [List.map_toArray, List.map_cons, List.map_nil]); first | done | rfl | (simp only [List.length_drop, List.length_take]; rfl)) ?_; (with_reducible refine (spec_l6Rd_pick.calls k g s0_0 s0_1 9 t101 t102 w0 _ ?side1 ?side2 A2.out).mono ?_); (case side1 => repeat (first | (with_reducible first | exact HI0.out | apply IsS102.alloc | apply IsS102.drewN | apply IsS102.drew | apply IsS102.set_1) | exact HI0.out)); (case side2 => repeat (first | (with_reducible first | exact HB.out | apply below_alloc | apply pw_below_drewN | apply below_drew1 | refine below_set ?_ (IsS102.ge HI0.out)) | exact HB.out)); rintro e w3 ⟨rfl, hi, hb, hk⟩; refine ⟨_, rfl, ?_⟩; have n0_ := Aside0.mk (KeepBut.trans (by repeat (first | (with_reducible first | exact HK.out | apply KeepBut.set_ | apply keep_drewN | apply keep_drew | apply keep_alloc) | exact HK.out)) hk (.inl rfl)); have n1_ := Aside0.mk (hb); have n2_ := Aside0.mk (hi); clear HK; clear HB; clear HI0; have HK := n0_; have HB := n1_; have HI0 := n2_; clear n0_ n1_ n2_; (try clear hb); (try clear hb2); (try clear hk); (try clear hi)))
  go_loopg [3, 4] k (fun kq v3 v4 w' => ∃ (x3_1 : ByteArray) (x4_1 : Int) (x1001_1 : Int), v3 = .string x3_1 ∧ v4 = .int .i64 x4_1 ∧ Aside0 (spec_l93Text.l0 kq x3_1 x4_1 s0_0 x1001_1 = some (r1, r2)) ∧ Aside0 (kq ≤ k) ∧ Aside0 (IsS102 w0 w' g s0_0 x1001_1) ∧ Aside0 (KeepBut w w' g none) ∧ Aside0 (Below w0.heap.size w0 w'))
  case atStart => exact ⟨((⟨#[]⟩ : ByteArray)), (wrap64 (1 + t101)), (t102), (by first | rfl | (simp; done) | (simp [*]; done)), (by first | rfl | (simp; done) | (simp [*]; done)), H', ⟨Nat.le_refl _⟩, ⟨by repeat (first | (with_reducible first | exact HI0.out | apply IsS102.alloc | apply IsS102.drewN | apply IsS102.drew | apply IsS102.set_1) | exact HI0.out)⟩, ⟨by repeat (first | (with_reducible first | exact HK.out | apply KeepBut.set_ | apply keep_drewN | apply keep_drew | apply keep_alloc) | exact HK.out)⟩, ⟨by repeat (first | (with_reducible first | exact HB.out | apply below_alloc | apply pw_below_drewN | apply below_drew1 | refine below_set ?_ (IsS102.ge HI0.out)) | exact HB.out)⟩⟩
  case round =>
    clear H'
    try clear p2
    obtain ⟨x3_1, x4_1, x1001_1, rfl, rfl, HA, HK1, HI0, HK, HB⟩ := hrel
    cases gk with
    | zero => exact absurd HA.out (by simp [spec_l93Text.l0])
    | succ k1 =>
      have H := HA.out
      clear HA
      simp only [spec_l93Text.l0] at H
      by_cases c4 : x4_1 > 0
      · rw [if_pos c4] at H
        have c4b0 : decide (0 < x4_1) = true := decide_eq_true c4
        clear c4
        replace H := Option.bind_eq_some_iff.mp H
        obtain ⟨⟨t103, t104⟩, A50, H⟩ := H
        replace H : ((some (([(wrap64 (97 + t103)) % 256] : List Int) : List Int)).bind fun y105 => (if x3_1.size + (strOfNums y105).size ≤ 9223372036854775807 then (spec_l93Text.l0 k1 (x3_1 ++ (strOfNums y105)) (wrap64 (x4_1 - 1)) s0_0 t104) else (none))) = some (r1, r2) := H
        have A5 := Aside0.mk A50
        clear A50
        obtain ⟨y105, hy105⟩ : ∃ y_ : List Int, y_ = (([(wrap64 (97 + t103)) % 256] : List Int)) := ⟨_, rfl⟩
        replace H : (if x3_1.size + (strOfNums y105).size ≤ 9223372036854775807 then (spec_l93Text.l0 k1 (x3_1 ++ (strOfNums y105)) (wrap64 (x4_1 - 1)) s0_0 t104) else (none)) = some (r1, r2) := by first | (rw [hy105]; with_reducible exact H) | (have H2_ := (Option.bind_some _ _).symm.trans H; rw [hy105]; with_reducible exact H2_) | (have H2_ := (Option.bind_some _ _).symm.trans H; with_reducible exact H2_) | with_reducible exact H | (rw [hy105]; exact H) | exact H
        have Ny105 := Aside0.mk hy105
        clear hy105
        by_cases c6 : x3_1.size + (strOfNums y105).size ≤ 9223372036854775807
        · rw [if_pos c6] at H
          have c6b0 := eq_true c6
          have c6b1 : decide (x3_1.size + (strOfNums y105).size ≤ 9223372036854775807) = true := decide_eq_true c6
          try have c6b2 : (9223372036854775807 < x3_1.size + (strOfNums y105).size) = False := eq_false (Nat.not_lt.2 c6)
          have H' := Aside0.mk H
          clear H
          go_wp2_with (first | ((with_reducible refine gate_callee (f := 73) rfl ?_); refine goesL_ (some 14) rfl rfl Try.func73 (by kernel_rfl) rfl #[.pointer (some ⟨g, 0, none⟩), .int .i64 26] rfl (by (try simp only [List.map_toArray, List.map_cons, List.map_nil]); first | done | rfl | (simp only [List.length_drop, List.length_take]; rfl)) ?_; (with_reducible refine (spec_l6Rd_pick.calls k1 g s0_0 x1001_1 26 t103 t104 w0 _ ?side1 ?side2 A5.out).mono ?_); (case side1 => repeat (first | (with_reducible first | exact HI0.out | apply IsS102.alloc | apply IsS102.drewN | apply IsS102.drew | apply IsS102.set_1) | exact HI0.out)); (case side2 => repeat (first | (with_reducible first | exact HB.out | apply below_alloc | apply pw_below_drewN | apply below_drew1 | refine below_set ?_ (IsS102.ge HI0.out)) | exact HB.out)); rintro e w7 ⟨rfl, hi, hb, hk⟩; refine ⟨_, rfl, ?_⟩; have n0_ := Aside0.mk (KeepBut.trans (by repeat (first | (with_reducible first | exact HK.out | apply KeepBut.set_ | apply keep_drewN | apply keep_drew | apply keep_alloc) | exact HK.out)) hk (.inl rfl)); have n1_ := Aside0.mk (hb); have n2_ := Aside0.mk (hi); clear HK; clear HB; clear HI0; have HK := n0_; have HB := n1_; have HI0 := n2_; clear n0_ n1_ n2_; (try clear hb); (try clear hb2); (try clear hk); (try clear hi)) | ((with_reducible refine gate_dst (N := 17) rfl ?_); refine Kd.R_lit (Kd.int .u8) _ 5 ?hg (N := 17) ?hd (xs := ([(wrap64 (97 + t103)) % 256] : List Int)) (inner := [.int .u8 ((wrap64 (97 + t103)) % 256)]) (ok := fun _ => True) (okp := fun _ => True) ?hr ?hp (fun _ hk => hk) trivial (Below.refl _ _) (Nat.le_refl _) (by simp) ?_; (case hd => rfl); (case hg => rfl); (case hr => first | (go_simp; done) | (go_simp; rfl)); (case hp => exact (Reps.one (show Kd.M (Kd.int .u8) _ _ _ ((wrap64 (97 + t103)) % 256) [.int .u8 ((wrap64 (97 + t103)) % 256)] from rfl) (Reps.none _ _))); intro v106 w8 ho9 hb hg_ hnew_; clear hg_ hnew_; (first | rw [← Ny105.out] at ho9 | (simp only [Int.reduceToNat] at ho9; rw [← Ny105.out] at ho9)); have n0_ := Aside0.mk (Kd.R_lower ho9 (keep_size (w := w) (g := g) (row := none) (by repeat (first | (with_reducible first | exact HK.out | apply KeepBut.set_ | apply keep_drewN | apply keep_drew | apply keep_alloc) | exact HK.out)))); have n1_ := Aside0.mk (IsS102.below (by repeat (first | (with_reducible first | exact HI0.out | apply IsS102.alloc | apply IsS102.drewN | apply IsS102.drew | apply IsS102.set_1) | exact HI0.out)) hb); have n2_ := Aside0.mk (KeepBut.trans (by repeat (first | (with_reducible first | exact HK.out | apply KeepBut.set_ | apply keep_drewN | apply keep_drew | apply keep_alloc) | exact HK.out)) (KeepBut.of_below hb g none) (.inl rfl)); have n3_ := Aside0.mk (below_step (by repeat (first | (with_reducible first | exact HB.out | apply below_alloc | apply pw_below_drewN | apply below_drew1 | refine below_set ?_ (IsS102.ge HI0.out)) | exact HB.out)) hb); clear HI0; clear HK; clear HB; have HO107 := n0_; have HI0 := n1_; have HK := n2_; have HB := n3_; clear n0_ n1_ n2_ n3_; clear hb ho9; have hcv10 := own_string (P := Try.prog) Try.underlying24 Try.underlying5 Try.underlying9 (Kd.own_of_R HO107.out)))
          go_roundg k1
          case measure => have := HK1.out; omega
          case rel => exact ⟨(x3_1 ++ (strOfNums y105)), (wrap64 (x4_1 - 1)), (t104), (by first | rfl | (simp; done) | (simp [*]; done)), (by first | rfl | (simp; done) | (simp [*]; done)), H', ⟨by have := HK1.out; omega⟩, ⟨by repeat (first | (with_reducible first | exact HI0.out | apply IsS102.alloc | apply IsS102.drewN | apply IsS102.drew | apply IsS102.set_1) | exact HI0.out)⟩, ⟨by repeat (first | (with_reducible first | exact HK.out | apply KeepBut.set_ | apply keep_drewN | apply keep_drew | apply keep_alloc) | exact HK.out)⟩, ⟨by repeat (first | (with_reducible first | exact HB.out | apply below_alloc | apply pw_below_drewN | apply below_drew1 | refine below_set ?_ (IsS102.ge HI0.out)) | exact HB.out)⟩⟩
        · rw [if_neg c6] at H
          exact absurd H (by simp)
      · rw [if_neg c4] at H
        have c4b0 : decide (0 < x4_1) = false := decide_eq_false c4
        clear c4
        replace H := Option.bind_eq_some_iff.mp H
        obtain ⟨⟨t108, t109⟩, A110, H⟩ := H
        replace H : (if t108 = 0 then (if x3_1.size + 1 ≤ 9223372036854775807 then ((spec_l6Rd_of.f k1 s0_0 t109 (([(⟨#[]⟩ : ByteArray), x3_1 ++ (⟨#[65]⟩ : ByteArray), (⟨#[97, 98, 99, 100, 101, 102, 103, 104, 105, 106, 107, 108, 109, 110, 111]⟩ : ByteArray), (⟨#[97, 32, 98]⟩ : ByteArray)] : List ByteArray))).bind fun bt113 => (some (bt113.1, bt113.2))) else (none)) else (some (x3_1, t109))) = some (r1, r2) := H
        have A11 := Aside0.mk A110
        clear A110
        by_cases c12 : t108 = 0
        · rw [if_pos c12] at H
          have c12b0 : (t108 == 0) = true := beq_iff_eq.mpr c12
          have c12b1 : (t108 != 0) = false := bne_eq_false_iff_eq.mpr c12
          clear c12
          by_cases c13 : x3_1.size + 1 ≤ 9223372036854775807
          · rw [if_pos c13] at H
            have c13b0 := eq_true c13
            have c13b1 : decide (x3_1.size + 1 ≤ 9223372036854775807) = true := decide_eq_true c13
            try have c13b2 : (9223372036854775807 < x3_1.size + 1) = False := eq_false (Nat.not_lt.2 c13)
            obtain ⟨y110, hy110⟩ : ∃ y_ : List ByteArray, y_ = (([(⟨#[]⟩ : ByteArray), x3_1 ++ (⟨#[65]⟩ : ByteArray), (⟨#[97, 98, 99, 100, 101, 102, 103, 104, 105, 106, 107, 108, 109, 110, 111]⟩ : ByteArray), (⟨#[97, 32, 98]⟩ : ByteArray)] : List ByteArray)) := ⟨_, rfl⟩
            replace H : ((spec_l6Rd_of.f k1 s0_0 t109 y110).bind fun bt113 => (some (bt113.1, bt113.2))) = some (r1, r2) := by first | (rw [hy110]; with_reducible exact H) | (have H2_ := (Option.bind_some _ _).symm.trans H; rw [hy110]; with_reducible exact H2_) | (have H2_ := (Option.bind_some _ _).symm.trans H; with_reducible exact H2_) | with_reducible exact H | (rw [hy110]; exact H) | exact H
            have Ny110 := Aside0.mk hy110
            clear hy110
            replace H := Option.bind_eq_some_iff.mp H
            obtain ⟨⟨t113, t114⟩, A140, H⟩ := H
            replace H : (some (t113, t114)) = some (r1, r2) := H
            have A14 := Aside0.mk A140
            clear A140
            simp only [Option.some.injEq, Prod.mk.injEq] at H
            obtain ⟨rfl, rfl⟩ := H
            go_wp2_with (first | ((with_reducible refine gate_callee (f := 73) rfl ?_); refine goesL_ (some 21) rfl rfl Try.func73 (by kernel_rfl) rfl #[.pointer (some ⟨g, 0, none⟩), .int .i64 30] rfl (by (try simp only [List.map_toArray, List.map_cons, List.map_nil]); first | done | rfl | (simp only [List.length_drop, List.length_take]; rfl)) ?_; (with_reducible refine (spec_l6Rd_pick.calls k1 g s0_0 x1001_1 30 t108 t109 w0 _ ?side1 ?side2 A11.out).mono ?_); (case side1 => repeat (first | (with_reducible first | exact HI0.out | apply IsS102.alloc | apply IsS102.drewN | apply IsS102.drew | apply IsS102.set_1) | exact HI0.out)); (case side2 => repeat (first | (with_reducible first | exact HB.out | apply below_alloc | apply pw_below_drewN | apply below_drew1 | refine below_set ?_ (IsS102.ge HI0.out)) | exact HB.out)); rintro e w15 ⟨rfl, hi, hb, hk⟩; refine ⟨_, rfl, ?_⟩; have n0_ := Aside0.mk (KeepBut.trans (by repeat (first | (with_reducible first | exact HK.out | apply KeepBut.set_ | apply keep_drewN | apply keep_drew | apply keep_alloc) | exact HK.out)) hk (.inl rfl)); have n1_ := Aside0.mk (hb); have n2_ := Aside0.mk (hi); clear HK; clear HB; clear HI0; have HK := n0_; have HB := n1_; have HI0 := n2_; clear n0_ n1_ n2_; (try clear hb); (try clear hb2); (try clear hk); (try clear hi)) | ((with_reducible refine gate_dst (N := 26) rfl ?_); refine Kd.R_lit Kd.string _ 9 ?hg (N := 26) ?hd (xs := ([(⟨#[]⟩ : ByteArray), x3_1 ++ (⟨#[65]⟩ : ByteArray), (⟨#[97, 98, 99, 100, 101, 102, 103, 104, 105, 106, 107, 108, 109, 110, 111]⟩ : ByteArray), (⟨#[97, 32, 98]⟩ : ByteArray)] : List ByteArray)) (inner := [.string (⟨#[]⟩ : ByteArray), .string (x3_1 ++ (⟨#[65]⟩ : ByteArray)), .string (⟨#[97, 98, 99, 100, 101, 102, 103, 104, 105, 106, 107, 108, 109, 110, 111]⟩ : ByteArray), .string (⟨#[97, 32, 98]⟩ : ByteArray)]) (ok := fun _ => True) (okp := fun _ => True) ?hr ?hp (fun _ hk => hk) trivial (Below.refl _ _) (Nat.le_refl _) (by simp) ?_; (case hd => rfl); (case hg => rfl); (case hr => first | (go_simp; done) | (go_simp; rfl)); (case hp => exact (Reps.one (show Kd.M Kd.string _ _ _ (⟨#[]⟩ : ByteArray) [.string (⟨#[]⟩ : ByteArray)] from rfl) (Reps.one (show Kd.M Kd.string _ _ _ (x3_1 ++ (⟨#[65]⟩ : ByteArray)) [.string (x3_1 ++ (⟨#[65]⟩ : ByteArray))] from rfl) (Reps.one (show Kd.M Kd.string _ _ _ (⟨#[97, 98, 99, 100, 101, 102, 103, 104, 105, 106, 107, 108, 109, 110, 111]⟩ : ByteArray) [.string (⟨#[97, 98, 99, 100, 101, 102, 103, 104, 105, 106, 107, 108, 109, 110, 111]⟩ : ByteArray)] from rfl) (Reps.one (show Kd.M Kd.string _ _ _ (⟨#[97, 32, 98]⟩ : ByteArray) [.string (⟨#[97, 32, 98]⟩ : ByteArray)] from rfl) (Reps.none _ _)))))); intro v111 w16 ho17 hb hg_ hnew_; clear hg_ hnew_; (first | rw [← Ny110.out] at ho17 | (simp only [Int.reduceToNat] at ho17; rw [← Ny110.out] at ho17)); have n0_ := Aside0.mk (Kd.R_lower ho17 (keep_size (w := w) (g := g) (row := none) (by repeat (first | (with_reducible first | exact HK.out | apply KeepBut.set_ | apply keep_drewN | apply keep_drew | apply keep_alloc) | exact HK.out)))); have n1_ := Aside0.mk (IsS102.below (by repeat (first | (with_reducible first | exact HI0.out | apply IsS102.alloc | apply IsS102.drewN | apply IsS102.drew | apply IsS102.set_1) | exact HI0.out)) hb); have n2_ := Aside0.mk (KeepBut.trans (by repeat (first | (with_reducible first | exact HK.out | apply KeepBut.set_ | apply keep_drewN | apply keep_drew | apply keep_alloc) | exact HK.out)) (KeepBut.of_below hb g none) (.inl rfl)); have n3_ := Aside0.mk (below_step (by repeat (first | (with_reducible first | exact HB.out | apply below_alloc | apply pw_below_drewN | apply below_drew1 | refine below_set ?_ (IsS102.ge HI0.out)) | exact HB.out)) hb); clear HI0; clear HK; clear HB; have HO112 := n0_; have HI0 := n1_; have HK := n2_; have HB := n3_; clear n0_ n1_ n2_ n3_; clear hb ho17; obtain ⟨Ao18, co18, eo18⟩ := Kd.R_slice HO112.out; subst eo18) | ((with_reducible refine gate_callee (f := 91) rfl ?_); refine goesL_ (some 27) rfl rfl Try.func91 (by kernel_rfl) rfl #[.pointer (some ⟨g, 0, none⟩), .slice Ao18 y110.length co18] rfl (by (try simp only [List.map_toArray, List.map_cons, List.map_nil]); first | done | rfl | (simp only [List.length_drop, List.length_take]; rfl)) ?_; (with_reducible refine (spec_l6Rd_of.calls k1 g s0_0 t109 _ _ y110 t113 t114 w0 _ ?side1 ?side2 ?side3 ?side4 ?side5 A14.out).mono ?_); (case side1 => repeat (first | (with_reducible first | exact HI0.out | apply IsS102.alloc | apply IsS102.drewN | apply IsS102.drew | apply IsS102.set_1) | exact HI0.out)); (case side2 => repeat (first | (with_reducible first | exact HB.out | apply below_alloc | apply pw_below_drewN | apply below_drew1 | refine below_set ?_ (IsS102.ge HI0.out)) | exact HB.out)); (case side3 => repeat (first | exact (Kd.R_reads' HO112.out).2.2 | (with_reducible refine Kd.C_alloc ?_ _) | (with_reducible refine Kd.C_drewN ?_ _) | (with_reducible refine Kd.C_drew ?_))); (case side4 => exact (Kd.R_reads' HO112.out).2.1); (case side5 => exact far_slice (IsS102.own_ne HI0.out HO112.out (by decide))); rintro e w19 ⟨rfl, hi, hb, hk⟩; refine ⟨_, rfl, ?_⟩; have n0_ := Aside0.mk (Kd.R_mono (Kd.R_keep (IsS102.apart (show IsS102 w0 _ g s0_0 t109 from by repeat (first | (with_reducible first | exact HI0.out | apply IsS102.alloc | apply IsS102.drewN | apply IsS102.drew | apply IsS102.set_1) | exact HI0.out)) (by (with_reducible repeat (first | apply Kd.R_alloc | apply Kd.R_drewN | apply Kd.R_drew)); exact HO112.out) (by decide)) hk (fun _ h => h.2)) (fun _ h => h.1)); have n1_ := Aside0.mk (KeepBut.trans (by repeat (first | (with_reducible first | exact HK.out | apply KeepBut.set_ | apply keep_drewN | apply keep_drew | apply keep_alloc) | exact HK.out)) hk (.inl rfl)); have n2_ := Aside0.mk (hb); have n3_ := Aside0.mk (hi); clear HO112; clear HK; clear HB; clear HI0; have HO112 := n0_; have HK := n1_; have HB := n2_; have HI0 := n3_; clear n0_ n1_ n2_ n3_; (try clear hb); (try clear hb2); (try clear hk); (try clear hi)))
            go_ret
            exact ⟨by first | rfl | (simp [errW_none, errW_some] <;> rfl) | (simp [*, errW_none, errW_some] <;> rfl), by repeat (first | (with_reducible first | exact HI0.out | apply IsS102.alloc | apply IsS102.drewN | apply IsS102.drew | apply IsS102.set_1) | exact HI0.out), by repeat (first | (with_reducible first | exact HB.out | apply below_alloc | apply pw_below_drewN | apply below_drew1 | refine below_set ?_ (IsS102.ge HI0.out)) | exact HB.out), by repeat (first | (with_reducible first | exact HK.out | apply KeepBut.set_ | apply keep_drewN | apply keep_drew | apply keep_alloc) | exact HK.out)⟩
          · rw [if_neg c13] at H
            exact absurd H (by simp)
        · rw [if_neg c12] at H
          have c12b0 : (t108 == 0) = false := beq_eq_false_iff_ne.mpr c12
          have c12b1 : (t108 != 0) = true := bne_iff_ne.mpr c12
          simp only [Option.some.injEq, Prod.mk.injEq] at H
          obtain ⟨rfl, rfl⟩ := H
          go_wp2_with (first | ((with_reducible refine gate_callee (f := 73) rfl ?_); refine goesL_ (some 21) rfl rfl Try.func73 (by kernel_rfl) rfl #[.pointer (some ⟨g, 0, none⟩), .int .i64 30] rfl (by (try simp only [List.map_toArray, List.map_cons, List.map_nil]); first | done | rfl | (simp only [List.length_drop, List.length_take]; rfl)) ?_; (with_reducible refine (spec_l6Rd_pick.calls k1 g s0_0 x1001_1 30 t108 t109 w0 _ ?side1 ?side2 A11.out).mono ?_); (case side1 => repeat (first | (with_reducible first | exact HI0.out | apply IsS102.alloc | apply IsS102.drewN | apply IsS102.drew | apply IsS102.set_1) | exact HI0.out)); (case side2 => repeat (first | (with_reducible first | exact HB.out | apply below_alloc | apply pw_below_drewN | apply below_drew1 | refine below_set ?_ (IsS102.ge HI0.out)) | exact HB.out)); rintro e w20 ⟨rfl, hi, hb, hk⟩; refine ⟨_, rfl, ?_⟩; have n0_ := Aside0.mk (KeepBut.trans (by repeat (first | (with_reducible first | exact HK.out | apply KeepBut.set_ | apply keep_drewN | apply keep_drew | apply keep_alloc) | exact HK.out)) hk (.inl rfl)); have n1_ := Aside0.mk (hb); have n2_ := Aside0.mk (hi); clear HK; clear HB; clear HI0; have HK := n0_; have HB := n1_; have HI0 := n2_; clear n0_ n1_ n2_; (try clear hb); (try clear hb2); (try clear hk); (try clear hi)))
          go_ret
          exact ⟨by first | rfl | (simp [errW_none, errW_some] <;> rfl) | (simp [*, errW_none, errW_some] <;> rfl), by repeat (first | (with_reducible first | exact HI0.out | apply IsS102.alloc | apply IsS102.drewN | apply IsS102.drew | apply IsS102.set_1) | exact HI0.out), by repeat (first | (with_reducible first | exact HB.out | apply below_alloc | apply pw_below_drewN | apply below_drew1 | refine below_set ?_ (IsS102.ge HI0.out)) | exact HB.out), by repeat (first | (with_reducible first | exact HK.out | apply KeepBut.set_ | apply keep_drewN | apply keep_drew | apply keep_alloc) | exact HK.out)⟩
end Go.Proofs.Ytbfkcfmhlanlnaa.K
end
section
namespace Go.Proofs.Ytbfkcfmhlanlnaa.K
open Go.RowKit Go.Proofs.YtbfkcfmhlanlnaaW.PrintWords Go.Proofs.YtbfkcfmhlanlnaaW.PrintLast Go.Proofs.YtbfkcfmhlanlnaaW.PrintMore
attribute [local go_sem] max2_int min2_int max_two min_two max_three min_three max_four min_four
set_option linter.unusedVariables false
set_option linter.unusedSimpArgs false
def spec_l6Open.f (l0 : List Int) : Option (List Int × Int) := if (l0.length : Int) > 2000 then (if 2000 ≤ (l0.length : Int) then (some (l0.take 2000, 0)) else (none)) else (some (l0, 0))
set_option maxHeartbeats 8000000 in
set_option maxRecDepth 100000 in
theorem spec_l6Open.calls (A0 : Option Addr) (c0 : Nat) (l0 : List Int) (r1 : List Int) (r2 : Int) (w0 w : World) (hB : Below w0.heap.size w0 w) (hr0 : Kd.C (Kd.int .u8) w0 A0 l0.length l0) (hc0 : l0.length ≤ c0) (h : spec_l6Open.f l0 = some (r1, r2)) :
    Calls Try.prog 57 #[.slice A0 l0.length c0] w fun e w' => ∃ g_ : Nat, e = .returned (.pointer (some ⟨g_, 0, none⟩)) ∧ IsS102 w0 w' g_ r1 r2 ∧ Below w0.heap.size w0 w' ∧ Below w.heap.size w w' := by
  have hu102 := Try.underlying102
  have HR0 := Aside0.mk hr0
  have HC0 := Aside0.mk hc0
  clear hr0 hc0
  have HBW := Aside0.mk (Below.refl w.heap.size w)
  have HW0 := Aside0.mk hB.size
  have HB := Aside0.mk hB
  clear hB
  have H : (if (l0.length : Int) > 2000 then (if 2000 ≤ (l0.length : Int) then (some (l0.take 2000, 0)) else (none)) else (some (l0, 0))) = some (r1, r2) := h
  clear h
  by_cases c2 : (l0.length : Int) > 2000
  · rw [if_pos c2] at H
    have c2b0 : decide (2000 < (l0.length : Int)) = true := decide_eq_true c2
    have c2b1 : decide (2000 < l0.length) = true := decide_eq_true (by omega)
    clear c2
    by_cases c3 : 2000 ≤ (l0.length : Int)
    · rw [if_pos c3] at H
      have c3b0 := eq_true c3
      have c3b1 : decide (2000 ≤ (l0.length : Int)) = true := decide_eq_true c3
      clear c3
      simp only [Option.some.injEq, Prod.mk.injEq] at H
      obtain ⟨rfl, rfl⟩ := H
      obtain ⟨i04, hi04, _, hsz4, _⟩ := info_parts info5
      obtain ⟨hcut4, hA4, hC4⟩ := print_take_of (P := Try.prog) (Value.int .u8) 0 24 5 .i64 Try.underlying24 hi04 hsz4 A0 c0 l0 2000 (by omega) (of_decide_eq_true (by first | (with_reducible assumption) | assumption)) HC0.out
      have HR101 := Aside0.mk (Kd.C_of_reads (h1 := fun _ => rfl) (hA4 _ (Kd.reads_of_C HR0.out)))
      have HC101 := Aside0.mk hC4
      clear hA4 hC4 hi04 hsz4
      go_enter Try.func57, Try.ntmps57
      go_wp2_with (first | ((with_reducible refine gate_dst (N := 10) rfl ?_); refine box_event ?hg (N := 10) ?hd (cs := #[.slice A0 (l0.take 2000).length c0, .int .i64 0]) (t := 102) ?hr ?_; (case hd => rfl); (case hg => rfl); (case hr => first | (go_simp; done) | (go_simp; rfl)); intro gb102 hg w5 hbox hb; have n0_ := Aside0.mk (below_step HBW.out hb); have n1_ := Aside0.mk (below_step (by repeat (first | (with_reducible first | exact HB.out | apply below_alloc | apply pw_below_drewN | apply below_drew1) | exact HB.out)) hb); have n2_ := Aside0.mk (hbox); have n3_ := Aside0.mk ((by rw [hg]; exact (below_size (by repeat (first | (with_reducible first | exact HBW.out | apply below_alloc | apply pw_below_drewN | apply below_drew1) | exact HBW.out))) : w.heap.size ≤ gb102)); have n4_ := Aside0.mk ((Nat.le_trans HW0.out (by rw [hg]; exact (below_size (by repeat (first | (with_reducible first | exact HBW.out | apply below_alloc | apply pw_below_drewN | apply below_drew1) | exact HBW.out))) : w.heap.size ≤ gb102) : w0.heap.size ≤ gb102)); clear HBW; clear HB; have HBW := n0_; have HB := n1_; have BK102 := n2_; have GW102 := n3_; have GE102 := n4_; clear n0_ n1_ n2_ n3_ n4_; clear hb hbox hg))
      go_ret
      exact ⟨_, rfl, (show IsS102 w0 _ gb102 (l0.take 2000) 0 from ⟨_, _, by (with_reducible repeat (first | refine blk_drewN ?_ _ | refine blk_drew ?_ | refine blk_alloc ?_ _)); exact BK102.out, GE102.out, HR101.out⟩), by repeat (first | (with_reducible first | exact HB.out | apply below_alloc | apply pw_below_drewN | apply below_drew1 | refine below_set ?_ GE102.out) | exact HB.out), by repeat (first | (with_reducible first | exact HBW.out | apply below_alloc | apply pw_below_drewN | apply below_drew1 | refine below_set ?_ GW102.out) | exact HBW.out)⟩
    · rw [if_neg c3] at H
      exact absurd H (by simp)
  · rw [if_neg c2] at H
    have c2b0 : decide (2000 < (l0.length : Int)) = false := decide_eq_false c2
    have c2b1 : decide (2000 < l0.length) = false := decide_eq_false (by omega)
    clear c2
    simp only [Option.some.injEq, Prod.mk.injEq] at H
    obtain ⟨rfl, rfl⟩ := H
    go_enter Try.func57, Try.ntmps57
    go_wp2_with (first | ((with_reducible refine gate_dst (N := 10) rfl ?_); refine box_event ?hg (N := 10) ?hd (cs := #[.slice A0 l0.length c0, .int .i64 0]) (t := 102) ?hr ?_; (case hd => rfl); (case hg => rfl); (case hr => first | (go_simp; done) | (go_simp; rfl)); intro gb103 hg w6 hbox hb; have n0_ := Aside0.mk (below_step HBW.out hb); have n1_ := Aside0.mk (below_step (by repeat (first | (with_reducible first | exact HB.out | apply below_alloc | apply pw_below_drewN | apply below_drew1) | exact HB.out)) hb); have n2_ := Aside0.mk (hbox); have n3_ := Aside0.mk ((by rw [hg]; exact (below_size (by repeat (first | (with_reducible first | exact HBW.out | apply below_alloc | apply pw_below_drewN | apply below_drew1) | exact HBW.out))) : w.heap.size ≤ gb103)); have n4_ := Aside0.mk ((Nat.le_trans HW0.out (by rw [hg]; exact (below_size (by repeat (first | (with_reducible first | exact HBW.out | apply below_alloc | apply pw_below_drewN | apply below_drew1) | exact HBW.out))) : w.heap.size ≤ gb103) : w0.heap.size ≤ gb103)); clear HBW; clear HB; have HBW := n0_; have HB := n1_; have BK103 := n2_; have GW103 := n3_; have GE103 := n4_; clear n0_ n1_ n2_ n3_ n4_; clear hb hbox hg))
    go_ret
    exact ⟨_, rfl, (show IsS102 w0 _ gb103 l0 0 from ⟨_, _, by (with_reducible repeat (first | refine blk_drewN ?_ _ | refine blk_drew ?_ | refine blk_alloc ?_ _)); exact BK103.out, GE103.out, HR0.out⟩), by repeat (first | (with_reducible first | exact HB.out | apply below_alloc | apply pw_below_drewN | apply below_drew1 | refine below_set ?_ GE103.out) | exact HB.out), by repeat (first | (with_reducible first | exact HBW.out | apply below_alloc | apply pw_below_drewN | apply below_drew1 | refine below_set ?_ GW103.out) | exact HBW.out)⟩
end Go.Proofs.Ytbfkcfmhlanlnaa.K
end
section
namespace Go.Proofs.Ytbfkcfmhlanlnaa.K
set_option linter.unusedVariables false
set_option linter.unusedSimpArgs false
open Go.RowKit Go.Proofs.YtbfkcfmhlanlnaaW.PrintWords Go.Proofs.YtbfkcfmhlanlnaaW.PrintLast Go.Proofs.YtbfkcfmhlanlnaaW.PrintMore
theorem tv_pos {α : Type} {c : Prop} [Decidable c] {f g : Nat → Option α} {r : α} (h : c) (k : Ev f r) : Ev (fun n => if c then f n else g n) r := Ev.congr (fun _ => if_pos h) k
theorem tv_neg {α : Type} {c : Prop} [Decidable c] {f g : Nat → Option α} {r : α} (h : ¬ c) (k : Ev g r) : Ev (fun n => if c then f n else g n) r := Ev.congr (fun _ => if_neg h) k
theorem tv_call {α β : Type} {g : Option α} {f : Nat → α → Option β} {a : α} {r : β} (h : g = some a) (k : Ev (fun n => f n a) r) : Ev (fun n => g.bind (f n)) r := Ev.congr (fun n => by rw [h]; rfl) k
theorem tv_eq {α : Type} {g : Nat → Option α} {r r' : α} (h : Ev g r) (e : r = r') : Ev g r' := e ▸ h
theorem specOk_l_t (s : ByteArray) (hs : s.size ≤ 140737488351232) (d : Nat) : ∀ (k : Nat) (i : Int), 0 ≤ i → i ≤ s.size → (s.size : Int) - i = d → d < k →
    spec_TextOk.l0 k s i = some (lets s d i && (decide (1 ≤ s.size) && decide (s.size ≤ 14))) := by
  induction d with
  | zero =>
    intro k i h0 h1 hd hk
    obtain ⟨k, rfl⟩ : ∃ m, k = m + 1 := ⟨k - 1, by omega⟩
    simp only [spec_TextOk.l0, lets, spec_l6In.f]
    rw [if_neg (by omega)]
    by_cases h : 1 ≤ s.size
    · rw [if_pos (by omega)]; simp [h]; omega
    · rw [if_neg (by omega)]; simp [h]
  | succ d ih =>
    intro k i h0 h1 hd hk
    obtain ⟨k, rfl⟩ : ∃ m, k = m + 1 := ⟨k - 1, by omega⟩
    have hb := bt_range s i
    simp only [spec_TextOk.l0, lets, spec_l6In.f]
    rw [if_pos (by omega), if_pos h0, w64t (x := bt s i) (by omega) (by omega)]
    by_cases c1 : 97 ≤ bt s i
    · rw [if_pos c1]
      by_cases c2 : bt s i ≤ 122
      · simp only [Option.bind_some, c1, c2, decide_true, if_true, Bool.true_and]
        rw [w64t (by omega) (by omega)]
        exact ih k (i + 1) (by omega) (by omega) (by omega) (by omega)
      · simp [c2]
    · rw [if_neg c1]; simp [c1]
theorem xor_nn_t (a b : Int) (h1 : 0 ≤ a) (h2 : a < 9223372036854775808) (h3 : 0 ≤ b) (h4 : b < 9223372036854775808) : 0 ≤ Go.bits .xor .i64 a b := by
  obtain ⟨a, rfl⟩ := Int.eq_ofNat_of_zero_le h1
  obtain ⟨b, rfl⟩ := Int.eq_ofNat_of_zero_le h3
  have hx : a ^^^ b < 2 ^ 63 := Nat.xor_lt_two_pow (by omega) (by omega)
  have e1 : (BitVec.ofInt 64 (a : Int)).toNat = a := by
    rw [BitVec.ofInt_natCast, BitVec.toNat_ofNat]; exact Nat.mod_eq_of_lt (by omega)
  have e2 : (BitVec.ofInt 64 (b : Int)).toNat = b := by
    rw [BitVec.ofInt_natCast, BitVec.toNat_ofNat]; exact Nat.mod_eq_of_lt (by omega)
  show 0 ≤ IntKind.i64.wrap ((BitVec.ofInt 64 (a : Int) ^^^ BitVec.ofInt 64 (b : Int)).toNat : Int)
  rw [BitVec.toNat_xor, e1, e2]
  simp [IntKind.wrap, IntKind.bits, IntKind.signed]
  omega
theorem rd_byte_t (l : List Int) (hb : ∀ x ∈ l, 0 ≤ x ∧ x ≤ 255) (i : Int) : 0 ≤ rd l i ∧ rd l i ≤ 255 := by
  unfold rd
  by_cases h : i.toNat < l.length
  · rw [show l.getD i.toNat 0 = l[i.toNat] by simp [h]]; exact hb _ (List.getElem_mem h)
  · rw [show l.getD i.toNat 0 = 0 by simp [show l.length ≤ i.toNat by omega]]; omega
theorem tmod_in_t {a b : Int} (h : 0 ≤ a) (hb : 0 < b) : 0 ≤ Int.tmod a b ∧ Int.tmod a b < b :=
  ⟨Int.tmod_nonneg _ h, Int.tmod_lt_of_pos _ hb⟩
theorem pick_some_t (l : List Int) (hl : l.length ≤ 2000) (hb : ∀ x ∈ l, 0 ≤ x ∧ x ≤ 255) (p n : Int) (hp : 0 ≤ p) (hp2 : p ≤ 1000000000) (hn : 1 ≤ n) (hn2 : n ≤ 1000000) (k : Nat) (hk : 1 ≤ k) :
    ∃ v, spec_l6Rd_pick.f k l p n = some (v, p + 1) ∧ 0 ≤ v ∧ v < n := by
  obtain ⟨k, rfl⟩ : ∃ m, k = m + 1 := ⟨k - 1, by omega⟩
  have ep : wrap64 (p + 1) = p + 1 := w64t (by omega) (by omega)
  have eq : wrap64 (p + 1 - 1) = p := by rw [show p + 1 - 1 = p by omega]; exact w64t (by omega) (by omega)
  unfold spec_l6Rd_pick.f
  rw [if_neg (by omega), ep]
  simp only [spec_l6Rd_pick.j0, eq]
  by_cases hz : l.length = 0
  · exact ⟨0, by simp [hz], by omega, by omega⟩
  · have hz' : ((l.length : Int) == 0) = false := by rw [beq_eq_false_iff_ne]; omega
    rw [hz', if_neg (by simp)]
    by_cases hlt : p < (l.length : Int)
    · rw [if_pos hlt, if_pos hp, if_neg (by omega)]
      have hr := rd_byte_t l hb p
      rw [w64t (x := rd l p) (by omega) (by omega)]
      have ht := tmod_in_t (a := rd l p) (b := n) (by omega) (by omega)
      exact ⟨_, rfl, ht.1, ht.2⟩
    · have e7 : wrap64 (p * 7) = p * 7 := w64t (by omega) (by omega)
      have e73 : wrap64 (p * 7 + 3) = p * 7 + 3 := w64t (by omega) (by omega)
      have t1 := tmod_in_t (a := p) (b := (l.length : Int)) hp (by omega)
      have t2 := tmod_in_t (a := p * 7 + 3) (b := (l.length : Int)) (by omega) (by omega)
      rw [if_neg hlt, if_neg (by omega), if_pos t1.1, if_pos t1.2, e7, e73, if_pos t2.1, if_pos t2.2, if_neg (by omega)]
      have r1 := rd_byte_t l hb (Int.tmod p l.length)
      have r2 := rd_byte_t l hb (Int.tmod (p * 7 + 3) l.length)
      have q1 : 0 ≤ Int.tdiv p l.length := Int.tdiv_nonneg hp (by omega)
      have q2 : Int.tdiv p l.length ≤ p := by
        rw [Int.tdiv_eq_ediv_of_nonneg hp]
        exact Int.ediv_le_self _ hp
      generalize rd l (Int.tmod p l.length) = a at *
      generalize rd l (Int.tmod (p * 7 + 3) l.length) = b at *
      generalize Int.tdiv p l.length = q at *
      have hX : wrap64 ((wrap64 ((wrap64 ((wrap64 ((wrap64 a) * 131)) + (wrap64 ((wrap64 b) * 1117)))) + (wrap64 (p * 29)))) + (wrap64 ((wrap64 q) * 53))) = a * 131 + b * 1117 + p * 29 + q * 53 := by
        rw [w64t (x := a) (by omega) (by omega), w64t (x := b) (by omega) (by omega), w64t (x := q) (by omega) (by omega)]
        rw [w64t (x := a * 131) (by omega) (by omega), w64t (x := b * 1117) (by omega) (by omega), w64t (x := p * 29) (by omega) (by omega), w64t (x := q * 53) (by omega) (by omega)]
        rw [w64t (x := a * 131 + b * 1117) (by omega) (by omega), w64t (x := a * 131 + b * 1117 + p * 29) (by omega) (by omega)]
        exact w64t (by omega) (by omega)
      rw [hX]
      have hX0 : 0 ≤ a * 131 + b * 1117 + p * 29 + q * 53 := by omega
      have hX1 : a * 131 + b * 1117 + p * 29 + q * 53 ≤ 100000000000 := by omega
      generalize a * 131 + b * 1117 + p * 29 + q * 53 = X at *
      have d0 : 0 ≤ Int.tdiv X 64 := Int.tdiv_nonneg hX0 (by omega)
      have d1 : Int.tdiv X 64 ≤ X := by
        rw [Int.tdiv_eq_ediv_of_nonneg hX0]
        exact Int.ediv_le_self _ hX0
      rw [w64t (x := Int.tdiv X 64) (by omega) (by omega)]
      have hx := xor_nn_t X (Int.tdiv X 64) hX0 (by omega) d0 (by omega)
      have ht := tmod_in_t (a := Go.bits .xor .i64 X (Int.tdiv X 64)) (b := n) hx (by omega)
      exact ⟨_, rfl, ht.1, ht.2⟩
theorem open_some_t (l : List Int) (hb : ∀ x ∈ l, (Lit.int .u8 x).wf = true) : ∃ l', spec_l6Open.f l = some (l', 0) ∧ l'.length ≤ 2000 ∧ ∀ x ∈ l', 0 ≤ x ∧ x ≤ 255 := by
  have hb' : ∀ x ∈ l, 0 ≤ x ∧ x ≤ 255 := fun x hx => by
    have := hb x hx
    simp [Lit.wf, IntKind.min, IntKind.max, IntKind.signed, IntKind.bits] at this
    omega
  unfold spec_l6Open.f
  by_cases h : (l.length : Int) > 2000
  · rw [if_pos h, if_pos (by omega)]
    exact ⟨_, rfl, by rw [List.length_take]; omega, fun x hx => hb' x (List.mem_of_mem_take hx)⟩
  · rw [if_neg h]
    exact ⟨_, rfl, by omega, hb'⟩
theorem rd_in_t {l : List Int} {P : Int → Prop} (h : ∀ x ∈ l, P x) {i : Int} (h0 : 0 ≤ i) (h1 : i < (l.length : Int)) : P (rd l i) := by
  unfold rd
  have hi : i.toNat < l.length := by omega
  rw [show l.getD i.toNat 0 = l[i.toNat] by simp [hi]]; exact h _ (List.getElem_mem _)
theorem of_some_t (l : List Int) (hl : l.length ≤ 2000) (hb : ∀ x ∈ l, 0 ≤ x ∧ x ≤ 255) (p : Int) (hp : 0 ≤ p) (hp2 : p ≤ 900000000) (xs : List ByteArray) (hx : 1 ≤ xs.length) (hx2 : xs.length ≤ 1000) (B : Nat) (hB : ∀ x ∈ xs, x.size ≤ B) (k : Nat) (hk : 1 ≤ k) :
    ∃ v, spec_l6Rd_of.f k l p xs = some (v, p + 1) ∧ v.size ≤ B := by
  unfold spec_l6Rd_of.f
  obtain ⟨v1, e1, a1, b1⟩ := pick_some_t l hl hb p (xs.length : Int) hp (by omega) (by omega) (by omega) k hk
  rw [e1]; simp only [Option.bind_some]
  rw [if_pos a1, if_pos b1]
  refine ⟨_, rfl, ?_⟩
  unfold rdOf
  have hi : v1.toNat < xs.length := by omega
  rw [show xs.getD v1.toNat ByteArray.empty = xs[v1.toNat] by simp [hi]]
  exact hB _ (List.getElem_mem _)
theorem size_strOfNums_t (l : List Int) : (strOfNums l).size = l.length := by
  simp [strOfNums, ByteArray.size]
theorem text_l_t (l : List Int) (hl : l.length ≤ 2000) (hb : ∀ x ∈ l, 0 ≤ x ∧ x ≤ 255) (d : Nat) : ∀ (k : Nat) (s : ByteArray) (p : Int), s.size + d ≤ 1000 → 0 ≤ p → p + d ≤ 100000000 → d + 1 < k →
    ∃ r q, spec_l93Text.l0 k s (d : Int) l p = some (r, q) ∧ r.size ≤ 1001 ∧ p ≤ q ∧ q ≤ p + d + 2 := by
  induction d with
  | zero =>
    intro k s p hs hp hp2 hk
    obtain ⟨k, rfl⟩ : ∃ m, k = m + 1 := ⟨k - 1, by omega⟩
    have hk1 : 1 ≤ k := by omega
    simp only [spec_l93Text.l0]
    rw [if_neg (by omega)]
    obtain ⟨v1, e1, a1, b1⟩ := pick_some_t l hl hb p 30 hp (by omega) (by omega) (by omega) k hk1
    rw [e1]; simp only [Option.bind_some]
    by_cases c : v1 = 0
    · rw [if_pos c, if_pos (by omega)]
      obtain ⟨v, e2, hv⟩ := of_some_t l hl hb (p + 1) (by omega) (by omega) [(⟨#[]⟩ : ByteArray), s ++ (⟨#[65]⟩ : ByteArray), (⟨#[97, 98, 99, 100, 101, 102, 103, 104, 105, 106, 107, 108, 109, 110, 111]⟩ : ByteArray), (⟨#[97, 32, 98]⟩ : ByteArray)] (by simp) (by simp) 1001 (by
        intro x hx
        simp only [List.mem_cons, List.not_mem_nil, or_false] at hx
        rcases hx with rfl | rfl | rfl | rfl
        · simp [ByteArray.size]
        · have : (⟨#[65]⟩ : ByteArray).size = 1 := rfl
          rw [ByteArray.size_append, this]; omega
        · simp [ByteArray.size]
        · simp [ByteArray.size]) k hk1
      rw [e2]; simp only [Option.bind_some]
      exact ⟨_, _, rfl, hv, by omega, by omega⟩
    · rw [if_neg c]; exact ⟨_, _, rfl, by omega, by omega, by omega⟩
  | succ d ih =>
    intro k s p hs hp hp2 hk
    obtain ⟨k, rfl⟩ : ∃ m, k = m + 1 := ⟨k - 1, by omega⟩
    have hk1 : 1 ≤ k := by omega
    simp only [spec_l93Text.l0]
    rw [if_pos (by omega)]
    obtain ⟨v1, e1, a1, b1⟩ := pick_some_t l hl hb p 26 hp (by omega) (by omega) (by omega) k hk1
    rw [e1]; simp only [Option.bind_some]
    have h1 : (strOfNums ([(wrap64 (97 + v1)) % 256] : List Int)).size = 1 := by rw [size_strOfNums_t]; rfl
    rw [if_pos (by omega), w64t (x := ((d + 1 : Nat) : Int) - 1) (by omega) (by omega), show ((d + 1 : Nat) : Int) - 1 = (d : Int) by omega]
    obtain ⟨r, q, e, h, q1, q2⟩ := ih k (s ++ strOfNums [(wrap64 (97 + v1)) % 256]) (p + 1) (by rw [ByteArray.size_append]; omega) (by omega) (by omega) (by omega)
    exact ⟨r, q, e, h, by omega, by omega⟩
theorem specOk_t (s : ByteArray) (hs : s.size ≤ 140737488351232) : Ev (fun k => spec_TextOk.f k s) (tok s) :=
  ⟨s.size + 1, fun k hk => by unfold spec_TextOk.f tok; exact specOk_l_t s hs s.size k 0 (by omega) (by omega) (by omega) (by omega)⟩
theorem specl51Rows_t (s : ByteArray) (hs : s.size ≤ 140737488351232) : spec_l51Rows.f s = some ((chunks s.size : Nat) : Int) := by
  unfold spec_l51Rows.f chunks
  rw [w64t (x := (s.size : Int) + 4) (by omega) (by omega), w64t (x := (s.size : Int) + 4 - 1) (by omega) (by omega), Int.tdiv_eq_ediv_of_nonneg (by omega), w64t (by omega) (by omega)]
  congr 1
  omega
theorem specRows_t (s : ByteArray) (hs : s.size ≤ 140737488351232) : Ev (fun k => spec_TextRows.f k s) (rowsT s) := by
  refine (specOk_t s hs).bind ?_
  by_cases c : tok s = true
  · rw [c]
    refine tv_pos rfl (tv_call (specl51Rows_t s hs) (tv_eq (Ev.now _) ?_))
    unfold rowsT; rw [if_pos c]
  · have c' := c
    rw [Bool.not_eq_true] at c'
    rw [c']
    refine tv_neg (by simp) (tv_eq (Ev.now _) ?_)
    unfold rowsT; rw [if_neg c]
theorem implRows_f (s : ByteArray) (hs : s.size ≤ 140737488351232) : impl_TextRows.f s = some (rowsT s) := by unfold impl_TextRows.f; rw [if_pos hs]
theorem implCut_f (s : ByteArray) (hs : s.size ≤ 140737488351232) : impl_TextCut.f s = some (cutT s) := by unfold impl_TextCut.f; rw [if_pos hs]
theorem text_ev (l : List Int) (hl : l.length ≤ 2000) (hb : ∀ x ∈ l, 0 ≤ x ∧ x ≤ 255) (p : Int) (hp : 0 ≤ p) (hp2 : p ≤ 10000000) : ∃ r q, Ev (fun k => spec_l93Text.f k l p) (r, q) ∧ r.size ≤ 1001 ∧ p ≤ q ∧ q ≤ p + 100 := by
  obtain ⟨n, e1, n1, n2⟩ := pick_some_t l hl hb p 9 hp (by omega) (by omega) (by omega) 50 (by omega)
  obtain ⟨n, rfl⟩ := Int.eq_ofNat_of_zero_le n1
  obtain ⟨r, q, e2, hr, q1, q2⟩ := text_l_t l hl hb (n + 1) 50 ⟨#[]⟩ (p + 1) (by simp [ByteArray.size]; omega) (by omega) (by omega) (by omega)
  have et : spec_l93Text.f 50 l p = some (r, q) := by
    unfold spec_l93Text.f
    rw [e1, Option.bind_some]
    show spec_l93Text.l0 50 ⟨#[]⟩ (wrap64 (1 + (n : Int))) l (p + 1) = _
    have w := w64t (x := 1 + (n : Int)) (by omega) (by omega)
    have w2 : (1 : Int) + (n : Int) = ((n + 1 : Nat) : Int) := by omega
    rw [w, w2, e2]
  exact ⟨r, q, ⟨50, fun k hk => at_rounds (g := fun k => spec_l93Text.f k l p) (fun k => spec_l93Text.mono _ _ k) hk et⟩, hr, by omega, by omega⟩
end Go.Proofs.Ytbfkcfmhlanlnaa.K
end
section
namespace Go.Proofs.Ytbfkcfmhlanlnaa.K
open Go.RowKit Go.Proofs.YtbfkcfmhlanlnaaW.PrintWords Go.Proofs.YtbfkcfmhlanlnaaW.PrintLast Go.Proofs.YtbfkcfmhlanlnaaW.PrintMore
attribute [local go_sem] max2_int min2_int max_two min_two max_three min_three max_four min_four
set_option linter.unusedVariables false
set_option linter.unusedSimpArgs false
def impl_FieldOk.f (a0 : Int) : Option (Bool) := (impl_within.f a0 0 30).bind fun t101 => (some t101)
set_option maxHeartbeats 8000000 in
set_option maxRecDepth 100000 in
theorem impl_FieldOk.calls (a0 : Int) (r : Bool) (w : World) (h : impl_FieldOk.f a0 = some r) :
    Calls Try.prog 75 #[.int .i64 a0] w fun e w' => e = .returned (.bool r) ∧ Drawn0 w w' := by
  have H : ((impl_within.f a0 0 30).bind fun t101 => (some t101)) = some r := h
  clear h
  replace H := Option.bind_eq_some_iff.mp H
  obtain ⟨t101, A20, H⟩ := H
  replace H : (some t101) = some r := H
  have A2 := Aside0.mk A20
  clear A20
  obtain rfl := Option.some.inj H
  go_enter Try.func75, Try.ntmps75
  go_wp2_with (first | ((with_reducible refine gate_callee (f := 66) rfl ?_); refine goesL_ (some 4) rfl rfl Try.func66 (by kernel_rfl) rfl #[.int .i64 a0, .int .i64 0, .int .i64 30] rfl (by (try simp only [List.map_toArray, List.map_cons, List.map_nil]); first | done | rfl | (simp only [List.length_drop, List.length_take]; rfl)) ?_; (with_reducible refine (impl_within.calls a0 0 30 t101 _ A2.out).mono ?_); rintro e w' ⟨rfl, ⟨nd, rfl⟩⟩; refine ⟨_, rfl, ?_⟩))
  go_ret
  exact ⟨by first | rfl | (simp; done) | (simp [*]; done), by repeat (first | exact Drawn0.refl _ | apply Drawn0.step)⟩
def impl_FieldOk.Pure : Prop := ∀ (a0 : Int), (Lit.int .i64 a0).wf = true → impl_FieldOk.f a0 = some true
theorem impl_FieldOk.walk (P : impl_FieldOk.Pure) (a0 : Int) (w : World) (w0 : (Lit.int .i64 a0).wf = true) :
    Calls Try.prog 75 #[.int .i64 a0] w fun e w' => e = .returned (.bool true) ∧ Below w.heap.size w w' := by
  have h := P a0 w0
  refine (impl_FieldOk.calls a0 true w h).mono ?_
  rintro e w' ⟨rfl, hd⟩
  exact ⟨rfl, hd.below⟩
end Go.Proofs.Ytbfkcfmhlanlnaa.K
end
section
namespace Go.Proofs.Ytbfkcfmhlanlnaa.K
open Go.RowKit Go.Proofs.YtbfkcfmhlanlnaaW.PrintWords Go.Proofs.YtbfkcfmhlanlnaaW.PrintLast Go.Proofs.YtbfkcfmhlanlnaaW.PrintMore
def fld (n : Int) : Bool := decide (0 ≤ n) && decide (n ≤ 30)
theorem fieldOk_f (n : Int) : impl_FieldOk.f n = some (fld n) := by
  unfold impl_FieldOk.f impl_within.f fld
  by_cases h : n ≥ 0
  · rw [if_pos h]; simp [h]
  · rw [if_neg h]; simp [h]
theorem isBad_calls (n : Int) (w : World) :
    Calls Try.prog 95 #[.int .i64 n] w fun e w' => e = .returned (.bool (!fld n)) ∧ Drawn0 w w' := by
  go_enter Try.func95, Try.ntmps95
  go_wp2_with fail
  refine (impl_FieldOk.calls n _ w (fieldOk_f n)).mono ?_
  rintro e w' ⟨rfl, ⟨m, rfl⟩⟩
  go_wp2
  go_ret
  exact ⟨rfl, ⟨⟨m, rfl⟩⟩⟩
def badAt (l : List Int) : Nat → Int → Int
  | 0, _ => -1
  | d + 1, i => if fld (rd l i) = true then badAt l d (i + 1) else i
theorem badAt_succ (l : List Int) (d : Nat) (i : Int) : badAt l (d + 1) i = if fld (rd l i) = true then badAt l d (i + 1) else i := rfl
set_option maxHeartbeats 1000000 in
theorem indexBad_calls (A0 : Option Addr) (c0 : Nat) (l0 : List Int) (w : World) (hr0 : Kd.C (Kd.int .i64) w A0 l0.length l0) (hlen : l0.length ≤ 9223372036854775807) :
    Calls Try.prog 106 #[.slice A0 l0.length c0, .func (.func 95) #[] #[]] w fun e w' => e = .returned (.int .i64 (badAt l0 l0.length 0)) ∧ Drawn0 w w' := by
  have HR0 := Aside0.mk hr0
  clear hr0
  go_enter Try.func106, Try.ntmps106
  go_wp2
  go_loopg [8] l0.length (fun d v8 w' => ∃ x : Int, v8 = .int .i64 x ∧ Aside0 (x + d = l0.length) ∧ Aside0 (0 ≤ x) ∧ Aside0 (badAt l0 l0.length 0 = badAt l0 d x) ∧ Drawn0 w w')
  case atStart => exact ⟨0, rfl, ⟨by omega⟩, ⟨by omega⟩, ⟨rfl⟩, Drawn0.refl _⟩
  case round =>
    obtain ⟨x, rfl, HE, H0, HB, ⟨m1, rfl⟩⟩ := hrel
    cases gk with
    | zero =>
      have c1 : decide (x < (l0.length : Int)) = false := decide_eq_false (by have := HE.out; omega)
      go_wp2
      go_ret
      exact ⟨by rw [HB.out]; rfl, ⟨⟨m1, rfl⟩⟩⟩
    | succ d =>
      have p1 := H0.out
      have q1 : x < (l0.length : Int) := by have := HE.out; omega
      obtain ⟨ad, e1, hx⟩ := Kd.at_int HR0.out x p1 q1
      cases e1
      have c1 : decide (x < (l0.length : Int)) = true := decide_eq_true q1
      by_cases c : fld (rd l0 x) = true
      · have hB2 : Aside0 (badAt l0 l0.length 0 = badAt l0 d (x + 1)) := ⟨by rw [HB.out, badAt_succ, if_pos c]⟩
        have c2 : (!fld (rd l0 x)) = false := by rw [c]; rfl
        have hw : IntKind.i64.wrap (x + 1) = x + 1 := IntWalk.i64_in _ (by have := HE.out; omega)
        clear c HB
        go_wp2_with fail
        refine (isBad_calls _ _).mono ?_
        rintro e w' ⟨rfl, ⟨m2, rfl⟩⟩
        rw [c2]
        go_wp2
        go_roundg d
        case measure => omega
        case rel => exact ⟨x + 1, by first | rfl | (simp [hw]; done), ⟨by have := HE.out; omega⟩, ⟨by omega⟩, hB2, ⟨⟨m1 + m2, rfl⟩⟩⟩
      · have c2 : (!fld (rd l0 x)) = true := by rw [Bool.not_eq_true] at c; rw [c]; rfl
        have hB2 : Aside0 (badAt l0 l0.length 0 = x) := ⟨by rw [HB.out, badAt_succ, if_neg c]⟩
        clear c HB
        go_wp2_with fail
        refine (isBad_calls _ _).mono ?_
        rintro e w' ⟨rfl, ⟨m2, rfl⟩⟩
        rw [c2]
        go_wp2
        go_ret
        exact ⟨by rw [hB2.out]; rfl, ⟨⟨m1 + m2, rfl⟩⟩⟩
theorem badAt_neg (l : List Int) : ∀ (d : Nat) (x : Int), 0 ≤ x → x + d = l.length → (0 ≤ badAt l d x ↔ ¬ (l.drop x.toNat).all fld = true) := by
  intro d
  induction d with
  | zero =>
    intro x h0 h1
    rw [List.drop_eq_nil_of_le (by omega)]
    simp [badAt]
  | succ d ih =>
    intro x h0 h1
    have hx : x.toNat < l.length := by omega
    have e : rd l x = l[x.toNat] := by unfold rd; simp [hx]
    rw [List.drop_eq_getElem_cons hx, List.all_cons, badAt_succ, e]
    by_cases c : fld l[x.toNat] = true
    · rw [if_pos c, ih (x + 1) (by omega) (by omega), show (x + 1).toNat = x.toNat + 1 by omega, c, Bool.true_and]
    · rw [if_neg c]
      rw [Bool.not_eq_true] at c
      rw [c, Bool.false_and]
      simp [h0]
set_option maxHeartbeats 1000000 in
theorem containsBad_calls (A0 : Option Addr) (c0 : Nat) (l0 : List Int) (w : World) (hr0 : Kd.C (Kd.int .i64) w A0 l0.length l0) (hlen : l0.length ≤ 9223372036854775807) :
    Calls Try.prog 94 #[.slice A0 l0.length c0, .func (.func 95) #[] #[]] w fun e w' => e = .returned (.bool (!l0.all fld)) ∧ Drawn0 w w' := by
  have HR0 := Aside0.mk hr0
  clear hr0
  have hb := badAt_neg l0 l0.length 0 (by omega) (by omega)
  have hp : Aside0 (decide (0 ≤ badAt l0 l0.length 0) = !l0.all fld) := ⟨by
    rw [Int.toNat_zero, List.drop_zero] at hb
    rw [Bool.eq_iff_iff, decide_eq_true_eq, hb, Bool.not_eq_true']; simp⟩
  clear hb
  go_enter Try.func94, Try.ntmps94
  go_wp2_with fail
  refine (indexBad_calls _ _ _ _ HR0.out hlen).mono ?_
  rintro e w' ⟨rfl, ⟨m1, rfl⟩⟩
  go_wp2
  go_ret
  exact ⟨by rw [← hp.out]; rfl, ⟨⟨m1, rfl⟩⟩⟩
def impl_elementsOk.f (l0 : List Int) (a1 : Int) : Option Bool := if l0.length ≤ 9223372036854775807 then some (decide ((l0.length : Int) = a1) && l0.all fld) else none
set_option maxHeartbeats 1000000 in
theorem impl_elementsOk.calls (A0 : Option Addr) (c0 : Nat) (l0 : List Int) (a1 : Int) (r : Bool) (w : World) (hr0 : Kd.C (Kd.int .i64) w A0 l0.length l0) (_hc0 : l0.length ≤ c0) (h : impl_elementsOk.f l0 a1 = some r) :
    Calls Try.prog 69 #[.slice A0 l0.length c0, .int .i64 a1] w fun e w' => e = .returned (.bool r) ∧ Drawn0 w w' := by
  have HR0 := Aside0.mk hr0
  clear hr0
  unfold impl_elementsOk.f at h
  by_cases hl : l0.length ≤ 9223372036854775807
  · rw [if_pos hl] at h
    by_cases c : (l0.length : Int) = a1
    · have hr : Aside0 (r = l0.all fld) := ⟨by simpa [c] using h.symm⟩
      clear h
      have c1 : ((l0.length : Int) == a1) = true := beq_iff_eq.mpr c
      clear c
      go_enter Try.func69, Try.ntmps69
      go_wp2_with fail
      refine (containsBad_calls _ _ _ _ HR0.out hl).mono ?_
      rintro e w' ⟨rfl, ⟨m1, rfl⟩⟩
      go_wp2
      go_ret
      exact ⟨by rw [hr.out]; simp, ⟨⟨m1, rfl⟩⟩⟩
    · have hr : Aside0 (r = false) := ⟨by simpa [c] using h.symm⟩
      clear h
      have c1 : ((l0.length : Int) == a1) = false := beq_eq_false_iff_ne.mpr c
      clear c
      go_enter Try.func69, Try.ntmps69
      go_wp2
      go_ret
      exact ⟨by rw [hr.out]; rfl, Drawn0.refl _⟩
  · rw [if_neg hl] at h; exact absurd h (by simp)
end Go.Proofs.Ytbfkcfmhlanlnaa.K
end
section
namespace Go.Proofs.Ytbfkcfmhlanlnaa.K
open Go.RowKit Go.Proofs.YtbfkcfmhlanlnaaW.PrintWords Go.Proofs.YtbfkcfmhlanlnaaW.PrintLast Go.Proofs.YtbfkcfmhlanlnaaW.PrintMore
attribute [local go_sem] max2_int min2_int max_two min_two max_three min_three max_four min_four
set_option linter.unusedVariables false
set_option linter.unusedSimpArgs false
def impl_VecOk.f (l0 : List Int) : Option (Bool) := (impl_elementsOk.f l0 4).bind fun t101 => (some t101)
set_option maxHeartbeats 8000000 in
set_option maxRecDepth 100000 in
theorem impl_VecOk.calls (A0 : Option Addr) (c0 : Nat) (l0 : List Int) (r : Bool) (w : World) (hr0 : Kd.C (Kd.int .i64) w A0 l0.length l0) (hc0 : l0.length ≤ c0) (h : impl_VecOk.f l0 = some r) :
    Calls Try.prog 34 #[.slice A0 l0.length c0] w fun e w' => e = .returned (.bool r) ∧ Drawn0 w w' := by
  have HR0 := Aside0.mk hr0
  have HC0 := Aside0.mk hc0
  clear hr0 hc0
  have H : ((impl_elementsOk.f l0 4).bind fun t101 => (some t101)) = some r := h
  clear h
  replace H := Option.bind_eq_some_iff.mp H
  obtain ⟨t101, A20, H⟩ := H
  replace H : (some t101) = some r := H
  have A2 := Aside0.mk A20
  clear A20
  obtain rfl := Option.some.inj H
  go_enter Try.func34, Try.ntmps34
  go_wp2_with (first | ((with_reducible refine gate_callee (f := 69) rfl ?_); refine goesL_ (some 4) rfl rfl Try.func69 (by kernel_rfl) rfl #[.slice A0 l0.length c0, .int .i64 4] rfl (by (try simp only [List.map_toArray, List.map_cons, List.map_nil]); first | done | rfl | (simp only [List.length_drop, List.length_take]; rfl)) ?_; (with_reducible refine (impl_elementsOk.calls _ _ l0 4 t101 _ ?side1 ?side2 A2.out).mono ?_); (case side1 => repeat (first | exact HR0.out | (with_reducible refine Kd.C_alloc ?_ _) | (with_reducible refine Kd.C_drewN ?_ _) | (with_reducible refine Kd.C_drew ?_))); (case side2 => exact HC0.out); rintro e w' ⟨rfl, ⟨nd, rfl⟩⟩; refine ⟨_, rfl, ?_⟩))
  go_ret
  exact ⟨by first | rfl | (simp; done) | (simp [*]; done), by repeat (first | exact Drawn0.refl _ | apply Drawn0.step)⟩
end Go.Proofs.Ytbfkcfmhlanlnaa.K
end
section
namespace Go.Proofs.Ytbfkcfmhlanlnaa.K
open Go.RowKit Go.Proofs.YtbfkcfmhlanlnaaW.PrintWords Go.Proofs.YtbfkcfmhlanlnaaW.PrintLast Go.Proofs.YtbfkcfmhlanlnaaW.PrintMore
attribute [local go_sem] max2_int min2_int max_two min_two max_three min_three max_four min_four
set_option linter.unusedVariables false
set_option linter.unusedSimpArgs false
def spec_TextCut.f (k : Nat) (a0 : ByteArray) : Option ((List (List Int))) := (spec_TextOk.f k a0).bind fun t101 => (if t101 = true then ((spec_l51Cut.f k a0).bind fun t102 => (some t102)) else (some (([] : List (List Int)))))
theorem spec_TextCut.mono : ∀ a0 k, LeO (spec_TextCut.f k a0) (spec_TextCut.f (k + 1) a0) := by
  intro a0 k
  unfold spec_TextCut.f
  repeat' first
      | (with_reducible exact spec_TextOk.mono _ _)
      | (with_reducible exact spec_l51Cut.mono _ _)
      | (with_reducible exact LeO.refl _)
      | (with_reducible exact LeO.none _)
      | (with_reducible refine LeO.ite ?_ ?_)
      | (with_reducible refine LeO.bind ?_ (fun _ => ?_))
      | exact spec_TextOk.mono _ _
      | exact spec_l51Cut.mono _ _
      | exact LeO.none _
      | refine LeO.ite ?_ ?_
      | refine LeO.bind ?_ (fun _ => ?_)
set_option maxHeartbeats 8000000 in
set_option maxRecDepth 100000 in
theorem spec_TextCut.calls (k : Nat) (a0 : ByteArray) (r : List (List Int)) (w : World) (h : spec_TextCut.f k a0 = some r) :
    Calls Try.prog 16 #[.string a0] w fun e w' => ∃ v0_ : Value, e = .returned (v0_) ∧ Kd.S (Kd.slice 3 (Kd.int .i64)) 34 w' w.heap.size (fun _ => True) v0_ r ∧ Below w.heap.size w w' := by
  have HB := Aside0.mk (Below.refl w.heap.size w)
  have H : ((spec_TextOk.f k a0).bind fun t101 => (if t101 = true then ((spec_l51Cut.f k a0).bind fun t102 => (some t102)) else (some (([] : List (List Int)))))) = some r := h
  clear h
  replace H := Option.bind_eq_some_iff.mp H
  obtain ⟨t101, A20, H⟩ := H
  replace H : (if t101 = true then ((spec_l51Cut.f k a0).bind fun t102 => (some t102)) else (some (([] : List (List Int))))) = some r := H
  have A2 := Aside0.mk A20
  clear A20
  by_cases c3 : t101 = true
  · subst c3
    have H1 : ((spec_l51Cut.f k a0).bind fun t102 => (some t102)) = some r := by rw [if_pos rfl] at H; exact H
    clear H
    have H := H1
    clear H1
    replace H := Option.bind_eq_some_iff.mp H
    obtain ⟨t102, A40, H⟩ := H
    replace H : (some t102) = some r := H
    have A4 := Aside0.mk A40
    clear A40
    obtain rfl := Option.some.inj H
    go_enter Try.func16, Try.ntmps16
    go_wp2_with (first | ((with_reducible refine gate_callee (f := 32) rfl ?_); refine goesL_ (some 4) rfl rfl Try.func32 (by kernel_rfl) rfl #[.string a0] rfl (by (try simp only [List.map_toArray, List.map_cons, List.map_nil]); first | done | rfl | (simp only [List.length_drop, List.length_take]; rfl)) ?_; (with_reducible refine (spec_TextOk.calls k a0 true _ A2.out).mono ?_); rintro e w' ⟨rfl, ⟨nd, rfl⟩⟩; refine ⟨_, rfl, ?_⟩) | ((with_reducible refine gate_callee (f := 58) rfl ?_); refine goesL_ (some 8) rfl rfl Try.func58 (by kernel_rfl) rfl #[.string a0] rfl (by (try simp only [List.map_toArray, List.map_cons, List.map_nil]); first | done | rfl | (simp only [List.length_drop, List.length_take]; rfl)) ?_; (with_reducible refine (spec_l51Cut.calls k a0 t102 _ A4.out).mono ?_); rintro e w5 ⟨v103, rfl, ho0, hb⟩; refine ⟨_, rfl, ?_⟩; have n0_ := Aside0.mk (Kd.S_lower ho0 (below_size (by repeat (first | (with_reducible first | exact HB.out | apply below_alloc | apply pw_below_drewN | apply below_drew1) | exact HB.out)))); have n1_ := Aside0.mk (below_step (by repeat (first | (with_reducible first | exact HB.out | apply below_alloc | apply pw_below_drewN | apply below_drew1) | exact HB.out)) hb); clear HB; have HO104 := n0_; have HB := n1_; clear n0_ n1_; (try clear hb); (try clear hb2); (try clear hk); (try clear hi); (try clear ho0)))
    go_ret
    exact ⟨_, by first | rfl | (simp [errW_none, errW_some] <;> rfl) | (simp [*, errW_none, errW_some] <;> rfl), by (with_reducible repeat (first | apply Kd.S_alloc | apply Kd.S_drewN | apply Kd.S_drew)); exact HO104.out, by repeat (first | (with_reducible first | exact HB.out | apply below_alloc | apply pw_below_drewN | apply below_drew1) | exact HB.out)⟩
  · replace c3 := Bool.eq_false_iff.mpr c3
    subst c3
    have H1 : (some (([] : List (List Int)))) = some r := by rw [if_neg (show ¬ (false = true) by decide)] at H; exact H
    clear H
    have H := H1
    clear H1
    obtain ⟨y105, hy105⟩ : ∃ y_ : List (List Int), y_ = (([] : List (List Int))) := ⟨_, rfl⟩
    replace H : (some y105) = some r := by first | (rw [hy105]; with_reducible exact H) | (have H2_ := (Option.bind_some _ _).symm.trans H; rw [hy105]; with_reducible exact H2_) | (have H2_ := (Option.bind_some _ _).symm.trans H; with_reducible exact H2_) | with_reducible exact H | (rw [hy105]; exact H) | exact H
    have Ny105 := Aside0.mk hy105
    clear hy105
    obtain rfl := Option.some.inj H
    go_enter Try.func16, Try.ntmps16
    go_wp2_with (first | ((with_reducible refine gate_callee (f := 32) rfl ?_); refine goesL_ (some 4) rfl rfl Try.func32 (by kernel_rfl) rfl #[.string a0] rfl (by (try simp only [List.map_toArray, List.map_cons, List.map_nil]); first | done | rfl | (simp only [List.length_drop, List.length_take]; rfl)) ?_; (with_reducible refine (spec_TextOk.calls k a0 false _ A2.out).mono ?_); rintro e w' ⟨rfl, ⟨nd, rfl⟩⟩; refine ⟨_, rfl, ?_⟩) | ((with_reducible refine gate_dst (N := 6) rfl ?_); refine Kd.S_lit (Kd.slice 3 (Kd.int .i64)) _ 34 ?hg (N := 6) ?hd (xs := ([] : List (List Int))) (inner := []) (ok := fun _ => True) (okp := fun _ => True) ?hr ?hp (fun _ hk => hk) trivial (Below.refl _ _) (Nat.le_refl _) (by simp) ?_; (case hd => rfl); (case hg => rfl); (case hr => first | (go_simp; done) | (go_simp; rfl)); (case hp => exact (Reps.none _ _)); intro v106 w6 ho7 hb hg_ hnew_; clear hg_ hnew_; (first | rw [← Ny105.out] at ho7 | (simp only [Int.reduceToNat] at ho7; rw [← Ny105.out] at ho7)); have n0_ := Aside0.mk (Kd.S_lower ho7 (below_size (by repeat (first | (with_reducible first | exact HB.out | apply below_alloc | apply pw_below_drewN | apply below_drew1) | exact HB.out)))); have n1_ := Aside0.mk (below_step (by repeat (first | (with_reducible first | exact HB.out | apply below_alloc | apply pw_below_drewN | apply below_drew1) | exact HB.out)) hb); clear HB; have HO107 := n0_; have HB := n1_; clear n0_ n1_; clear hb ho7))
    go_ret
    exact ⟨_, by first | rfl | (simp [errW_none, errW_some] <;> rfl) | (simp [*, errW_none, errW_some] <;> rfl), by (with_reducible repeat (first | apply Kd.S_alloc | apply Kd.S_drewN | apply Kd.S_drew)); exact HO107.out, by repeat (first | (with_reducible first | exact HB.out | apply below_alloc | apply pw_below_drewN | apply below_drew1) | exact HB.out)⟩
end Go.Proofs.Ytbfkcfmhlanlnaa.K
end
section
namespace Go.Proofs.Ytbfkcfmhlanlnaa.K
open Go.RowKit Go.Proofs.YtbfkcfmhlanlnaaW.PrintWords Go.Proofs.YtbfkcfmhlanlnaaW.PrintLast Go.Proofs.YtbfkcfmhlanlnaaW.PrintMore
attribute [local go_sem] max2_int min2_int max_two min_two max_three min_three max_four min_four
set_option linter.unusedVariables false
set_option linter.unusedSimpArgs false
def laws_lkInts.l0 : Nat → List Int → List Int → Int → Option (Bool)
  | 0, _, _, _ => none
  | k + 1, x0, x1, x5 => if x5 < (x0.length : Int) then (if 0 ≤ x5 then (if x5 < (x1.length : Int) then (if (rd x0 x5) = (rd x1 x5) then (laws_lkInts.l0 k x0 x1 (wrap64 (x5 + 1))) else (some false)) else (none)) else (none)) else (some true)
def laws_lkInts.f (k : Nat) (l0 : List Int) (l1 : List Int) : Option (Bool) := if (l0.length : Int) = (l1.length : Int) then (laws_lkInts.l0 k l0 l1 0) else (some false)
theorem laws_lkInts.mono_l : ∀ k, (∀ y0 y1 y2, LeO (laws_lkInts.l0 k y0 y1 y2) (laws_lkInts.l0 (k + 1) y0 y1 y2))
  | 0 => fun _ _ _ r h => by simp [laws_lkInts.l0] at h
  | k + 1 => by
    have ih0 := laws_lkInts.mono_l k
    · intro y0 y1 y2
      unfold laws_lkInts.l0
      repeat' first
      | (with_reducible exact ih0 _ _ _)
      | (with_reducible exact LeO.refl _)
      | (with_reducible exact LeO.none _)
      | (with_reducible refine LeO.ite ?_ ?_)
      | (with_reducible refine LeO.bind ?_ (fun _ => ?_))
      | exact ih0 _ _ _
      | exact LeO.none _
      | refine LeO.ite ?_ ?_
      | refine LeO.bind ?_ (fun _ => ?_)
theorem laws_lkInts.mono : ∀ a0 a1 k, LeO (laws_lkInts.f k a0 a1) (laws_lkInts.f (k + 1) a0 a1) := by
  intro a0 a1 k
  have ih0 := laws_lkInts.mono_l k
  unfold laws_lkInts.f
  repeat' first
      | (with_reducible exact ih0 _ _ _)
      | (with_reducible exact LeO.refl _)
      | (with_reducible exact LeO.none _)
      | (with_reducible refine LeO.ite ?_ ?_)
      | (with_reducible refine LeO.bind ?_ (fun _ => ?_))
      | exact ih0 _ _ _
      | exact LeO.none _
      | refine LeO.ite ?_ ?_
      | refine LeO.bind ?_ (fun _ => ?_)
set_option maxHeartbeats 8000000 in
set_option maxRecDepth 100000 in
theorem laws_lkInts.calls (k : Nat) (A0 : Option Addr) (c0 : Nat) (l0 : List Int) (A1 : Option Addr) (c1 : Nat) (l1 : List Int) (r : Bool) (w : World) (hr0 : Kd.C (Kd.int .i64) w A0 l0.length l0) (hc0 : l0.length ≤ c0) (hr1 : Kd.C (Kd.int .i64) w A1 l1.length l1) (hc1 : l1.length ≤ c1) (h : laws_lkInts.f k l0 l1 = some r) :
    Calls Try.prog 41 #[.slice A0 l0.length c0, .slice A1 l1.length c1] w fun e w' => e = .returned (.bool r) ∧ Drawn0 w w' := by
  have HR0 := Aside0.mk hr0
  have HC0 := Aside0.mk hc0
  clear hr0 hc0
  have HR1 := Aside0.mk hr1
  have HC1 := Aside0.mk hc1
  clear hr1 hc1
  have H : (if (l0.length : Int) = (l1.length : Int) then (laws_lkInts.l0 k l0 l1 0) else (some false)) = some r := h
  clear h
  by_cases c3 : (l0.length : Int) = (l1.length : Int)
  · rw [if_pos c3] at H
    have c3b0 : ((l0.length : Int) == (l1.length : Int)) = true := beq_iff_eq.mpr c3
    have c3b1 : ((l0.length : Int) != (l1.length : Int)) = false := bne_eq_false_iff_eq.mpr c3
    have c3b2 : (l0.length == l1.length) = true := by first | simpa using c3 | (simp at c3 ⊢; omega)
    clear c3
    have H' := Aside0.mk H
    clear H
    go_enter Try.func41, Try.ntmps41
    go_wp2
    repeat (go_quiet (fail); try go_wp2)
    go_loopg [5] k (fun kq v5 w' => ∃ (x5_1 : Int), v5 = .int .i64 x5_1 ∧ Aside0 (laws_lkInts.l0 kq l0 l1 x5_1 = some r) ∧ Aside0 (kq ≤ k) ∧ Drawn0 w w')
    case atStart => exact ⟨(0), (by first | rfl | (simp; done) | (simp [*]; done)), H', ⟨Nat.le_refl _⟩, by repeat (first | exact Drawn0.refl _ | apply Drawn0.step)⟩
    case round =>
      clear H'
      try clear c1
      try clear p2
      try clear c3
      try clear c3b0
      try clear c3b1
      try clear c3b2
      obtain ⟨x5_1, rfl, HA, HK1, ⟨m1, rfl⟩⟩ := hrel
      cases gk with
      | zero => exact absurd HA.out (by simp [laws_lkInts.l0])
      | succ k1 =>
        have H := HA.out
        clear HA
        simp only [laws_lkInts.l0] at H
        by_cases c4 : x5_1 < (l0.length : Int)
        · rw [if_pos c4] at H
          have c4b0 : decide (x5_1 < (l0.length : Int)) = true := decide_eq_true c4
          clear c4
          by_cases c5 : 0 ≤ x5_1
          · rw [if_pos c5] at H
            have c5b0 : decide (0 ≤ x5_1) = true := decide_eq_true c5
            clear c5
            by_cases c6 : x5_1 < (l1.length : Int)
            · rw [if_pos c6] at H
              have c6b0 : decide (x5_1 < (l1.length : Int)) = true := decide_eq_true c6
              clear c6
              by_cases c7 : (rd l0 x5_1) = (rd l1 x5_1)
              · rw [if_pos c7] at H
                have c7b0 : ((rd l0 x5_1) == (rd l1 x5_1)) = true := beq_iff_eq.mpr c7
                have c7b1 : ((rd l0 x5_1) != (rd l1 x5_1)) = false := bne_eq_false_iff_eq.mpr c7
                clear c7
                have H' := Aside0.mk H
                clear H
                have p101 : 0 ≤ (x5_1 : Int) := of_decide_eq_true (by first | (with_reducible assumption) | assumption)
                have q101 : x5_1 < (l0.length : Int) := of_decide_eq_true (by first | (with_reducible assumption) | assumption)
                obtain ⟨ad101, e101, hx101_0⟩ := Kd.at_int HR0.out x5_1 p101 q101
                cases e101
                replace p101 := eq_true p101
                replace q101 := eq_true q101
                have p102 : 0 ≤ (x5_1 : Int) := of_decide_eq_true (by first | (with_reducible assumption) | assumption)
                have q102 : x5_1 < (l1.length : Int) := of_decide_eq_true (by first | (with_reducible assumption) | assumption)
                obtain ⟨ad102, e102, hx102_0⟩ := Kd.at_int HR1.out x5_1 p102 q102
                cases e102
                replace p102 := eq_true p102
                replace q102 := eq_true q102
                go_wp2
                repeat (go_quiet (fail); try go_wp2)
                go_roundg k1
                case measure => have := HK1.out; omega
                case rel => exact ⟨(wrap64 (x5_1 + 1)), (by first | rfl | (simp; done) | (simp [*]; done)), H', ⟨by have := HK1.out; omega⟩, by repeat (first | exact Drawn0.refl _ | apply Drawn0.step)⟩
              · rw [if_neg c7] at H
                have c7b0 : ((rd l0 x5_1) == (rd l1 x5_1)) = false := beq_eq_false_iff_ne.mpr c7
                have c7b1 : ((rd l0 x5_1) != (rd l1 x5_1)) = true := bne_iff_ne.mpr c7
                obtain rfl := Option.some.inj H
                have p101 : 0 ≤ (x5_1 : Int) := of_decide_eq_true (by first | (with_reducible assumption) | assumption)
                have q101 : x5_1 < (l0.length : Int) := of_decide_eq_true (by first | (with_reducible assumption) | assumption)
                obtain ⟨ad101, e101, hx101_0⟩ := Kd.at_int HR0.out x5_1 p101 q101
                cases e101
                replace p101 := eq_true p101
                replace q101 := eq_true q101
                have p102 : 0 ≤ (x5_1 : Int) := of_decide_eq_true (by first | (with_reducible assumption) | assumption)
                have q102 : x5_1 < (l1.length : Int) := of_decide_eq_true (by first | (with_reducible assumption) | assumption)
                obtain ⟨ad102, e102, hx102_0⟩ := Kd.at_int HR1.out x5_1 p102 q102
                cases e102
                replace p102 := eq_true p102
                replace q102 := eq_true q102
                go_wp2
                repeat (go_quiet (fail); try go_wp2)
                go_ret
                exact ⟨by first | rfl | (simp; done) | (simp [*]; done), by repeat (first | exact Drawn0.refl _ | apply Drawn0.step)⟩
            · rw [if_neg c6] at H
              exact absurd H (by simp)
          · rw [if_neg c5] at H
            exact absurd H (by simp)
        · rw [if_neg c4] at H
          have c4b0 : decide (x5_1 < (l0.length : Int)) = false := decide_eq_false c4
          clear c4
          obtain rfl := Option.some.inj H
          go_wp2
          repeat (go_quiet (fail); try go_wp2)
          go_ret
          exact ⟨by first | rfl | (simp; done) | (simp [*]; done), by repeat (first | exact Drawn0.refl _ | apply Drawn0.step)⟩
  · rw [if_neg c3] at H
    have c3b0 : ((l0.length : Int) == (l1.length : Int)) = false := beq_eq_false_iff_ne.mpr c3
    have c3b1 : ((l0.length : Int) != (l1.length : Int)) = true := bne_iff_ne.mpr c3
    have c3b2 : (l0.length == l1.length) = false := by first | simpa using c3 | (simp at c3 ⊢; omega)
    obtain rfl := Option.some.inj H
    go_enter Try.func41, Try.ntmps41
    go_wp2
    repeat (go_quiet (fail); try go_wp2)
    go_ret
    exact ⟨by first | rfl | (simp; done) | (simp [*]; done), by repeat (first | exact Drawn0.refl _ | apply Drawn0.step)⟩
end Go.Proofs.Ytbfkcfmhlanlnaa.K
end
section
namespace Go.Proofs.Ytbfkcfmhlanlnaa.K
open Go.RowKit Go.Proofs.YtbfkcfmhlanlnaaW.PrintWords Go.Proofs.YtbfkcfmhlanlnaaW.PrintLast Go.Proofs.YtbfkcfmhlanlnaaW.PrintMore
attribute [local go_sem] max2_int min2_int max_two min_two max_three min_three max_four min_four
set_option linter.unusedVariables false
set_option linter.unusedSimpArgs false
def laws_lkRows.l0 : Nat → List (List Int) → List (List Int) → Int → Option (Bool)
  | 0, _, _, _ => none
  | k + 1, x0, x1, x5 => if x5 < (x0.length : Int) then (if 0 ≤ x5 then (if x5 < (x1.length : Int) then ((laws_lkInts.f k (rd_L1 x0 x5) (rd_L1 x1 x5)).bind fun t103 => (if t103 = true then (laws_lkRows.l0 k x0 x1 (wrap64 (x5 + 1))) else (some false))) else (none)) else (none)) else (some true)
def laws_lkRows.f (k : Nat) (l0 : List (List Int)) (l1 : List (List Int)) : Option (Bool) := if (l0.length : Int) = (l1.length : Int) then (laws_lkRows.l0 k l0 l1 0) else (some false)
theorem laws_lkRows.mono_l : ∀ k, (∀ y0 y1 y2, LeO (laws_lkRows.l0 k y0 y1 y2) (laws_lkRows.l0 (k + 1) y0 y1 y2))
  | 0 => fun _ _ _ r h => by simp [laws_lkRows.l0] at h
  | k + 1 => by
    have ih0 := laws_lkRows.mono_l k
    · intro y0 y1 y2
      unfold laws_lkRows.l0
      repeat' first
      | (with_reducible exact ih0 _ _ _)
      | (with_reducible exact laws_lkInts.mono _ _ _)
      | (with_reducible exact LeO.refl _)
      | (with_reducible exact LeO.none _)
      | (with_reducible refine LeO.ite ?_ ?_)
      | (with_reducible refine LeO.bind ?_ (fun _ => ?_))
      | exact ih0 _ _ _
      | exact laws_lkInts.mono _ _ _
      | exact LeO.none _
      | refine LeO.ite ?_ ?_
      | refine LeO.bind ?_ (fun _ => ?_)
theorem laws_lkRows.mono : ∀ a0 a1 k, LeO (laws_lkRows.f k a0 a1) (laws_lkRows.f (k + 1) a0 a1) := by
  intro a0 a1 k
  have ih0 := laws_lkRows.mono_l k
  unfold laws_lkRows.f
  repeat' first
      | (with_reducible exact ih0 _ _ _)
      | (with_reducible exact laws_lkInts.mono _ _ _)
      | (with_reducible exact LeO.refl _)
      | (with_reducible exact LeO.none _)
      | (with_reducible refine LeO.ite ?_ ?_)
      | (with_reducible refine LeO.bind ?_ (fun _ => ?_))
      | exact ih0 _ _ _
      | exact laws_lkInts.mono _ _ _
      | exact LeO.none _
      | refine LeO.ite ?_ ?_
      | refine LeO.bind ?_ (fun _ => ?_)
set_option maxHeartbeats 8000000 in
set_option maxRecDepth 100000 in
theorem laws_lkRows.calls (k : Nat) (A0 : Option Addr) (c0 : Nat) (l0 : List (List Int)) (A1 : Option Addr) (c1 : Nat) (l1 : List (List Int)) (r : Bool) (w : World) (hr0 : Kd.C (Kd.slice 3 (Kd.int .i64)) w A0 l0.length l0) (hc0 : l0.length ≤ c0) (hr1 : Kd.C (Kd.slice 3 (Kd.int .i64)) w A1 l1.length l1) (hc1 : l1.length ≤ c1) (h : laws_lkRows.f k l0 l1 = some r) :
    Calls Try.prog 31 #[.slice A0 l0.length c0, .slice A1 l1.length c1] w fun e w' => e = .returned (.bool r) ∧ Drawn0 w w' := by
  have HR0 := Aside0.mk hr0
  have HC0 := Aside0.mk hc0
  clear hr0 hc0
  have HR1 := Aside0.mk hr1
  have HC1 := Aside0.mk hc1
  clear hr1 hc1
  have H : (if (l0.length : Int) = (l1.length : Int) then (laws_lkRows.l0 k l0 l1 0) else (some false)) = some r := h
  clear h
  by_cases c3 : (l0.length : Int) = (l1.length : Int)
  · rw [if_pos c3] at H
    have c3b0 : ((l0.length : Int) == (l1.length : Int)) = true := beq_iff_eq.mpr c3
    have c3b1 : ((l0.length : Int) != (l1.length : Int)) = false := bne_eq_false_iff_eq.mpr c3
    have c3b2 : (l0.length == l1.length) = true := by first | simpa using c3 | (simp at c3 ⊢; omega)
    clear c3
    have H' := Aside0.mk H
    clear H
    go_enter Try.func31, Try.ntmps31
    go_wp2
    repeat (go_quiet (fail); try go_wp2)
    go_loopg [5] k (fun kq v5 w' => ∃ (x5_1 : Int), v5 = .int .i64 x5_1 ∧ Aside0 (laws_lkRows.l0 kq l0 l1 x5_1 = some r) ∧ Aside0 (kq ≤ k) ∧ Drawn0 w w')
    case atStart => exact ⟨(0), (by first | rfl | (simp; done) | (simp [*]; done)), H', ⟨Nat.le_refl _⟩, by repeat (first | exact Drawn0.refl _ | apply Drawn0.step)⟩
    case round =>
      clear H'
      try clear c1
      try clear p2
      try clear c3
      try clear c3b0
      try clear c3b1
      try clear c3b2
      obtain ⟨x5_1, rfl, HA, HK1, ⟨m1, rfl⟩⟩ := hrel
      cases gk with
      | zero => exact absurd HA.out (by simp [laws_lkRows.l0])
      | succ k1 =>
        have H := HA.out
        clear HA
        simp only [laws_lkRows.l0] at H
        by_cases c4 : x5_1 < (l0.length : Int)
        · rw [if_pos c4] at H
          have c4b0 : decide (x5_1 < (l0.length : Int)) = true := decide_eq_true c4
          clear c4
          by_cases c5 : 0 ≤ x5_1
          · rw [if_pos c5] at H
            have c5b0 : decide (0 ≤ x5_1) = true := decide_eq_true c5
            clear c5
            by_cases c6 : x5_1 < (l1.length : Int)
            · rw [if_pos c6] at H
              have c6b0 : decide (x5_1 < (l1.length : Int)) = true := decide_eq_true c6
              clear c6
              replace H := Option.bind_eq_some_iff.mp H
              obtain ⟨t103, A70, H⟩ := H
              replace H : (if t103 = true then (laws_lkRows.l0 k1 l0 l1 (wrap64 (x5_1 + 1))) else (some false)) = some r := H
              have A7 := Aside0.mk A70
              clear A70
              by_cases c8 : t103 = true
              · subst c8
                have H1 : (laws_lkRows.l0 k1 l0 l1 (wrap64 (x5_1 + 1))) = some r := by rw [if_pos rfl] at H; exact H
                clear H
                have H := H1
                clear H1
                have H' := Aside0.mk H
                clear H
                have p101 : 0 ≤ (x5_1 : Int) := of_decide_eq_true (by first | (with_reducible assumption) | assumption)
                have q101 : x5_1 < (l0.length : Int) := of_decide_eq_true (by first | (with_reducible assumption) | assumption)
                obtain ⟨ad101, A101_0, c101_0, e101, hx101_0, hl101_0, hi101_0⟩ := at_L1 HR0.out x5_1 p101 q101
                cases e101
                have HR101_0 := Aside0.mk hi101_0
                have HC101_0 := Aside0.mk hl101_0
                clear hi101_0 hl101_0
                replace p101 := eq_true p101
                replace q101 := eq_true q101
                have p102 : 0 ≤ (x5_1 : Int) := of_decide_eq_true (by first | (with_reducible assumption) | assumption)
                have q102 : x5_1 < (l1.length : Int) := of_decide_eq_true (by first | (with_reducible assumption) | assumption)
                obtain ⟨ad102, A102_0, c102_0, e102, hx102_0, hl102_0, hi102_0⟩ := at_L1 HR1.out x5_1 p102 q102
                cases e102
                have HR102_0 := Aside0.mk hi102_0
                have HC102_0 := Aside0.mk hl102_0
                clear hi102_0 hl102_0
                replace p102 := eq_true p102
                replace q102 := eq_true q102
                go_wp2_with (first | (go_at_call 41; (with_reducible refine (laws_lkInts.calls k1 _ _ (rd_L1 l0 x5_1) _ _ (rd_L1 l1 x5_1) true _ ?side1 ?side2 ?side3 ?side4 A7.out).mono ?_); (case side1 => repeat (first | exact HR101_0.out | (with_reducible refine Kd.C_alloc ?_ _) | (with_reducible refine Kd.C_drewN ?_ _) | (with_reducible refine Kd.C_drew ?_))); (case side2 => exact HC101_0.out); (case side3 => repeat (first | exact HR102_0.out | (with_reducible refine Kd.C_alloc ?_ _) | (with_reducible refine Kd.C_drewN ?_ _) | (with_reducible refine Kd.C_drew ?_))); (case side4 => exact HC102_0.out); rintro e w' ⟨rfl, ⟨nd, rfl⟩⟩; (try first | exact ⟨rfl, _, World.drewN_drewN _ _ _⟩ | exact ⟨rfl, _, Eq.trans (World.drewN_drewN _ _ _) (congrArg (World.drewN _) (Nat.add_assoc _ _ _))⟩)))
                repeat (go_quiet (first | (go_at_call 41; (with_reducible refine (laws_lkInts.calls k1 _ _ (rd_L1 l0 x5_1) _ _ (rd_L1 l1 x5_1) true _ ?side1 ?side2 ?side3 ?side4 A7.out).mono ?_); (case side1 => repeat (first | exact HR101_0.out | (with_reducible refine Kd.C_alloc ?_ _) | (with_reducible refine Kd.C_drewN ?_ _) | (with_reducible refine Kd.C_drew ?_))); (case side2 => exact HC101_0.out); (case side3 => repeat (first | exact HR102_0.out | (with_reducible refine Kd.C_alloc ?_ _) | (with_reducible refine Kd.C_drewN ?_ _) | (with_reducible refine Kd.C_drew ?_))); (case side4 => exact HC102_0.out); rintro e w' ⟨rfl, ⟨nd, rfl⟩⟩; (try first | exact ⟨rfl, _, World.drewN_drewN _ _ _⟩ | exact ⟨rfl, _, Eq.trans (World.drewN_drewN _ _ _) (congrArg (World.drewN _) (Nat.add_assoc _ _ _))⟩))); try go_wp2_with (first | (go_at_call 41; (with_reducible refine (laws_lkInts.calls k1 _ _ (rd_L1 l0 x5_1) _ _ (rd_L1 l1 x5_1) true _ ?side1 ?side2 ?side3 ?side4 A7.out).mono ?_); (case side1 => repeat (first | exact HR101_0.out | (with_reducible refine Kd.C_alloc ?_ _) | (with_reducible refine Kd.C_drewN ?_ _) | (with_reducible refine Kd.C_drew ?_))); (case side2 => exact HC101_0.out); (case side3 => repeat (first | exact HR102_0.out | (with_reducible refine Kd.C_alloc ?_ _) | (with_reducible refine Kd.C_drewN ?_ _) | (with_reducible refine Kd.C_drew ?_))); (case side4 => exact HC102_0.out); rintro e w' ⟨rfl, ⟨nd, rfl⟩⟩; (try first | exact ⟨rfl, _, World.drewN_drewN _ _ _⟩ | exact ⟨rfl, _, Eq.trans (World.drewN_drewN _ _ _) (congrArg (World.drewN _) (Nat.add_assoc _ _ _))⟩))))
                go_roundg k1
                case measure => have := HK1.out; omega
                case rel => exact ⟨(wrap64 (x5_1 + 1)), (by first | rfl | (simp; done) | (simp [*]; done)), H', ⟨by have := HK1.out; omega⟩, by repeat (first | exact Drawn0.refl _ | apply Drawn0.step)⟩
              · replace c8 := Bool.eq_false_iff.mpr c8
                subst c8
                have H1 : (some false) = some r := by rw [if_neg (show ¬ (false = true) by decide)] at H; exact H
                clear H
                have H := H1
                clear H1
                obtain rfl := Option.some.inj H
                have p101 : 0 ≤ (x5_1 : Int) := of_decide_eq_true (by first | (with_reducible assumption) | assumption)
                have q101 : x5_1 < (l0.length : Int) := of_decide_eq_true (by first | (with_reducible assumption) | assumption)
                obtain ⟨ad101, A101_0, c101_0, e101, hx101_0, hl101_0, hi101_0⟩ := at_L1 HR0.out x5_1 p101 q101
                cases e101
                have HR101_0 := Aside0.mk hi101_0
                have HC101_0 := Aside0.mk hl101_0
                clear hi101_0 hl101_0
                replace p101 := eq_true p101
                replace q101 := eq_true q101
                have p102 : 0 ≤ (x5_1 : Int) := of_decide_eq_true (by first | (with_reducible assumption) | assumption)
                have q102 : x5_1 < (l1.length : Int) := of_decide_eq_true (by first | (with_reducible assumption) | assumption)
                obtain ⟨ad102, A102_0, c102_0, e102, hx102_0, hl102_0, hi102_0⟩ := at_L1 HR1.out x5_1 p102 q102
                cases e102
                have HR102_0 := Aside0.mk hi102_0
                have HC102_0 := Aside0.mk hl102_0
                clear hi102_0 hl102_0
                replace p102 := eq_true p102
                replace q102 := eq_true q102
                go_wp2_with (first | (go_at_call 41; (with_reducible refine (laws_lkInts.calls k1 _ _ (rd_L1 l0 x5_1) _ _ (rd_L1 l1 x5_1) false _ ?side1 ?side2 ?side3 ?side4 A7.out).mono ?_); (case side1 => repeat (first | exact HR101_0.out | (with_reducible refine Kd.C_alloc ?_ _) | (with_reducible refine Kd.C_drewN ?_ _) | (with_reducible refine Kd.C_drew ?_))); (case side2 => exact HC101_0.out); (case side3 => repeat (first | exact HR102_0.out | (with_reducible refine Kd.C_alloc ?_ _) | (with_reducible refine Kd.C_drewN ?_ _) | (with_reducible refine Kd.C_drew ?_))); (case side4 => exact HC102_0.out); rintro e w' ⟨rfl, ⟨nd, rfl⟩⟩; (try first | exact ⟨rfl, _, World.drewN_drewN _ _ _⟩ | exact ⟨rfl, _, Eq.trans (World.drewN_drewN _ _ _) (congrArg (World.drewN _) (Nat.add_assoc _ _ _))⟩)))
                repeat (go_quiet (first | (go_at_call 41; (with_reducible refine (laws_lkInts.calls k1 _ _ (rd_L1 l0 x5_1) _ _ (rd_L1 l1 x5_1) false _ ?side1 ?side2 ?side3 ?side4 A7.out).mono ?_); (case side1 => repeat (first | exact HR101_0.out | (with_reducible refine Kd.C_alloc ?_ _) | (with_reducible refine Kd.C_drewN ?_ _) | (with_reducible refine Kd.C_drew ?_))); (case side2 => exact HC101_0.out); (case side3 => repeat (first | exact HR102_0.out | (with_reducible refine Kd.C_alloc ?_ _) | (with_reducible refine Kd.C_drewN ?_ _) | (with_reducible refine Kd.C_drew ?_))); (case side4 => exact HC102_0.out); rintro e w' ⟨rfl, ⟨nd, rfl⟩⟩; (try first | exact ⟨rfl, _, World.drewN_drewN _ _ _⟩ | exact ⟨rfl, _, Eq.trans (World.drewN_drewN _ _ _) (congrArg (World.drewN _) (Nat.add_assoc _ _ _))⟩))); try go_wp2_with (first | (go_at_call 41; (with_reducible refine (laws_lkInts.calls k1 _ _ (rd_L1 l0 x5_1) _ _ (rd_L1 l1 x5_1) false _ ?side1 ?side2 ?side3 ?side4 A7.out).mono ?_); (case side1 => repeat (first | exact HR101_0.out | (with_reducible refine Kd.C_alloc ?_ _) | (with_reducible refine Kd.C_drewN ?_ _) | (with_reducible refine Kd.C_drew ?_))); (case side2 => exact HC101_0.out); (case side3 => repeat (first | exact HR102_0.out | (with_reducible refine Kd.C_alloc ?_ _) | (with_reducible refine Kd.C_drewN ?_ _) | (with_reducible refine Kd.C_drew ?_))); (case side4 => exact HC102_0.out); rintro e w' ⟨rfl, ⟨nd, rfl⟩⟩; (try first | exact ⟨rfl, _, World.drewN_drewN _ _ _⟩ | exact ⟨rfl, _, Eq.trans (World.drewN_drewN _ _ _) (congrArg (World.drewN _) (Nat.add_assoc _ _ _))⟩))))
                go_ret
                exact ⟨by first | rfl | (simp; done) | (simp [*]; done), by repeat (first | exact Drawn0.refl _ | apply Drawn0.step)⟩
            · rw [if_neg c6] at H
              exact absurd H (by simp)
          · rw [if_neg c5] at H
            exact absurd H (by simp)
        · rw [if_neg c4] at H
          have c4b0 : decide (x5_1 < (l0.length : Int)) = false := decide_eq_false c4
          clear c4
          obtain rfl := Option.some.inj H
          go_wp2
          repeat (go_quiet (fail); try go_wp2)
          go_ret
          exact ⟨by first | rfl | (simp; done) | (simp [*]; done), by repeat (first | exact Drawn0.refl _ | apply Drawn0.step)⟩
  · rw [if_neg c3] at H
    have c3b0 : ((l0.length : Int) == (l1.length : Int)) = false := beq_eq_false_iff_ne.mpr c3
    have c3b1 : ((l0.length : Int) != (l1.length : Int)) = true := bne_iff_ne.mpr c3
    have c3b2 : (l0.length == l1.length) = false := by first | simpa using c3 | (simp at c3 ⊢; omega)
    obtain rfl := Option.some.inj H
    go_enter Try.func31, Try.ntmps31
    go_wp2
    repeat (go_quiet (fail); try go_wp2)
    go_ret
    exact ⟨by first | rfl | (simp; done) | (simp [*]; done), by repeat (first | exact Drawn0.refl _ | apply Drawn0.step)⟩
end Go.Proofs.Ytbfkcfmhlanlnaa.K
end
section
namespace Go.Proofs.Ytbfkcfmhlanlnaa.K
set_option linter.unusedVariables false
set_option linter.unusedSimpArgs false
open Go.RowKit Go.Proofs.YtbfkcfmhlanlnaaW.PrintWords Go.Proofs.YtbfkcfmhlanlnaaW.PrintLast Go.Proofs.YtbfkcfmhlanlnaaW.PrintMore
theorem rd_get_j (l : List Int) (i : Nat) (h : i < l.length) : rd l (i : Int) = l[i] := by unfold rd; simp [h]
theorem rdL_get_j (l : List (List Int)) (i : Nat) (h : i < l.length) : rd_L1 l (i : Int) = l[i] := by unfold rd_L1; simp [h]
theorem lkInts_l (a b : List Int) (hl : a.length ≤ 140737488351232) (h : a.length = b.length) (d : Nat) : ∀ (i : Nat), i + d = a.length → Ev (fun k => laws_lkInts.l0 k a b (i : Int)) (decide (a.drop i = b.drop i)) := by
  induction d with
  | zero =>
    intro i hi
    refine Ev.step (fun k => rfl) (tv_neg (by omega) (tv_eq (Ev.now _) ?_))
    rw [List.drop_eq_nil_of_le (by omega), List.drop_eq_nil_of_le (by omega)]; simp
  | succ d ih =>
    intro i hi
    have hlt : i < a.length := by omega
    have hlt2 : i < b.length := by omega
    refine Ev.step (fun k => rfl) (tv_pos (by omega) (tv_pos (by omega) (tv_pos (by omega) ?_)))
    rw [rd_get_j a i hlt, rd_get_j b i hlt2, w64t (by omega) (by omega), show ((i : Int) + 1) = ((i + 1 : Nat) : Int) by omega]
    have ea : a.drop i = a[i] :: a.drop (i + 1) := List.drop_eq_getElem_cons hlt
    have eb : b.drop i = b[i] :: b.drop (i + 1) := List.drop_eq_getElem_cons hlt2
    generalize a.drop i = da at *
    generalize b.drop i = db at *
    by_cases c : a[i] = b[i]
    · refine tv_pos c (tv_eq (ih (i + 1) (by omega)) ?_)
      rw [ea, eb, c]; exact decide_eq_decide.mpr (by rw [List.cons.injEq]; exact ⟨fun h => ⟨rfl, h⟩, fun h => h.2⟩)
    · refine tv_neg c (tv_eq (Ev.now _) ?_)
      rw [ea, eb]; exact (decide_eq_false (by rw [List.cons.injEq]; exact fun h => c h.1)).symm
theorem lkInts_ev (a b : List Int) (hl : a.length ≤ 140737488351232) : Ev (fun k => laws_lkInts.f k a b) (decide (a = b)) := by
  unfold laws_lkInts.f
  by_cases c : a.length = b.length
  · refine tv_pos (by omega) (tv_eq (lkInts_l a b hl c a.length 0 (by omega)) ?_)
    simp
  · refine tv_neg (by omega) (tv_eq (Ev.now _) ?_)
    symm
    rw [decide_eq_false_iff_not]
    intro h
    exact c (by rw [h])
def Small (m : List (List Int)) : Prop := m.length ≤ 140737488351232 ∧ ∀ r ∈ m, r.length ≤ 140737488351232
theorem lkRows_l (a b : List (List Int)) (hl : Small a) (h : a.length = b.length) (d : Nat) : ∀ (i : Nat), i + d = a.length → Ev (fun k => laws_lkRows.l0 k a b (i : Int)) (decide (a.drop i = b.drop i)) := by
  have hl0 := hl.1
  induction d with
  | zero =>
    intro i hi
    refine Ev.step (fun k => rfl) (tv_neg (by omega) (tv_eq (Ev.now _) ?_))
    rw [List.drop_eq_nil_of_le (by omega), List.drop_eq_nil_of_le (by omega)]; simp
  | succ d ih =>
    intro i hi
    have hlt : i < a.length := by omega
    have hlt2 : i < b.length := by omega
    refine Ev.step (fun k => rfl) (tv_pos (by omega) (tv_pos (by omega) (tv_pos (by omega) ?_)))
    rw [rdL_get_j a i hlt, rdL_get_j b i hlt2, w64t (by omega) (by omega), show ((i : Int) + 1) = ((i + 1 : Nat) : Int) by omega]
    refine (lkInts_ev a[i] b[i] (hl.2 _ (List.getElem_mem _))).bind ?_
    have ea : a.drop i = a[i] :: a.drop (i + 1) := List.drop_eq_getElem_cons hlt
    have eb : b.drop i = b[i] :: b.drop (i + 1) := List.drop_eq_getElem_cons hlt2
    generalize a.drop i = da at *
    generalize b.drop i = db at *
    by_cases c : a[i] = b[i]
    · refine tv_pos (decide_eq_true c) (tv_eq (ih (i + 1) (by omega)) ?_)
      rw [ea, eb, c]; exact decide_eq_decide.mpr (by rw [List.cons.injEq]; exact ⟨fun h => ⟨rfl, h⟩, fun h => h.2⟩)
    · refine tv_neg (by rw [decide_eq_false c]; simp) (tv_eq (Ev.now _) ?_)
      rw [ea, eb]; exact (decide_eq_false (by rw [List.cons.injEq]; exact fun h => c h.1)).symm
theorem lkRows_ev (a b : List (List Int)) (hl : Small a) : Ev (fun k => laws_lkRows.f k a b) (decide (a = b)) := by
  unfold laws_lkRows.f
  by_cases c : a.length = b.length
  · refine tv_pos (by omega) (tv_eq (lkRows_l a b hl c a.length 0 (by omega)) ?_)
    simp
  · refine tv_neg (by omega) (tv_eq (Ev.now _) ?_)
    symm
    rw [decide_eq_false_iff_not]
    intro h
    exact c (by rw [h])
def put1 (acc : List Int) (n : Int) : List Int := if 1 ≤ n ∧ n ≤ 26 ∧ acc.length ≤ 14 then acc ++ [n + 96] else acc
theorem put1_len (acc : List Int) (n : Int) (h : acc.length ≤ 15) : (put1 acc n).length ≤ 15 := by
  unfold put1; split
  · rw [List.length_append, List.length_singleton]; omega
  · exact h
theorem puts_len (l : List Int) : ∀ acc : List Int, acc.length ≤ 15 → (l.foldl put1 acc).length ≤ 15 := by
  induction l with
  | nil => intro acc h; exact h
  | cons a l ih => intro acc h; exact ih _ (put1_len acc a h)
theorem letters_lt (s : ByteArray) (i : Nat) (hi : i < s.size) (hlow : allLow s) : 1 ≤ letter s i ∧ letter s i ≤ 26 ∧ letter s i + 96 = bt s i := by
  unfold letter; rw [if_pos hi]; have := hlow i hi; omega
theorem flat_cut (s : ByteArray) : (cutOf s).flatten = (List.range (4 * chunks s.size)).map (fun i => letter s i) := by
  unfold cutOf
  generalize chunks s.size = n
  induction n with
  | zero => rfl
  | succ n ih =>
    rw [List.range_succ, List.map_append, List.flatten_append, ih, show 4 * (n + 1) = 4 * n + 1 + 1 + 1 + 1 by omega, List.range_succ, List.range_succ, List.range_succ, List.range_succ]
    simp [row4]
theorem take_up (s : ByteArray) (hlow : allLow s) (hs : s.size ≤ 14) : ∀ n, ((List.range n).map fun i => letter s i).foldl put1 [] = (bytesOf s).take n := by
  intro n
  induction n with
  | zero => simp
  | succ n ih =>
    rw [List.range_succ, List.map_append, List.foldl_append, ih]
    have hlen : (bytesOf s).length = s.size := bytesOf_length s
    by_cases c : n < s.size
    · obtain ⟨h1, h2, h3⟩ := letters_lt s n c hlow
      have hl : ((bytesOf s).take n).length ≤ 14 := by rw [List.length_take]; omega
      show put1 _ (letter s n) = _
      unfold put1
      rw [if_pos ⟨h1, h2, hl⟩, h3, List.take_succ_eq_append_getElem (by rw [hlen]; exact c)]
      congr 2
      rw [← rd_bytesOf, rd_get_j _ _ (by rw [hlen]; exact c)]
    · have h0 : letter s n = 0 := by unfold letter; rw [if_neg c]
      show put1 _ (letter s n) = _
      unfold put1
      rw [h0, if_neg (by omega), List.take_of_length_le (by rw [hlen]; omega), List.take_of_length_le (by rw [hlen]; omega)]
theorem back_bytes (s : ByteArray) (hlow : allLow s) (hs : s.size ≤ 14) : (cutOf s).flatten.foldl put1 [] = bytesOf s := by
  rw [flat_cut, take_up s hlow hs, List.take_of_length_le]
  rw [bytesOf_length]; unfold chunks; omega
theorem strOfNums_bytesOf (s : ByteArray) : strOfNums (bytesOf s) = s := by
  unfold strOfNums bytesOf
  apply ByteArray.ext
  rw [List.map_map]
  apply Array.ext'
  rw [List.toList_toArray]
  refine (List.map_congr_left (g := id) (fun b _ => ?_)).trans (List.map_id _)
  simp
theorem back_text (s : ByteArray) (h : tok s = true) : strOfNums ((cutOf s).flatten.foldl put1 []) = s := by
  rw [back_bytes s (tok_low s h) ((tok_iff s).1 h).2.2]
  exact strOfNums_bytesOf s
theorem cut_inj (s t : ByteArray) (hs : tok s = true) (ht : tok t = true) (h : cutOf s = cutOf t) : s = t := by
  rw [← back_text s hs, ← back_text t ht, h]
def JoinIs (m : List (List Int)) (x : ByteArray × Bool) : Prop := (x.2 = true ∧ tok x.1 = true ∧ cutOf x.1 = m) ∨ (x.2 = false ∧ x.1 = (⟨#[]⟩ : ByteArray) ∧ ∀ t, tok t = true → cutOf t ≠ m)
theorem JoinIs.unique {m : List (List Int)} {x y : ByteArray × Bool} (hx : JoinIs m x) (hy : JoinIs m y) : x = y := by
  rcases hx with ⟨h1, h2, h3⟩ | ⟨h1, h2, h3⟩ <;> rcases hy with ⟨g1, g2, g3⟩ | ⟨g1, g2, g3⟩
  · exact Prod.ext (cut_inj _ _ h2 g2 (h3.trans g3.symm)) (h1.trans g1.symm)
  · exact absurd h3 (g3 _ h2)
  · exact absurd g3 (h3 _ g2)
  · exact Prod.ext (h2.trans g2.symm) (h1.trans g1.symm)
def joinEnd (m : List (List Int)) (acc : List Int) : ByteArray × Bool := if tok (strOfNums acc) = true ∧ cutOf (strOfNums acc) = m then (strOfNums acc, true) else (⟨#[]⟩, false)
theorem join_l1 (m : List (List Int)) (hm : Small m) (x13 : Int) (row : List Int) (hr : row.length ≤ 140737488351232) (r : ByteArray × Bool) (d : Nat) : ∀ (i : Nat) (acc : List Int), i + d = row.length → acc.length ≤ 15 →
    Ev (fun k => impl_TextJoin.l0 k m ((row.drop i).foldl put1 acc) m (m.length : Int) (wrap64 (x13 + 1))) r →
    Ev (fun k => impl_TextJoin.l1 k m acc m (m.length : Int) x13 row (row.length : Int) (i : Int)) r := by
  induction d with
  | zero =>
    intro i acc hi ha h
    refine Ev.step (fun k => rfl) (tv_neg (by omega) ?_)
    rw [List.drop_eq_nil_of_le (by omega)] at h
    exact h
  | succ d ih =>
    intro i acc hi ha h
    have hlt : i < row.length := by omega
    rw [List.drop_eq_getElem_cons hlt, List.foldl_cons] at h
    refine Ev.step (fun k => rfl) (tv_pos (by omega) (tv_pos (by omega) (tv_pos (by omega) ?_)))
    rw [rd_get_j row i hlt, w64t (x := (i : Int) + 1) (by omega) (by omega), show ((i : Int) + 1) = ((i + 1 : Nat) : Int) by omega]
    generalize row[i] = n at h ⊢
    have hw : impl_within.f n 1 26 = some (decide (1 ≤ n) && decide (n ≤ 26)) := by
      unfold impl_within.f
      by_cases c : n ≥ 1
      · rw [if_pos c]; simp [c]
      · rw [if_neg c]; simp [c]
    refine tv_call hw ?_
    by_cases c : 1 ≤ n ∧ n ≤ 26
    · have hb : (decide (1 ≤ n) && decide (n ≤ 26)) = true := by simp [c]
      refine tv_pos hb ?_
      by_cases c2 : acc.length ≤ 14
      · have hp : put1 acc n = acc ++ [n + 96] := by unfold put1; rw [if_pos ⟨c.1, c.2, c2⟩]
        have he : ((wrap64 (n - 1)) + 97) % 256 = n + 96 := by rw [w64t (by omega) (by omega)]; omega
        rw [hp] at h
        refine tv_pos (by omega) (tv_pos (by omega) ?_)
        rw [he]
        exact ih (i + 1) _ (by omega) (by rw [List.length_append, List.length_singleton]; omega) h
      · have hp : put1 acc n = acc := by unfold put1; rw [if_neg (fun hh => c2 hh.2.2)]
        rw [hp] at h
        exact tv_neg (by omega) (ih (i + 1) acc (by omega) ha h)
    · have hb : ¬ (decide (1 ≤ n) && decide (n ≤ 26)) = true := by simpa using c
      have hp : put1 acc n = acc := by unfold put1; rw [if_neg (fun hh => c ⟨hh.1, hh.2.1⟩)]
      rw [hp] at h
      exact tv_neg hb (ih (i + 1) acc (by omega) ha h)
theorem cutT_eq (s : ByteArray) (h : tok s = true) : cutT s = cutOf s := by unfold cutT; rw [if_pos h]
theorem join_l0 (m : List (List Int)) (hm : Small m) (d : Nat) : ∀ (i : Nat) (acc : List Int), i + d = m.length → acc.length ≤ 15 →
    Ev (fun k => impl_TextJoin.l0 k m acc m (m.length : Int) (i : Int)) (joinEnd m ((m.drop i).flatten.foldl put1 acc)) := by
  have hm0 := hm.1
  induction d with
  | zero =>
    intro i acc hi ha
    rw [List.drop_eq_nil_of_le (by omega)]
    refine Ev.step (fun k => rfl) (tv_neg (by omega) ?_)
    have hs : (strOfNums acc).size ≤ 15 := by rw [strOfNums_size]; exact ha
    refine (show Ev (fun k => impl_TextOk.f k (strOfNums acc)) _ from ⟨(strOfNums acc).size + 1, fun k hk => implOk_f _ (by omega) k (by omega)⟩).bind ?_
    show Ev _ (joinEnd m acc)
    by_cases c : tok (strOfNums acc) = true
    · refine tv_pos c (tv_call (implCut_f _ (by omega)) ?_)
      rw [cutT_eq _ c]
      refine tv_call (rfl : slices_EqualFunc_int_int_int_int.f _ m = some (decide (cutOf (strOfNums acc) = m))) ?_
      by_cases c2 : cutOf (strOfNums acc) = m
      · exact tv_pos (decide_eq_true c2) (tv_eq (Ev.now _) (show (strOfNums acc, true) = joinEnd m acc from (if_pos ⟨c, c2⟩).symm))
      · exact tv_neg (by rw [decide_eq_false c2]; simp) (tv_eq (Ev.now _) (show ((⟨#[]⟩ : ByteArray), false) = joinEnd m acc from (if_neg (fun h => c2 h.2)).symm))
    · exact tv_neg c (tv_eq (Ev.now _) (show ((⟨#[]⟩ : ByteArray), false) = joinEnd m acc from (if_neg (fun h => c h.1)).symm))
  | succ d ih =>
    intro i acc hi ha
    have hlt : i < m.length := by omega
    rw [List.drop_eq_getElem_cons hlt, List.flatten_cons, List.foldl_append]
    refine Ev.step (fun k => rfl) (tv_pos (by omega) (tv_pos (by omega) (tv_pos (by omega) ?_)))
    rw [rdL_get_j m i hlt]
    refine join_l1 m hm (i : Int) m[i] (hm.2 _ (List.getElem_mem _)) _ m[i].length 0 acc (by omega) ha ?_
    rw [w64t (x := (i : Int) + 1) (by omega) (by omega), show ((i : Int) + 1) = ((i + 1 : Nat) : Int) by omega, List.drop_zero]
    exact ih (i + 1) _ (by omega) (puts_len _ _ ha)
theorem implJoin_ev (m : List (List Int)) (hm : Small m) : ∃ x, Ev (fun k => impl_TextJoin.f k m) x ∧ JoinIs m x := by
  refine ⟨_, join_l0 m hm m.length 0 [] (by omega) (by simp), ?_⟩
  rw [List.drop_zero]
  unfold joinEnd
  generalize hacc : m.flatten.foldl put1 [] = acc
  by_cases c : tok (strOfNums acc) = true ∧ cutOf (strOfNums acc) = m
  · rw [if_pos c]; exact .inl ⟨rfl, c.1, c.2⟩
  · rw [if_neg c]
    refine .inr ⟨rfl, rfl, fun t ht h => c ?_⟩
    have : strOfNums acc = t := by rw [← hacc, ← h]; exact back_text t ht
    rw [this]; exact ⟨ht, h⟩
theorem specCut_l1 (s : ByteArray) (hs : s.size ≤ 14) (hlow : allLow s) (acc : List (List Int)) (ha : acc.length ≤ 1000) (n : Nat) (hn : n ≤ 1000) (r : List (List Int)) (h : Ev (fun k => spec_l51Cut.l0 k s (acc ++ [row4 s n]) ((n + 1 : Nat) : Int)) r) :
    Ev (fun k => spec_l51Cut.l1 k s acc (n : Int) (List.replicate 4 0) 0) r := by
  have step : ∀ (j : Nat) (row : List Int), j < 4 → row.length = 4 → row[j]? = some 0 → Ev (fun k => spec_l51Cut.l1 k s acc (n : Int) (row.set j (letter s (4 * n + j))) ((j + 1 : Nat) : Int)) r → Ev (fun k => spec_l51Cut.l1 k s acc (n : Int) row (j : Int)) r := by
    intro j row hj hr h0 h
    have e4 : wrap64 ((wrap64 ((n : Int) * 4)) + (j : Int)) = ((4 * n + j : Nat) : Int) := by
      rw [w64t (x := (n : Int) * 4) (by omega) (by omega), w64t (by omega) (by omega)]; omega
    refine Ev.step (fun k => rfl) (tv_pos (by omega) ?_)
    rw [e4, w64t (x := (j : Int) + 1) (by omega) (by omega), show ((j : Int) + 1) = ((j + 1 : Nat) : Int) by omega, Int.toNat_natCast]
    by_cases c : 4 * n + j < s.size
    · obtain ⟨h1, h2, h3⟩ := letters_lt s _ c hlow
      refine tv_pos (by omega) (tv_pos (by omega) (tv_pos (by omega) (tv_pos (by omega) ?_)))
      rw [show (bt s ((4 * n + j : Nat) : Int) - 97) % 256 + 1 = letter s (4 * n + j) by omega]
      exact h
    · have hz : letter s (4 * n + j) = 0 := by unfold letter; rw [if_neg c]
      refine tv_neg (by omega) ?_
      rw [hz, show row.set j 0 = row from by
        obtain ⟨hj', he⟩ := List.getElem?_eq_some_iff.1 h0
        rw [← he]; exact List.set_getElem_self hj'] at h
      exact h
  refine step 0 _ (by omega) rfl rfl (step 1 _ (by omega) rfl rfl (step 2 _ (by omega) rfl rfl (step 3 _ (by omega) rfl rfl ?_)))
  refine Ev.step (fun k => rfl) (tv_neg (by omega) (tv_pos (by omega) ?_))
  rw [w64t (x := (n : Int) + 1) (by omega) (by omega), show ((n : Int) + 1) = ((n + 1 : Nat) : Int) by omega]
  exact h
theorem specl51Cut_ev (s : ByteArray) (hs : s.size ≤ 14) (hlow : allLow s) : Ev (fun k => spec_l51Cut.f k s) (cutOf s) := by
  have key : ∀ (d n : Nat), n + d = chunks s.size → Ev (fun k => spec_l51Cut.l0 k s ((List.range n).map (row4 s)) (n : Int)) (cutOf s) := by
    intro d
    have hc : chunks s.size ≤ 4 := by unfold chunks; omega
    induction d with
    | zero =>
      intro n hn
      refine Ev.step (fun k => by rw [spec_l51Cut.l0]) (tv_call (specl51Rows_t s (by omega)) ?_)
      refine tv_neg (by omega) (tv_eq (Ev.now _) ?_)
      rw [show n = chunks s.size by omega]; rfl
    | succ d ih =>
      intro n hn
      refine Ev.step (fun k => by rw [spec_l51Cut.l0]) (tv_call (specl51Rows_t s (by omega)) ?_)
      refine tv_pos (by omega) (tv_pos (by omega) ?_)
      refine specCut_l1 s hs hlow _ (by simp; omega) n (by omega) _ ?_
      have := ih (n + 1) (by omega)
      rw [List.range_succ, List.map_append] at this
      exact this
  exact key (chunks s.size) 0 (by omega)
theorem specCut_ev (s : ByteArray) (hs : s.size ≤ 140737488351232) : Ev (fun k => spec_TextCut.f k s) (cutT s) := by
  refine (specOk_t s hs).bind ?_
  unfold cutT
  by_cases c : tok s = true
  · rw [if_pos c]
    exact tv_pos c ((specl51Cut_ev s ((tok_iff s).1 c).2.2 (tok_low s c)).bind (Ev.now _))
  · rw [if_neg c]
    exact tv_neg c (Ev.now _)
theorem small_cutT (s : ByteArray) : Small (cutT s) := by
  unfold cutT
  by_cases c : tok s = true
  · rw [if_pos c]
    have := (tok_iff s).1 c
    refine ⟨by rw [cutOf_length]; unfold chunks; omega, fun r hr => ?_⟩
    unfold cutOf at hr
    obtain ⟨k, _, rfl⟩ := List.mem_map.1 hr
    show 4 ≤ _
    omega
  · rw [if_neg c]; exact ⟨by simp, fun r hr => by simp at hr⟩
end Go.Proofs.Ytbfkcfmhlanlnaa.K
end
section
namespace Go.Proofs.Ytbfkcfmhlanlnaa.K
set_option linter.unusedVariables false
set_option linter.unusedSimpArgs false
open Go.RowKit Go.Proofs.YtbfkcfmhlanlnaaW.PrintWords Go.Proofs.YtbfkcfmhlanlnaaW.PrintLast Go.Proofs.YtbfkcfmhlanlnaaW.PrintMore
def isV (l : List Int) : Bool := l.all fld && decide (l.length = 4)
theorem isV_iff (l : List Int) : isV l = true ↔ (∀ x ∈ l, 0 ≤ x ∧ x ≤ 30) ∧ l.length = 4 := by
  unfold isV
  rw [Bool.and_eq_true, List.all_eq_true, decide_eq_true_eq]
  constructor
  · rintro ⟨h1, h2⟩
    refine ⟨fun x hx => ?_, h2⟩
    have := h1 x hx
    unfold fld at this
    simpa using this
  · rintro ⟨h1, h2⟩
    refine ⟨fun x hx => ?_, h2⟩
    have := h1 x hx
    unfold fld
    simpa using this
theorem specFld_j (n : Int) : spec_FieldOk.f n = some (fld n) := by
  unfold spec_FieldOk.f spec_l6In.f fld
  by_cases h : n ≥ 0
  · rw [if_pos h]; simp [h]
  · rw [if_neg h]; simp [h]
theorem specVecOk_lj (l : List Int) (hl : l.length ≤ 140737488351232) : ∀ (d : Nat) (i : Nat), i + d = l.length → Ev (fun k => spec_VecOk.l0 k l (i : Int)) ((l.drop i).all fld && decide (l.length = 4)) := by
  intro d
  induction d with
  | zero =>
    intro i hi
    refine Ev.step (fun k => rfl) (tv_neg (by omega) (tv_eq (Ev.now _) ?_))
    rw [List.drop_eq_nil_of_le (by omega), List.all_nil, Bool.true_and]
    by_cases h : l.length = 4
    · rw [h]; rfl
    · rw [decide_eq_false h, beq_eq_false_iff_ne]; omega
  | succ d ih =>
    intro i hi
    have hlt : i < l.length := by omega
    refine Ev.step (fun k => rfl) (tv_pos (by omega) (tv_pos (by omega) (tv_call (specFld_j _) ?_)))
    rw [rd_get_j l i hlt, List.drop_eq_getElem_cons hlt, List.all_cons]
    by_cases c : fld l[i] = true
    · rw [c]
      refine tv_pos rfl ?_
      rw [w64t (by omega) (by omega), Bool.true_and]
      exact ih (i + 1) (by omega)
    · rw [Bool.not_eq_true] at c
      rw [c]
      exact tv_neg (by simp) (Ev.now _)
theorem specVecOk_j (l : List Int) (hl : l.length ≤ 140737488351232) : Ev (fun k => spec_VecOk.f k l) (isV l) := by
  have := specVecOk_lj l hl l.length 0 (by omega)
  exact tv_eq this (by unfold isV; rw [List.drop_zero])
theorem l3Same_l1 (a b : List (List Int)) (n : Nat) (ha : n < a.length) (hb : n < b.length) (hna : a[n].length = 4) (hnb : b[n].length = 4) (hl : a.length ≤ 140737488351232) (r : Bool)
    (h : a[n] = b[n] → Ev (fun k => spec_l3Same.l0 k a b ((n + 1 : Nat) : Int)) r) (hne : a[n] ≠ b[n] → r = false) :
    ∀ (d j : Nat), j + d = 4 → a[n].take j = b[n].take j → Ev (fun k => spec_l3Same.l1 k a b (n : Int) (j : Int)) r := by
  intro d
  induction d with
  | zero =>
    intro j hj he
    refine Ev.step (fun k => rfl) (tv_neg (by omega) ?_)
    rw [w64t (x := (n : Int) + 1) (by omega) (by omega), show ((n : Int) + 1) = ((n + 1 : Nat) : Int) by omega]
    rw [List.take_of_length_le (by omega), List.take_of_length_le (by omega)] at he
    exact h he
  | succ d ih =>
    intro j hj he
    refine Ev.step (fun k => rfl) (tv_pos (by omega) (tv_pos (by omega) (tv_pos (by omega) (tv_pos (by omega) ?_))))
    rw [rdL_get_j a n ha, rdL_get_j b n hb, rd_get_j _ j (show j < a[n].length by omega), rd_get_j _ j (show j < b[n].length by omega), w64t (x := (j : Int) + 1) (by omega) (by omega), show ((j : Int) + 1) = ((j + 1 : Nat) : Int) by omega]
    refine tv_pos (by omega) (tv_pos (by omega) (tv_pos (by omega) ?_))
    by_cases c : a[n][j]'(by omega) = b[n][j]'(by omega)
    · refine tv_pos c (ih (j + 1) (by omega) ?_)
      rw [List.take_succ_eq_append_getElem (show j < a[n].length by omega), List.take_succ_eq_append_getElem (show j < b[n].length by omega), he, c]
    · refine tv_neg c (tv_eq (Ev.now _) (hne (fun hh => c ?_)).symm)
      simp only [hh]
theorem l3Same_l0 (a b : List (List Int)) (hab : a.length = b.length) (ha : ∀ r ∈ a, r.length = 4) (hb : ∀ r ∈ b, r.length = 4) (hl : a.length ≤ 140737488351232) :
    ∀ (d i : Nat), i + d = a.length → Ev (fun k => spec_l3Same.l0 k a b (i : Int)) (decide (a.drop i = b.drop i)) := by
  intro d
  induction d with
  | zero =>
    intro i hi
    refine Ev.step (fun k => rfl) (tv_neg (by omega) (tv_eq (Ev.now _) ?_))
    rw [List.drop_eq_nil_of_le (by omega), List.drop_eq_nil_of_le (by omega)]; simp
  | succ d ih =>
    intro i hi
    have hlt : i < a.length := by omega
    have hlt2 : i < b.length := by omega
    have ea : a.drop i = a[i] :: a.drop (i + 1) := List.drop_eq_getElem_cons hlt
    have eb : b.drop i = b[i] :: b.drop (i + 1) := List.drop_eq_getElem_cons hlt2
    refine Ev.step (fun k => rfl) (tv_pos (by omega) ?_)
    refine l3Same_l1 a b i hlt hlt2 (ha _ (List.getElem_mem _)) (hb _ (List.getElem_mem _)) hl _ (fun c => tv_eq (ih (i + 1) (by omega)) ?_) (fun c => ?_) 4 0 (by omega) rfl
    · rw [ea, eb, c]; exact decide_eq_decide.mpr (by rw [List.cons.injEq]; exact ⟨fun h => ⟨rfl, h⟩, fun h => h.2⟩)
    · rw [ea, eb]; exact decide_eq_false (by rw [List.cons.injEq]; exact fun h => c h.1)
theorem l3Same_ev (a b : List (List Int)) (ha : ∀ r ∈ a, r.length = 4) (hb : ∀ r ∈ b, r.length = 4) (hl : a.length ≤ 140737488351232) : Ev (fun k => spec_l3Same.f k a b) (decide (a = b)) := by
  unfold spec_l3Same.f
  by_cases c : a.length = b.length
  · refine tv_pos (by omega) (tv_eq (l3Same_l0 a b c ha hb hl a.length 0 (by omega)) ?_)
    simp
  · refine tv_neg (by omega) (tv_eq (Ev.now _) ?_)
    symm
    rw [decide_eq_false_iff_not]
    intro h
    exact c (by rw [h])
def put2 (acc : ByteArray) (n : Int) : ByteArray := if n > 0 then acc ++ strOfNums [n + 96] else acc
theorem put2_size (acc : ByteArray) (n : Int) : (put2 acc n).size ≤ acc.size + 1 := by
  unfold put2; split
  · rw [ByteArray.size_append, strOfNums_size]; simp
  · omega
theorem puts2_size (l : List Int) : ∀ acc : ByteArray, (l.foldl put2 acc).size ≤ acc.size + l.length := by
  induction l with
  | nil => intro acc; simp
  | cons a l ih =>
    intro acc
    have h1 := ih (put2 acc a)
    have h2 := put2_size acc a
    rw [List.foldl_cons, List.length_cons]; omega
theorem cut_rows (s : ByteArray) (h : tok s = true) : ∀ r ∈ cutOf s, isV r = true := by
  intro r hr
  unfold cutOf at hr
  obtain ⟨k, _, rfl⟩ := List.mem_map.1 hr
  rw [isV_iff]
  refine ⟨fun x hx => ?_, rfl⟩
  have hh : ∀ i, 0 ≤ letter s i ∧ letter s i ≤ 30 := fun i => by
    by_cases c : i < s.size
    · have := letters_lt s i c (tok_low s h); omega
    · have : letter s i = 0 := by unfold letter; rw [if_neg c]
      omega
  simp only [row4, List.mem_cons, List.not_mem_nil, or_false] at hx
  rcases hx with rfl | rfl | rfl | rfl <;> exact hh _
theorem take_up2 (s : ByteArray) (hlow : allLow s) : ∀ n, ((List.range n).map fun i => letter s i).foldl put2 (⟨#[]⟩ : ByteArray) = strOfNums ((bytesOf s).take n) := by
  intro n
  induction n with
  | zero => rfl
  | succ n ih =>
    rw [List.range_succ, List.map_append, List.foldl_append, ih]
    have hlen : (bytesOf s).length = s.size := bytesOf_length s
    show put2 _ (letter s n) = _
    by_cases c : n < s.size
    · obtain ⟨h1, h2, h3⟩ := letters_lt s n c hlow
      unfold put2
      rw [if_pos (by omega), h3, List.take_succ_eq_append_getElem (by rw [hlen]; exact c)]
      rw [show (bytesOf s)[n]'(by rw [hlen]; exact c) = bt s n by rw [← rd_bytesOf, rd_get_j _ _ (by rw [hlen]; exact c)]]
      apply ByteArray.ext
      simp [strOfNums]
    · have h0 : letter s n = 0 := by unfold letter; rw [if_neg c]
      unfold put2
      rw [h0, if_neg (by omega), List.take_of_length_le (by rw [hlen]; omega), List.take_of_length_le (by rw [hlen]; omega)]
theorem back_text2 (s : ByteArray) (h : tok s = true) : (cutOf s).flatten.foldl put2 (⟨#[]⟩ : ByteArray) = s := by
  rw [flat_cut, take_up2 s (tok_low s h), List.take_of_length_le, strOfNums_bytesOf]
  rw [bytesOf_length]; unfold chunks; omega
def endJ (m : List (List Int)) (t : ByteArray) : ByteArray × Bool := if tok t = true ∧ cutOf t = m then (t, true) else (⟨#[]⟩, false)
theorem sjoin_l1 (m : List (List Int)) (hm : m.length ≤ 14) (n : Nat) (hn : n < m.length) (hv : isV m[n] = true) (r : ByteArray × Bool) :
    ∀ (d j : Nat) (acc : ByteArray), j + d = 4 → acc.size ≤ 1000 - d →
    Ev (fun k => spec_TextJoin.l0 k m ((m[n].drop j).foldl put2 acc) ((n + 1 : Nat) : Int)) r → Ev (fun k => spec_TextJoin.l1 k m acc (n : Int) (j : Int)) r := by
  have h4 := ((isV_iff _).1 hv).2
  intro d
  induction d with
  | zero =>
    intro j acc hj hs h
    refine Ev.step (fun k => rfl) (tv_pos (by omega) (tv_pos (by omega) ?_))
    rw [rdL_get_j m n hn]
    refine tv_neg (by omega) ?_
    rw [w64t (x := (n : Int) + 1) (by omega) (by omega), show ((n : Int) + 1) = ((n + 1 : Nat) : Int) by omega]
    rw [List.drop_eq_nil_of_le (by omega)] at h
    exact h
  | succ d ih =>
    intro j acc hj hs h
    have hlt : j < m[n].length := by omega
    rw [List.drop_eq_getElem_cons hlt, List.foldl_cons] at h
    refine Ev.step (fun k => rfl) (tv_pos (by omega) (tv_pos (by omega) ?_))
    rw [rdL_get_j m n hn, rd_get_j _ j hlt, w64t (x := (j : Int) + 1) (by omega) (by omega), show ((j : Int) + 1) = ((j + 1 : Nat) : Int) by omega]
    have hx := ((isV_iff _).1 hv).1 _ (List.getElem_mem hlt)
    have h2 := put2_size acc m[n][j]
    generalize m[n][j] = x at h hx h2 ⊢
    refine tv_pos (by omega) (tv_pos (by omega) ?_)
    by_cases c : x > 0
    · have hp : put2 acc x = acc ++ strOfNums [x + 96] := by unfold put2; rw [if_pos c]
      have he : (wrap64 ((wrap64 (97 + x)) - 1)) % 256 = x + 96 := by rw [w64t (x := 97 + x) (by omega) (by omega), w64t (by omega) (by omega)]; omega
      rw [hp] at h h2
      refine tv_pos c (tv_call (by rw [he]) ?_)
      refine tv_pos (by rw [strOfNums_size]; simp; omega) ?_
      exact ih (j + 1) _ (by omega) (by omega) h
    · have hp : put2 acc x = acc := by unfold put2; rw [if_neg c]
      rw [hp] at h
      exact tv_neg c (ih (j + 1) acc (by omega) (by omega) h)
theorem sjoin_l0 (m : List (List Int)) (hm : m.length ≤ 14) (hsm : Small m) : ∀ (d i : Nat) (acc : ByteArray), i + d = m.length → acc.size ≤ 4 * i → (∀ r ∈ m.take i, isV r = true) →
    Ev (fun k => spec_TextJoin.l0 k m acc (i : Int)) (if (m.drop i).all isV = true then endJ m ((m.drop i).flatten.foldl put2 acc) else (⟨#[]⟩, false)) := by
  intro d
  induction d with
  | zero =>
    intro i acc hi hs hv
    rw [List.take_of_length_le (by omega)] at hv
    refine Ev.step (fun k => rfl) (tv_neg (by omega) ?_)
    rw [List.drop_eq_nil_of_le (by omega)]
    refine (specOk_t acc (by omega)).bind ?_
    show Ev _ (endJ m acc)
    by_cases c : tok acc = true
    · refine tv_pos c ?_
      refine (specl51Cut_ev acc ((tok_iff acc).1 c).2.2 (tok_low acc c)).bind ?_
      refine (l3Same_ev (cutOf acc) m (fun r hr => ((isV_iff r).1 (cut_rows acc c r hr)).2) (fun r hr => ((isV_iff r).1 (hv r hr)).2) (by rw [cutOf_length]; unfold chunks; omega)).bind ?_
      by_cases c2 : cutOf acc = m
      · exact tv_pos (decide_eq_true c2) (tv_eq (Ev.now _) (show (acc, true) = endJ m acc from (if_pos ⟨c, c2⟩).symm))
      · exact tv_neg (by rw [decide_eq_false c2]; simp) (tv_eq (Ev.now _) (show ((⟨#[]⟩ : ByteArray), false) = endJ m acc from (if_neg (fun h => c2 h.2)).symm))
    · exact tv_neg c (tv_eq (Ev.now _) (show ((⟨#[]⟩ : ByteArray), false) = endJ m acc from (if_neg (fun h => c h.1)).symm))
  | succ d ih =>
    intro i acc hi hs hv
    have hlt : i < m.length := by omega
    rw [List.drop_eq_getElem_cons hlt, List.flatten_cons, List.foldl_append, List.all_cons]
    refine Ev.step (fun k => rfl) (tv_pos (by omega) (tv_pos (by omega) ?_))
    rw [rdL_get_j m i hlt]
    refine (specVecOk_j m[i] (hsm.2 _ (List.getElem_mem _))).bind ?_
    by_cases c : isV m[i] = true
    · rw [c, Bool.true_and]
      refine tv_pos rfl ?_
      refine sjoin_l1 m hm i hlt c _ 4 0 acc (by omega) (by omega) ?_
      rw [List.drop_zero]
      refine ih (i + 1) _ (by omega) ?_ ?_
      · have := puts2_size m[i] acc
        have h4 := ((isV_iff _).1 c).2
        omega
      · intro r hr
        rw [List.take_succ_eq_append_getElem hlt, List.mem_append] at hr
        rcases hr with hr | hr
        · exact hv r hr
        · rw [List.mem_singleton] at hr; rw [hr]; exact c
    · have hb : isV m[i] = false := by rwa [Bool.not_eq_true] at c
      rw [hb, Bool.false_and, if_neg (by simp)]
      exact tv_neg (by simp) (Ev.now _)
theorem specJoin_ev (m : List (List Int)) (hm : Small m) : ∃ x, Ev (fun k => spec_TextJoin.f k m) x ∧ JoinIs m x := by
  unfold spec_TextJoin.f
  by_cases c : m.length ≤ 14
  · refine ⟨_, tv_neg (by omega) (sjoin_l0 m c hm m.length 0 ⟨#[]⟩ (by omega) (by simp [ByteArray.size]) (by simp)), ?_⟩
    rw [List.drop_zero]
    by_cases hv : m.all isV = true
    · rw [if_pos hv]
      unfold endJ
      generalize hT : m.flatten.foldl put2 (⟨#[]⟩ : ByteArray) = T
      by_cases c2 : tok T = true ∧ cutOf T = m
      · rw [if_pos c2]; exact .inl ⟨rfl, c2.1, c2.2⟩
      · rw [if_neg c2]
        refine .inr ⟨rfl, rfl, fun t ht h => c2 ?_⟩
        have : T = t := by rw [← hT, ← h]; exact back_text2 t ht
        rw [this]; exact ⟨ht, h⟩
    · rw [if_neg hv]
      refine .inr ⟨rfl, rfl, fun t ht h => hv ?_⟩
      rw [List.all_eq_true, ← h]
      exact cut_rows t ht
  · refine ⟨_, tv_pos (by omega) (Ev.now _), .inr ⟨rfl, rfl, fun t ht h => c ?_⟩⟩
    rw [← h, cutOf_length]
    have := (tok_iff t).1 ht
    unfold chunks; omega
end Go.Proofs.Ytbfkcfmhlanlnaa.K
end
section
namespace Go.Proofs.Ytbfkcfmhlanlnaa.Pure
open Go.RowKit Go.Proofs.Ytbfkcfmhlanlnaa.K Go.Proofs.YtbfkcfmhlanlnaaW.PrintWords Go.Proofs.YtbfkcfmhlanlnaaW.PrintLast
def szs (a : Int) : List (List Int) → Option Int
  | [] => some a
  | r :: l => if a - r.length < 0 then none else szs (a - r.length) l
theorem szs_small : ∀ (l : List (List Int)) (a b : Int), szs a l = some b → b ≤ a ∧ ∀ r ∈ l, (r.length : Int) ≤ a
  | [], a, b, h => by simp [szs] at h; exact ⟨by omega, fun r hr => by simp at hr⟩
  | r :: l, a, b, h => by
    unfold szs at h
    split at h
    · cases h
    · obtain ⟨h1, h2⟩ := szs_small l _ b h
      refine ⟨by omega, fun x hx => ?_⟩
      rcases List.mem_cons.1 hx with rfl | hx
      · omega
      · have := h2 x hx; omega
theorem szSS_l (m : List (List Int)) (hm : m.length ≤ maxLen) (hr : ∀ r ∈ m, r.length ≤ maxLen) (d : Nat) : ∀ (i : Nat) (a : Int), i + d = m.length → 0 ≤ a → a ≤ 1048576 →
    Ev (fun k => laws_szIntSS.l0 k m a (i : Int)) ((szs a (m.drop i)).getD (-1)) := by
  have hM : maxLen = 9223372036854775807 := rfl
  induction d with
  | zero =>
    intro i a hi h0 h1
    refine Ev.step (fun k => rfl) (tv_neg (by omega) (tv_eq (Ev.now _) ?_))
    rw [List.drop_eq_nil_of_le (by omega)]; rfl
  | succ d ih =>
    intro i a hi h0 h1
    have hlt : i < m.length := by omega
    have hrl := hr _ (List.getElem_mem hlt)
    rw [List.drop_eq_getElem_cons hlt]
    refine Ev.step (fun k => rfl) (tv_pos (by omega) (tv_pos (by omega) ?_))
    rw [rdL_get_j m i hlt]
    generalize m[i] = row at hrl ⊢
    unfold szs
    have hw : wrap64 (a - (row.length : Int)) = a - row.length := w64t (by omega) (by omega)
    by_cases c : a - (row.length : Int) < 0
    · rw [if_pos c]
      refine tv_call (a := -1) (by unfold laws_szIntS.f; rw [hw, if_pos c]) (tv_pos (by omega) (Ev.now _))
    · rw [if_neg c]
      refine tv_call (a := a - (row.length : Int)) (by unfold laws_szIntS.f; rw [hw, if_neg c]) (tv_neg c ?_)
      rw [w64t (by omega) (by omega), show ((i : Int) + 1) = ((i + 1 : Nat) : Int) by omega]
      exact ih (i + 1) _ (by omega) (by omega) (by omega)
theorem szSS_ev (m : List (List Int)) (hm : m.length ≤ maxLen) (hr : ∀ r ∈ m, r.length ≤ maxLen) : ∃ t, Ev (fun k => laws_szIntSS.f k m 1048576) t ∧ (¬ t < 0 → m.length ≤ 1048576 ∧ ∀ r ∈ m, r.length ≤ 1048576) := by
  have hM : maxLen = 9223372036854775807 := rfl
  have hw : wrap64 ((1048576 : Int) - (m.length : Int)) = 1048576 - m.length := w64t (by omega) (by omega)
  unfold laws_szIntSS.f
  rw [hw]
  by_cases c : (1048576 : Int) - (m.length : Int) < 0
  · exact ⟨-1, tv_pos c (Ev.now _), fun h => absurd (by omega : (-1 : Int) < 0) h⟩
  · refine ⟨_, tv_neg c (szSS_l m hm hr m.length 0 _ (by omega) (by omega) (by omega)), fun h => ⟨by omega, fun r hr' => ?_⟩⟩
    rw [List.drop_zero] at h
    cases hs : szs ((1048576 : Int) - m.length) m with
    | none => rw [hs] at h; exact absurd (by decide) h
    | some b => have := (szs_small m _ b hs).2 r hr'; omega
theorem toIntS_lj (l : List Int) (hl : l.length ≤ 17592186043904) (d : Nat) : ∀ (i : Nat) (acc : List Int), i + d = l.length → acc.length = l.length →
    Ev (fun k => laws_toIntS.l0 k l acc (i : Int)) (acc.take i ++ l.drop i) := by
  induction d with
  | zero =>
    intro i acc hi ha
    refine Ev.step (fun k => rfl) (tv_neg (by omega) (tv_eq (Ev.now _) ?_))
    rw [List.take_of_length_le (by omega), List.drop_eq_nil_of_le (by omega), List.append_nil]
  | succ d ih =>
    intro i acc hi ha
    have hlt : i < l.length := by omega
    refine Ev.step (fun k => rfl) (tv_pos (by omega) (tv_pos (by omega) (tv_pos (by omega) ?_)))
    rw [rd_get_j l i hlt, w64t (by omega) (by omega), show ((i : Int) + 1) = ((i + 1 : Nat) : Int) by omega, Int.toNat_natCast]
    refine tv_eq (ih (i + 1) (acc.set i l[i]) (by omega) (by simp [ha])) ?_
    have h1 : i < (acc.set i l[i]).length := by simp; omega
    rw [List.take_succ_eq_append_getElem h1, List.getElem_set_self, List.take_set_of_le (Nat.le_refl i), List.append_assoc, List.drop_eq_getElem_cons hlt]
    rfl
theorem toIntS_j (l : List Int) (hl : l.length ≤ 17592186043904) : Ev (fun k => laws_toIntS.f k l) l := by
  unfold laws_toIntS.f
  refine tv_pos (by omega) (tv_pos (by omega) ?_)
  rw [Int.toNat_natCast]
  exact toIntS_lj l hl l.length 0 _ (by omega) (by simp)
theorem toIntSS_lj (l : List (List Int)) (hl : l.length ≤ 1048576) (hr : ∀ r ∈ l, r.length ≤ 1048576) (d : Nat) : ∀ (i : Nat) (acc : List (List Int)), i + d = l.length → acc.length = l.length →
    Ev (fun k => laws_toIntSS.l0 k l acc (i : Int)) (acc.take i ++ l.drop i) := by
  induction d with
  | zero =>
    intro i acc hi ha
    refine Ev.step (fun k => rfl) (tv_neg (by omega) (tv_eq (Ev.now _) ?_))
    rw [List.take_of_length_le (by omega), List.drop_eq_nil_of_le (by omega), List.append_nil]
  | succ d ih =>
    intro i acc hi ha
    have hlt : i < l.length := by omega
    refine Ev.step (fun k => rfl) (tv_pos (by omega) (tv_pos (by omega) ?_))
    rw [rdL_get_j l i hlt]
    refine (toIntS_j l[i] (by have := hr _ (List.getElem_mem hlt); omega)).bind (tv_pos (by omega) ?_)
    rw [w64t (by omega) (by omega), show ((i : Int) + 1) = ((i + 1 : Nat) : Int) by omega, Int.toNat_natCast]
    refine tv_eq (ih (i + 1) (acc.set i l[i]) (by omega) (by simp [ha])) ?_
    have h1 : i < (acc.set i l[i]).length := by simp; omega
    rw [List.take_succ_eq_append_getElem h1, List.getElem_set_self, List.take_set_of_le (Nat.le_refl i), List.append_assoc, List.drop_eq_getElem_cons hlt]
    rfl
theorem toIntSS_j (l : List (List Int)) (hl : l.length ≤ 1048576) (hr : ∀ r ∈ l, r.length ≤ 1048576) : Ev (fun k => laws_toIntSS.f k l) l := by
  unfold laws_toIntSS.f
  refine tv_pos (by omega) (tv_pos (by omega) ?_)
  rw [Int.toNat_natCast]
  exact toIntSS_lj l hl hr l.length 0 _ (by omega) (by simp)
theorem eqIntS_lj (a b : List Int) (hl : a.length ≤ 140737488351232) (h : a.length = b.length) (d : Nat) : ∀ (i : Nat), i + d = a.length → Ev (fun k => laws_eqIntS.l0 k a b (i : Int)) (decide (a.drop i = b.drop i)) := by
  induction d with
  | zero =>
    intro i hi
    refine Ev.step (fun k => rfl) (tv_neg (by omega) (tv_eq (Ev.now _) ?_))
    rw [List.drop_eq_nil_of_le (by omega), List.drop_eq_nil_of_le (by omega)]; simp
  | succ d ih =>
    intro i hi
    have hlt : i < a.length := by omega
    have hlt2 : i < b.length := by omega
    refine Ev.step (fun k => rfl) (tv_pos (by omega) (tv_pos (by omega) (tv_pos (by omega) ?_)))
    rw [rd_get_j a i hlt, rd_get_j b i hlt2, w64t (by omega) (by omega), show ((i : Int) + 1) = ((i + 1 : Nat) : Int) by omega]
    have ea : a.drop i = a[i] :: a.drop (i + 1) := List.drop_eq_getElem_cons hlt
    have eb : b.drop i = b[i] :: b.drop (i + 1) := List.drop_eq_getElem_cons hlt2
    generalize a.drop i = da at *
    generalize b.drop i = db at *
    by_cases c : a[i] = b[i]
    · refine tv_pos c (tv_eq (ih (i + 1) (by omega)) ?_)
      rw [ea, eb, c]; exact decide_eq_decide.mpr (by rw [List.cons.injEq]; exact ⟨fun h => ⟨rfl, h⟩, fun h => h.2⟩)
    · refine tv_neg c (tv_eq (Ev.now _) ?_)
      rw [ea, eb]; exact (decide_eq_false (by rw [List.cons.injEq]; exact fun h => c h.1)).symm
theorem eqIntS_j (a b : List Int) (hl : a.length ≤ 140737488351232) : Ev (fun k => laws_eqIntS.f k a b) (decide (a = b)) := by
  unfold laws_eqIntS.f
  by_cases c : a.length = b.length
  · refine tv_pos (by omega) (tv_eq (eqIntS_lj a b hl c a.length 0 (by omega)) ?_)
    simp
  · refine tv_neg (by omega) (tv_eq (Ev.now _) ?_)
    symm
    rw [decide_eq_false_iff_not]
    intro h
    exact c (by rw [h])
theorem eqSelf_l (a : List (List Int)) (hl : Small a) (d : Nat) : ∀ (i : Nat), i + d = a.length → Ev (fun k => laws_eqIntSS.l0 k a a (i : Int)) true := by
  have hl0 := hl.1
  induction d with
  | zero =>
    intro i hi
    exact Ev.step (fun k => rfl) (tv_neg (by omega) (Ev.now _))
  | succ d ih =>
    intro i hi
    have hlt : i < a.length := by omega
    refine Ev.step (fun k => rfl) (tv_pos (by omega) (tv_pos (by omega) (tv_pos (by omega) ?_)))
    rw [rdL_get_j a i hlt, w64t (by omega) (by omega), show ((i : Int) + 1) = ((i + 1 : Nat) : Int) by omega]
    refine (eqIntS_j a[i] a[i] (hl.2 _ (List.getElem_mem _))).bind (tv_pos (by simp) (ih (i + 1) (by omega)))
theorem eqSelf (a : List (List Int)) (hl : Small a) : Ev (fun k => laws_eqIntSS.f k a a) true := by
  unfold laws_eqIntSS.f
  exact tv_pos rfl (eqSelf_l a hl a.length 0 (by omega))
theorem FnExactTextJoin : ∀ (l0 : List (List Int)), (l0.length ≤ maxLen ∧ ∀ z_ ∈ l0, (z_.length ≤ maxLen ∧ ∀ y_ ∈ z_, (Lit.int .i64 y_).wf = true)) → ∃ k, laws_FnExactTextJoin.f k l0 = some true := by
  rintro m ⟨hm, hr⟩
  refine Ev.rounds (g := fun k => laws_FnExactTextJoin.f k m) (r := true) ?_
  unfold laws_FnExactTextJoin.f
  obtain ⟨t, ht, hb⟩ := szSS_ev m hm (fun r h => (hr r h).1)
  refine ht.bind ?_
  by_cases c : t < 0
  · exact tv_pos c (Ev.now _)
  · refine tv_neg c ?_
    obtain ⟨h1, h2⟩ := hb c
    have hsm : Small m := ⟨by omega, fun r h => by have := h2 r h; omega⟩
    have hto := toIntSS_j m h1 h2
    obtain ⟨x, hx, jx⟩ := specJoin_ev m hsm
    obtain ⟨y, hy, jy⟩ := implJoin_ev m hsm
    obtain rfl := jx.unique jy
    refine hto.bind (hx.bind (hto.bind (hy.bind (tv_pos rfl ?_))))
    refine Ev.step (fun k => by rw [laws_FnExactTextJoin.j0]) ?_
    refine tv_neg (by simp) ?_
    exact hto.bind ((eqSelf m hsm).bind (tv_pos rfl (Ev.now _)))
end Go.Proofs.Ytbfkcfmhlanlnaa.Pure
end
section
namespace Go.Proofs.YtbfkcfmhlanlnaaW.PrintWords
open Go.ChangeShapes Go.WideShapes
theorem sized_ints {H : Type} {enc : TypeId × Value → H} {P : Program} {W : World} {base : Nat} {spare : Nat → Bool} {held : Bool} {t e : TypeId} {k : IntKind} {a : Option Addr} {len cap : Nat} {d : DataW H} {ps : List MemPlace} {ts : List TypeId} {ds : List (DataW H)} {j : Nat}
    (hsz : (DataW.weightsEach P ts ds).all (· ≤ reachBytes) = true) (ht : ts[j]? = some t) (hd : ds[j]? = some d) (hu : P.underlying t = some (.slice e)) (he : P.underlying e = some (.int k)) (hc : P.cellsOf e = 1) {B : Nat} (hB : P.bytesOf e = B)
    (h : DataW.Trod enc P W base spare held t (.slice a len cap) d ps) : len * B ≤ 140737488351232 := by
  obtain ⟨fuel, hf⟩ := h
  rcases open_ints hu he hc hf with ⟨hcs, _⟩ | ⟨x, l, c, zs, hcs, _, hl, _, hz, hx, _, _⟩
  · simp [Value.cells] at hcs
    obtain ⟨rfl, rfl, rfl⟩ := hcs
    simp
  · simp [Value.cells] at hcs
    obtain ⟨rfl, rfl, rfl⟩ := hcs
    obtain ⟨hx, _⟩ := Prod.mk.inj hx
    subst hx
    have z := sized_slice hsz ht hd hu
    rw [hB] at z
    have hl2 : len ≤ zs.length := by
      rw [hz]
      split
      · exact hl
      · exact Nat.le_refl _
    have h1 : (lits (H := H) k (zs.take len)).length + (lits (H := H) k (zs.drop len)).length = zs.length := by
      simp [lits]
      omega
    rw [h1] at z
    exact Nat.le_trans (Nat.mul_le_mul_right _ hl2) z
end Go.Proofs.YtbfkcfmhlanlnaaW.PrintWords
end
section
namespace Go.Proofs.Ytbfkcfmhlanlnaa.fnExactTextJoin
open Go.ChangeShapes Go.WideShapes Go.ChangeAt Go.RowKit
open Go.ChangeMaps (open_string shut_string)
set_option linter.unusedVariables false
theorem own : ownKnob Try.prog.godebug = none := by kernel_rfl
theorem laidOut : laidOutB Try.prog = true := by kernel_rfl
set_option maxRecDepth 100000 in
theorem lifted (os : Os) (started : os.Started) (H : Type) (enc : TypeId × Value → H) :
    ReturnsInHanded {} Try.checked os 8 .any (Rows.fnExactTextJoinSpec.pre6 enc Try.prog Try.f8 Rows.fnExactTextJoinRow.domain false) (Rows.fnExactTextJoinSpec.post enc Try.prog Try.f8 false true false false) := by
  refine returnsInHanded_of_change_sized (C := Try.checked) own started (by kernel_rfl) Try.func8
    (ChangeSpec.witness6 (enc := enc) (C := Try.checked) false ⟨#[], #[.slice none 0 0], []⟩ 8 (by kernel_rfl) (by kernel_rfl) (by kernel_rfl) (by kernel_rfl)) ?_
  intro W base args ds gs before hval0 hW hcnd hsz0 _
  have hsz : (DataW.weightsEach Try.prog (Try.f8.params.toList ++ Rows.fnExactTextJoinSpec.plain.varTypes Try.prog) (ds ++ gs)).all (· ≤ reachBytes) = true := hsz0
  have hval : ∀ (j : Nat) t v, Try.f8.params[j]? = some t → args[j]? = some v → Value.okWide Try.prog W .any base t v := hval0
  have hW' := hW
  obtain ⟨p, q, hA0, hV, rfl, hfz, hnd⟩ := hW
  have hA : DataW.TrodAll enc Try.prog W 0 (fun _ => true) true Try.f8.params.toList args.toList ds p := hA0
  rw [Try.params8] at hA hval hsz
  obtain ⟨v0, vs0, d0, ds0, p0, q0, hargs, rfl, rfl, h0, r0⟩ := trodAll_cons hA
  obtain ⟨rfl, rfl, rfl⟩ := trodAll_nil r0
  obtain rfl : args = #[v0] := by cases args; simp_all
  obtain ⟨rfl, rfl⟩ := trodVars_none hV
  have k0 := h0
  have lt0 : ∀ x ∈ p0, x.block < W.heap.size := by obtain ⟨m, hm⟩ := k0; exact DataW.trod_lt m _ _ _ hm
  obtain ⟨A0, c0, l0, rfl, lc0, g0, Q0⟩ := K.read_slice Try.underlying28 (hval 0 28 v0 rfl rfl) h0 (K.Rd_slice Try.underlying28 (by kernel_rfl) (K.Rd_slice Try.underlying34 (by kernel_rfl) (K.Rd_int Try.underlying3 (by kernel_rfl))))
  clear hA0 hval0 hsz0 hsz
  obtain ⟨kq, hq⟩ := Pure.FnExactTextJoin l0 Q0
  refine (K.laws_FnExactTextJoin.calls kq _ _ l0 true W g0 lc0 hq).mono fun e W' ⟨he, bel⟩ => ?_
  subst he
  exact ⟨_, rfl, _, _, _, [], _, [], hW', trodAll_mk1 (shut_bool Try.underlying4 _), (trodAll_cons_mk (Below.trod laidOut (by kernel_rfl) (of_decide_eq_true (by kernel_rfl)) k0 bel lt0) trodAll_mk0), rfl, bel.frame _, fun h => by cases h⟩
theorem closed : joinedFacts Try.prog 8 Try.f8 Rows.fnExactTextJoinSpec Rows.fnExactTextJoinRow = true := by
  unfold joinedFacts
  rw [Head.make, Head.final, Head.enter]
  kernel_rfl
theorem over : Rows.fnExactTextJoinRow.holds Try.pinned (OpenSpec.ofChange Rows.fnExactTextJoinSpec) :=
  OpenClaim.holds_of_wide 8 Try.f8 rfl rfl rfl rfl rfl rfl rfl ⟨rfl, rfl, rfl, rfl, rfl⟩ rfl rfl rfl rfl rfl (by kernel_rfl) Try.func8 closed
    (of_decide_eq_true (by kernel_rfl)) (by unfold Func.isWrapper; first | (rw [if_pos (by decide +kernel)]; kernel_rfl) | (rw [if_neg (by decide +kernel)]; exact ⟨rfl, rfl⟩))
    (fun os started H enc _ => lifted os started H enc)
theorem proved : Rows.FnExactTextJoinSaid := over
#print axioms proved
end Go.Proofs.Ytbfkcfmhlanlnaa.fnExactTextJoin
end
