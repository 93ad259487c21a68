/- Part 6 of proofs: what the functions compute, step by step. No condition. -/
import Derived.LoopN
import Derived.SizedLaws
import Derived.ChangeSlices
import Derived.Test.YtmipjlbkcfpkiaaGPlanN1
import Derived.Test.YtmipjlbkcfpkiaaGPlanN2
import Derived.Test.YtmipjlbkcfpkiaaGPlanN3
import Derived.Test.YtmipjlbkcfpkiaaGPlanN4
import Derived.Test.YtmipjlbkcfpkiaaGPlanN5
section
namespace Go.Proofs.Ytmipjlbkcfpkiaa.K
open Go.RowKit Go.Proofs.YtmipjlbkcfpkiaaW.PrintWords Go.Proofs.YtmipjlbkcfpkiaaW.PrintLast Go.Proofs.YtmipjlbkcfpkiaaW.PrintMore
attribute [local go_sem] zao zar zaE zaD zad zac zaq zan
set_option linter.unusedVariables false
set_option linter.unusedSimpArgs false
mutual
def zP.j0 : Nat → Int → Bool → Int → List Int → List Int → Option (Bool)
  | 0, _, _, _, _, _ => none
  | k + 1, x0, x14, x102000, x102001, x102002 => if x14 = true then (some false) else (if 4 ≤ 35184372088832 then (zP.l0 k x0 (List.replicate 4 0) 0 x102000 x102001 x102002) else (none))
def zP.l0 : Nat → Int → List Int → Int → Int → List Int → List Int → Option (Bool)
  | 0, _, _, _, _, _, _ => none
  | k + 1, x0, x5, x6, x102000, x102001, x102002 => if x6 < (x102001.length : Int) then (if 0 ≤ x6 then ((zbh.f x0 (rd x102001 x6)).bind fun t108 => (if x6 < (x102002.length : Int) then ((zR.f k t108 (rd x102002 x6)).bind fun t112 => ((zW.f k x5 t112).bind fun t115 => (zP.l0 k x0 t115 (wrap64 (x6 + 1)) x102000 x102001 x102002))) else (none))) else (none)) else ((zbh.f x0 x102000).bind fun t121 => ((zaG.f k (([x5] : List (List Int))) (([t121] : List (List Int)))).bind fun t127 => (some t127)))
end
def zP.f (k : Nat) (a0 : Int) (a1_0 : Int) (l1_1 : List Int) (l1_2 : List Int) : Option (Bool) := (zba.f a0).bind fun t102 => (if t102 = true then ((zN.f k a1_0 l1_1 l1_2).bind fun t103 => (zP.j0 k a0 (!t103) a1_0 l1_1 l1_2)) else (zP.j0 k a0 true a1_0 l1_1 l1_2))
def zP.T7 : Bool × List (List Nat × List Nat) := (true, [([], []), ([], []), ([], []), ([2], [2]), ([], []), ([3, 4], [3, 4]), ([5], [5]), ([1, 6], [1, 6]), ([], []), ([8], [8]), ([], []), ([9, 10], [9, 10]), ([11], [11]), ([7, 12, 7], [7, 12]), ([0, 13, 13], [0, 13]), ([14, 14, 0, 1, 2, 3, 4, 5, 6, 7, 8, 9, 10, 11, 12, 13, 14], [0, 14])])
def zP.B7 : List Nat := [0, 0, 0, 4, 0, 28, 60, 126, 0, 256, 0, 1792, 3840, 8190, 16383, 32767]
theorem zP.tab7 : rtab .any (opsOf Try.f41 7) = zP.T7 := by kernel_rfl
theorem zP.bits7 : zcd zP.T7.2 zP.B7 = true := by kernel_rfl
set_option maxHeartbeats 8000000 in
set_option maxRecDepth 100000 in
theorem zP.calls (k : Nat) (a0 : Int) (a1_0 : Int) (A1_1 : Option Addr) (c1_1 : Nat) (l1_1 : List Int) (A1_2 : Option Addr) (c1_2 : Nat) (l1_2 : List Int) (r : Bool) (w : World) (hr1_1 : Kd.C (Kd.int .i64) w A1_1 l1_1.length l1_1) (hc1_1 : l1_1.length ≤ c1_1) (hr1_2 : Kd.C (Kd.int .i64) w A1_2 l1_2.length l1_2) (hc1_2 : l1_2.length ≤ c1_2) (h : zP.f k a0 a1_0 l1_1 l1_2 = some r) :
    Calls Try.prog 41 #[.int .i64 a0, .agg #[.int .i64 a1_0, .slice A1_1 l1_1.length c1_1, .slice A1_2 l1_2.length c1_2]] w fun e w' => e = .returned (.bool r) ∧ Below w.heap.size w w' := by
  have hu47 := Try.underlying47; have HR1_1 := zb.mk hr1_1; have HC1_1 := zb.mk hc1_1; clear hr1_1 hc1_1; have HR1_2 := zb.mk hr1_2; have HC1_2 := zb.mk hc1_2; clear hr1_2 hc1_2; have HB := zb.mk (Below.refl w.heap.size w); have H : ((zba.f a0).bind fun t102 => (if t102 = true then ((zN.f k a1_0 l1_1 l1_2).bind fun t103 => (zP.j0 k a0 (!t103) a1_0 l1_1 l1_2)) else (zP.j0 k a0 true a1_0 l1_1 l1_2))) = some r := h; clear h; have HC3 := zb.mk H; clear H
  go_enter Try.func41, Try.ntmps41
  go_upto_region 1 with (first | ((with_reducible refine zV (N := 3) rfl ?_); refine zal ?hg (N := 3) ?hd (cs := #[.int .i64 a1_0, .slice A1_1 l1_1.length c1_1, .slice A1_2 l1_2.length c1_2]) (t := 47) ?hr ?_; (case hd => rfl); (case hg => rfl); (case hr => first | (go_simp; done) | (go_simp; rfl)); intro gb101 hg w4 hbox hb; have n0_ := zb.mk (zw (by repeat (first | (with_reducible first | exact HB.out | apply zf | apply za | apply ze) | exact HB.out | exact Below.refl _ _)) hb); have n1_ := zb.mk (hbox); have n2_ := zb.mk ((by rw [hg]; exact (zo (by repeat (first | (with_reducible first | exact HB.out | apply zf | apply za | apply ze) | exact HB.out | exact Below.refl _ _))) : w.heap.size ≤ gb101)); have n3_ := zb.mk ((by rw [hg]; exact (zo (by repeat (first | (with_reducible first | exact HB.out | apply zf | apply za | apply ze) | exact HB.out | exact Below.refl _ _))) : w.heap.size ≤ gb101)); clear HB; have HB := n0_; have BK101 := n1_; have GW101 := n2_; have GE101 := n3_; clear n0_ n1_ n2_ n3_; clear hb hbox hg))
  (try simp only [Act.put, List.setIfInBounds_toArray, List.set_cons_zero, List.set_cons_succ])
  go_cut [14] (fun v14 wc => ∃ (kq : Nat) (x14_2 : Bool), v14 = .bool x14_2 ∧ zb (zP.j0 kq a0 x14_2 a1_0 l1_1 l1_2 = some r) ∧ zb (kq ≤ k) ∧ zb (wc.heap[gb101]? = some (.cells #[.int .i64 a1_0, (.slice A1_1 l1_1.length c1_1), (.slice A1_2 l1_2.length c1_2)] 47 (0, 0))) ∧ zb (Below w.heap.size w wc))
  case first =>
    have H := HC3.out; clear HC3; replace H := Option.bind_eq_some_iff.mp H; obtain ⟨t102, A50, H⟩ := H; replace H : (if t102 = true then ((zN.f k a1_0 l1_1 l1_2).bind fun t103 => (zP.j0 k a0 (!t103) a1_0 l1_1 l1_2)) else (zP.j0 k a0 true a1_0 l1_1 l1_2)) = some r := H; have A5 := zb.mk A50; clear A50
    by_cases c6 : t102 = true
    · subst c6; have H1 : ((zN.f k a1_0 l1_1 l1_2).bind fun t103 => (zP.j0 k a0 (!t103) a1_0 l1_1 l1_2)) = some r := by rw [if_pos rfl] at H; exact H
      clear H; have H := H1; clear H1; replace H := Option.bind_eq_some_iff.mp H; obtain ⟨t103, A70, H⟩ := H; replace H : (zP.j0 k a0 (!t103) a1_0 l1_1 l1_2) = some r := H; have A7 := zb.mk A70; clear A70; have H' := zb.mk H; clear H; go_wp2_with (first | ((with_reducible refine zz (f := 84) rfl ?_); refine zX (some 8) rfl rfl Try.func84 (by kernel_rfl) rfl #[.int .i64 a0] rfl (by (try simp only [List.map_toArray, List.map_cons, List.map_nil]); first | done | rfl | (simp only [List.length_drop, List.length_take]; rfl)) ?_; (with_reducible refine (zba.calls a0 true _ A5.out).mono ?_); rintro e w' ⟨rfl, ⟨nd, rfl⟩⟩; refine ⟨_, rfl, ?_⟩; have hcz8_0 : w4.cell? ⟨gb101, 0, none⟩ = some (.int .i64 a1_0) := (zi BK101.out 0).trans rfl; have hcz8_1 : w4.cell? ⟨gb101, 1, none⟩ = some (.slice A1_1 l1_1.length c1_1) := (zi BK101.out 1).trans rfl; have hcz8_2 : w4.cell? ⟨gb101, 2, none⟩ = some (.slice A1_2 l1_2.length c1_2) := (zi BK101.out 2).trans rfl; have hfz8_0 := zn BK101.out 0; have hfz8_1 := zn BK101.out 1; have hfz8_2 := zn BK101.out 2) | (go_at_call 64; (with_reducible refine (zN.calls k a1_0 _ _ l1_1 _ _ l1_2 t103 _ ?side1 ?side2 ?side3 ?side4 A7.out).mono ?_); (case side1 => repeat (first | exact (Kd.zaL HR1_1.out (by repeat (first | (with_reducible first | exact HB.out | apply zf | apply za | apply ze | refine zh ?_ GE101.out) | exact HB.out))) | (with_reducible refine Kd.zS ?_ _) | (with_reducible refine Kd.zT ?_ _) | (with_reducible refine Kd.zah ?_))); (case side2 => exact HC1_1.out); (case side3 => repeat (first | exact (Kd.zaL HR1_2.out (by repeat (first | (with_reducible first | exact HB.out | apply zf | apply za | apply ze | refine zh ?_ GE101.out) | exact HB.out))) | (with_reducible refine Kd.zS ?_ _) | (with_reducible refine Kd.zT ?_ _) | (with_reducible refine Kd.zah ?_))); (case side4 => exact HC1_2.out); rintro e w9 ⟨rfl, hb⟩; have n0_ := zb.mk (zK (g := gb101) (o := .cells #[.int .i64 a1_0, .slice A1_1 l1_1.length c1_1, .slice A1_2 l1_2.length c1_2] 47 (0, 0)) (by (with_reducible repeat (first | refine zl ?_ _ | refine zm ?_ | refine zk ?_ _)); exact BK101.out) hb); have n1_ := zb.mk (zw (by repeat (first | (with_reducible first | exact HB.out | apply zf | apply za | apply ze | refine zh ?_ GE101.out) | exact HB.out)) hb); clear BK101; clear HB; have BK101 := n0_; have HB := n1_; clear n0_ n1_; (try clear hb); (try clear hb2); (try clear hk); (try clear hi)))
      go_meet
      case rel => exact ⟨_, (!t103), (by first | rfl | (simp; done) | (simp [*]; done)), H', ⟨by first | omega | exact Nat.le_refl _⟩, ⟨by (with_reducible repeat (first | refine zl ?_ _ | refine zm ?_ | refine zk ?_ _)); exact BK101.out⟩, ⟨by repeat (first | (with_reducible first | exact HB.out | apply zf | apply za | apply ze | refine zh ?_ GE101.out) | exact HB.out)⟩⟩
    · replace c6 := Bool.eq_false_iff.mpr c6; subst c6; have H1 : (zP.j0 k a0 true a1_0 l1_1 l1_2) = some r := by rw [if_neg (show ¬ (false = true) by decide)] at H; exact H
      clear H; have H := H1; clear H1; have H' := zb.mk H; clear H; go_wp2_with (first | ((with_reducible refine zz (f := 84) rfl ?_); refine zX (some 8) rfl rfl Try.func84 (by kernel_rfl) rfl #[.int .i64 a0] rfl (by (try simp only [List.map_toArray, List.map_cons, List.map_nil]); first | done | rfl | (simp only [List.length_drop, List.length_take]; rfl)) ?_; (with_reducible refine (zba.calls a0 false _ A5.out).mono ?_); rintro e w' ⟨rfl, ⟨nd, rfl⟩⟩; refine ⟨_, rfl, ?_⟩))
      go_meet
      case rel => exact ⟨_, (true), (by first | rfl | (simp; done) | (simp [*]; done)), H', ⟨by first | omega | exact Nat.le_refl _⟩, ⟨by (with_reducible repeat (first | refine zl ?_ _ | refine zm ?_ | refine zk ?_ _)); exact BK101.out⟩, ⟨by repeat (first | (with_reducible first | exact HB.out | apply zf | apply za | apply ze | refine zh ?_ GE101.out) | exact HB.out)⟩⟩
  case rest =>
    clear HC3
    try clear c1
    try clear p2
    try clear c4
    try clear c6
    try clear c8
    try clear hcz8_0
    try clear hcz8_1
    try clear hcz8_2
    try clear hfz8_0
    try clear hfz8_1
    try clear hfz8_2
    obtain ⟨kq, x14_2, rfl, HA, HJ2, BK101, HB⟩ := hcut; cases kq with
    | zero => exact absurd HA.out (by simp [zP.j0])
    | succ kj2 =>
      have H := HA.out; clear HA; simp only [zP.j0] at H
      by_cases c10 : x14_2 = true
      · subst c10; have H1 : (some false) = some r := by rw [if_pos rfl] at H; exact H
        clear H; have H := H1; clear H1; obtain rfl := Option.some.inj H; go_wp2; go_ret; exact ⟨by first | rfl | (simp [zA, zB] <;> rfl) | (simp [*, zA, zB] <;> rfl), by repeat (first | (with_reducible first | exact HB.out | apply zf | apply za | apply ze | refine zh ?_ GE101.out) | exact HB.out)⟩
      · replace c10 := Bool.eq_false_iff.mpr c10; subst c10; have H1 : (if 4 ≤ 35184372088832 then (zP.l0 kj2 a0 (List.replicate 4 0) 0 a1_0 l1_1 l1_2) else (none)) = some r := by rw [if_neg (show ¬ (false = true) by decide)] at H; exact H
        clear H; have H := H1; clear H1
        by_cases c11 : 4 ≤ 35184372088832
        · rw [if_pos c11] at H; have c11b0 := eq_true c11; have c11b1 : decide (4 ≤ 35184372088832) = true := decide_eq_true c11; clear c11; obtain ⟨y104, hy104⟩ : ∃ y_ : List Int, y_ = (List.replicate 4 0) := ⟨_, rfl⟩
          replace H : (zP.l0 kj2 a0 y104 0 a1_0 l1_1 l1_2) = some r := by first | (rw [hy104]; with_reducible exact H) | (have H2_ := (Option.bind_some _ _).symm.trans H; rw [hy104]; with_reducible exact H2_) | (have H2_ := (Option.bind_some _ _).symm.trans H; with_reducible exact H2_) | with_reducible exact H | (rw [hy104]; exact H) | exact H
          have Ny104 := zb.mk hy104; clear hy104; have H' := zb.mk H; clear H; go_wp2_with (first | ((with_reducible refine zV (N := 15) rfl ?_); refine Kd.zgh (Kd.int .i64) _ 3 rfl (N := 15) rfl 24 _ _ rfl 4 rfl rfl Try.underlying24 (.int .i64 0) 8 info3 rfl (by decide) (by omega) 0 (ok := fun _ => True) (okp := fun _ => True) rfl (fun _ hk => hk) trivial (by omega) (by omega) (Below.refl _ _) (Nat.le_refl _) ?_; intro v105 w12 ho13 hb hg_ hnew_; clear hg_ hnew_; (first | rw [← Ny104.out] at ho13 | (simp only [Int.reduceToNat] at ho13; rw [← Ny104.out] at ho13)); have n0_ := zb.mk (Kd.zaa ho13 (zo (by repeat (first | (with_reducible first | exact HB.out | apply zf | apply za | apply ze | refine zh ?_ GE101.out) | exact HB.out)))); have n1_ := zb.mk (zK (g := gb101) (o := .cells #[.int .i64 a1_0, .slice A1_1 l1_1.length c1_1, .slice A1_2 l1_2.length c1_2] 47 (0, 0)) (by (with_reducible repeat (first | refine zl ?_ _ | refine zm ?_ | refine zk ?_ _)); exact BK101.out) hb); have n2_ := zb.mk (zw (by repeat (first | (with_reducible first | exact HB.out | apply zf | apply za | apply ze | refine zh ?_ GE101.out) | exact HB.out)) hb); clear BK101; clear HB; have HO106 := n0_; have BK101 := n1_; have HB := n2_; clear n0_ n1_ n2_; clear hb ho13))
          go_loopg [5, 6] kj2 (fun kq v5 v6 w' => ∃ (x5_2 : List Int) (x6_2 : Int), v6 = .int .i64 x6_2 ∧ zb (zP.l0 kq a0 x5_2 x6_2 a1_0 l1_1 l1_2 = some r) ∧ zb (kq ≤ kj2) ∧ zb (Kd.R (Kd.int .i64) 3 w' w.heap.size (fun _ => True) v5 x5_2) ∧ zb (w'.heap[gb101]? = some (.cells #[.int .i64 a1_0, (.slice A1_1 l1_1.length c1_1), (.slice A1_2 l1_2.length c1_2)] 47 (0, 0))) ∧ zb (Below w.heap.size w w'))
          case atStart => exact ⟨(y104), (0), (by first | rfl | (simp; done) | (simp [*]; done)), H', ⟨Nat.le_refl _⟩, ⟨by (with_reducible repeat (first | apply Kd.zt | apply Kd.zq | apply Kd.zy)); exact HO106.out⟩, ⟨by (with_reducible repeat (first | refine zl ?_ _ | refine zm ?_ | refine zk ?_ _)); exact BK101.out⟩, ⟨by repeat (first | (with_reducible first | exact HB.out | apply zf | apply za | apply ze | refine zh ?_ GE101.out) | exact HB.out)⟩⟩
          case round =>
            clear H'
            try clear c1
            try clear p2
            try clear c4
            try clear c6
            try clear c8
            try clear c10
            try clear c11
            try clear c11b0
            try clear c11b1
            try clear hcz8_0
            try clear hcz8_1
            try clear hcz8_2
            try clear hfz8_0
            try clear hfz8_1
            try clear hfz8_2
            try clear p2
            obtain ⟨x5_2, x6_2, rfl, HA, HK2, HO_5, BK101, HB⟩ := hrel; cases gk with
            | zero => exact absurd HA.out (by simp [zP.l0])
            | succ k2 =>
              have H := HA.out; clear HA; simp only [zP.l0] at H
              by_cases c14 : x6_2 < (l1_1.length : Int)
              · rw [if_pos c14] at H; have c14b0 : decide (x6_2 < (l1_1.length : Int)) = true := decide_eq_true c14; clear c14
                by_cases c15 : 0 ≤ x6_2
                · rw [if_pos c15] at H; have c15b0 : decide (0 ≤ x6_2) = true := decide_eq_true c15; clear c15; replace H := Option.bind_eq_some_iff.mp H; obtain ⟨t108, A160, H⟩ := H; replace H : (if x6_2 < (l1_2.length : Int) then ((zR.f k2 t108 (rd l1_2 x6_2)).bind fun t112 => ((zW.f k2 x5_2 t112).bind fun t115 => (zP.l0 k2 a0 t115 (wrap64 (x6_2 + 1)) a1_0 l1_1 l1_2))) else (none)) = some r := H; have A16 := zb.mk A160; clear A160
                  by_cases c17 : x6_2 < (l1_2.length : Int)
                  · rw [if_pos c17] at H; have c17b0 : decide (x6_2 < (l1_2.length : Int)) = true := decide_eq_true c17; clear c17; replace H := Option.bind_eq_some_iff.mp H; obtain ⟨t112, A180, H⟩ := H; replace H : ((zW.f k2 x5_2 t112).bind fun t115 => (zP.l0 k2 a0 t115 (wrap64 (x6_2 + 1)) a1_0 l1_1 l1_2)) = some r := H; have A18 := zb.mk A180; clear A180; replace H := Option.bind_eq_some_iff.mp H; obtain ⟨t115, A190, H⟩ := H; replace H : (zP.l0 k2 a0 t115 (wrap64 (x6_2 + 1)) a1_0 l1_1 l1_2) = some r := H; have A19 := zb.mk A190; clear A190; have H' := zb.mk H; clear H; have hcz20_0 : wr.cell? ⟨gb101, 0, none⟩ = some (.int .i64 a1_0) := (zi BK101.out 0).trans rfl; have hcz20_1 : wr.cell? ⟨gb101, 1, none⟩ = some (.slice A1_1 l1_1.length c1_1) := (zi BK101.out 1).trans rfl; have hcz20_2 : wr.cell? ⟨gb101, 2, none⟩ = some (.slice A1_2 l1_2.length c1_2) := (zi BK101.out 2).trans rfl; have hfz20_0 := zn BK101.out 0; have hfz20_1 := zn BK101.out 1; have hfz20_2 := zn BK101.out 2
                    try go_wp2
                    have n0_ := zb.mk (Kd.zy HO_5.out); have n1_ := zb.mk (zm BK101.out); have n2_ := zb.mk (ze HB.out); clear HO_5; clear BK101; clear HB; have HO_5 := n0_; have BK101 := n1_; have HB := n2_; clear n0_ n1_ n2_; have p107 : 0 ≤ (x6_2 : Int) := of_decide_eq_true (by first | (with_reducible assumption) | assumption); have q107 : x6_2 < (l1_1.length : Int) := of_decide_eq_true (by first | (with_reducible assumption) | assumption); obtain ⟨ad107, e107, hx107_0⟩ := Kd.zaR HR1_1.out x6_2 p107 q107; have hw107_0 := hx107_0; cases e107; replace hx107_0 := (HB.out.cell (World.block_lt_of_cell? w _ hx107_0)).trans hx107_0; replace p107 := eq_true p107; replace q107 := eq_true q107; have p111 : 0 ≤ (x6_2 : Int) := of_decide_eq_true (by first | (with_reducible assumption) | assumption); have q111 : x6_2 < (l1_2.length : Int) := of_decide_eq_true (by first | (with_reducible assumption) | assumption); obtain ⟨ad111, e111, hx111_0⟩ := Kd.zaR HR1_2.out x6_2 p111 q111; have hw111_0 := hx111_0; cases e111; replace hx111_0 := (HB.out.cell (World.block_lt_of_cell? w _ hx111_0)).trans hx111_0; replace p111 := eq_true p111; replace q111 := eq_true q111; refine zbG (n := 16) (S := fun w' => w'.cell? ⟨gb101, 0, none⟩ = some (.int .i64 a1_0) ∧ w'.cell? ⟨gb101, 1, none⟩ = some (.slice (some ad107) l1_1.length c1_1) ∧ w'.cell? ⟨gb101, 2, none⟩ = some (.slice (some ad111) l1_2.length c1_2) ∧ w'.cell? (ad107.add (x6_2).toNat) = some (.int .i64 (rd l1_1 x6_2)) ∧ w'.cell? (ad111.add (x6_2).toNat) = some (.int .i64 (rd l1_2 x6_2))) (ds := []) #[false, false, false, false, false, false, false, false, false, false, false, false, false, false, false, false] (by kernel_rfl) rfl rfl ⟨(zi BK101.out 0).trans rfl, (zi BK101.out 1).trans rfl, (zi BK101.out 2).trans rfl, (by first | exact ((HB.out.cell (World.block_lt_of_cell? w _ hw107_0)).trans hw107_0) | exact hw107_0), (by first | exact ((HB.out.cell (World.block_lt_of_cell? w _ hw111_0)).trans hw111_0) | exact hw111_0)⟩ (fun hHeld => ?_); refine zbv zP.tab7 zP.bits7 (fun HT_ HW_ => ?_); generalize wr.drew = w21 at HO_5 BK101 HB hx107_0 hx111_0 hHeld ⊢; refine pure_ (i := 0) (N := some 23) (v := ?_) (a' := ?_) #[true, false, false, false, false, false, false, false, false, false, false, false, false, false, false, false] rfl rfl (zI HT_.out (by kernel_rfl)) (fun _ _ _ h => h) (Or.inl ⟨by rfl, ?_⟩) ?_ ?_; rotate_left
                    · intro w'; go_simp; (with_reducible rfl)
                    rotate_left
                    · simp only [Act.put, List.setIfInBounds_toArray, List.set_cons_zero, List.set_cons_succ, i64_w, i32_w]; rfl
                    refine pure_ (i := 1) (N := some 24) (v := ?_) (a' := ?_) #[true, true, false, false, false, false, false, false, false, false, false, false, false, false, false, false] rfl rfl (zI HT_.out (by kernel_rfl)) (fun _ _ _ h => h) (Or.inl ⟨by rfl, ?_⟩) ?_ ?_; rotate_left
                    · intro w'; go_simp; (with_reducible rfl)
                    rotate_left
                    · simp only [Act.put, List.setIfInBounds_toArray, List.set_cons_zero, List.set_cons_succ, i64_w, i32_w]; rfl
                    refine pure_ (i := 2) (N := some 25) (v := ?_) (a' := ?_) #[true, true, true, false, false, false, false, false, false, false, false, false, false, false, false, false] rfl rfl (zI HT_.out (by kernel_rfl)) (fun _ _ _ h => h) (Or.inl ⟨by rfl, ?_⟩) ?_ ?_; rotate_left
                    · intro w'; go_simp; (with_reducible rfl)
                    rotate_left
                    · simp only [Act.put, List.setIfInBounds_toArray, List.set_cons_zero, List.set_cons_succ, i64_w, i32_w]; rfl
                    refine pure_ (i := 4) (N := some 27) (v := ?_) (a' := ?_) #[true, true, true, false, true, false, false, false, false, false, false, false, false, false, false, false] rfl rfl (zI HT_.out (by kernel_rfl)) (fun _ _ _ h => h) (Or.inl ⟨by rfl, ?_⟩) ?_ ?_; rotate_left
                    · intro w'; go_simp; (with_reducible rfl)
                    rotate_left
                    · simp only [Act.put, List.setIfInBounds_toArray, List.set_cons_zero, List.set_cons_succ, i64_w, i32_w]; rfl
                    refine pure_ (i := 8) (N := some 31) (v := ?_) (a' := ?_) #[true, true, true, false, true, false, false, false, true, false, false, false, false, false, false, false] rfl rfl (zI HT_.out (by kernel_rfl)) (fun _ _ _ h => h) (Or.inl ⟨by rfl, ?_⟩) ?_ ?_; rotate_left
                    · intro w'; go_simp; (with_reducible rfl)
                    rotate_left
                    · simp only [Act.put, List.setIfInBounds_toArray, List.set_cons_zero, List.set_cons_succ, i64_w, i32_w]; rfl
                    refine pure_ (i := 10) (N := some 33) (v := ?_) (a' := ?_) #[true, true, true, false, true, false, false, false, true, false, true, false, false, false, false, false] rfl rfl (zI HT_.out (by kernel_rfl)) (fun _ _ _ h => h) (Or.inl ⟨by rfl, ?_⟩) ?_ ?_; rotate_left
                    · intro w'; go_simp; (with_reducible rfl)
                    rotate_left
                    · simp only [Act.put, List.setIfInBounds_toArray, List.set_cons_zero, List.set_cons_succ, i64_w, i32_w]; rfl
                    refine take_ (i := 3) (N := some 26) (v := ?_) (a' := ?_) #[true, true, true, true, true, false, false, false, true, false, true, false, false, false, false, false] rfl rfl (zax HT_.out HW_.out (by kernel_rfl)) (fun _ _ _ h => h) (Or.inl ⟨by rfl, ?_⟩) hHeld ?_ ?_; rotate_left
                    · rintro w' ⟨s0, s1, s2, s3, s4⟩; go_simp; (with_reducible rfl)
                    rotate_left
                    · simp only [Act.put, List.setIfInBounds_toArray, List.set_cons_zero, List.set_cons_succ, i64_w, i32_w]; rfl
                    refine pure_ (i := 5) (N := some 28) (v := ?_) (a' := ?_) #[true, true, true, true, true, true, false, false, true, false, true, false, false, false, false, false] rfl rfl (zI HT_.out (by kernel_rfl)) (fun _ _ _ h => h) (Or.inl ⟨by rfl, ?_⟩) ?_ ?_; rotate_left
                    · intro w'; go_simp; (with_reducible rfl)
                    rotate_left
                    · simp only [Act.put, List.setIfInBounds_toArray, List.set_cons_zero, List.set_cons_succ, i64_w, i32_w]; rfl
                    refine take_ (i := 6) (N := some 29) (v := ?_) (a' := ?_) #[true, true, true, true, true, true, true, false, true, false, true, false, false, false, false, false] rfl rfl (zax HT_.out HW_.out (by kernel_rfl)) (fun _ _ _ h => h) (Or.inl ⟨by rfl, ?_⟩) hHeld ?_ ?_; rotate_left
                    · rintro w' ⟨s0, s1, s2, s3, s4⟩; go_simp; (with_reducible rfl)
                    rotate_left
                    · simp only [Act.put, List.setIfInBounds_toArray, List.set_cons_zero, List.set_cons_succ, i64_w, i32_w]; rfl
                    refine take_ (i := 9) (N := some 32) (v := ?_) (a' := ?_) #[true, true, true, true, true, true, true, false, true, true, true, false, false, false, false, false] rfl rfl (zax HT_.out HW_.out (by kernel_rfl)) (fun _ _ _ h => h) (Or.inl ⟨by rfl, ?_⟩) hHeld ?_ ?_; rotate_left
                    · rintro w' ⟨s0, s1, s2, s3, s4⟩; go_simp; (with_reducible rfl)
                    rotate_left
                    · simp only [Act.put, List.setIfInBounds_toArray, List.set_cons_zero, List.set_cons_succ, i64_w, i32_w]; rfl
                    refine pure_ (i := 11) (N := some 34) (v := ?_) (a' := ?_) #[true, true, true, true, true, true, true, false, true, true, true, true, false, false, false, false] rfl rfl (zI HT_.out (by kernel_rfl)) (fun _ _ _ h => h) (Or.inl ⟨by rfl, ?_⟩) ?_ ?_; rotate_left
                    · intro w'; go_simp; (with_reducible rfl)
                    rotate_left
                    · simp only [Act.put, List.setIfInBounds_toArray, List.set_cons_zero, List.set_cons_succ, i64_w, i32_w]; rfl
                    refine take_ (i := 12) (N := some 35) (v := ?_) (a' := ?_) #[true, true, true, true, true, true, true, false, true, true, true, true, true, false, false, false] rfl rfl (zax HT_.out HW_.out (by kernel_rfl)) (fun _ _ _ h => h) (Or.inl ⟨by rfl, ?_⟩) hHeld ?_ ?_; rotate_left
                    · rintro w' ⟨s0, s1, s2, s3, s4⟩; go_simp; (with_reducible rfl)
                    rotate_left
                    · simp only [Act.put, List.setIfInBounds_toArray, List.set_cons_zero, List.set_cons_succ, i64_w, i32_w]; rfl
                    refine one_ (i := 7) (N := some 30) #[true, true, true, true, true, true, true, true, true, true, true, true, true, false, false, false] rfl rfl (zbu HT_.out (by kernel_rfl)) (by decide) (fun K hK => ?_); refine goes_ Try.func87 (by kernel_rfl) rfl #[.int .i64 a0, .int .i64 (rd l1_1 x6_2)] (by rfl) rfl rfl (by (try simp only [List.map_toArray, List.map_cons, List.map_nil]); first | done | rfl | (simp only [List.length_drop, List.length_take]; rfl)) ?_; (with_reducible refine (zbh.calls a0 (rd l1_1 x6_2) t108 _ A16.out).mono ?_); rintro e w22 ⟨v109, rfl, ho0, hb⟩; refine ⟨_, rfl, ?_⟩; have n0_ := zb.mk (Kd.zaj (by (with_reducible repeat (first | apply Kd.zt | apply Kd.zq | apply Kd.zy)); exact HO_5.out) hb); have n1_ := zb.mk (Kd.zcG (Kd.zcb (ok' := fun k_ => some k_ ≠ (u5 : Value).ownBlock ∧ k_ ≠ gb101) ho0 (fun k_ hk_ => ⟨(Kd.fresh' (Kd.R_lt (by (with_reducible repeat (first | apply Kd.zt | apply Kd.zq | apply Kd.zy)); exact HO_5.out)) k_ hk_), (Kd.zdd (g := gb101) (o := .cells #[.int .i64 a1_0, .slice (some ad107) l1_1.length c1_1, .slice (some ad111) l1_2.length c1_2] 47 (0, 0)) (by (with_reducible repeat (first | refine zl ?_ _ | refine zm ?_ | refine zk ?_ _)); exact BK101.out) k_ hk_)⟩)) (zo (by repeat (first | (with_reducible first | exact HB.out | apply zf | apply za | apply ze | refine zh ?_ GE101.out) | exact HB.out)))); have n2_ := zb.mk (zK (g := gb101) (o := .cells #[.int .i64 a1_0, .slice (some ad107) l1_1.length c1_1, .slice (some ad111) l1_2.length c1_2] 47 (0, 0)) (by (with_reducible repeat (first | refine zl ?_ _ | refine zm ?_ | refine zk ?_ _)); exact BK101.out) hb); have n3_ := zb.mk (zw (by repeat (first | (with_reducible first | exact HB.out | apply zf | apply za | apply ze | refine zh ?_ GE101.out) | exact HB.out)) hb); clear HO_5; clear BK101; clear HB; have HO_5 := n0_; have HO110 := n1_; have BK101 := n2_; have HB := n3_; clear n0_ n1_ n2_ n3_; (try clear hb); (try clear hb2); (try clear hk); (try clear hi); (try clear ho0); obtain ⟨Ao23, co23, eo23⟩ := Kd.zcK HO110.out; (first | subst eo23 | (injection eo23 with f1_ f2_ f3_; have f4_ := f1_.symm; have f5_ := f3_.symm; clear f1_ f2_ f3_; subst f4_; subst f5_)); refine hK.out _ _ ⟨(zi BK101.out 0).trans rfl, (zi BK101.out 1).trans rfl, (zi BK101.out 2).trans rfl, (by first | exact ((HB.out.cell (World.block_lt_of_cell? w _ hw107_0)).trans hw107_0) | exact hw107_0), (by first | exact ((HB.out.cell (World.block_lt_of_cell? w _ hw111_0)).trans hw111_0) | exact hw111_0)⟩ (fun hHeld => ?_); clear hK K; refine norm_ (a' := ?_) ?_ ?_; rotate_left
                    · show Act.put _ (some 30) _ = _; simp only [Act.put, List.setIfInBounds_toArray, List.set_cons_zero, List.set_cons_succ, i64_w, i32_w]; rfl
                    refine one_ (i := 13) (N := some 36) #[true, true, true, true, true, true, true, true, true, true, true, true, true, true, false, false] rfl rfl (zbu HT_.out (by kernel_rfl)) (by decide) (fun K hK => ?_); refine goes_ Try.func86 (by kernel_rfl) rfl #[.slice Ao23 t108.length co23, .int .i64 (rd l1_2 x6_2)] (by rfl) rfl rfl (by (try simp only [List.map_toArray, List.map_cons, List.map_nil]); first | done | rfl | (simp only [List.length_drop, List.length_take]; rfl)) ?_; (with_reducible refine (zR.calls k2 _ _ t108 (rd l1_2 x6_2) t112 _ ?side1 ?side2 A18.out).mono ?_); (case side1 => repeat (first | exact (Kd.zci HO110.out).2.2 | (with_reducible refine Kd.zS ?_ _) | (with_reducible refine Kd.zT ?_ _) | (with_reducible refine Kd.zah ?_))); (case side2 => exact (Kd.zci HO110.out).2.1); rintro e w24 ⟨v113, rfl, ho0, hb⟩; refine ⟨_, rfl, ?_⟩; have n0_ := zb.mk (Kd.zat (by (with_reducible repeat (first | apply Kd.zt | apply Kd.zq | apply Kd.zy)); exact HO_5.out) (Kd.zaw ho0) hb); have n1_ := zb.mk (Kd.zcP (by (with_reducible repeat (first | apply Kd.zce | apply Kd.zbZ | apply Kd.zcw)); exact HO110.out) (Kd.zaw ho0) hb); have n2_ := zb.mk (Kd.zaa (Kd.zaQ ho0 (Kd.R_lt (by (with_reducible repeat (first | apply Kd.zt | apply Kd.zq | apply Kd.zy)); exact HO_5.out))) (zo (by repeat (first | (with_reducible first | exact HB.out | apply zf | apply za | apply ze | refine zh ?_ GE101.out) | exact HB.out)))); have n3_ := zb.mk (zK (g := gb101) (o := .cells #[.int .i64 a1_0, .slice (some ad107) l1_1.length c1_1, .slice (some ad111) l1_2.length c1_2] 47 (0, 0)) (by (with_reducible repeat (first | refine zl ?_ _ | refine zm ?_ | refine zk ?_ _)); exact BK101.out) hb); have n4_ := zb.mk (zw (by repeat (first | (with_reducible first | exact HB.out | apply zf | apply za | apply ze | refine zh ?_ GE101.out) | exact HB.out)) hb); clear HO_5; clear HO110; clear BK101; clear HB; have HO_5 := n0_; have HO110 := n1_; have HO114 := n2_; have BK101 := n3_; have HB := n4_; clear n0_ n1_ n2_ n3_ n4_; (try clear hb); (try clear hb2); (try clear hk); (try clear hi); (try clear ho0); obtain ⟨Ao25, co25, eo25⟩ := Kd.zae HO_5.out; (first | subst eo25 | (injection eo25 with f1_ f2_ f3_; have f4_ := f1_.symm; have f5_ := f3_.symm; clear f1_ f2_ f3_; subst f4_; subst f5_)); obtain ⟨Ao26, co26, eo26⟩ := Kd.zae HO114.out; (first | subst eo26 | (injection eo26 with f1_ f2_ f3_; have f4_ := f1_.symm; have f5_ := f3_.symm; clear f1_ f2_ f3_; subst f4_; subst f5_)); refine hK.out _ _ ⟨(zi BK101.out 0).trans rfl, (zi BK101.out 1).trans rfl, (zi BK101.out 2).trans rfl, (by first | exact ((HB.out.cell (World.block_lt_of_cell? w _ hw107_0)).trans hw107_0) | exact hw107_0), (by first | exact ((HB.out.cell (World.block_lt_of_cell? w _ hw111_0)).trans hw111_0) | exact hw111_0)⟩ (fun hHeld => ?_); clear hK K; refine norm_ (a' := ?_) ?_ ?_; rotate_left
                    · show Act.put _ (some 36) _ = _; simp only [Act.put, List.setIfInBounds_toArray, List.set_cons_zero, List.set_cons_succ, i64_w, i32_w]; rfl
                    refine one_ (i := 14) (N := some 37) #[true, true, true, true, true, true, true, true, true, true, true, true, true, true, true, false] rfl rfl (zbu HT_.out (by kernel_rfl)) (by decide) (fun K hK => ?_); refine goes_ Try.func85 (by kernel_rfl) rfl #[.slice Ao25 x5_2.length co25, .slice Ao26 t112.length co26] (by rfl) rfl rfl (by (try simp only [List.map_toArray, List.map_cons, List.map_nil]); first | done | rfl | (simp only [List.length_drop, List.length_take]; rfl)) ?_; (with_reducible refine (zW.calls k2 _ _ x5_2 _ _ t112 t115 _ ?side1 ?side2 ?side3 ?side4 A19.out).mono ?_); (case side1 => repeat (first | exact (Kd.zO HO_5.out).2.2 | (with_reducible refine Kd.zS ?_ _) | (with_reducible refine Kd.zT ?_ _) | (with_reducible refine Kd.zah ?_))); (case side2 => exact (Kd.zO HO_5.out).2.1); (case side3 => repeat (first | exact (Kd.zO HO114.out).2.2 | (with_reducible refine Kd.zS ?_ _) | (with_reducible refine Kd.zT ?_ _) | (with_reducible refine Kd.zah ?_))); (case side4 => exact (Kd.zO HO114.out).2.1); rintro e w27 ⟨v116, rfl, ho0, hb⟩; refine ⟨_, rfl, ?_⟩; have n0_ := zb.mk (Kd.zat (by (with_reducible repeat (first | apply Kd.zt | apply Kd.zq | apply Kd.zy)); exact HO_5.out) (Kd.zaw ho0) hb); have n1_ := zb.mk (Kd.zcP (by (with_reducible repeat (first | apply Kd.zce | apply Kd.zbZ | apply Kd.zcw)); exact HO110.out) (Kd.zaw ho0) hb); have n2_ := zb.mk (Kd.zat (by (with_reducible repeat (first | apply Kd.zt | apply Kd.zq | apply Kd.zy)); exact HO114.out) (Kd.zaw ho0) hb); have n3_ := zb.mk (Kd.zaa (Kd.zaQ (Kd.zaQ ho0 (Kd.R_lt (by (with_reducible repeat (first | apply Kd.zt | apply Kd.zq | apply Kd.zy)); exact HO_5.out))) (Kd.R_lt (by (with_reducible repeat (first | apply Kd.zt | apply Kd.zq | apply Kd.zy)); exact HO114.out))) (zo (by repeat (first | (with_reducible first | exact HB.out | apply zf | apply za | apply ze | refine zh ?_ GE101.out) | exact HB.out)))); have n4_ := zb.mk (zK (g := gb101) (o := .cells #[.int .i64 a1_0, .slice (some ad107) l1_1.length c1_1, .slice (some ad111) l1_2.length c1_2] 47 (0, 0)) (by (with_reducible repeat (first | refine zl ?_ _ | refine zm ?_ | refine zk ?_ _)); exact BK101.out) hb); have n5_ := zb.mk (zw (by repeat (first | (with_reducible first | exact HB.out | apply zf | apply za | apply ze | refine zh ?_ GE101.out) | exact HB.out)) hb); clear HO_5; clear HO110; clear HO114; clear BK101; clear HB; have HO_5 := n0_; have HO110 := n1_; have HO114 := n2_; have HO117 := n3_; have BK101 := n4_; have HB := n5_; clear n0_ n1_ n2_ n3_ n4_ n5_; (try clear hb); (try clear hb2); (try clear hk); (try clear hi); (try clear ho0); refine hK.out _ _ ⟨(zi BK101.out 0).trans rfl, (zi BK101.out 1).trans rfl, (zi BK101.out 2).trans rfl, (by first | exact ((HB.out.cell (World.block_lt_of_cell? w _ hw107_0)).trans hw107_0) | exact hw107_0), (by first | exact ((HB.out.cell (World.block_lt_of_cell? w _ hw111_0)).trans hw111_0) | exact hw111_0)⟩ (fun hHeld => ?_); clear hK K; refine norm_ (a' := ?_) ?_ ?_; rotate_left
                    · show Act.put _ (some 37) _ = _; simp only [Act.put, List.setIfInBounds_toArray, List.set_cons_zero, List.set_cons_succ, i64_w, i32_w]; rfl
                    refine pure_ (i := 15) (N := some 5) (v := ?_) (a' := ?_) #[true, true, true, true, true, true, true, true, true, true, true, true, true, true, true, true] rfl rfl (zI HT_.out (by kernel_rfl)) (fun _ _ _ h => h) (Or.inl ⟨by rfl, ?_⟩) ?_ ?_; rotate_left
                    · intro w'; go_simp; (with_reducible rfl)
                    rotate_left
                    · simp only [Act.put, List.setIfInBounds_toArray, List.set_cons_zero, List.set_cons_succ, i64_w, i32_w]; rfl
                    refine done_ (zca HT_.out (by kernel_rfl)) ?_
                    try go_wp2
                    go_roundg k2
                    case measure => have := HJ2.out; have := HK2.out; omega
                    case rel => exact ⟨(t115), (wrap64 (x6_2 + 1)), (by first | rfl | (simp; done) | (simp [*]; done)), H', ⟨by have := HJ2.out; have := HK2.out; omega⟩, ⟨by (with_reducible repeat (first | apply Kd.zt | apply Kd.zq | apply Kd.zy)); exact Kd.zZ HO117.out (fun _ hk => trivial)⟩, ⟨by (with_reducible repeat (first | refine zl ?_ _ | refine zm ?_ | refine zk ?_ _)); exact BK101.out⟩, ⟨by repeat (first | (with_reducible first | exact HB.out | apply zf | apply za | apply ze | refine zh ?_ GE101.out) | exact HB.out)⟩⟩
                  · rw [if_neg c17] at H; exact absurd H (by simp)
                · rw [if_neg c15] at H; exact absurd H (by simp)
              · rw [if_neg c14] at H; have c14b0 : decide (x6_2 < (l1_1.length : Int)) = false := decide_eq_false c14; clear c14; obtain ⟨y118, hy118⟩ : ∃ y_ : List (List Int), y_ = (([x5_2] : List (List Int))) := ⟨_, rfl⟩
                replace H : ((zbh.f a0 a1_0).bind fun t121 => ((zaG.f k2 y118 (([t121] : List (List Int)))).bind fun t127 => (some t127))) = some r := by first | (rw [hy118]; with_reducible exact H) | (have H2_ := (Option.bind_some _ _).symm.trans H; rw [hy118]; with_reducible exact H2_) | (have H2_ := (Option.bind_some _ _).symm.trans H; with_reducible exact H2_) | with_reducible exact H | (rw [hy118]; exact H) | exact H
                have Ny118 := zb.mk hy118; clear hy118; replace H := Option.bind_eq_some_iff.mp H; obtain ⟨t121, A280, H⟩ := H; replace H : ((zaG.f k2 y118 (([t121] : List (List Int)))).bind fun t127 => (some t127)) = some r := H; have A28 := zb.mk A280; clear A280; obtain ⟨y124, hy124⟩ : ∃ y_ : List (List Int), y_ = (([t121] : List (List Int))) := ⟨_, rfl⟩
                replace H : ((zaG.f k2 y118 y124).bind fun t127 => (some t127)) = some r := by first | (rw [hy124]; with_reducible exact H) | (have H2_ := (Option.bind_some _ _).symm.trans H; rw [hy124]; with_reducible exact H2_) | (have H2_ := (Option.bind_some _ _).symm.trans H; with_reducible exact H2_) | with_reducible exact H | (rw [hy124]; exact H) | exact H
                have Ny124 := zb.mk hy124; clear hy124; replace H := Option.bind_eq_some_iff.mp H; obtain ⟨t127, A290, H⟩ := H; replace H : (some t127) = some r := H; have A29 := zb.mk A290; clear A290; obtain rfl := Option.some.inj H; have hcz30_0 : wr.cell? ⟨gb101, 0, none⟩ = some (.int .i64 a1_0) := (zi BK101.out 0).trans rfl; have hcz30_1 : wr.cell? ⟨gb101, 1, none⟩ = some (.slice A1_1 l1_1.length c1_1) := (zi BK101.out 1).trans rfl; have hcz30_2 : wr.cell? ⟨gb101, 2, none⟩ = some (.slice A1_2 l1_2.length c1_2) := (zi BK101.out 2).trans rfl; have hfz30_0 := zn BK101.out 0; have hfz30_1 := zn BK101.out 1; have hfz30_2 := zn BK101.out 2; obtain ⟨Ao31, co31, eo31⟩ := Kd.zae HO_5.out; subst eo31; go_wp2_with (first | ((with_reducible refine zV (N := 39) rfl ?_); refine Kd.N_lit (Kd.slice 3 (Kd.int .i64)) _ 24 ?hg (N' := 39) ?hd (xs := ([x5_2] : List (List Int))) (inner := [.slice Ao31 x5_2.length co31]) (ok := (fun k_ => k_ ≠ gb101)) (okp := (fun k_ => k_ ≠ gb101)) ?hr ?hp (fun _ hk => hk) ((show ∀ k_, wr.heap.size ≤ k_ → (fun k_ => k_ ≠ gb101) k_ from fun k_ hk => Kd.zdd (g := gb101) (o := .cells #[.int .i64 a1_0, .slice A1_1 l1_1.length c1_1, .slice A1_2 l1_2.length c1_2] 47 (0, 0)) (by (with_reducible repeat (first | refine zl ?_ _ | refine zm ?_ | refine zk ?_ _)); exact BK101.out) k_ hk) _ (Nat.le_refl _)) (Below.refl _ _) (Nat.le_refl _) (by simp) ?_; (case hd => rfl); (case hg => rfl); (case hr => first | (go_simp; done) | (go_simp; rfl)); (case hp => exact (Reps.one (show Kd.FK (Kd.slice 3 (Kd.int .i64)) _ _ x5_2 [.slice Ao31 x5_2.length co31] from (Kd.zbp (Kd.zO (Kd.zZ (ok' := (fun k_ => k_ ≠ gb101)) (Kd.zaI (HO_5.out) BK101.out (by decide)) (fun k_ hk => hk.2))).2.1 (Kd.R_F (Kd.zZ (ok' := (fun k_ => k_ ≠ gb101)) (Kd.zaI (HO_5.out) BK101.out (by decide)) (fun k_ hk => hk.2))))) (Reps.none _ _))); intro v119 w32 ho33 hb hg_ hnew_; clear hg_ hnew_; (first | rw [← Ny118.out] at ho33 | (simp only [Int.reduceToNat] at ho33; rw [← Ny118.out] at ho33)); have n0_ := zb.mk (Kd.zev ho33 (zo (by repeat (first | (with_reducible first | exact HB.out | apply zf | apply za | apply ze | refine zh ?_ GE101.out) | exact HB.out)))); have n1_ := zb.mk (zK (g := gb101) (o := .cells #[.int .i64 a1_0, .slice A1_1 l1_1.length c1_1, .slice A1_2 l1_2.length c1_2] 47 (0, 0)) (by (with_reducible repeat (first | refine zl ?_ _ | refine zm ?_ | refine zk ?_ _)); exact BK101.out) hb); have n2_ := zb.mk (zw (by repeat (first | (with_reducible first | exact HB.out | apply zf | apply za | apply ze | refine zh ?_ GE101.out) | exact HB.out)) hb); clear BK101; clear HB; clear HO_5; have HO120 := n0_; have BK101 := n1_; have HB := n2_; clear n0_ n1_ n2_; clear hb ho33; have hcz34_0 : w32.cell? ⟨gb101, 0, none⟩ = some (.int .i64 a1_0) := (zi BK101.out 0).trans rfl; have hcz34_1 : w32.cell? ⟨gb101, 1, none⟩ = some (.slice A1_1 l1_1.length c1_1) := (zi BK101.out 1).trans rfl; have hcz34_2 : w32.cell? ⟨gb101, 2, none⟩ = some (.slice A1_2 l1_2.length c1_2) := (zi BK101.out 2).trans rfl; have hfz34_0 := zn BK101.out 0; have hfz34_1 := zn BK101.out 1; have hfz34_2 := zn BK101.out 2) | ((with_reducible refine zz (f := 87) rfl ?_); refine zX (some 43) rfl rfl Try.func87 (by kernel_rfl) rfl #[.int .i64 a0, .int .i64 a1_0] rfl (by (try simp only [List.map_toArray, List.map_cons, List.map_nil]); first | done | rfl | (simp only [List.length_drop, List.length_take]; rfl)) ?_; (with_reducible refine (zbh.calls a0 a1_0 t121 _ A28.out).mono ?_); rintro e w35 ⟨v122, rfl, ho0, hb⟩; refine ⟨_, rfl, ?_⟩; have n0_ := zb.mk (Kd.zcF (by (with_reducible repeat (first | apply Kd.zbE | apply Kd.zbF | apply Kd.zbY)); exact HO120.out) hb); have n1_ := zb.mk (Kd.zcG (Kd.zcb (ok' := fun k_ => some k_ ≠ (v119 : Value).ownBlock ∧ k_ ≠ gb101) ho0 (fun k_ hk_ => ⟨(Kd.fresh' (Kd.N_lt (by (with_reducible repeat (first | apply Kd.zbE | apply Kd.zbF | apply Kd.zbY)); exact HO120.out)) k_ hk_), (Kd.zdd (g := gb101) (o := .cells #[.int .i64 a1_0, .slice A1_1 l1_1.length c1_1, .slice A1_2 l1_2.length c1_2] 47 (0, 0)) (by (with_reducible repeat (first | refine zl ?_ _ | refine zm ?_ | refine zk ?_ _)); exact BK101.out) k_ hk_)⟩)) (zo (by repeat (first | (with_reducible first | exact HB.out | apply zf | apply za | apply ze | refine zh ?_ GE101.out) | exact HB.out)))); have n2_ := zb.mk (zK (g := gb101) (o := .cells #[.int .i64 a1_0, .slice A1_1 l1_1.length c1_1, .slice A1_2 l1_2.length c1_2] 47 (0, 0)) (by (with_reducible repeat (first | refine zl ?_ _ | refine zm ?_ | refine zk ?_ _)); exact BK101.out) hb); have n3_ := zb.mk (zw (by repeat (first | (with_reducible first | exact HB.out | apply zf | apply za | apply ze | refine zh ?_ GE101.out) | exact HB.out)) hb); clear HO120; clear BK101; clear HB; have HO120 := n0_; have HO123 := n1_; have BK101 := n2_; have HB := n3_; clear n0_ n1_ n2_ n3_; (try clear hb); (try clear hb2); (try clear hk); (try clear hi); (try clear ho0); obtain ⟨Ao36, co36, eo36⟩ := Kd.zcK HO123.out; subst eo36) | ((with_reducible refine zV (N := 44) rfl ?_); refine Kd.N_lit (Kd.slice 3 (Kd.int .i64)) _ 24 ?hg (N' := 44) ?hd (xs := ([t121] : List (List Int))) (inner := [.slice Ao36 t121.length co36]) (ok := (fun k_ => some k_ ≠ (v119 : Value).ownBlock ∧ k_ ≠ gb101)) (okp := (fun k_ => some k_ ≠ (v119 : Value).ownBlock ∧ k_ ≠ gb101)) ?hr ?hp (fun _ hk => hk) ((show ∀ k_, w35.heap.size ≤ k_ → (fun k_ => some k_ ≠ (v119 : Value).ownBlock ∧ k_ ≠ gb101) k_ from fun k_ hk => ⟨Kd.fresh' (Kd.N_lt (by (with_reducible repeat (first | apply Kd.zbE | apply Kd.zbF | apply Kd.zbY)); exact HO120.out)) k_ hk, Kd.zdd (g := gb101) (o := .cells #[.int .i64 a1_0, .slice A1_1 l1_1.length c1_1, .slice A1_2 l1_2.length c1_2] 47 (0, 0)) (by (with_reducible repeat (first | refine zl ?_ _ | refine zm ?_ | refine zk ?_ _)); exact BK101.out) k_ hk⟩) _ (Nat.le_refl _)) (Below.refl _ _) (Nat.le_refl _) (by simp) ?_; (case hd => rfl); (case hg => rfl); (case hr => first | (go_simp; done) | (go_simp; rfl)); (case hp => exact (Reps.one (show Kd.FK (Kd.slice 3 (Kd.int .i64)) _ _ t121 [.slice Ao36 t121.length co36] from (Kd.zbp (Kd.zci (Kd.zcb (ok' := (fun k_ => some k_ ≠ (v119 : Value).ownBlock ∧ k_ ≠ gb101)) (HO123.out) (fun k_ hk => ⟨hk.1, hk.2⟩))).2.1 (Kd.V_F (Kd.zcb (ok' := (fun k_ => some k_ ≠ (v119 : Value).ownBlock ∧ k_ ≠ gb101)) (HO123.out) (fun k_ hk => ⟨hk.1, hk.2⟩))))) (Reps.none _ _))); intro v125 w37 ho38 hb hg_ hnew_; clear hg_ hnew_; (first | rw [← Ny124.out] at ho38 | (simp only [Int.reduceToNat] at ho38; rw [← Ny124.out] at ho38)); have n0_ := zb.mk (Kd.zcx (by (with_reducible repeat (first | apply Kd.zbE | apply Kd.zbF | apply Kd.zbY)); exact HO120.out) (Kd.zim ho38) hb); have n1_ := zb.mk (Kd.zcP (by (with_reducible repeat (first | apply Kd.zce | apply Kd.zbZ | apply Kd.zcw)); exact HO123.out) (Kd.zim ho38) hb); have n2_ := zb.mk (Kd.zev ho38 (zo (by repeat (first | (with_reducible first | exact HB.out | apply zf | apply za | apply ze | refine zh ?_ GE101.out) | exact HB.out)))); have n3_ := zb.mk (zK (g := gb101) (o := .cells #[.int .i64 a1_0, .slice A1_1 l1_1.length c1_1, .slice A1_2 l1_2.length c1_2] 47 (0, 0)) (by (with_reducible repeat (first | refine zl ?_ _ | refine zm ?_ | refine zk ?_ _)); exact BK101.out) hb); have n4_ := zb.mk (zw (by repeat (first | (with_reducible first | exact HB.out | apply zf | apply za | apply ze | refine zh ?_ GE101.out) | exact HB.out)) hb); clear HO120; clear HO123; clear BK101; clear HB; have HO120 := n0_; have HO123 := n1_; have HO126 := n2_; have BK101 := n3_; have HB := n4_; clear n0_ n1_ n2_ n3_ n4_; clear hb ho38; obtain ⟨Ao39, co39, eo39⟩ := Kd.zdq HO120.out; subst eo39; obtain ⟨Ao40, co40, eo40⟩ := Kd.zdq HO126.out; subst eo40) | ((with_reducible refine zz (f := 88) rfl ?_); refine zX (some 45) rfl rfl Try.func88 (by kernel_rfl) rfl #[.slice Ao39 y118.length co39, .slice Ao40 y124.length co40] rfl (by (try simp only [List.map_toArray, List.map_cons, List.map_nil]); first | done | rfl | (simp only [List.length_drop, List.length_take]; rfl)) ?_; (with_reducible refine (zaG.calls k2 _ _ y118 _ _ y124 t127 _ ?side1 ?side2 ?side3 ?side4 A29.out).mono ?_); (case side1 => repeat (first | exact (Kd.zbB HO120.out).2.2 | (with_reducible refine Kd.zS ?_ _) | (with_reducible refine Kd.zT ?_ _) | (with_reducible refine Kd.zah ?_))); (case side2 => exact (Kd.zbB HO120.out).2.1); (case side3 => repeat (first | exact (Kd.zbB HO126.out).2.2 | (with_reducible refine Kd.zS ?_ _) | (with_reducible refine Kd.zT ?_ _) | (with_reducible refine Kd.zah ?_))); (case side4 => exact (Kd.zbB HO126.out).2.1); rintro e w' ⟨rfl, ⟨nd, rfl⟩⟩; refine ⟨_, rfl, ?_⟩)); go_ret; exact ⟨by first | rfl | (simp [zA, zB] <;> rfl) | (simp [*, zA, zB] <;> rfl), by repeat (first | (with_reducible first | exact HB.out | apply zf | apply za | apply ze | refine zh ?_ GE101.out) | exact HB.out)⟩
        · rw [if_neg c11] at H; exact absurd H (by simp)
end Go.Proofs.Ytmipjlbkcfpkiaa.K

end
section
namespace Go.Proofs.Ytmipjlbkcfpkiaa.K
set_option linter.unusedVariables false
set_option linter.unusedSimpArgs false
open Go.RowKit Go.Proofs.YtmipjlbkcfpkiaaW.PrintWords Go.Proofs.YtmipjlbkcfpkiaaW.PrintLast Go.Proofs.YtmipjlbkcfpkiaaW.PrintMore
def zbd.f (a0 a1 a2 a3 : Int) : Option (List Int) := some [a0, a1, a2, a3]
set_option maxHeartbeats 4000000 in
set_option maxRecDepth 100000 in
theorem zbd.calls (a0 a1 a2 a3 : Int) (r : List Int) (w : World) (h : zbd.f a0 a1 a2 a3 = some r) :
    Calls Try.prog 92 #[.agg #[.int .i64 a0, .int .i64 a1, .int .i64 a2, .int .i64 a3]] w fun e w' => ∃ v0_ : Value, e = .returned (v0_) ∧ Kd.R (Kd.int .i64) 3 w' w.heap.size (fun _ => True) v0_ r ∧ Below w.heap.size w w' := by
  obtain rfl := Option.some.inj h; clear h; have HB := zb.mk (Below.refl w.heap.size w); have hu := Try.underlying99; have hag := Try.isAgg90; have hsz := Try.sizeOf90
  have ix0 : ∀ w_, Sem.run Try.prog (Instr.index 99 (.agg #[.int .i64 a0, .int .i64 a1, .int .i64 a2, .int .i64 a3]) (.int .i64 0)) w_ = .ok (.int .i64 a0) w_ := by
    intro w_; unfold Instr.index; go_simp
  have ix1 : ∀ w_, Sem.run Try.prog (Instr.index 99 (.agg #[.int .i64 a0, .int .i64 a1, .int .i64 a2, .int .i64 a3]) (.int .i64 1)) w_ = .ok (.int .i64 a1) w_ := by
    intro w_; unfold Instr.index; go_simp
  have ix2 : ∀ w_, Sem.run Try.prog (Instr.index 99 (.agg #[.int .i64 a0, .int .i64 a1, .int .i64 a2, .int .i64 a3]) (.int .i64 2)) w_ = .ok (.int .i64 a2) w_ := by
    intro w_; unfold Instr.index; go_simp
  have ix3 : ∀ w_, Sem.run Try.prog (Instr.index 99 (.agg #[.int .i64 a0, .int .i64 a1, .int .i64 a2, .int .i64 a3]) (.int .i64 3)) w_ = .ok (.int .i64 a3) w_ := by
    intro w_; unfold Instr.index; go_simp
  go_enter Try.func92, Try.ntmps92
  go_wp2_with ((with_reducible refine zV (N := 6) rfl ?_); refine KW.zeM (Kd.int .i64) _ 3 rfl (N := 6) rfl 24 _ _ rfl 0 4 rfl rfl Try.underlying24 (.int .i64 0) 8 info3 rfl (by decide) (by omega) (ok := fun _ => True) trivial rfl (by omega) (by omega) (Below.refl _ _) (Nat.le_refl _) ?_; intro v1 w1 ho hb hg_ hnew_; clear hg_ hnew_; have HO1 := zb.mk (Kd.zaa ho (zo (by repeat (first | (with_reducible first | exact HB.out | apply zf | apply za | apply ze) | exact HB.out)))); have HB1 := zb.mk (zw (by repeat (first | (with_reducible first | exact HB.out | apply zf | apply za | apply ze) | exact HB.out)) hb); have c0 : w1.cell? ⟨w.heap.size, 0, none⟩ = some (.int .i64 a0) := (hb.cell (p := ⟨w.heap.size, 0, none⟩) (by simp)).trans (by simp); have c1 : w1.cell? ⟨w.heap.size, 1, none⟩ = some (.int .i64 a1) := (hb.cell (p := ⟨w.heap.size, 1, none⟩) (by simp)).trans (by simp); have c2 : w1.cell? ⟨w.heap.size, 2, none⟩ = some (.int .i64 a2) := (hb.cell (p := ⟨w.heap.size, 2, none⟩) (by simp)).trans (by simp); have c3 : w1.cell? ⟨w.heap.size, 3, none⟩ = some (.int .i64 a3) := (hb.cell (p := ⟨w.heap.size, 3, none⟩) (by simp)).trans (by simp); clear ho hb HB); refine wp_loop_rounds 5 ?_; rw [rounds_succ]; go_wp2_with ((with_reducible refine zaH (b := .append) (xs := #[.tmp 11, .tmp 13]) rfl ?_); at_builtin; refine Kd.zbM (Kd.int .i64) (w0 := w) w.heap.size rfl (.tmp 11) (.tmp 13) 24 3 (.int .i64 0) 8 rfl Try.underlying24 info3 rfl (by decide) (by omega) v1 ([] : List Int) a0 [.int .i64 a0] (fun _ => True) (fun _ => False) rfl (by first | (go_simp; done) | (go_simp; rfl)) ?aP (fun _ hk => hk.elim) ?aF ?aO ?aB ?aS ?aL ?_; (case aP => exact rfl); (case aF => exact (fun _ _ => trivial)); (case aO => exact (by (with_reducible repeat (first | apply Kd.zt | apply Kd.zq | apply Kd.zy)); exact HO1.out)); (case aB => exact (by repeat (first | (with_reducible first | exact HB1.out | apply zf | apply za | apply ze) | exact HB1.out))); (case aS => exact (zo (by repeat (first | (with_reducible first | exact HB1.out | apply zf | apply za | apply ze) | exact HB1.out)))); (case aL => simp); intro v2 w2 ho hb hg hat; have HO2 := zb.mk ho; have HB2 := zb.mk hb; clear ho hb hg hat; clear HO1 HB1); rw [rounds_succ]; go_wp2_with ((with_reducible refine zaH (b := .append) (xs := #[.tmp 11, .tmp 13]) rfl ?_); at_builtin; refine Kd.zbM (Kd.int .i64) (w0 := w) w.heap.size rfl (.tmp 11) (.tmp 13) 24 3 (.int .i64 0) 8 rfl Try.underlying24 info3 rfl (by decide) (by omega) v2 (([] : List Int) ++ [a0]) a1 [.int .i64 a1] (fun _ => True) (fun _ => False) rfl (by first | (go_simp; done) | (go_simp; rfl)) ?aP (fun _ hk => hk.elim) ?aF ?aO ?aB ?aS ?aL ?_; (case aP => exact rfl); (case aF => exact (fun _ _ => trivial)); (case aO => exact (by (with_reducible repeat (first | apply Kd.zt | apply Kd.zq | apply Kd.zy)); exact HO2.out)); (case aB => exact (by repeat (first | (with_reducible first | exact HB2.out | apply zf | apply za | apply ze) | exact HB2.out))); (case aS => exact (zo (by repeat (first | (with_reducible first | exact HB2.out | apply zf | apply za | apply ze) | exact HB2.out)))); (case aL => simp); intro v3 w3 ho hb hg hat; have HO3 := zb.mk ho; have HB3 := zb.mk hb; clear ho hb hg hat; clear HO2 HB2); rw [rounds_succ]; go_wp2_with ((with_reducible refine zaH (b := .append) (xs := #[.tmp 11, .tmp 13]) rfl ?_); at_builtin; refine Kd.zbM (Kd.int .i64) (w0 := w) w.heap.size rfl (.tmp 11) (.tmp 13) 24 3 (.int .i64 0) 8 rfl Try.underlying24 info3 rfl (by decide) (by omega) v3 ((([] : List Int) ++ [a0]) ++ [a1]) a2 [.int .i64 a2] (fun _ => True) (fun _ => False) rfl (by first | (go_simp; done) | (go_simp; rfl)) ?aP (fun _ hk => hk.elim) ?aF ?aO ?aB ?aS ?aL ?_; (case aP => exact rfl); (case aF => exact (fun _ _ => trivial)); (case aO => exact (by (with_reducible repeat (first | apply Kd.zt | apply Kd.zq | apply Kd.zy)); exact HO3.out)); (case aB => exact (by repeat (first | (with_reducible first | exact HB3.out | apply zf | apply za | apply ze) | exact HB3.out))); (case aS => exact (zo (by repeat (first | (with_reducible first | exact HB3.out | apply zf | apply za | apply ze) | exact HB3.out)))); (case aL => simp); intro v4 w4 ho hb hg hat; have HO4 := zb.mk ho; have HB4 := zb.mk hb; clear ho hb hg hat; clear HO3 HB3); rw [rounds_succ]; go_wp2_with ((with_reducible refine zaH (b := .append) (xs := #[.tmp 11, .tmp 13]) rfl ?_); at_builtin; refine Kd.zbM (Kd.int .i64) (w0 := w) w.heap.size rfl (.tmp 11) (.tmp 13) 24 3 (.int .i64 0) 8 rfl Try.underlying24 info3 rfl (by decide) (by omega) v4 (((([] : List Int) ++ [a0]) ++ [a1]) ++ [a2]) a3 [.int .i64 a3] (fun _ => True) (fun _ => False) rfl (by first | (go_simp; done) | (go_simp; rfl)) ?aP (fun _ hk => hk.elim) ?aF ?aO ?aB ?aS ?aL ?_; (case aP => exact rfl); (case aF => exact (fun _ _ => trivial)); (case aO => exact (by (with_reducible repeat (first | apply Kd.zt | apply Kd.zq | apply Kd.zy)); exact HO4.out)); (case aB => exact (by repeat (first | (with_reducible first | exact HB4.out | apply zf | apply za | apply ze) | exact HB4.out))); (case aS => exact (zo (by repeat (first | (with_reducible first | exact HB4.out | apply zf | apply za | apply ze) | exact HB4.out)))); (case aL => simp); intro v5 w5 ho hb hg hat; have HO5 := zb.mk ho; have HB5 := zb.mk hb; clear ho hb hg hat; clear HO4 HB4); rw [rounds_succ]; go_wp2; go_ret; exact ⟨_, rfl, HO5.out, HB5.out⟩
end Go.Proofs.Ytmipjlbkcfpkiaa.K

end
section
namespace Go.Proofs.Ytmipjlbkcfpkiaa.K
open Go.RowKit Go.Proofs.YtmipjlbkcfpkiaaW.PrintWords Go.Proofs.YtmipjlbkcfpkiaaW.PrintLast Go.Proofs.YtmipjlbkcfpkiaaW.PrintMore
attribute [local go_sem] zao zar zaE zaD zad zac zaq zan
set_option linter.unusedVariables false
set_option linter.unusedSimpArgs false
def zbP.f (a0 : Int) : Option (List Int × Bool) := (zaf.f a0 0 3).bind fun t101 => (if t101 = true then ((zaU.f a0).bind fun bt102 => ((zbd.f bt102.1 bt102.2.1 bt102.2.2.1 bt102.2.2.2).bind fun t106 => (some (t106, true)))) else (some (([] : List Int), false)))
set_option maxHeartbeats 8000000 in
set_option maxRecDepth 100000 in
theorem zbP.calls (a0 : Int) (r1 : List Int) (r2 : Bool) (w : World) (h : zbP.f a0 = some (r1, r2)) :
    Calls Try.prog 43 #[.int .i64 a0] w fun e w' => ∃ v0_ : Value, e = .returned (.tuple #[v0_, .bool r2]) ∧ Kd.R (Kd.int .i64) 3 w' w.heap.size (fun _ => True) v0_ r1 ∧ Below w.heap.size w w' := by
  have HB := zb.mk (Below.refl w.heap.size w); have H : ((zaf.f a0 0 3).bind fun t101 => (if t101 = true then ((zaU.f a0).bind fun bt102 => ((zbd.f bt102.1 bt102.2.1 bt102.2.2.1 bt102.2.2.2).bind fun t106 => (some (t106, true)))) else (some (([] : List Int), false)))) = some (r1, r2) := h; clear h; replace H := Option.bind_eq_some_iff.mp H; obtain ⟨t101, A20, H⟩ := H; replace H : (if t101 = true then ((zaU.f a0).bind fun bt102 => ((zbd.f bt102.1 bt102.2.1 bt102.2.2.1 bt102.2.2.2).bind fun t106 => (some (t106, true)))) else (some (([] : List Int), false))) = some (r1, r2) := H; have A2 := zb.mk A20; clear A20
  by_cases c3 : t101 = true
  · subst c3; have H1 : ((zaU.f a0).bind fun bt102 => ((zbd.f bt102.1 bt102.2.1 bt102.2.2.1 bt102.2.2.2).bind fun t106 => (some (t106, true)))) = some (r1, r2) := by rw [if_pos rfl] at H; exact H
    clear H; have H := H1; clear H1; replace H := Option.bind_eq_some_iff.mp H; obtain ⟨⟨t102, t103, t104, t105⟩, A40, H⟩ := H; replace H : ((zbd.f t102 t103 t104 t105).bind fun t106 => (some (t106, true))) = some (r1, r2) := H; have A4 := zb.mk A40; clear A40; replace H := Option.bind_eq_some_iff.mp H; obtain ⟨t106, A50, H⟩ := H; replace H : (some (t106, true)) = some (r1, r2) := H; have A5 := zb.mk A50; clear A50; simp only [Option.some.injEq, Prod.mk.injEq] at H; obtain ⟨rfl, rfl⟩ := H
    go_enter Try.func43, Try.ntmps43
    go_wp2_with (first | ((with_reducible refine zz (f := 79) rfl ?_); refine zX (some 5) rfl rfl Try.func79 (by kernel_rfl) rfl #[.int .i64 a0, .int .i64 0, .int .i64 3] rfl (by (try simp only [List.map_toArray, List.map_cons, List.map_nil]); first | done | rfl | (simp only [List.length_drop, List.length_take]; rfl)) ?_; (with_reducible refine (zaf.calls a0 0 3 true _ A2.out).mono ?_); rintro e w' ⟨rfl, ⟨nd, rfl⟩⟩; refine ⟨_, rfl, ?_⟩) | ((with_reducible refine zz (f := 91) rfl ?_); refine zX (some 8) rfl rfl Try.func91 (by kernel_rfl) rfl #[.int .i64 a0] rfl (by (try simp only [List.map_toArray, List.map_cons, List.map_nil]); first | done | rfl | (simp only [List.length_drop, List.length_take]; rfl)) ?_; (with_reducible refine (zaU.calls a0 t102 t103 t104 t105 _ A4.out).mono ?_); rintro e w6 ⟨rfl, hb⟩; refine ⟨_, rfl, ?_⟩; have n0_ := zb.mk (zw (by repeat (first | (with_reducible first | exact HB.out | apply zf | apply za | apply ze) | exact HB.out | exact Below.refl _ _)) hb); clear HB; have HB := n0_; clear n0_; (try clear hb); (try clear hb2); (try clear hk); (try clear hi)) | ((with_reducible refine zz (f := 92) rfl ?_); refine zX (some 9) rfl rfl Try.func92 (by kernel_rfl) rfl #[.agg #[.int .i64 t102, .int .i64 t103, .int .i64 t104, .int .i64 t105]] rfl (by (try simp only [List.map_toArray, List.map_cons, List.map_nil]); first | done | rfl | (simp only [List.length_drop, List.length_take]; rfl)) ?_; (with_reducible refine (zbd.calls t102 t103 t104 t105 t106 _ A5.out).mono ?_); rintro e w7 ⟨v107, rfl, ho0, hb⟩; refine ⟨_, rfl, ?_⟩; have n0_ := zb.mk (Kd.zaa ho0 (zo (by repeat (first | (with_reducible first | exact HB.out | apply zf | apply za | apply ze) | exact HB.out | exact Below.refl _ _)))); have n1_ := zb.mk (zw (by repeat (first | (with_reducible first | exact HB.out | apply zf | apply za | apply ze) | exact HB.out | exact Below.refl _ _)) hb); clear HB; have HO108 := n0_; have HB := n1_; clear n0_ n1_; (try clear hb); (try clear hb2); (try clear hk); (try clear hi); (try clear ho0))); go_ret2; exact ⟨_, by first | rfl | (simp [zA, zB] <;> rfl) | (simp [*, zA, zB] <;> rfl), by (with_reducible repeat (first | apply Kd.zt | apply Kd.zq | apply Kd.zy)); exact HO108.out, by repeat (first | (with_reducible first | exact HB.out | apply zf | apply za | apply ze) | exact HB.out | exact Below.refl _ _)⟩
  · replace c3 := Bool.eq_false_iff.mpr c3; subst c3; have H1 : (some (([] : List Int), false)) = some (r1, r2) := by rw [if_neg (show ¬ (false = true) by decide)] at H; exact H
    clear H; have H := H1; clear H1; simp only [Option.some.injEq, Prod.mk.injEq] at H; obtain ⟨rfl, rfl⟩ := H
    go_enter Try.func43, Try.ntmps43
    go_wp2_with (first | ((with_reducible refine zz (f := 79) rfl ?_); refine zX (some 5) rfl rfl Try.func79 (by kernel_rfl) rfl #[.int .i64 a0, .int .i64 0, .int .i64 3] rfl (by (try simp only [List.map_toArray, List.map_cons, List.map_nil]); first | done | rfl | (simp only [List.length_drop, List.length_take]; rfl)) ?_; (with_reducible refine (zaf.calls a0 0 3 false _ A2.out).mono ?_); rintro e w' ⟨rfl, ⟨nd, rfl⟩⟩; refine ⟨_, rfl, ?_⟩)); go_ret2; exact ⟨_, by first | rfl | (simp [zA, zB] <;> rfl) | (simp [*, zA, zB] <;> rfl), by first | exact Kd.R_nil _ _ _ _ _ | exact Kd.N_nil _ _ _ _ _ | exact Kd.V_nil _ _ _ _ _ | exact Kd.Q_nil _ _ _ _ _ | exact Kd.S_nil _ _ _ _ _, by repeat (first | (with_reducible first | exact HB.out | apply zf | apply za | apply ze) | exact HB.out | exact Below.refl _ _)⟩
end Go.Proofs.Ytmipjlbkcfpkiaa.K

end
section
namespace Go.Proofs.Ytmipjlbkcfpkiaa.K
open Go.RowKit Go.Proofs.YtmipjlbkcfpkiaaW.PrintWords Go.Proofs.YtmipjlbkcfpkiaaW.PrintLast Go.Proofs.YtmipjlbkcfpkiaaW.PrintMore
attribute [local go_sem] zao zar zaE zaD zad zac zaq zan
set_option linter.unusedVariables false
set_option linter.unusedSimpArgs false
def zaz.l0 : Nat → Int → List Int → Int → Int → Int → Int → Int → Option (List Int)
  | 0, _, _, _, _, _, _, _ => none
  | k + 1, x0, x5, x8, x102000, x102001, x102002, x102003 => if x8 < 8 then ((zbb.f x0 x8).bind fun bt108 => ((zbi.f bt108.1 bt108.2.1 bt108.2.2.1 bt108.2.2.2 x102000 x102001 x102002 x102003).bind fun t112 => (if x5.length < 17592186044416 then (zaz.l0 k x0 (x5 ++ [t112]) (wrap64 (x8 + 1)) x102000 x102001 x102002 x102003) else (none)))) else (some x5)
def zaz.f (k : Nat) (a0 : Int) (a1_0 : Int) (a1_1 : Int) (a1_2 : Int) (a1_3 : Int) : Option (List Int) := if 8 ≤ 35184372088832 then (zaz.l0 k a0 (([] : List Int)) 0 a1_0 a1_1 a1_2 a1_3) else (none)
def zaz.T5 : Bool × List (List Nat × List Nat) := (true, [([], []), ([], []), ([], []), ([1, 2], [1, 2]), ([], []), ([3, 4, 3], [3, 4]), ([5], [5]), ([0, 6, 5], [0, 6]), ([7, 7, 0, 1, 2, 3, 4, 5, 6, 7], [0, 7])])
def zaz.B5 : List Nat := [0, 0, 0, 6, 0, 30, 62, 127, 255]
theorem zaz.tab5 : rtab .any (opsOf Try.f90 5) = zaz.T5 := by kernel_rfl
theorem zaz.bits5 : zcd zaz.T5.2 zaz.B5 = true := by kernel_rfl
set_option maxHeartbeats 8000000 in
set_option maxRecDepth 100000 in
theorem zaz.calls (k : Nat) (a0 : Int) (a1_0 : Int) (a1_1 : Int) (a1_2 : Int) (a1_3 : Int) (r : List Int) (w : World) (h : zaz.f k a0 a1_0 a1_1 a1_2 a1_3 = some r) :
    Calls Try.prog 90 #[.int .i64 a0, .agg #[.int .i64 a1_0, .int .i64 a1_1, .int .i64 a1_2, .int .i64 a1_3]] w fun e w' => ∃ v0_ : Value, e = .returned (v0_) ∧ Kd.R (Kd.int .i64) 3 w' w.heap.size (fun _ => True) v0_ r ∧ Below w.heap.size w w' := by
  have hu99 := Try.underlying99; have HB := zb.mk (Below.refl w.heap.size w); have H : (if 8 ≤ 35184372088832 then (zaz.l0 k a0 (([] : List Int)) 0 a1_0 a1_1 a1_2 a1_3) else (none)) = some r := h; clear h
  by_cases c3 : 8 ≤ 35184372088832
  · rw [if_pos c3] at H; have c3b0 := eq_true c3; have c3b1 : decide (8 ≤ 35184372088832) = true := decide_eq_true c3; clear c3; obtain ⟨y105, hy105⟩ : ∃ y_ : List Int, y_ = (([] : List Int)) := ⟨_, rfl⟩
    replace H : (zaz.l0 k a0 y105 0 a1_0 a1_1 a1_2 a1_3) = some r := by first | (rw [hy105]; with_reducible exact H) | (have H2_ := (Option.bind_some _ _).symm.trans H; rw [hy105]; with_reducible exact H2_) | (have H2_ := (Option.bind_some _ _).symm.trans H; with_reducible exact H2_) | with_reducible exact H | (rw [hy105]; exact H) | exact H
    have Ny105 := zb.mk hy105; clear hy105; have H' := zb.mk H; clear H
    go_enter Try.func90, Try.ntmps90
    go_wp2_with (first | ((with_reducible refine zV (N := 3) rfl ?_); refine zal ?hg (N := 3) ?hd (cs := #[.int .i64 a1_0, .int .i64 a1_1, .int .i64 a1_2, .int .i64 a1_3]) (t := 99) ?hr ?_; (case hd => rfl); (case hg => rfl); (case hr => first | (go_simp; done) | (go_simp; rfl)); intro gb101 hg w4 hbox hb; have n0_ := zb.mk (zw (by repeat (first | (with_reducible first | exact HB.out | apply zf | apply za | apply ze) | exact HB.out | exact Below.refl _ _)) hb); have n1_ := zb.mk (hbox); have n2_ := zb.mk ((by rw [hg]; exact (zo (by repeat (first | (with_reducible first | exact HB.out | apply zf | apply za | apply ze) | exact HB.out | exact Below.refl _ _))) : w.heap.size ≤ gb101)); have n3_ := zb.mk ((by rw [hg]; exact (zo (by repeat (first | (with_reducible first | exact HB.out | apply zf | apply za | apply ze) | exact HB.out | exact Below.refl _ _))) : w.heap.size ≤ gb101)); clear HB; have HB := n0_; have BK101 := n1_; have GW101 := n2_; have GE101 := n3_; clear n0_ n1_ n2_ n3_; clear hb hbox hg) | ((with_reducible refine zV (N := 7) rfl ?_); refine KW.zeM (Kd.int .i64) _ 3 rfl (N := 7) rfl 24 _ _ rfl 0 8 rfl rfl Try.underlying24 (.int .i64 0) 8 info3 rfl (by decide) (by omega) (ok := fun _ => True) trivial rfl (by omega) (by omega) (Below.refl _ _) (Nat.le_refl _) ?_; intro v106 w5 ho6 hb hg_ hnew_; clear hg_ hnew_; (first | rw [← Ny105.out] at ho6 | (simp only [Int.reduceToNat] at ho6; rw [← Ny105.out] at ho6)); have n0_ := zb.mk (Kd.zaa ho6 (zo (by repeat (first | (with_reducible first | exact HB.out | apply zf | apply za | apply ze | refine zh ?_ GE101.out) | exact HB.out)))); have n1_ := zb.mk (zK (g := gb101) (o := .cells #[.int .i64 a1_0, .int .i64 a1_1, .int .i64 a1_2, .int .i64 a1_3] 99 (0, 0)) (by (with_reducible repeat (first | refine zl ?_ _ | refine zm ?_ | refine zk ?_ _)); exact BK101.out) hb); have n2_ := zb.mk (zw (by repeat (first | (with_reducible first | exact HB.out | apply zf | apply za | apply ze | refine zh ?_ GE101.out) | exact HB.out)) hb); clear BK101; clear HB; have HO107 := n0_; have BK101 := n1_; have HB := n2_; clear n0_ n1_ n2_; clear hb ho6))
    go_loopg [5, 8] k (fun kq v5 v8 w' => ∃ (x5_1 : List Int) (x8_1 : Int), v8 = .int .i64 x8_1 ∧ zb (zaz.l0 kq a0 x5_1 x8_1 a1_0 a1_1 a1_2 a1_3 = some r) ∧ zb (kq ≤ k) ∧ zb (Kd.R (Kd.int .i64) 3 w' w.heap.size (fun _ => True) v5 x5_1) ∧ zb (w'.heap[gb101]? = some (.cells #[.int .i64 a1_0, .int .i64 a1_1, .int .i64 a1_2, .int .i64 a1_3] 99 (0, 0))) ∧ zb (Below w.heap.size w w'))
    case atStart => exact ⟨(y105), (0), (by first | rfl | (simp; done) | (simp [*]; done)), H', ⟨Nat.le_refl _⟩, ⟨by (with_reducible repeat (first | apply Kd.zt | apply Kd.zq | apply Kd.zy)); exact HO107.out⟩, ⟨by (with_reducible repeat (first | refine zl ?_ _ | refine zm ?_ | refine zk ?_ _)); exact BK101.out⟩, ⟨by repeat (first | (with_reducible first | exact HB.out | apply zf | apply za | apply ze | refine zh ?_ GE101.out) | exact HB.out)⟩⟩
    case round =>
      clear H'
      try clear p2
      try clear c3
      try clear c3b0
      try clear c3b1
      obtain ⟨x5_1, x8_1, rfl, HA, HK1, HO_5, BK101, HB⟩ := hrel; cases gk with
      | zero => exact absurd HA.out (by simp [zaz.l0])
      | succ k1 =>
        have H := HA.out; clear HA; simp only [zaz.l0] at H
        by_cases c7 : x8_1 < 8
        · rw [if_pos c7] at H; have c7b0 : decide (x8_1 < 8) = true := decide_eq_true c7; clear c7; replace H := Option.bind_eq_some_iff.mp H; obtain ⟨⟨t108, t109, t110, t111⟩, A80, H⟩ := H; replace H : ((zbi.f t108 t109 t110 t111 a1_0 a1_1 a1_2 a1_3).bind fun t112 => (if x5_1.length < 17592186044416 then (zaz.l0 k1 a0 (x5_1 ++ [t112]) (wrap64 (x8_1 + 1)) a1_0 a1_1 a1_2 a1_3) else (none))) = some r := H; have A8 := zb.mk A80; clear A80; replace H := Option.bind_eq_some_iff.mp H; obtain ⟨t112, A90, H⟩ := H; replace H : (if x5_1.length < 17592186044416 then (zaz.l0 k1 a0 (x5_1 ++ [t112]) (wrap64 (x8_1 + 1)) a1_0 a1_1 a1_2 a1_3) else (none)) = some r := H; have A9 := zb.mk A90; clear A90
          by_cases c10 : x5_1.length < 17592186044416
          · rw [if_pos c10] at H; have LMc10 := zb.mk c10; clear c10; obtain ⟨y113, hy113⟩ : ∃ y_ : List Int, y_ = (x5_1 ++ [t112]) := ⟨_, rfl⟩
            replace H : (zaz.l0 k1 a0 y113 (wrap64 (x8_1 + 1)) a1_0 a1_1 a1_2 a1_3) = some r := by first | (rw [hy113]; with_reducible exact H) | (have H2_ := (Option.bind_some _ _).symm.trans H; rw [hy113]; with_reducible exact H2_) | (have H2_ := (Option.bind_some _ _).symm.trans H; with_reducible exact H2_) | with_reducible exact H | (rw [hy113]; exact H) | exact H
            have Ny113 := zb.mk hy113; clear hy113; have H' := zb.mk H; clear H
            try go_wp2
            have n0_ := zb.mk (Kd.zy HO_5.out); have n1_ := zb.mk (zm BK101.out); have n2_ := zb.mk (ze HB.out); clear HO_5; clear BK101; clear HB; have HO_5 := n0_; have BK101 := n1_; have HB := n2_; clear n0_ n1_ n2_; refine zbG (n := 9) (S := fun w' => w'.cell? ⟨gb101, 0, none⟩ = some (.int .i64 a1_0) ∧ w'.cell? ⟨gb101, 1, none⟩ = some (.int .i64 a1_1) ∧ w'.cell? ⟨gb101, 2, none⟩ = some (.int .i64 a1_2) ∧ w'.cell? ⟨gb101, 3, none⟩ = some (.int .i64 a1_3)) (ds := []) #[false, false, false, false, false, false, false, false, false] (by kernel_rfl) rfl rfl ⟨(zi BK101.out 0).trans rfl, (zi BK101.out 1).trans rfl, (zi BK101.out 2).trans rfl, (zi BK101.out 3).trans rfl⟩ (fun hHeld => ?_); refine zbv zaz.tab5 zaz.bits5 (fun HT_ HW_ => ?_); generalize wr.drew = w11 at HO_5 BK101 HB hHeld ⊢; refine pure_ (i := 0) (N := some 11) (v := ?_) (a' := ?_) #[true, false, false, false, false, false, false, false, false] rfl rfl (zI HT_.out (by kernel_rfl)) (fun _ _ _ h => h) (Or.inl ⟨by rfl, ?_⟩) ?_ ?_; rotate_left
            · intro w'; go_simp; (with_reducible rfl)
            rotate_left
            · simp only [Act.put, List.setIfInBounds_toArray, List.set_cons_zero, List.set_cons_succ, i64_w, i32_w]; rfl
            refine pure_ (i := 1) (N := some 12) (v := ?_) (a' := ?_) #[true, true, false, false, false, false, false, false, false] rfl rfl (zI HT_.out (by kernel_rfl)) (fun _ _ _ h => h) (Or.inl ⟨by rfl, ?_⟩) ?_ ?_; rotate_left
            · intro w'; go_simp; (with_reducible rfl)
            rotate_left
            · simp only [Act.put, List.setIfInBounds_toArray, List.set_cons_zero, List.set_cons_succ, i64_w, i32_w]; rfl
            refine pure_ (i := 2) (N := some 13) (v := ?_) (a' := ?_) #[true, true, true, false, false, false, false, false, false] rfl rfl (zI HT_.out (by kernel_rfl)) (fun _ _ _ h => h) (Or.inl ⟨by rfl, ?_⟩) ?_ ?_; rotate_left
            · intro w'; go_simp; (with_reducible rfl)
            rotate_left
            · simp only [Act.put, List.setIfInBounds_toArray, List.set_cons_zero, List.set_cons_succ, i64_w, i32_w]; rfl
            refine take_ (i := 4) (N := some 15) (v := ?_) (a' := ?_) #[true, true, true, false, true, false, false, false, false] rfl rfl (zax HT_.out HW_.out (by kernel_rfl)) (fun _ _ _ h => h) (Or.inl ⟨by rfl, ?_⟩) hHeld ?_ ?_; rotate_left
            · rintro w' ⟨s0, s1, s2, s3⟩; go_simp; (with_reducible rfl)
            rotate_left
            · simp only [Act.put, List.setIfInBounds_toArray, List.set_cons_zero, List.set_cons_succ, i64_w, i32_w]; rfl
            refine one_ (i := 3) (N := some 14) #[true, true, true, true, true, false, false, false, false] rfl rfl (zbu HT_.out (by kernel_rfl)) (by decide) (fun K hK => ?_); refine goes_ Try.func82 (by kernel_rfl) rfl #[.int .i64 a0, .int .i64 x8_1] (by rfl) rfl rfl (by (try simp only [List.map_toArray, List.map_cons, List.map_nil]); first | done | rfl | (simp only [List.length_drop, List.length_take]; rfl)) ?_; (with_reducible refine (zbb.calls a0 x8_1 t108 t109 t110 t111 _ A8.out).mono ?_); rintro e w12 ⟨rfl, hb⟩; refine ⟨_, rfl, ?_⟩; have n0_ := zb.mk (Kd.zaj (by (with_reducible repeat (first | apply Kd.zt | apply Kd.zq | apply Kd.zy)); exact HO_5.out) hb); have n1_ := zb.mk (zK (g := gb101) (o := .cells #[.int .i64 a1_0, .int .i64 a1_1, .int .i64 a1_2, .int .i64 a1_3] 99 (0, 0)) (by (with_reducible repeat (first | refine zl ?_ _ | refine zm ?_ | refine zk ?_ _)); exact BK101.out) hb); have n2_ := zb.mk (zw (by repeat (first | (with_reducible first | exact HB.out | apply zf | apply za | apply ze | refine zh ?_ GE101.out) | exact HB.out)) hb); clear HO_5; clear BK101; clear HB; have HO_5 := n0_; have BK101 := n1_; have HB := n2_; clear n0_ n1_ n2_; (try clear hb); (try clear hb2); (try clear hk); (try clear hi); refine hK.out _ _ ⟨(zi BK101.out 0).trans rfl, (zi BK101.out 1).trans rfl, (zi BK101.out 2).trans rfl, (zi BK101.out 3).trans rfl⟩ (fun hHeld => ?_); clear hK K; refine norm_ (a' := ?_) ?_ ?_; rotate_left
            · show Act.put _ (some 14) _ = _; simp only [Act.put, List.setIfInBounds_toArray, List.set_cons_zero, List.set_cons_succ, i64_w, i32_w]; rfl
            refine one_ (i := 5) (N := some 16) #[true, true, true, true, true, true, false, false, false] rfl rfl (zbu HT_.out (by kernel_rfl)) (by decide) (fun K hK => ?_); refine goes_ Try.func118 (by kernel_rfl) rfl #[.agg #[.int .i64 t108, .int .i64 t109, .int .i64 t110, .int .i64 t111], .agg #[.int .i64 a1_0, .int .i64 a1_1, .int .i64 a1_2, .int .i64 a1_3]] (by rfl) rfl rfl (by (try simp only [List.map_toArray, List.map_cons, List.map_nil]); first | done | rfl | (simp only [List.length_drop, List.length_take]; rfl)) ?_; (with_reducible refine (zbi.calls t108 t109 t110 t111 a1_0 a1_1 a1_2 a1_3 t112 _ A9.out).mono ?_); rintro e w13 ⟨rfl, hb⟩; refine ⟨_, rfl, ?_⟩; have n0_ := zb.mk (Kd.zaj (by (with_reducible repeat (first | apply Kd.zt | apply Kd.zq | apply Kd.zy)); exact HO_5.out) hb); have n1_ := zb.mk (zK (g := gb101) (o := .cells #[.int .i64 a1_0, .int .i64 a1_1, .int .i64 a1_2, .int .i64 a1_3] 99 (0, 0)) (by (with_reducible repeat (first | refine zl ?_ _ | refine zm ?_ | refine zk ?_ _)); exact BK101.out) hb); have n2_ := zb.mk (zw (by repeat (first | (with_reducible first | exact HB.out | apply zf | apply za | apply ze | refine zh ?_ GE101.out) | exact HB.out)) hb); clear HO_5; clear BK101; clear HB; have HO_5 := n0_; have BK101 := n1_; have HB := n2_; clear n0_ n1_ n2_; (try clear hb); (try clear hb2); (try clear hk); (try clear hi); refine hK.out _ _ ⟨(zi BK101.out 0).trans rfl, (zi BK101.out 1).trans rfl, (zi BK101.out 2).trans rfl, (zi BK101.out 3).trans rfl⟩ (fun hHeld => ?_); clear hK K; refine norm_ (a' := ?_) ?_ ?_; rotate_left
            · show Act.put _ (some 16) _ = _; simp only [Act.put, List.setIfInBounds_toArray, List.set_cons_zero, List.set_cons_succ, i64_w, i32_w]; rfl
            refine one_ (i := 6) (N := some 17) #[true, true, true, true, true, true, true, false, false] rfl rfl (zbu HT_.out (by kernel_rfl)) (by decide) (fun K hK => ?_); refine zih (w1 := ?_) (v := ?_) (by rfl) rfl ?_ ?_; rotate_left 2
            · go_simp; constructor
              · rfl
              · rfl
            refine hK.out _ _ ⟨(zi (zk BK101.out _) 0).trans rfl, (zi (zk BK101.out _) 1).trans rfl, (zi (zk BK101.out _) 2).trans rfl, (zi (zk BK101.out _) 3).trans rfl⟩ (fun hHeld => ?_); clear hK K; refine norm_ (a' := ?_) ?_ ?_; rotate_left
            · show Act.put _ (some 17) _ = _; simp only [Act.put, List.setIfInBounds_toArray, List.set_cons_zero, List.set_cons_succ, i64_w, i32_w]; rfl
            refine one_ (i := 7) (N := some 18) #[true, true, true, true, true, true, true, true, false] rfl rfl (zbu HT_.out (by kernel_rfl)) (by decide) (fun K hK => ?_); refine Kd.zdi (Kd.int .i64) (w0 := w) w.heap.size (by rfl) (.tmp 11) (.tmp 17) 24 3 (.int .i64 0) 8 rfl Try.underlying24 info3 rfl (by decide) (by omega) u5 x5_1 t112 [.int .i64 t112] (fun _ => True) (fun _ => False) rfl rfl ?aP (fun _ hk => hk.elim) ?aF ?aO ?aB ?aS ?aL ?_; (case aP => exact rfl); (case aB => exact (by repeat (first | (with_reducible first | exact HB.out | apply zf | apply za | apply ze | refine zh ?_ GE101.out) | exact HB.out))); (case aF => exact (fun _ _ => trivial)); (case aO => exact (by (with_reducible repeat (first | apply Kd.zt | apply Kd.zq | apply Kd.zy)); exact HO_5.out)); (case aS => exact (zo (by repeat (first | (with_reducible first | exact HB.out | apply zf | apply za | apply ze | refine zh ?_ GE101.out) | exact HB.out)))); (case aL => have := LMc10.out; omega); intro v114 w14 ho hb hg hat; rw [← Ny113.out] at ho; have n0_ := zb.mk (zcj (g := gb101) (o := .cells #[.int .i64 a1_0, .int .i64 a1_1, .int .i64 a1_2, .int .i64 a1_3] 99 (0, 0)) (by (with_reducible repeat (first | refine zl ?_ _ | refine zm ?_ | refine zk ?_ _)); exact BK101.out) hg (Kd.R_ne HO_5.out BK101.out (by decide))); have n1_ := zb.mk (hb); have n2_ := zb.mk (ho); clear BK101; clear HB; clear HO_5; have BK101 := n0_; have HB := n1_; have HO115 := n2_; clear n0_ n1_ n2_; clear ho hb hg hat; refine hK.out _ _ ⟨(zi BK101.out 0).trans rfl, (zi BK101.out 1).trans rfl, (zi BK101.out 2).trans rfl, (zi BK101.out 3).trans rfl⟩ (fun hHeld => ?_); clear hK K; refine norm_ (a' := ?_) ?_ ?_; rotate_left
            · show Act.put _ (some 18) _ = _; simp only [Act.put, List.setIfInBounds_toArray, List.set_cons_zero, List.set_cons_succ, i64_w, i32_w]; rfl
            refine pure_ (i := 8) (N := some 5) (v := ?_) (a' := ?_) #[true, true, true, true, true, true, true, true, true] rfl rfl (zI HT_.out (by kernel_rfl)) (fun _ _ _ h => h) (Or.inl ⟨by rfl, ?_⟩) ?_ ?_; rotate_left
            · intro w'; go_simp; (with_reducible rfl)
            rotate_left
            · simp only [Act.put, List.setIfInBounds_toArray, List.set_cons_zero, List.set_cons_succ, i64_w, i32_w]; rfl
            refine done_ (zca HT_.out (by kernel_rfl)) ?_
            try go_wp2
            go_roundg k1
            case measure => have := HK1.out; omega
            case rel => exact ⟨(y113), (wrap64 (x8_1 + 1)), (by first | rfl | (simp; done) | (simp [*]; done)), H', ⟨by have := HK1.out; omega⟩, ⟨by (with_reducible repeat (first | apply Kd.zt | apply Kd.zq | apply Kd.zy)); exact HO115.out⟩, ⟨by (with_reducible repeat (first | refine zl ?_ _ | refine zm ?_ | refine zk ?_ _)); exact BK101.out⟩, ⟨by repeat (first | (with_reducible first | exact HB.out | apply zf | apply za | apply ze | refine zh ?_ GE101.out) | exact HB.out)⟩⟩
          · rw [if_neg c10] at H; exact absurd H (by simp)
        · rw [if_neg c7] at H; have c7b0 : decide (x8_1 < 8) = false := decide_eq_false c7; clear c7; obtain rfl := Option.some.inj H; go_wp2; go_ret; exact ⟨_, by first | rfl | (simp [zA, zB] <;> rfl) | (simp [*, zA, zB] <;> rfl), by (with_reducible repeat (first | apply Kd.zt | apply Kd.zq | apply Kd.zy)); exact HO_5.out, by repeat (first | (with_reducible first | exact HB.out | apply zf | apply za | apply ze | refine zh ?_ GE101.out) | exact HB.out)⟩
  · rw [if_neg c3] at H; exact absurd H (by simp)
end Go.Proofs.Ytmipjlbkcfpkiaa.K

end
section
namespace Go.Proofs.Ytmipjlbkcfpkiaa.K
open Go.RowKit Go.Proofs.YtmipjlbkcfpkiaaW.PrintWords Go.Proofs.YtmipjlbkcfpkiaaW.PrintLast Go.Proofs.YtmipjlbkcfpkiaaW.PrintMore
theorem zdg (l : List Int) (h : l.length ≤ 9223372036854775807) : zbw.f l = if l.length = 4 ∧ l.all fld = true then some (rd l 0, rd l 1, rd l 2, rd l 3, true) else some (0, 0, 0, 0, false) := by
  unfold zbw.f; rw [if_pos h]
theorem zfE (n : Int) : zbr.f n = some (decide (1 ≤ n) && decide (n ≤ 2)) := by
  unfold zbr.f zaf.f
  by_cases h : n ≥ 1
  · rw [if_pos h]; simp [h]
  · rw [if_neg h]; simp [h]
def row (kind : Int) (at_ : Nat) : Int × Int × Int × Int :=
  if kind = 2 then (match at_ with | 0 => (1, 1, 1, 1) | 1 => (1, 2, 4, 8) | 2 => (1, 3, 9, 27) | 3 => (1, 4, 16, 2) | 4 => (1, 5, 25, 1) | 5 => (1, 6, 5, 30) | 6 => (1, 7, 18, 2) | _ => (1, 8, 2, 16))
  else (match at_ with | 0 => (1, 0, 0, 0) | 1 => (0, 1, 0, 0) | 2 => (0, 0, 1, 0) | 3 => (0, 0, 0, 1) | 4 => (1, 1, 0, 0) | 5 => (0, 0, 1, 1) | 6 => (1, 2, 4, 8) | _ => (1, 3, 9, 27))
def dotr (r : Int × Int × Int × Int) (d : Int × Int × Int × Int) : Int := dotv r.1 r.2.1 r.2.2.1 r.2.2.2 d.1 d.2.1 d.2.2.1 d.2.2.2
def enc (kind : Int) (d : Int × Int × Int × Int) : List Int := [dotr (row kind 0) d, dotr (row kind 1) d, dotr (row kind 2) d, dotr (row kind 3) d, dotr (row kind 4) d, dotr (row kind 5) d, dotr (row kind 6) d, dotr (row kind 7) d]
def isVec (l : List Int) : Bool := decide (l.length = 4) && l.all fld
def isKind (n : Int) : Bool := decide (1 ≤ n) && decide (n ≤ 2)
theorem zeZ (l : List Int) : isVec l = true ↔ l.length = 4 ∧ l.all fld = true := by unfold isVec; simp
theorem zeh (n : Int) : isKind n = true ↔ n = 1 ∨ n = 2 := by unfold isKind; simp; omega
def vec4 (l : List Int) : Int × Int × Int × Int := (rd l 0, rd l 1, rd l 2, rd l 3)
def fldv (d : Int × Int × Int × Int) : Bool := fld d.1 && fld d.2.1 && fld d.2.2.1 && fld d.2.2.2
theorem zhf (l : List Int) (h : isVec l = true) : fldv (vec4 l) = true := by
  rw [zeZ] at h; obtain ⟨h4, ha⟩ := h
  match l, h4 with
  | [a, b, c, d], _ =>
    simp only [List.all_cons, List.all_nil, Bool.and_true, Bool.and_eq_true] at ha
    simp [fldv, vec4, rd, ha]
theorem ziy (n : Nat) (hn : n ≤ 7) : zbb.f 1 (n : Int) = some (row 1 n) := by
  match n, hn with
  | 0, _ => decide +kernel | 1, _ => decide +kernel | 2, _ => decide +kernel | 3, _ => decide +kernel | 4, _ => decide +kernel | 5, _ => decide +kernel | 6, _ => decide +kernel | 7, _ => decide +kernel
theorem ziD (n : Nat) (hn : n ≤ 7) : zbb.f 2 (n : Int) = some (row 2 n) := by
  match n, hn with
  | 0, _ => decide +kernel | 1, _ => decide +kernel | 2, _ => decide +kernel | 3, _ => decide +kernel | 4, _ => decide +kernel | 5, _ => decide +kernel | 6, _ => decide +kernel | 7, _ => decide +kernel
theorem ziR (kind : Int) (n : Nat) (hk : isKind kind = true) (hn : n ≤ 7) : zbb.f kind (n : Int) = some (row kind n) := by
  rcases (zeh kind).1 hk with rfl | rfl
  · exact ziy n hn
  · exact ziD n hn
theorem zfJ : ∀ n : Nat, n ≤ 7 → fldv (row 1 n) = true ∧ fldv (row 2 n) = true := by decide
theorem ziv (kind : Int) (n : Nat) (hk : isKind kind = true) (hn : n ≤ 7) : fldv (row kind n) = true := by
  rcases (zeh kind).1 hk with rfl | rfl
  · exact (zfJ n hn).1
  · exact (zfJ n hn).2
theorem zjt (r d : Int × Int × Int × Int) (hr : fldv r = true) (hd : fldv d = true) : zbi.f r.1 r.2.1 r.2.2.1 r.2.2.2 d.1 d.2.1 d.2.2.1 d.2.2.2 = some (dotr r d) := by
  unfold zbi.f; simp only [fldv, Bool.and_eq_true] at hr hd
  simp [hr, hd, dotr]
theorem zhT (kind : Int) (d : Int × Int × Int × Int) (hk : isKind kind = true) (hd : fldv d = true) (j : Nat) : ∀ (k n : Nat) (acc : List Int), n + j = 8 → acc.length = n → j < k →
    zaz.l0 k kind acc (n : Int) d.1 d.2.1 d.2.2.1 d.2.2.2 = some (acc ++ (List.range' n j).map fun i => dotr (row kind i) d) := by
  induction j with
  | zero =>
    intro k n acc hn ha hk; obtain ⟨k, rfl⟩ : ∃ m, k = m + 1 := ⟨k - 1, by omega⟩
    rw [zaz.l0, if_neg (by omega)]; simp
  | succ j ih =>
    intro k n acc hn ha hkk; obtain ⟨k, rfl⟩ : ∃ m, k = m + 1 := ⟨k - 1, by omega⟩
    rw [zaz.l0, if_pos (by omega), ziR kind n hk (by omega), Option.bind_some, zjt _ _ (ziv kind n hk (by omega)) hd, Option.bind_some, if_pos (by omega), w64_ (by omega) (by omega)]; have := ih k (n + 1) (acc ++ [dotr (row kind n) d]) (by omega) (by simp [ha]) (by omega); rw [show ((n : Int) + 1) = ((n + 1 : Nat) : Int) by omega, this, List.range'_succ, List.map_cons, List.append_assoc]; rfl
theorem zhC (k : Nat) (hk8 : 8 < k) (kind : Int) (d : Int × Int × Int × Int) (hk : isKind kind = true) (hd : fldv d = true) : zaz.f k kind d.1 d.2.1 d.2.2.1 d.2.2.2 = some (enc kind d) := by
  unfold zaz.f; rw [if_pos (by omega)]; exact zhT kind d hk hd 8 k 0 [] rfl rfl hk8
def zbo.f (a0 : Int) (l1 : List Int) : Option (List Int) := if l1.length ≤ 9223372036854775807 then (if (isKind a0 && isVec l1) = true then some (enc a0 (vec4 l1)) else some []) else none
theorem zff (a0 : Int) (A1 : Option Addr) (c1 : Nat) (l1 : List Int) (w : World) (hr1 : Kd.C (Kd.int .i64) w A1 l1.length l1) (hc1 : l1.length ≤ c1) (hl : l1.length ≤ 9223372036854775807) (hk : isKind a0 = true) (hv : isVec l1 = true) :
    Calls Try.prog 42 #[.int .i64 a0, .slice A1 l1.length c1] w fun e w' => ∃ v0_ : Value, e = .returned (v0_) ∧ Kd.R (Kd.int .i64) 3 w' w.heap.size (fun _ => True) v0_ (enc a0 (vec4 l1)) ∧ Below w.heap.size w w' := by
  have HR1 := zb.mk hr1; clear hr1; have HV := zb.mk ((zdg l1 hl).trans (if_pos ((zeZ l1).1 hv))); have HK := zb.mk ((zfE a0).trans (by rw [show (decide (1 ≤ a0) && decide (a0 ≤ 2)) = true from hk])); have HE := zb.mk (zhC 9 (by omega) a0 (vec4 l1) hk (zhf l1 hv)); clear hl hk hv
  go_enter Try.func42, Try.ntmps42
  go_wp2_with fail; refine (zbw.calls A1 c1 l1 _ _ _ _ _ _ HR1.out hc1 HV.out).mono ?_; rintro e w1 ⟨rfl, hb⟩; have HB := zb.mk hb; clear hb; go_wp2_with fail; refine (zbr.calls a0 _ _ HK.out).mono ?_; rintro e w2 ⟨rfl, ⟨m, rfl⟩⟩; go_wp2_with fail; refine (zaz.calls 9 a0 _ _ _ _ _ _ HE.out).mono ?_; rintro e w3 ⟨v, rfl, ho, hb⟩; have HO := zb.mk ho; have HB3 := zb.mk hb; clear ho hb; go_wp2; go_ret
  exact ⟨_, rfl, Kd.zaa HO.out (by have := HB.out.size; simp; omega), by
    refine zw ?_ HB3.out
    repeat (first | exact HB.out | apply zf | apply za | apply ze)⟩
theorem zfn (a0 : Int) (A1 : Option Addr) (c1 : Nat) (l1 : List Int) (w : World) (hr1 : Kd.C (Kd.int .i64) w A1 l1.length l1) (hc1 : l1.length ≤ c1) (hl : l1.length ≤ 9223372036854775807)
    (h : ¬ ((l1.length = 4 ∧ l1.all fld = true) ∧ 1 ≤ a0 ∧ a0 ≤ 2)) :
    Calls Try.prog 42 #[.int .i64 a0, .slice A1 l1.length c1] w fun e w' => e = .returned (.slice none 0 0) ∧ Below w.heap.size w w' := by
  have HR1 := zb.mk hr1; clear hr1; have hv := zdg l1 hl
  by_cases c : l1.length = 4 ∧ l1.all fld = true
  · rw [if_pos c] at hv; have HV := zb.mk hv
    have hk : (decide (1 ≤ a0) && decide (a0 ≤ 2)) = false := by
      rw [← Bool.not_eq_true, Bool.and_eq_true, decide_eq_true_eq, decide_eq_true_eq]; exact fun hh => h ⟨c, hh⟩
    have HK := zb.mk ((zfE a0).trans (by rw [hk])); clear hv c h hk hl
    go_enter Try.func42, Try.ntmps42
    go_wp2_with fail; refine (zbw.calls A1 c1 l1 _ _ _ _ _ _ HR1.out hc1 HV.out).mono ?_; rintro e w1 ⟨rfl, hb⟩; have HB := zb.mk hb; clear hb; go_wp2_with fail; refine (zbr.calls a0 _ _ HK.out).mono ?_; rintro e w2 ⟨rfl, ⟨m, rfl⟩⟩; go_wp2; go_ret; exact ⟨rfl, by repeat (first | exact HB.out | apply zf | apply za | apply ze)⟩
  · rw [if_neg c] at hv; have HV := zb.mk hv; clear hv c h hl
    go_enter Try.func42, Try.ntmps42
    go_wp2_with fail; refine (zbw.calls A1 c1 l1 _ _ _ _ _ _ HR1.out hc1 HV.out).mono ?_; rintro e w1 ⟨rfl, hb⟩; have HB := zb.mk hb; clear hb; go_wp2; go_ret; exact ⟨rfl, by repeat (first | exact HB.out | apply zf | apply za | apply ze)⟩
theorem zbo.calls (a0 : Int) (A1 : Option Addr) (c1 : Nat) (l1 : List Int) (r : List Int) (w : World) (hr1 : Kd.C (Kd.int .i64) w A1 l1.length l1) (hc1 : l1.length ≤ c1) (h : zbo.f a0 l1 = some r) :
    Calls Try.prog 42 #[.int .i64 a0, .slice A1 l1.length c1] w fun e w' => ∃ v0_ : Value, e = .returned (v0_) ∧ Kd.R (Kd.int .i64) 3 w' w.heap.size (fun _ => True) v0_ r ∧ Below w.heap.size w w' := by
  unfold zbo.f at h
  by_cases hl : l1.length ≤ 9223372036854775807
  · rw [if_pos hl] at h
    by_cases c : (isKind a0 && isVec l1) = true
    · rw [if_pos c] at h; obtain rfl := Option.some.inj h; rw [Bool.and_eq_true] at c; exact zff a0 A1 c1 l1 w hr1 hc1 hl c.1 c.2
    · rw [if_neg c] at h; obtain rfl := Option.some.inj h
      refine (zfn a0 A1 c1 l1 w hr1 hc1 hl (fun hh => c (by
        rw [Bool.and_eq_true]; exact ⟨by unfold isKind; simp [hh.2], by unfold isVec; simp [hh.1]⟩))).mono ?_
      rintro e w' ⟨rfl, hb⟩; exact ⟨_, rfl, Kd.R_nil _ _ _ _ _, hb⟩
  · rw [if_neg hl] at h; cases h
end Go.Proofs.Ytmipjlbkcfpkiaa.K

end
section
namespace Go.Proofs.Ytmipjlbkcfpkiaa.K
open Go.RowKit Go.Proofs.YtmipjlbkcfpkiaaW.PrintWords Go.Proofs.YtmipjlbkcfpkiaaW.PrintLast Go.Proofs.YtmipjlbkcfpkiaaW.PrintMore
attribute [local go_sem] zao zar zaE zaD zad zac zaq zan
set_option linter.unusedVariables false
set_option linter.unusedSimpArgs false
mutual
def zJ.j0 : Nat → Int → Bool → Bool → Int → List Int → List Int → Option (Bool)
  | 0, _, _, _, _, _, _ => none
  | k + 1, x3, x5, x36, x110000, x110001, x110002 => if x36 = true then ((zP.f k x3 x110000 x110001 x110002).bind fun t112 => (some (x5 == t112))) else (zJ.l0 k x3 x5 true 0 x110000 x110001 x110002)
def zJ.l0 : Nat → Int → Bool → Bool → Int → Int → List Int → List Int → Option (Bool)
  | 0, _, _, _, _, _, _, _ => none
  | k + 1, x3, x5, x6, x7, x110000, x110001, x110002 => if x7 < 4 then ((zbP.f x7).bind fun bt113 => ((zbo.f x3 bt113.1).bind fun t117 => ((zbJ.f k x110000 x110001 x110002 t117).bind fun bt120 => (if bt120.2 = true then (if x6 = true then (if 0 ≤ x110000 then (if x110000 < (t117.length : Int) then (zJ.l0 k x3 x5 (bt120.1 == (rd t117 x110000)) (wrap64 (x7 + 1)) x110000 x110001 x110002) else (none)) else (none)) else (zJ.l0 k x3 x5 false (wrap64 (x7 + 1)) x110000 x110001 x110002)) else (some (!x5)))))) else (some (x5 == x6))
end
def zJ.f (k : Nat) (l0 : List Int) : Option (Bool) := if (l0.length : Int) > 1048576 then (some true) else ((zbq.f k l0).bind fun bt101 => ((zU.f k bt101.1 bt101.2.1 bt101.2.2.1 bt101.2.2.2).bind fun t110 => ((zP.f k bt101.1 bt101.2.1 bt101.2.2.1 bt101.2.2.2).bind fun t111 => (if (t110 != t111) = true then (zJ.j0 k bt101.1 t110 true bt101.2.1 bt101.2.2.1 bt101.2.2.2) else (if bt101.1 < 1 then (zJ.j0 k bt101.1 t110 true bt101.2.1 bt101.2.2.1 bt101.2.2.2) else (zJ.j0 k bt101.1 t110 (decide (bt101.1 > 2)) bt101.2.1 bt101.2.2.1 bt101.2.2.2))))))
set_option maxHeartbeats 8000000 in
set_option maxRecDepth 100000 in
theorem zJ.calls (k : Nat) (A0 : Option Addr) (c0 : Nat) (l0 : List Int) (r : Bool) (w : World) (hr0 : Kd.C (Kd.int .u8) w A0 l0.length l0) (hc0 : l0.length ≤ c0) (h : zJ.f k l0 = some r) :
    Calls Try.prog 11 #[.slice A0 l0.length c0] w fun e w' => e = .returned (.bool r) ∧ Below w.heap.size w w' := by
  have hu47 := Try.underlying47; have HR0 := zb.mk hr0; have HC0 := zb.mk hc0; clear hr0 hc0; have HB := zb.mk (Below.refl w.heap.size w); have H : (if (l0.length : Int) > 1048576 then (some true) else ((zbq.f k l0).bind fun bt101 => ((zU.f k bt101.1 bt101.2.1 bt101.2.2.1 bt101.2.2.2).bind fun t110 => ((zP.f k bt101.1 bt101.2.1 bt101.2.2.1 bt101.2.2.2).bind fun t111 => (if (t110 != t111) = true then (zJ.j0 k bt101.1 t110 true bt101.2.1 bt101.2.2.1 bt101.2.2.2) else (if bt101.1 < 1 then (zJ.j0 k bt101.1 t110 true bt101.2.1 bt101.2.2.1 bt101.2.2.2) else (zJ.j0 k bt101.1 t110 (decide (bt101.1 > 2)) bt101.2.1 bt101.2.2.1 bt101.2.2.2))))))) = some r := h; clear h
  by_cases c2 : (l0.length : Int) > 1048576
  · rw [if_pos c2] at H; have c2b0 : decide (1048576 < (l0.length : Int)) = true := decide_eq_true c2; have c2b1 : decide (1048576 < l0.length) = true := decide_eq_true (by omega); clear c2; obtain rfl := Option.some.inj H
    go_enter Try.func11, Try.ntmps11
    go_wp2; go_ret; exact ⟨by first | rfl | (simp [zA, zB] <;> rfl) | (simp [*, zA, zB] <;> rfl), by repeat (first | (with_reducible first | exact HB.out | apply zf | apply za | apply ze) | exact HB.out | exact Below.refl _ _)⟩
  · rw [if_neg c2] at H; have c2b0 : decide (1048576 < (l0.length : Int)) = false := decide_eq_false c2; have c2b1 : decide (1048576 < l0.length) = false := decide_eq_false (by omega); clear c2; replace H := Option.bind_eq_some_iff.mp H; obtain ⟨⟨t101, t102, t103, t106⟩, A30, H⟩ := H; replace H : ((zU.f k t101 t102 t103 t106).bind fun t110 => ((zP.f k t101 t102 t103 t106).bind fun t111 => (if (t110 != t111) = true then (zJ.j0 k t101 t110 true t102 t103 t106) else (if t101 < 1 then (zJ.j0 k t101 t110 true t102 t103 t106) else (zJ.j0 k t101 t110 (decide (t101 > 2)) t102 t103 t106))))) = some r := H; have A3 := zb.mk A30; clear A30; replace H := Option.bind_eq_some_iff.mp H; obtain ⟨t110, A40, H⟩ := H; replace H : ((zP.f k t101 t102 t103 t106).bind fun t111 => (if (t110 != t111) = true then (zJ.j0 k t101 t110 true t102 t103 t106) else (if t101 < 1 then (zJ.j0 k t101 t110 true t102 t103 t106) else (zJ.j0 k t101 t110 (decide (t101 > 2)) t102 t103 t106)))) = some r := H; have A4 := zb.mk A40; clear A40; have HC5 := zb.mk H; clear H
    go_enter Try.func11, Try.ntmps11
    go_upto_region 5 with (first | ((with_reducible refine zz (f := 39) rfl ?_); refine zX (some 18) rfl rfl Try.func39 (by kernel_rfl) rfl #[.slice A0 l0.length c0] rfl (by (try simp only [List.map_toArray, List.map_cons, List.map_nil]); first | done | rfl | (simp only [List.length_drop, List.length_take]; rfl)) ?_; (with_reducible refine (zbq.calls k _ _ l0 t101 t102 t103 t106 _ ?side1 ?side2 A3.out).mono ?_); (case side1 => repeat (first | exact HR0.out | (with_reducible refine Kd.zS ?_ _) | (with_reducible refine Kd.zT ?_ _) | (with_reducible refine Kd.zah ?_))); (case side2 => exact HC0.out); rintro e w6 ⟨v104, v107, rfl, ho0, ho1, hb⟩; refine ⟨_, rfl, ?_⟩; have n0_ := zb.mk (Kd.zaa ho0 (zo (by repeat (first | (with_reducible first | exact HB.out | apply zf | apply za | apply ze) | exact HB.out | exact Below.refl _ _)))); have n1_ := zb.mk (Kd.zaa ho1 (zo (by repeat (first | (with_reducible first | exact HB.out | apply zf | apply za | apply ze) | exact HB.out | exact Below.refl _ _)))); have n2_ := zb.mk (zw (by repeat (first | (with_reducible first | exact HB.out | apply zf | apply za | apply ze) | exact HB.out | exact Below.refl _ _)) hb); clear HB; have HO105 := n0_; have HO108 := n1_; have HB := n2_; clear n0_ n1_ n2_; (try clear hb); (try clear hb2); (try clear hk); (try clear hi); (try clear ho0); (try clear ho1)) | ((with_reducible refine zV (N := 4) rfl ?_); refine zal ?hg (N := 4) ?hd (cs := #[.int .i64 0, .slice none 0 0, .slice none 0 0]) (t := 47) ?hr ?_; (case hd => rfl); (case hg => rfl); (case hr => first | (go_simp; done) | (go_simp; rfl)); intro gb109 hg w7 hbox hb; have n0_ := zb.mk (Kd.zaj (by (with_reducible repeat (first | apply Kd.zt | apply Kd.zq | apply Kd.zy)); exact HO105.out) hb); have n1_ := zb.mk (Kd.zaj (by (with_reducible repeat (first | apply Kd.zt | apply Kd.zq | apply Kd.zy)); exact HO108.out) hb); have n2_ := zb.mk (zw (by repeat (first | (with_reducible first | exact HB.out | apply zf | apply za | apply ze) | exact HB.out | exact Below.refl _ _)) hb); have n3_ := zb.mk (hbox); have n4_ := zb.mk ((by rw [hg]; exact (zo (by repeat (first | (with_reducible first | exact HB.out | apply zf | apply za | apply ze) | exact HB.out | exact Below.refl _ _))) : w.heap.size ≤ gb109)); have n5_ := zb.mk ((by rw [hg]; exact (zo (by repeat (first | (with_reducible first | exact HB.out | apply zf | apply za | apply ze) | exact HB.out | exact Below.refl _ _))) : w.heap.size ≤ gb109)); clear HO105; clear HO108; clear HB; have HO105 := n0_; have HO108 := n1_; have HB := n2_; have BK109 := n3_; have GW109 := n4_; have GE109 := n5_; clear n0_ n1_ n2_ n3_ n4_ n5_; clear hb hbox hg; have hcz8_0 : w7.cell? ⟨gb109, 0, none⟩ = some (.int .i64 0) := (zi BK109.out 0).trans rfl; have hcz8_1 : w7.cell? ⟨gb109, 1, none⟩ = some (.slice none 0 0) := (zi BK109.out 1).trans rfl; have hcz8_2 : w7.cell? ⟨gb109, 2, none⟩ = some (.slice none 0 0) := (zi BK109.out 2).trans rfl; have hfz8_0 := zn BK109.out 0; have hfz8_1 := zn BK109.out 1; have hfz8_2 := zn BK109.out 2; obtain ⟨Ao9, co9, eo9⟩ := Kd.zae HO105.out; subst eo9; obtain ⟨Ao10, co10, eo10⟩ := Kd.zae HO108.out; subst eo10) | ((with_reducible refine zz (f := 40) rfl ?_); refine zX (some 23) rfl rfl Try.func40 (by kernel_rfl) rfl #[.int .i64 t101, .agg #[.int .i64 t102, .slice Ao9 t103.length co9, .slice Ao10 t106.length co10]] rfl (by (try simp only [List.map_toArray, List.map_cons, List.map_nil]); first | done | rfl | (simp only [List.length_drop, List.length_take]; rfl)) ?_; (with_reducible refine (zU.calls k t101 t102 _ _ t103 _ _ t106 t110 _ ?side1 ?side2 ?side3 ?side4 A4.out).mono ?_); (case side1 => refine (Kd.zO (e := 3) (base := w.heap.size) (ok := fun k_ => some k_ ≠ (.slice Ao10 t106.length co10 : Value).ownBlock) (n := t103.length) (c := co9) ?_).2.2; exact (by (with_reducible repeat (first | apply Kd.zt | apply Kd.zq | apply Kd.zy)); exact (Kd.zZ (Kd.R_far (p := ⟨gb109, 2, none⟩) (Kd.R_far (p := ⟨gb109, 1, none⟩) (Kd.R_far (p := ⟨gb109, 0, none⟩) (Kd.zaI HO105.out BK109.out (by decide)) (fun _ hk => hk.2) (.int .i64 t102)) (fun _ hk => hk.2) (.slice Ao9 t103.length co9)) (fun _ hk => hk.2) (.slice Ao10 t106.length co10)) (fun _ h_ => h_.1)))); (case side2 => exact (Kd.zO HO105.out).2.1); (case side3 => refine (Kd.zO (e := 3) (base := w.heap.size) (ok := fun k_ => some k_ ≠ (.slice Ao9 t103.length co9 : Value).ownBlock) (n := t106.length) (c := co10) ?_).2.2; exact (by (with_reducible repeat (first | apply Kd.zt | apply Kd.zq | apply Kd.zy)); exact (Kd.zZ (Kd.R_far (p := ⟨gb109, 2, none⟩) (Kd.R_far (p := ⟨gb109, 1, none⟩) (Kd.R_far (p := ⟨gb109, 0, none⟩) (Kd.zaI HO108.out BK109.out (by decide)) (fun _ hk => hk.2) (.int .i64 t102)) (fun _ hk => hk.2) (.slice Ao9 t103.length co9)) (fun _ hk => hk.2) (.slice Ao10 t106.length co10)) (fun _ h_ => h_.1)))); (case side4 => exact (Kd.zO HO108.out).2.1); rintro e w11 ⟨rfl, hb⟩; refine ⟨_, rfl, ?_⟩; have n0_ := zb.mk (Kd.zaj (by (with_reducible repeat (first | apply Kd.zt | apply Kd.zq | apply Kd.zy)); exact (Kd.zZ (Kd.R_far (p := ⟨gb109, 2, none⟩) (Kd.R_far (p := ⟨gb109, 1, none⟩) (Kd.R_far (p := ⟨gb109, 0, none⟩) (Kd.zaI HO105.out BK109.out (by decide)) (fun _ hk => hk.2) (.int .i64 t102)) (fun _ hk => hk.2) (.slice Ao9 t103.length co9)) (fun _ hk => hk.2) (.slice Ao10 t106.length co10)) (fun _ h_ => h_.1))) hb); have n1_ := zb.mk (Kd.zaj (by (with_reducible repeat (first | apply Kd.zt | apply Kd.zq | apply Kd.zy)); exact (Kd.zZ (Kd.R_far (p := ⟨gb109, 2, none⟩) (Kd.R_far (p := ⟨gb109, 1, none⟩) (Kd.R_far (p := ⟨gb109, 0, none⟩) (Kd.zaI HO108.out BK109.out (by decide)) (fun _ hk => hk.2) (.int .i64 t102)) (fun _ hk => hk.2) (.slice Ao9 t103.length co9)) (fun _ hk => hk.2) (.slice Ao10 t106.length co10)) (fun _ h_ => h_.1))) hb); have n2_ := zb.mk (zK (g := gb109) (o := .cells #[.int .i64 t102, .slice Ao9 t103.length co9, .slice Ao10 t106.length co10] 47 (0, 0)) (by (with_reducible repeat (first | refine zl ?_ _ | refine zm ?_ | refine zk ?_ _)); refine zL (cs := #[.int .i64 t102, .slice Ao9 t103.length co9, .slice none 0 0]) ?_ 2 _ rfl; (with_reducible repeat (first | refine zl ?_ _ | refine zm ?_ | refine zk ?_ _)); refine zL (cs := #[.int .i64 t102, .slice none 0 0, .slice none 0 0]) ?_ 1 _ rfl; (with_reducible repeat (first | refine zl ?_ _ | refine zm ?_ | refine zk ?_ _)); refine zL (cs := #[.int .i64 0, .slice none 0 0, .slice none 0 0]) ?_ 0 _ rfl; (with_reducible repeat (first | refine zl ?_ _ | refine zm ?_ | refine zk ?_ _)); exact BK109.out) hb); have n3_ := zb.mk (zw (by repeat (first | (with_reducible first | exact HB.out | apply zf | apply za | apply ze | refine zh ?_ GE109.out) | exact HB.out)) hb); clear HO105; clear HO108; clear BK109; clear HB; have HO105 := n0_; have HO108 := n1_; have BK109 := n2_; have HB := n3_; clear n0_ n1_ n2_ n3_; (try clear hb); (try clear hb2); (try clear hk); (try clear hi)))
    (try simp only [Act.put, List.setIfInBounds_toArray, List.set_cons_zero, List.set_cons_succ])
    go_cut [36] (fun v36 wc => ∃ (kq : Nat) (x36_4 : Bool), v36 = .bool x36_4 ∧ zb (zJ.j0 kq t101 t110 x36_4 t102 t103 t106 = some r) ∧ zb (kq ≤ k) ∧ zb (Kd.R (Kd.int .i64) 3 wc w.heap.size (fun k_ => some k_ ≠ ((.slice Ao10 t106.length co10) : Value).ownBlock) (.slice Ao9 t103.length co9) t103) ∧ zb (Kd.R (Kd.int .i64) 3 wc w.heap.size (fun k_ => some k_ ≠ ((.slice Ao9 t103.length co9) : Value).ownBlock) (.slice Ao10 t106.length co10) t106) ∧ zb (wc.heap[gb109]? = some (.cells #[.int .i64 t102, (.slice Ao9 t103.length co9), (.slice Ao10 t106.length co10)] 47 (0, 0))) ∧ zb (Below w.heap.size w wc))
    case first =>
      have H := HC5.out; clear HC5; replace H := Option.bind_eq_some_iff.mp H; obtain ⟨t111, A120, H⟩ := H; replace H : (if (t110 != t111) = true then (zJ.j0 k t101 t110 true t102 t103 t106) else (if t101 < 1 then (zJ.j0 k t101 t110 true t102 t103 t106) else (zJ.j0 k t101 t110 (decide (t101 > 2)) t102 t103 t106))) = some r := H; have A12 := zb.mk A120; clear A120
      by_cases c13 : (t110 != t111) = true
      · rw [if_pos c13] at H; have c13b0 : (t110 != t111) = true := c13
        (try (have c13b1 : decide (t110 = t111) = false := by simpa using c13))
        (try (have c13b2 : (t110 == t111) = false := by simpa using c13))
        (try (have c13b3 : ¬ (t110 = t111) := by simpa using c13))
        clear c13; (first | rw [c13b0] | (simp only [i64_w, i32_w]; rw [c13b0]) | skip); have H' := zb.mk H; clear H; have hcz14_0 : w11.cell? ⟨gb109, 0, none⟩ = some (.int .i64 t102) := (zi BK109.out 0).trans rfl; have hcz14_1 : w11.cell? ⟨gb109, 1, none⟩ = some (.slice Ao9 t103.length co9) := (zi BK109.out 1).trans rfl; have hcz14_2 : w11.cell? ⟨gb109, 2, none⟩ = some (.slice Ao10 t106.length co10) := (zi BK109.out 2).trans rfl; have hfz14_0 := zn BK109.out 0; have hfz14_1 := zn BK109.out 1; have hfz14_2 := zn BK109.out 2; go_wp2_with (first | ((with_reducible refine zz (f := 41) rfl ?_); refine zX (some 27) rfl rfl Try.func41 (by kernel_rfl) rfl #[.int .i64 t101, .agg #[.int .i64 t102, .slice Ao9 t103.length co9, .slice Ao10 t106.length co10]] rfl (by (try simp only [List.map_toArray, List.map_cons, List.map_nil]); first | done | rfl | (simp only [List.length_drop, List.length_take]; rfl)) ?_; (with_reducible refine (zP.calls k t101 t102 _ _ t103 _ _ t106 t111 _ ?side1 ?side2 ?side3 ?side4 A12.out).mono ?_); (case side1 => repeat (first | exact (Kd.zO HO105.out).2.2 | (with_reducible refine Kd.zS ?_ _) | (with_reducible refine Kd.zT ?_ _) | (with_reducible refine Kd.zah ?_))); (case side2 => exact (Kd.zO HO105.out).2.1); (case side3 => repeat (first | exact (Kd.zO HO108.out).2.2 | (with_reducible refine Kd.zS ?_ _) | (with_reducible refine Kd.zT ?_ _) | (with_reducible refine Kd.zah ?_))); (case side4 => exact (Kd.zO HO108.out).2.1); rintro e w15 ⟨rfl, hb⟩; refine ⟨_, rfl, ?_⟩; have n0_ := zb.mk (Kd.zaj (by (with_reducible repeat (first | apply Kd.zt | apply Kd.zq | apply Kd.zy)); exact HO105.out) hb); have n1_ := zb.mk (Kd.zaj (by (with_reducible repeat (first | apply Kd.zt | apply Kd.zq | apply Kd.zy)); exact HO108.out) hb); have n2_ := zb.mk (zK (g := gb109) (o := .cells #[.int .i64 t102, .slice Ao9 t103.length co9, .slice Ao10 t106.length co10] 47 (0, 0)) (by (with_reducible repeat (first | refine zl ?_ _ | refine zm ?_ | refine zk ?_ _)); exact BK109.out) hb); have n3_ := zb.mk (zw (by repeat (first | (with_reducible first | exact HB.out | apply zf | apply za | apply ze | refine zh ?_ GE109.out) | exact HB.out)) hb); clear HO105; clear HO108; clear BK109; clear HB; have HO105 := n0_; have HO108 := n1_; have BK109 := n2_; have HB := n3_; clear n0_ n1_ n2_ n3_; (try clear hb); (try clear hb2); (try clear hk); (try clear hi)))
        go_meet
        case rel => exact ⟨_, (true), (by first | rfl | (simp; done) | (simp [*]; done)), H', ⟨by first | omega | exact Nat.le_refl _⟩, ⟨by (with_reducible repeat (first | apply Kd.zt | apply Kd.zq | apply Kd.zy)); exact HO105.out⟩, ⟨by (with_reducible repeat (first | apply Kd.zt | apply Kd.zq | apply Kd.zy)); exact HO108.out⟩, ⟨by (with_reducible repeat (first | refine zl ?_ _ | refine zm ?_ | refine zk ?_ _)); exact BK109.out⟩, ⟨by repeat (first | (with_reducible first | exact HB.out | apply zf | apply za | apply ze | refine zh ?_ GE109.out) | exact HB.out)⟩⟩
      · rw [if_neg c13] at H; have c13b0 : (t110 != t111) = false := by simpa using c13
        (try (have c13b1 : decide (t110 = t111) = true := by simpa using c13))
        (try (have c13b2 : (t110 == t111) = true := by simpa using c13))
        clear c13; (first | rw [c13b0] | (simp only [i64_w, i32_w]; rw [c13b0]) | skip)
        by_cases c16 : t101 < 1
        · rw [if_pos c16] at H; have c16b0 : decide (t101 < 1) = true := decide_eq_true c16; clear c16; have H' := zb.mk H; clear H; have hcz17_0 : w11.cell? ⟨gb109, 0, none⟩ = some (.int .i64 t102) := (zi BK109.out 0).trans rfl; have hcz17_1 : w11.cell? ⟨gb109, 1, none⟩ = some (.slice Ao9 t103.length co9) := (zi BK109.out 1).trans rfl; have hcz17_2 : w11.cell? ⟨gb109, 2, none⟩ = some (.slice Ao10 t106.length co10) := (zi BK109.out 2).trans rfl; have hfz17_0 := zn BK109.out 0; have hfz17_1 := zn BK109.out 1; have hfz17_2 := zn BK109.out 2; go_wp2_with (first | ((with_reducible refine zz (f := 41) rfl ?_); refine zX (some 27) rfl rfl Try.func41 (by kernel_rfl) rfl #[.int .i64 t101, .agg #[.int .i64 t102, .slice Ao9 t103.length co9, .slice Ao10 t106.length co10]] rfl (by (try simp only [List.map_toArray, List.map_cons, List.map_nil]); first | done | rfl | (simp only [List.length_drop, List.length_take]; rfl)) ?_; (with_reducible refine (zP.calls k t101 t102 _ _ t103 _ _ t106 t111 _ ?side1 ?side2 ?side3 ?side4 A12.out).mono ?_); (case side1 => repeat (first | exact (Kd.zO HO105.out).2.2 | (with_reducible refine Kd.zS ?_ _) | (with_reducible refine Kd.zT ?_ _) | (with_reducible refine Kd.zah ?_))); (case side2 => exact (Kd.zO HO105.out).2.1); (case side3 => repeat (first | exact (Kd.zO HO108.out).2.2 | (with_reducible refine Kd.zS ?_ _) | (with_reducible refine Kd.zT ?_ _) | (with_reducible refine Kd.zah ?_))); (case side4 => exact (Kd.zO HO108.out).2.1); rintro e w18 ⟨rfl, hb⟩; refine ⟨_, rfl, ?_⟩; have n0_ := zb.mk (Kd.zaj (by (with_reducible repeat (first | apply Kd.zt | apply Kd.zq | apply Kd.zy)); exact HO105.out) hb); have n1_ := zb.mk (Kd.zaj (by (with_reducible repeat (first | apply Kd.zt | apply Kd.zq | apply Kd.zy)); exact HO108.out) hb); have n2_ := zb.mk (zK (g := gb109) (o := .cells #[.int .i64 t102, .slice Ao9 t103.length co9, .slice Ao10 t106.length co10] 47 (0, 0)) (by (with_reducible repeat (first | refine zl ?_ _ | refine zm ?_ | refine zk ?_ _)); exact BK109.out) hb); have n3_ := zb.mk (zw (by repeat (first | (with_reducible first | exact HB.out | apply zf | apply za | apply ze | refine zh ?_ GE109.out) | exact HB.out)) hb); clear HO105; clear HO108; clear BK109; clear HB; have HO105 := n0_; have HO108 := n1_; have BK109 := n2_; have HB := n3_; clear n0_ n1_ n2_ n3_; (try clear hb); (try clear hb2); (try clear hk); (try clear hi)))
          go_meet
          case rel => exact ⟨_, (true), (by first | rfl | (simp; done) | (simp [*]; done)), H', ⟨by first | omega | exact Nat.le_refl _⟩, ⟨by (with_reducible repeat (first | apply Kd.zt | apply Kd.zq | apply Kd.zy)); exact HO105.out⟩, ⟨by (with_reducible repeat (first | apply Kd.zt | apply Kd.zq | apply Kd.zy)); exact HO108.out⟩, ⟨by (with_reducible repeat (first | refine zl ?_ _ | refine zm ?_ | refine zk ?_ _)); exact BK109.out⟩, ⟨by repeat (first | (with_reducible first | exact HB.out | apply zf | apply za | apply ze | refine zh ?_ GE109.out) | exact HB.out)⟩⟩
        · rw [if_neg c16] at H; have c16b0 : decide (t101 < 1) = false := decide_eq_false c16; clear c16; have H' := zb.mk H; clear H; have hcz19_0 : w11.cell? ⟨gb109, 0, none⟩ = some (.int .i64 t102) := (zi BK109.out 0).trans rfl; have hcz19_1 : w11.cell? ⟨gb109, 1, none⟩ = some (.slice Ao9 t103.length co9) := (zi BK109.out 1).trans rfl; have hcz19_2 : w11.cell? ⟨gb109, 2, none⟩ = some (.slice Ao10 t106.length co10) := (zi BK109.out 2).trans rfl; have hfz19_0 := zn BK109.out 0; have hfz19_1 := zn BK109.out 1; have hfz19_2 := zn BK109.out 2; go_wp2_with (first | ((with_reducible refine zz (f := 41) rfl ?_); refine zX (some 27) rfl rfl Try.func41 (by kernel_rfl) rfl #[.int .i64 t101, .agg #[.int .i64 t102, .slice Ao9 t103.length co9, .slice Ao10 t106.length co10]] rfl (by (try simp only [List.map_toArray, List.map_cons, List.map_nil]); first | done | rfl | (simp only [List.length_drop, List.length_take]; rfl)) ?_; (with_reducible refine (zP.calls k t101 t102 _ _ t103 _ _ t106 t111 _ ?side1 ?side2 ?side3 ?side4 A12.out).mono ?_); (case side1 => repeat (first | exact (Kd.zO HO105.out).2.2 | (with_reducible refine Kd.zS ?_ _) | (with_reducible refine Kd.zT ?_ _) | (with_reducible refine Kd.zah ?_))); (case side2 => exact (Kd.zO HO105.out).2.1); (case side3 => repeat (first | exact (Kd.zO HO108.out).2.2 | (with_reducible refine Kd.zS ?_ _) | (with_reducible refine Kd.zT ?_ _) | (with_reducible refine Kd.zah ?_))); (case side4 => exact (Kd.zO HO108.out).2.1); rintro e w20 ⟨rfl, hb⟩; refine ⟨_, rfl, ?_⟩; have n0_ := zb.mk (Kd.zaj (by (with_reducible repeat (first | apply Kd.zt | apply Kd.zq | apply Kd.zy)); exact HO105.out) hb); have n1_ := zb.mk (Kd.zaj (by (with_reducible repeat (first | apply Kd.zt | apply Kd.zq | apply Kd.zy)); exact HO108.out) hb); have n2_ := zb.mk (zK (g := gb109) (o := .cells #[.int .i64 t102, .slice Ao9 t103.length co9, .slice Ao10 t106.length co10] 47 (0, 0)) (by (with_reducible repeat (first | refine zl ?_ _ | refine zm ?_ | refine zk ?_ _)); exact BK109.out) hb); have n3_ := zb.mk (zw (by repeat (first | (with_reducible first | exact HB.out | apply zf | apply za | apply ze | refine zh ?_ GE109.out) | exact HB.out)) hb); clear HO105; clear HO108; clear BK109; clear HB; have HO105 := n0_; have HO108 := n1_; have BK109 := n2_; have HB := n3_; clear n0_ n1_ n2_ n3_; (try clear hb); (try clear hb2); (try clear hk); (try clear hi)))
          go_meet
          case rel => exact ⟨_, (decide (t101 > 2)), (by first | rfl | (simp; done) | (simp [*]; done)), H', ⟨by first | omega | exact Nat.le_refl _⟩, ⟨by (with_reducible repeat (first | apply Kd.zt | apply Kd.zq | apply Kd.zy)); exact HO105.out⟩, ⟨by (with_reducible repeat (first | apply Kd.zt | apply Kd.zq | apply Kd.zy)); exact HO108.out⟩, ⟨by (with_reducible repeat (first | refine zl ?_ _ | refine zm ?_ | refine zk ?_ _)); exact BK109.out⟩, ⟨by repeat (first | (with_reducible first | exact HB.out | apply zf | apply za | apply ze | refine zh ?_ GE109.out) | exact HB.out)⟩⟩
    case rest =>
      clear HC5
      try clear c1
      try clear c2
      try clear c2b0
      try clear c2b1
      try clear p2
      try clear c3
      try clear c4
      try clear c11
      try clear c13
      try clear c13b0
      try clear c13b1
      try clear c13b2
      try clear c16
      try clear c16b0
      try clear hcz14_0
      try clear hcz14_1
      try clear hcz14_2
      try clear hcz17_0
      try clear hcz17_1
      try clear hcz17_2
      try clear hcz19_0
      try clear hcz19_1
      try clear hcz19_2
      try clear hcz8_0
      try clear hcz8_1
      try clear hcz8_2
      try clear hfz14_0
      try clear hfz14_1
      try clear hfz14_2
      try clear hfz17_0
      try clear hfz17_1
      try clear hfz17_2
      try clear hfz19_0
      try clear hfz19_1
      try clear hfz19_2
      try clear hfz8_0
      try clear hfz8_1
      try clear hfz8_2
      obtain ⟨kq, x36_4, rfl, HA, HJ4, HO_110001, HO_110002, BK109, HB⟩ := hcut; cases kq with
      | zero => exact absurd HA.out (by simp [zJ.j0])
      | succ kj4 =>
        have H := HA.out; clear HA; simp only [zJ.j0] at H
        by_cases c21 : x36_4 = true
        · subst c21; have H1 : ((zP.f kj4 t101 t102 t103 t106).bind fun t112 => (some (t110 == t112))) = some r := by rw [if_pos rfl] at H; exact H
          clear H; have H := H1; clear H1; replace H := Option.bind_eq_some_iff.mp H; obtain ⟨t112, A220, H⟩ := H; replace H : (some (t110 == t112)) = some r := H; have A22 := zb.mk A220; clear A220; obtain rfl := Option.some.inj H; have hcz23_0 : wc.cell? ⟨gb109, 0, none⟩ = some (.int .i64 t102) := (zi BK109.out 0).trans rfl; have hcz23_1 : wc.cell? ⟨gb109, 1, none⟩ = some (.slice Ao9 t103.length co9) := (zi BK109.out 1).trans rfl; have hcz23_2 : wc.cell? ⟨gb109, 2, none⟩ = some (.slice Ao10 t106.length co10) := (zi BK109.out 2).trans rfl; have hfz23_0 := zn BK109.out 0; have hfz23_1 := zn BK109.out 1; have hfz23_2 := zn BK109.out 2; go_wp2_with (first | ((with_reducible refine zz (f := 41) rfl ?_); refine zX (some 40) rfl rfl Try.func41 (by kernel_rfl) rfl #[.int .i64 t101, .agg #[.int .i64 t102, .slice Ao9 t103.length co9, .slice Ao10 t106.length co10]] rfl (by (try simp only [List.map_toArray, List.map_cons, List.map_nil]); first | done | rfl | (simp only [List.length_drop, List.length_take]; rfl)) ?_; (with_reducible refine (zP.calls kj4 t101 t102 _ _ t103 _ _ t106 t112 _ ?side1 ?side2 ?side3 ?side4 A22.out).mono ?_); (case side1 => repeat (first | exact (Kd.zO HO_110001.out).2.2 | (with_reducible refine Kd.zS ?_ _) | (with_reducible refine Kd.zT ?_ _) | (with_reducible refine Kd.zah ?_))); (case side2 => exact (Kd.zO HO_110001.out).2.1); (case side3 => repeat (first | exact (Kd.zO HO_110002.out).2.2 | (with_reducible refine Kd.zS ?_ _) | (with_reducible refine Kd.zT ?_ _) | (with_reducible refine Kd.zah ?_))); (case side4 => exact (Kd.zO HO_110002.out).2.1); rintro e w24 ⟨rfl, hb⟩; refine ⟨_, rfl, ?_⟩; have n0_ := zb.mk (Kd.zaj (by (with_reducible repeat (first | apply Kd.zt | apply Kd.zq | apply Kd.zy)); exact HO_110001.out) hb); have n1_ := zb.mk (Kd.zaj (by (with_reducible repeat (first | apply Kd.zt | apply Kd.zq | apply Kd.zy)); exact HO_110002.out) hb); have n2_ := zb.mk (zK (g := gb109) (o := .cells #[.int .i64 t102, .slice Ao9 t103.length co9, .slice Ao10 t106.length co10] 47 (0, 0)) (by (with_reducible repeat (first | refine zl ?_ _ | refine zm ?_ | refine zk ?_ _)); exact BK109.out) hb); have n3_ := zb.mk (zw (by repeat (first | (with_reducible first | exact HB.out | apply zf | apply za | apply ze | refine zh ?_ GE109.out) | exact HB.out)) hb); clear HO_110001; clear HO_110002; clear BK109; clear HB; have HO_110001 := n0_; have HO_110002 := n1_; have BK109 := n2_; have HB := n3_; clear n0_ n1_ n2_ n3_; (try clear hb); (try clear hb2); (try clear hk); (try clear hi))); go_ret; exact ⟨by first | rfl | (simp [zA, zB] <;> rfl) | (simp [*, zA, zB] <;> rfl), by repeat (first | (with_reducible first | exact HB.out | apply zf | apply za | apply ze | refine zh ?_ GE109.out) | exact HB.out)⟩
        · replace c21 := Bool.eq_false_iff.mpr c21; subst c21; have H1 : (zJ.l0 kj4 t101 t110 true 0 t102 t103 t106) = some r := by rw [if_neg (show ¬ (false = true) by decide)] at H; exact H
          clear H; have H := H1; clear H1; have H' := zb.mk H; clear H; go_wp2
          go_loopg [6, 7] kj4 (fun kq v6 v7 w' => ∃ (x6_2 : Bool) (x7_2 : Int), v6 = .bool x6_2 ∧ v7 = .int .i64 x7_2 ∧ zb (zJ.l0 kq t101 t110 x6_2 x7_2 t102 t103 t106 = some r) ∧ zb (kq ≤ kj4) ∧ zb (Kd.R (Kd.int .i64) 3 w' w.heap.size (fun k_ => some k_ ≠ ((.slice Ao10 t106.length co10) : Value).ownBlock) (.slice Ao9 t103.length co9) t103) ∧ zb (Kd.R (Kd.int .i64) 3 w' w.heap.size (fun k_ => some k_ ≠ ((.slice Ao9 t103.length co9) : Value).ownBlock) (.slice Ao10 t106.length co10) t106) ∧ zb (w'.heap[gb109]? = some (.cells #[.int .i64 t102, (.slice Ao9 t103.length co9), (.slice Ao10 t106.length co10)] 47 (0, 0))) ∧ zb (Below w.heap.size w w'))
          case atStart => exact ⟨(true), (0), (by first | rfl | (simp; done) | (simp [*]; done)), (by first | rfl | (simp; done) | (simp [*]; done)), H', ⟨Nat.le_refl _⟩, ⟨by (with_reducible repeat (first | apply Kd.zt | apply Kd.zq | apply Kd.zy)); exact HO_110001.out⟩, ⟨by (with_reducible repeat (first | apply Kd.zt | apply Kd.zq | apply Kd.zy)); exact HO_110002.out⟩, ⟨by (with_reducible repeat (first | refine zl ?_ _ | refine zm ?_ | refine zk ?_ _)); exact BK109.out⟩, ⟨by repeat (first | (with_reducible first | exact HB.out | apply zf | apply za | apply ze | refine zh ?_ GE109.out) | exact HB.out)⟩⟩
          case round =>
            clear H'
            try clear c1
            try clear c2
            try clear c2b0
            try clear c2b1
            try clear p2
            try clear c3
            try clear c4
            try clear c11
            try clear c13
            try clear c13b0
            try clear c13b1
            try clear c13b2
            try clear c16
            try clear c16b0
            try clear c21
            try clear hcz14_0
            try clear hcz14_1
            try clear hcz14_2
            try clear hcz17_0
            try clear hcz17_1
            try clear hcz17_2
            try clear hcz19_0
            try clear hcz19_1
            try clear hcz19_2
            try clear hcz23_0
            try clear hcz23_1
            try clear hcz23_2
            try clear hcz8_0
            try clear hcz8_1
            try clear hcz8_2
            try clear hfz14_0
            try clear hfz14_1
            try clear hfz14_2
            try clear hfz17_0
            try clear hfz17_1
            try clear hfz17_2
            try clear hfz19_0
            try clear hfz19_1
            try clear hfz19_2
            try clear hfz23_0
            try clear hfz23_1
            try clear hfz23_2
            try clear hfz8_0
            try clear hfz8_1
            try clear hfz8_2
            try clear p2
            obtain ⟨x6_2, x7_2, rfl, rfl, HA, HK2, HO_110001, HO_110002, BK109, HB⟩ := hrel; cases gk with
            | zero => exact absurd HA.out (by simp [zJ.l0])
            | succ k2 =>
              have H := HA.out; clear HA; simp only [zJ.l0] at H
              by_cases c25 : x7_2 < 4
              · rw [if_pos c25] at H; have c25b0 : decide (x7_2 < 4) = true := decide_eq_true c25; clear c25; replace H := Option.bind_eq_some_iff.mp H; obtain ⟨⟨t113, t114⟩, A260, H⟩ := H; replace H : ((zbo.f t101 t113).bind fun t117 => ((zbJ.f k2 t102 t103 t106 t117).bind fun bt120 => (if bt120.2 = true then (if x6_2 = true then (if 0 ≤ t102 then (if t102 < (t117.length : Int) then (zJ.l0 k2 t101 t110 (bt120.1 == (rd t117 t102)) (wrap64 (x7_2 + 1)) t102 t103 t106) else (none)) else (none)) else (zJ.l0 k2 t101 t110 false (wrap64 (x7_2 + 1)) t102 t103 t106)) else (some (!t110))))) = some r := H; have A26 := zb.mk A260; clear A260; replace H := Option.bind_eq_some_iff.mp H; obtain ⟨t117, A270, H⟩ := H; replace H : ((zbJ.f k2 t102 t103 t106 t117).bind fun bt120 => (if bt120.2 = true then (if x6_2 = true then (if 0 ≤ t102 then (if t102 < (t117.length : Int) then (zJ.l0 k2 t101 t110 (bt120.1 == (rd t117 t102)) (wrap64 (x7_2 + 1)) t102 t103 t106) else (none)) else (none)) else (zJ.l0 k2 t101 t110 false (wrap64 (x7_2 + 1)) t102 t103 t106)) else (some (!t110)))) = some r := H; have A27 := zb.mk A270; clear A270; replace H := Option.bind_eq_some_iff.mp H; obtain ⟨⟨t120, t121⟩, A280, H⟩ := H; replace H : (if t121 = true then (if x6_2 = true then (if 0 ≤ t102 then (if t102 < (t117.length : Int) then (zJ.l0 k2 t101 t110 (t120 == (rd t117 t102)) (wrap64 (x7_2 + 1)) t102 t103 t106) else (none)) else (none)) else (zJ.l0 k2 t101 t110 false (wrap64 (x7_2 + 1)) t102 t103 t106)) else (some (!t110))) = some r := H; have A28 := zb.mk A280; clear A280
                by_cases c29 : t121 = true
                · subst c29; have H1 : (if x6_2 = true then (if 0 ≤ t102 then (if t102 < (t117.length : Int) then (zJ.l0 k2 t101 t110 (t120 == (rd t117 t102)) (wrap64 (x7_2 + 1)) t102 t103 t106) else (none)) else (none)) else (zJ.l0 k2 t101 t110 false (wrap64 (x7_2 + 1)) t102 t103 t106)) = some r := by rw [if_pos rfl] at H; exact H
                  clear H; have H := H1; clear H1
                  by_cases c30 : x6_2 = true
                  · subst c30; have H1 : (if 0 ≤ t102 then (if t102 < (t117.length : Int) then (zJ.l0 k2 t101 t110 (t120 == (rd t117 t102)) (wrap64 (x7_2 + 1)) t102 t103 t106) else (none)) else (none)) = some r := by rw [if_pos rfl] at H; exact H
                    clear H; have H := H1; clear H1
                    by_cases c31 : 0 ≤ t102
                    · rw [if_pos c31] at H; have c31b0 : decide (0 ≤ t102) = true := decide_eq_true c31; clear c31
                      by_cases c32 : t102 < (t117.length : Int)
                      · rw [if_pos c32] at H; have c32b0 : decide (t102 < (t117.length : Int)) = true := decide_eq_true c32; clear c32; have H' := zb.mk H; clear H; go_wp2_with (first | ((with_reducible refine zz (f := 43) rfl ?_); refine zX (some 48) rfl rfl Try.func43 (by kernel_rfl) rfl #[.int .i64 x7_2] rfl (by (try simp only [List.map_toArray, List.map_cons, List.map_nil]); first | done | rfl | (simp only [List.length_drop, List.length_take]; rfl)) ?_; (with_reducible refine (zbP.calls x7_2 t113 t114 _ A26.out).mono ?_); rintro e w33 ⟨v115, rfl, ho0, hb⟩; refine ⟨_, rfl, ?_⟩; have n0_ := zb.mk (Kd.zat (by (with_reducible repeat (first | apply Kd.zt | apply Kd.zq | apply Kd.zy)); exact HO_110001.out) (Kd.zaw ho0) hb); have n1_ := zb.mk (Kd.zat (by (with_reducible repeat (first | apply Kd.zt | apply Kd.zq | apply Kd.zy)); exact HO_110002.out) (Kd.zaw ho0) hb); have n2_ := zb.mk (Kd.zaa (Kd.zaQ (Kd.zaQ ho0 (Kd.R_lt (by (with_reducible repeat (first | apply Kd.zt | apply Kd.zq | apply Kd.zy)); exact HO_110001.out))) (Kd.R_lt (by (with_reducible repeat (first | apply Kd.zt | apply Kd.zq | apply Kd.zy)); exact HO_110002.out))) (zo (by repeat (first | (with_reducible first | exact HB.out | apply zf | apply za | apply ze | refine zh ?_ GE109.out) | exact HB.out)))); have n3_ := zb.mk (zK (g := gb109) (o := .cells #[.int .i64 t102, .slice Ao9 t103.length co9, .slice Ao10 t106.length co10] 47 (0, 0)) (by (with_reducible repeat (first | refine zl ?_ _ | refine zm ?_ | refine zk ?_ _)); exact BK109.out) hb); have n4_ := zb.mk (zw (by repeat (first | (with_reducible first | exact HB.out | apply zf | apply za | apply ze | refine zh ?_ GE109.out) | exact HB.out)) hb); clear HO_110001; clear HO_110002; clear BK109; clear HB; have HO_110001 := n0_; have HO_110002 := n1_; have HO116 := n2_; have BK109 := n3_; have HB := n4_; clear n0_ n1_ n2_ n3_ n4_; (try clear hb); (try clear hb2); (try clear hk); (try clear hi); (try clear ho0); obtain ⟨Ao34, co34, eo34⟩ := Kd.zae HO116.out; subst eo34) | ((with_reducible refine zz (f := 42) rfl ?_); refine zX (some 53) rfl rfl Try.func42 (by kernel_rfl) rfl #[.int .i64 t101, .slice Ao34 t113.length co34] rfl (by (try simp only [List.map_toArray, List.map_cons, List.map_nil]); first | done | rfl | (simp only [List.length_drop, List.length_take]; rfl)) ?_; (with_reducible refine (zbo.calls t101 _ _ t113 t117 _ ?side1 ?side2 A27.out).mono ?_); (case side1 => repeat (first | exact (Kd.zO HO116.out).2.2 | (with_reducible refine Kd.zS ?_ _) | (with_reducible refine Kd.zT ?_ _) | (with_reducible refine Kd.zah ?_))); (case side2 => exact (Kd.zO HO116.out).2.1); rintro e w35 ⟨v118, rfl, ho0, hb⟩; refine ⟨_, rfl, ?_⟩; have n0_ := zb.mk (Kd.zat (by (with_reducible repeat (first | apply Kd.zt | apply Kd.zq | apply Kd.zy)); exact HO_110001.out) (Kd.zaw ho0) hb); have n1_ := zb.mk (Kd.zat (by (with_reducible repeat (first | apply Kd.zt | apply Kd.zq | apply Kd.zy)); exact HO_110002.out) (Kd.zaw ho0) hb); have n2_ := zb.mk (Kd.zat (by (with_reducible repeat (first | apply Kd.zt | apply Kd.zq | apply Kd.zy)); exact HO116.out) (Kd.zaw ho0) hb); have n3_ := zb.mk (Kd.zaa (Kd.zaQ (Kd.zaQ (Kd.zaQ ho0 (Kd.R_lt (by (with_reducible repeat (first | apply Kd.zt | apply Kd.zq | apply Kd.zy)); exact HO_110001.out))) (Kd.R_lt (by (with_reducible repeat (first | apply Kd.zt | apply Kd.zq | apply Kd.zy)); exact HO_110002.out))) (Kd.R_lt (by (with_reducible repeat (first | apply Kd.zt | apply Kd.zq | apply Kd.zy)); exact HO116.out))) (zo (by repeat (first | (with_reducible first | exact HB.out | apply zf | apply za | apply ze | refine zh ?_ GE109.out) | exact HB.out)))); have n4_ := zb.mk (zK (g := gb109) (o := .cells #[.int .i64 t102, .slice Ao9 t103.length co9, .slice Ao10 t106.length co10] 47 (0, 0)) (by (with_reducible repeat (first | refine zl ?_ _ | refine zm ?_ | refine zk ?_ _)); exact BK109.out) hb); have n5_ := zb.mk (zw (by repeat (first | (with_reducible first | exact HB.out | apply zf | apply za | apply ze | refine zh ?_ GE109.out) | exact HB.out)) hb); clear HO_110001; clear HO_110002; clear HO116; clear BK109; clear HB; have HO_110001 := n0_; have HO_110002 := n1_; have HO116 := n2_; have HO119 := n3_; have BK109 := n4_; have HB := n5_; clear n0_ n1_ n2_ n3_ n4_ n5_; (try clear hb); (try clear hb2); (try clear hk); (try clear hi); (try clear ho0); have hcz36_0 : w35.cell? ⟨gb109, 0, none⟩ = some (.int .i64 t102) := (zi BK109.out 0).trans rfl; have hcz36_1 : w35.cell? ⟨gb109, 1, none⟩ = some (.slice Ao9 t103.length co9) := (zi BK109.out 1).trans rfl; have hcz36_2 : w35.cell? ⟨gb109, 2, none⟩ = some (.slice Ao10 t106.length co10) := (zi BK109.out 2).trans rfl; have hfz36_0 := zn BK109.out 0; have hfz36_1 := zn BK109.out 1; have hfz36_2 := zn BK109.out 2; obtain ⟨Ao37, co37, eo37⟩ := Kd.zae HO119.out; subst eo37) | ((with_reducible refine zz (f := 30) rfl ?_); refine zX (some 57) rfl rfl Try.func30 (by kernel_rfl) rfl #[.agg #[.int .i64 t102, .slice Ao9 t103.length co9, .slice Ao10 t106.length co10], .slice Ao37 t117.length co37] rfl (by (try simp only [List.map_toArray, List.map_cons, List.map_nil]); first | done | rfl | (simp only [List.length_drop, List.length_take]; rfl)) ?_; (with_reducible refine (zbJ.calls k2 t102 _ _ t103 _ _ t106 _ _ t117 t120 true _ ?side1 ?side2 ?side3 ?side4 ?side5 ?side6 A28.out).mono ?_); (case side1 => repeat (first | exact (Kd.zO HO_110001.out).2.2 | (with_reducible refine Kd.zS ?_ _) | (with_reducible refine Kd.zT ?_ _) | (with_reducible refine Kd.zah ?_))); (case side2 => exact (Kd.zO HO_110001.out).2.1); (case side3 => repeat (first | exact (Kd.zO HO_110002.out).2.2 | (with_reducible refine Kd.zS ?_ _) | (with_reducible refine Kd.zT ?_ _) | (with_reducible refine Kd.zah ?_))); (case side4 => exact (Kd.zO HO_110002.out).2.1); (case side5 => repeat (first | exact (Kd.zO HO119.out).2.2 | (with_reducible refine Kd.zS ?_ _) | (with_reducible refine Kd.zT ?_ _) | (with_reducible refine Kd.zah ?_))); (case side6 => exact (Kd.zO HO119.out).2.1); rintro e w38 ⟨rfl, hb⟩; refine ⟨_, rfl, ?_⟩; have n0_ := zb.mk (Kd.zaj (by (with_reducible repeat (first | apply Kd.zt | apply Kd.zq | apply Kd.zy)); exact HO_110001.out) hb); have n1_ := zb.mk (Kd.zaj (by (with_reducible repeat (first | apply Kd.zt | apply Kd.zq | apply Kd.zy)); exact HO_110002.out) hb); have n2_ := zb.mk (Kd.zaj (by (with_reducible repeat (first | apply Kd.zt | apply Kd.zq | apply Kd.zy)); exact HO116.out) hb); have n3_ := zb.mk (Kd.zaj (by (with_reducible repeat (first | apply Kd.zt | apply Kd.zq | apply Kd.zy)); exact HO119.out) hb); have n4_ := zb.mk (zK (g := gb109) (o := .cells #[.int .i64 t102, .slice Ao9 t103.length co9, .slice Ao10 t106.length co10] 47 (0, 0)) (by (with_reducible repeat (first | refine zl ?_ _ | refine zm ?_ | refine zk ?_ _)); exact BK109.out) hb); have n5_ := zb.mk (zw (by repeat (first | (with_reducible first | exact HB.out | apply zf | apply za | apply ze | refine zh ?_ GE109.out) | exact HB.out)) hb); clear HO_110001; clear HO_110002; clear HO116; clear HO119; clear BK109; clear HB; have HO_110001 := n0_; have HO_110002 := n1_; have HO116 := n2_; have HO119 := n3_; have BK109 := n4_; have HB := n5_; clear n0_ n1_ n2_ n3_ n4_ n5_; (try clear hb); (try clear hb2); (try clear hk); (try clear hi); have hcz39_0 : w38.cell? ⟨gb109, 0, none⟩ = some (.int .i64 t102) := (zi BK109.out 0).trans rfl; have hcz39_1 : w38.cell? ⟨gb109, 1, none⟩ = some (.slice Ao9 t103.length co9) := (zi BK109.out 1).trans rfl; have hcz39_2 : w38.cell? ⟨gb109, 2, none⟩ = some (.slice Ao10 t106.length co10) := (zi BK109.out 2).trans rfl; have hfz39_0 := zn BK109.out 0; have hfz39_1 := zn BK109.out 1; have hfz39_2 := zn BK109.out 2; have p122 : 0 ≤ (t102 : Int) := of_decide_eq_true (by first | (with_reducible assumption) | assumption); have q122 : t102 < (t117.length : Int) := of_decide_eq_true (by first | (with_reducible assumption) | assumption); obtain ⟨ad122, e122, hx122_0⟩ := Kd.zaR (Kd.zO HO119.out).2.2 t102 p122 q122; cases e122; replace p122 := eq_true p122; replace q122 := eq_true q122))
                        go_roundg k2
                        case measure => have := HJ4.out; have := HK2.out; omega
                        case rel => exact ⟨((t120 == (rd t117 t102))), (wrap64 (x7_2 + 1)), (by first | rfl | (simp; done) | (simp [*]; done)), (by first | rfl | (simp; done) | (simp [*]; done)), H', ⟨by have := HJ4.out; have := HK2.out; omega⟩, ⟨by (with_reducible repeat (first | apply Kd.zt | apply Kd.zq | apply Kd.zy)); exact Kd.zZ HO_110001.out (fun _ hk => hk.1.1)⟩, ⟨by (with_reducible repeat (first | apply Kd.zt | apply Kd.zq | apply Kd.zy)); exact Kd.zZ HO_110002.out (fun _ hk => hk.1.1)⟩, ⟨by (with_reducible repeat (first | refine zl ?_ _ | refine zm ?_ | refine zk ?_ _)); exact BK109.out⟩, ⟨by repeat (first | (with_reducible first | exact HB.out | apply zf | apply za | apply ze | refine zh ?_ GE109.out) | exact HB.out)⟩⟩
                      · rw [if_neg c32] at H; exact absurd H (by simp)
                    · rw [if_neg c31] at H; exact absurd H (by simp)
                  · replace c30 := Bool.eq_false_iff.mpr c30; subst c30; have H1 : (zJ.l0 k2 t101 t110 false (wrap64 (x7_2 + 1)) t102 t103 t106) = some r := by rw [if_neg (show ¬ (false = true) by decide)] at H; exact H
                    clear H; have H := H1; clear H1; have H' := zb.mk H; clear H; go_wp2_with (first | ((with_reducible refine zz (f := 43) rfl ?_); refine zX (some 48) rfl rfl Try.func43 (by kernel_rfl) rfl #[.int .i64 x7_2] rfl (by (try simp only [List.map_toArray, List.map_cons, List.map_nil]); first | done | rfl | (simp only [List.length_drop, List.length_take]; rfl)) ?_; (with_reducible refine (zbP.calls x7_2 t113 t114 _ A26.out).mono ?_); rintro e w40 ⟨v115, rfl, ho0, hb⟩; refine ⟨_, rfl, ?_⟩; have n0_ := zb.mk (Kd.zat (by (with_reducible repeat (first | apply Kd.zt | apply Kd.zq | apply Kd.zy)); exact HO_110001.out) (Kd.zaw ho0) hb); have n1_ := zb.mk (Kd.zat (by (with_reducible repeat (first | apply Kd.zt | apply Kd.zq | apply Kd.zy)); exact HO_110002.out) (Kd.zaw ho0) hb); have n2_ := zb.mk (Kd.zaa (Kd.zaQ (Kd.zaQ ho0 (Kd.R_lt (by (with_reducible repeat (first | apply Kd.zt | apply Kd.zq | apply Kd.zy)); exact HO_110001.out))) (Kd.R_lt (by (with_reducible repeat (first | apply Kd.zt | apply Kd.zq | apply Kd.zy)); exact HO_110002.out))) (zo (by repeat (first | (with_reducible first | exact HB.out | apply zf | apply za | apply ze | refine zh ?_ GE109.out) | exact HB.out)))); have n3_ := zb.mk (zK (g := gb109) (o := .cells #[.int .i64 t102, .slice Ao9 t103.length co9, .slice Ao10 t106.length co10] 47 (0, 0)) (by (with_reducible repeat (first | refine zl ?_ _ | refine zm ?_ | refine zk ?_ _)); exact BK109.out) hb); have n4_ := zb.mk (zw (by repeat (first | (with_reducible first | exact HB.out | apply zf | apply za | apply ze | refine zh ?_ GE109.out) | exact HB.out)) hb); clear HO_110001; clear HO_110002; clear BK109; clear HB; have HO_110001 := n0_; have HO_110002 := n1_; have HO116 := n2_; have BK109 := n3_; have HB := n4_; clear n0_ n1_ n2_ n3_ n4_; (try clear hb); (try clear hb2); (try clear hk); (try clear hi); (try clear ho0); obtain ⟨Ao41, co41, eo41⟩ := Kd.zae HO116.out; subst eo41) | ((with_reducible refine zz (f := 42) rfl ?_); refine zX (some 53) rfl rfl Try.func42 (by kernel_rfl) rfl #[.int .i64 t101, .slice Ao41 t113.length co41] rfl (by (try simp only [List.map_toArray, List.map_cons, List.map_nil]); first | done | rfl | (simp only [List.length_drop, List.length_take]; rfl)) ?_; (with_reducible refine (zbo.calls t101 _ _ t113 t117 _ ?side1 ?side2 A27.out).mono ?_); (case side1 => repeat (first | exact (Kd.zO HO116.out).2.2 | (with_reducible refine Kd.zS ?_ _) | (with_reducible refine Kd.zT ?_ _) | (with_reducible refine Kd.zah ?_))); (case side2 => exact (Kd.zO HO116.out).2.1); rintro e w42 ⟨v118, rfl, ho0, hb⟩; refine ⟨_, rfl, ?_⟩; have n0_ := zb.mk (Kd.zat (by (with_reducible repeat (first | apply Kd.zt | apply Kd.zq | apply Kd.zy)); exact HO_110001.out) (Kd.zaw ho0) hb); have n1_ := zb.mk (Kd.zat (by (with_reducible repeat (first | apply Kd.zt | apply Kd.zq | apply Kd.zy)); exact HO_110002.out) (Kd.zaw ho0) hb); have n2_ := zb.mk (Kd.zat (by (with_reducible repeat (first | apply Kd.zt | apply Kd.zq | apply Kd.zy)); exact HO116.out) (Kd.zaw ho0) hb); have n3_ := zb.mk (Kd.zaa (Kd.zaQ (Kd.zaQ (Kd.zaQ ho0 (Kd.R_lt (by (with_reducible repeat (first | apply Kd.zt | apply Kd.zq | apply Kd.zy)); exact HO_110001.out))) (Kd.R_lt (by (with_reducible repeat (first | apply Kd.zt | apply Kd.zq | apply Kd.zy)); exact HO_110002.out))) (Kd.R_lt (by (with_reducible repeat (first | apply Kd.zt | apply Kd.zq | apply Kd.zy)); exact HO116.out))) (zo (by repeat (first | (with_reducible first | exact HB.out | apply zf | apply za | apply ze | refine zh ?_ GE109.out) | exact HB.out)))); have n4_ := zb.mk (zK (g := gb109) (o := .cells #[.int .i64 t102, .slice Ao9 t103.length co9, .slice Ao10 t106.length co10] 47 (0, 0)) (by (with_reducible repeat (first | refine zl ?_ _ | refine zm ?_ | refine zk ?_ _)); exact BK109.out) hb); have n5_ := zb.mk (zw (by repeat (first | (with_reducible first | exact HB.out | apply zf | apply za | apply ze | refine zh ?_ GE109.out) | exact HB.out)) hb); clear HO_110001; clear HO_110002; clear HO116; clear BK109; clear HB; have HO_110001 := n0_; have HO_110002 := n1_; have HO116 := n2_; have HO119 := n3_; have BK109 := n4_; have HB := n5_; clear n0_ n1_ n2_ n3_ n4_ n5_; (try clear hb); (try clear hb2); (try clear hk); (try clear hi); (try clear ho0); have hcz43_0 : w42.cell? ⟨gb109, 0, none⟩ = some (.int .i64 t102) := (zi BK109.out 0).trans rfl; have hcz43_1 : w42.cell? ⟨gb109, 1, none⟩ = some (.slice Ao9 t103.length co9) := (zi BK109.out 1).trans rfl; have hcz43_2 : w42.cell? ⟨gb109, 2, none⟩ = some (.slice Ao10 t106.length co10) := (zi BK109.out 2).trans rfl; have hfz43_0 := zn BK109.out 0; have hfz43_1 := zn BK109.out 1; have hfz43_2 := zn BK109.out 2; obtain ⟨Ao44, co44, eo44⟩ := Kd.zae HO119.out; subst eo44) | ((with_reducible refine zz (f := 30) rfl ?_); refine zX (some 57) rfl rfl Try.func30 (by kernel_rfl) rfl #[.agg #[.int .i64 t102, .slice Ao9 t103.length co9, .slice Ao10 t106.length co10], .slice Ao44 t117.length co44] rfl (by (try simp only [List.map_toArray, List.map_cons, List.map_nil]); first | done | rfl | (simp only [List.length_drop, List.length_take]; rfl)) ?_; (with_reducible refine (zbJ.calls k2 t102 _ _ t103 _ _ t106 _ _ t117 t120 true _ ?side1 ?side2 ?side3 ?side4 ?side5 ?side6 A28.out).mono ?_); (case side1 => repeat (first | exact (Kd.zO HO_110001.out).2.2 | (with_reducible refine Kd.zS ?_ _) | (with_reducible refine Kd.zT ?_ _) | (with_reducible refine Kd.zah ?_))); (case side2 => exact (Kd.zO HO_110001.out).2.1); (case side3 => repeat (first | exact (Kd.zO HO_110002.out).2.2 | (with_reducible refine Kd.zS ?_ _) | (with_reducible refine Kd.zT ?_ _) | (with_reducible refine Kd.zah ?_))); (case side4 => exact (Kd.zO HO_110002.out).2.1); (case side5 => repeat (first | exact (Kd.zO HO119.out).2.2 | (with_reducible refine Kd.zS ?_ _) | (with_reducible refine Kd.zT ?_ _) | (with_reducible refine Kd.zah ?_))); (case side6 => exact (Kd.zO HO119.out).2.1); rintro e w45 ⟨rfl, hb⟩; refine ⟨_, rfl, ?_⟩; have n0_ := zb.mk (Kd.zaj (by (with_reducible repeat (first | apply Kd.zt | apply Kd.zq | apply Kd.zy)); exact HO_110001.out) hb); have n1_ := zb.mk (Kd.zaj (by (with_reducible repeat (first | apply Kd.zt | apply Kd.zq | apply Kd.zy)); exact HO_110002.out) hb); have n2_ := zb.mk (Kd.zaj (by (with_reducible repeat (first | apply Kd.zt | apply Kd.zq | apply Kd.zy)); exact HO116.out) hb); have n3_ := zb.mk (Kd.zaj (by (with_reducible repeat (first | apply Kd.zt | apply Kd.zq | apply Kd.zy)); exact HO119.out) hb); have n4_ := zb.mk (zK (g := gb109) (o := .cells #[.int .i64 t102, .slice Ao9 t103.length co9, .slice Ao10 t106.length co10] 47 (0, 0)) (by (with_reducible repeat (first | refine zl ?_ _ | refine zm ?_ | refine zk ?_ _)); exact BK109.out) hb); have n5_ := zb.mk (zw (by repeat (first | (with_reducible first | exact HB.out | apply zf | apply za | apply ze | refine zh ?_ GE109.out) | exact HB.out)) hb); clear HO_110001; clear HO_110002; clear HO116; clear HO119; clear BK109; clear HB; have HO_110001 := n0_; have HO_110002 := n1_; have HO116 := n2_; have HO119 := n3_; have BK109 := n4_; have HB := n5_; clear n0_ n1_ n2_ n3_ n4_ n5_; (try clear hb); (try clear hb2); (try clear hk); (try clear hi)))
                    go_roundg k2
                    case measure => have := HJ4.out; have := HK2.out; omega
                    case rel => exact ⟨(false), (wrap64 (x7_2 + 1)), (by first | rfl | (simp; done) | (simp [*]; done)), (by first | rfl | (simp; done) | (simp [*]; done)), H', ⟨by have := HJ4.out; have := HK2.out; omega⟩, ⟨by (with_reducible repeat (first | apply Kd.zt | apply Kd.zq | apply Kd.zy)); exact Kd.zZ HO_110001.out (fun _ hk => hk.1.1)⟩, ⟨by (with_reducible repeat (first | apply Kd.zt | apply Kd.zq | apply Kd.zy)); exact Kd.zZ HO_110002.out (fun _ hk => hk.1.1)⟩, ⟨by (with_reducible repeat (first | refine zl ?_ _ | refine zm ?_ | refine zk ?_ _)); exact BK109.out⟩, ⟨by repeat (first | (with_reducible first | exact HB.out | apply zf | apply za | apply ze | refine zh ?_ GE109.out) | exact HB.out)⟩⟩
                · replace c29 := Bool.eq_false_iff.mpr c29; subst c29; have H1 : (some (!t110)) = some r := by rw [if_neg (show ¬ (false = true) by decide)] at H; exact H
                  clear H; have H := H1; clear H1; obtain rfl := Option.some.inj H; go_wp2_with (first | ((with_reducible refine zz (f := 43) rfl ?_); refine zX (some 48) rfl rfl Try.func43 (by kernel_rfl) rfl #[.int .i64 x7_2] rfl (by (try simp only [List.map_toArray, List.map_cons, List.map_nil]); first | done | rfl | (simp only [List.length_drop, List.length_take]; rfl)) ?_; (with_reducible refine (zbP.calls x7_2 t113 t114 _ A26.out).mono ?_); rintro e w46 ⟨v115, rfl, ho0, hb⟩; refine ⟨_, rfl, ?_⟩; have n0_ := zb.mk (Kd.zat (by (with_reducible repeat (first | apply Kd.zt | apply Kd.zq | apply Kd.zy)); exact HO_110001.out) (Kd.zaw ho0) hb); have n1_ := zb.mk (Kd.zat (by (with_reducible repeat (first | apply Kd.zt | apply Kd.zq | apply Kd.zy)); exact HO_110002.out) (Kd.zaw ho0) hb); have n2_ := zb.mk (Kd.zaa (Kd.zaQ (Kd.zaQ ho0 (Kd.R_lt (by (with_reducible repeat (first | apply Kd.zt | apply Kd.zq | apply Kd.zy)); exact HO_110001.out))) (Kd.R_lt (by (with_reducible repeat (first | apply Kd.zt | apply Kd.zq | apply Kd.zy)); exact HO_110002.out))) (zo (by repeat (first | (with_reducible first | exact HB.out | apply zf | apply za | apply ze | refine zh ?_ GE109.out) | exact HB.out)))); have n3_ := zb.mk (zK (g := gb109) (o := .cells #[.int .i64 t102, .slice Ao9 t103.length co9, .slice Ao10 t106.length co10] 47 (0, 0)) (by (with_reducible repeat (first | refine zl ?_ _ | refine zm ?_ | refine zk ?_ _)); exact BK109.out) hb); have n4_ := zb.mk (zw (by repeat (first | (with_reducible first | exact HB.out | apply zf | apply za | apply ze | refine zh ?_ GE109.out) | exact HB.out)) hb); clear HO_110001; clear HO_110002; clear BK109; clear HB; have HO_110001 := n0_; have HO_110002 := n1_; have HO116 := n2_; have BK109 := n3_; have HB := n4_; clear n0_ n1_ n2_ n3_ n4_; (try clear hb); (try clear hb2); (try clear hk); (try clear hi); (try clear ho0); obtain ⟨Ao47, co47, eo47⟩ := Kd.zae HO116.out; subst eo47) | ((with_reducible refine zz (f := 42) rfl ?_); refine zX (some 53) rfl rfl Try.func42 (by kernel_rfl) rfl #[.int .i64 t101, .slice Ao47 t113.length co47] rfl (by (try simp only [List.map_toArray, List.map_cons, List.map_nil]); first | done | rfl | (simp only [List.length_drop, List.length_take]; rfl)) ?_; (with_reducible refine (zbo.calls t101 _ _ t113 t117 _ ?side1 ?side2 A27.out).mono ?_); (case side1 => repeat (first | exact (Kd.zO HO116.out).2.2 | (with_reducible refine Kd.zS ?_ _) | (with_reducible refine Kd.zT ?_ _) | (with_reducible refine Kd.zah ?_))); (case side2 => exact (Kd.zO HO116.out).2.1); rintro e w48 ⟨v118, rfl, ho0, hb⟩; refine ⟨_, rfl, ?_⟩; have n0_ := zb.mk (Kd.zat (by (with_reducible repeat (first | apply Kd.zt | apply Kd.zq | apply Kd.zy)); exact HO_110001.out) (Kd.zaw ho0) hb); have n1_ := zb.mk (Kd.zat (by (with_reducible repeat (first | apply Kd.zt | apply Kd.zq | apply Kd.zy)); exact HO_110002.out) (Kd.zaw ho0) hb); have n2_ := zb.mk (Kd.zat (by (with_reducible repeat (first | apply Kd.zt | apply Kd.zq | apply Kd.zy)); exact HO116.out) (Kd.zaw ho0) hb); have n3_ := zb.mk (Kd.zaa (Kd.zaQ (Kd.zaQ (Kd.zaQ ho0 (Kd.R_lt (by (with_reducible repeat (first | apply Kd.zt | apply Kd.zq | apply Kd.zy)); exact HO_110001.out))) (Kd.R_lt (by (with_reducible repeat (first | apply Kd.zt | apply Kd.zq | apply Kd.zy)); exact HO_110002.out))) (Kd.R_lt (by (with_reducible repeat (first | apply Kd.zt | apply Kd.zq | apply Kd.zy)); exact HO116.out))) (zo (by repeat (first | (with_reducible first | exact HB.out | apply zf | apply za | apply ze | refine zh ?_ GE109.out) | exact HB.out)))); have n4_ := zb.mk (zK (g := gb109) (o := .cells #[.int .i64 t102, .slice Ao9 t103.length co9, .slice Ao10 t106.length co10] 47 (0, 0)) (by (with_reducible repeat (first | refine zl ?_ _ | refine zm ?_ | refine zk ?_ _)); exact BK109.out) hb); have n5_ := zb.mk (zw (by repeat (first | (with_reducible first | exact HB.out | apply zf | apply za | apply ze | refine zh ?_ GE109.out) | exact HB.out)) hb); clear HO_110001; clear HO_110002; clear HO116; clear BK109; clear HB; have HO_110001 := n0_; have HO_110002 := n1_; have HO116 := n2_; have HO119 := n3_; have BK109 := n4_; have HB := n5_; clear n0_ n1_ n2_ n3_ n4_ n5_; (try clear hb); (try clear hb2); (try clear hk); (try clear hi); (try clear ho0); have hcz49_0 : w48.cell? ⟨gb109, 0, none⟩ = some (.int .i64 t102) := (zi BK109.out 0).trans rfl; have hcz49_1 : w48.cell? ⟨gb109, 1, none⟩ = some (.slice Ao9 t103.length co9) := (zi BK109.out 1).trans rfl; have hcz49_2 : w48.cell? ⟨gb109, 2, none⟩ = some (.slice Ao10 t106.length co10) := (zi BK109.out 2).trans rfl; have hfz49_0 := zn BK109.out 0; have hfz49_1 := zn BK109.out 1; have hfz49_2 := zn BK109.out 2; obtain ⟨Ao50, co50, eo50⟩ := Kd.zae HO119.out; subst eo50) | ((with_reducible refine zz (f := 30) rfl ?_); refine zX (some 57) rfl rfl Try.func30 (by kernel_rfl) rfl #[.agg #[.int .i64 t102, .slice Ao9 t103.length co9, .slice Ao10 t106.length co10], .slice Ao50 t117.length co50] rfl (by (try simp only [List.map_toArray, List.map_cons, List.map_nil]); first | done | rfl | (simp only [List.length_drop, List.length_take]; rfl)) ?_; (with_reducible refine (zbJ.calls k2 t102 _ _ t103 _ _ t106 _ _ t117 t120 false _ ?side1 ?side2 ?side3 ?side4 ?side5 ?side6 A28.out).mono ?_); (case side1 => repeat (first | exact (Kd.zO HO_110001.out).2.2 | (with_reducible refine Kd.zS ?_ _) | (with_reducible refine Kd.zT ?_ _) | (with_reducible refine Kd.zah ?_))); (case side2 => exact (Kd.zO HO_110001.out).2.1); (case side3 => repeat (first | exact (Kd.zO HO_110002.out).2.2 | (with_reducible refine Kd.zS ?_ _) | (with_reducible refine Kd.zT ?_ _) | (with_reducible refine Kd.zah ?_))); (case side4 => exact (Kd.zO HO_110002.out).2.1); (case side5 => repeat (first | exact (Kd.zO HO119.out).2.2 | (with_reducible refine Kd.zS ?_ _) | (with_reducible refine Kd.zT ?_ _) | (with_reducible refine Kd.zah ?_))); (case side6 => exact (Kd.zO HO119.out).2.1); rintro e w51 ⟨rfl, hb⟩; refine ⟨_, rfl, ?_⟩; have n0_ := zb.mk (Kd.zaj (by (with_reducible repeat (first | apply Kd.zt | apply Kd.zq | apply Kd.zy)); exact HO_110001.out) hb); have n1_ := zb.mk (Kd.zaj (by (with_reducible repeat (first | apply Kd.zt | apply Kd.zq | apply Kd.zy)); exact HO_110002.out) hb); have n2_ := zb.mk (Kd.zaj (by (with_reducible repeat (first | apply Kd.zt | apply Kd.zq | apply Kd.zy)); exact HO116.out) hb); have n3_ := zb.mk (Kd.zaj (by (with_reducible repeat (first | apply Kd.zt | apply Kd.zq | apply Kd.zy)); exact HO119.out) hb); have n4_ := zb.mk (zK (g := gb109) (o := .cells #[.int .i64 t102, .slice Ao9 t103.length co9, .slice Ao10 t106.length co10] 47 (0, 0)) (by (with_reducible repeat (first | refine zl ?_ _ | refine zm ?_ | refine zk ?_ _)); exact BK109.out) hb); have n5_ := zb.mk (zw (by repeat (first | (with_reducible first | exact HB.out | apply zf | apply za | apply ze | refine zh ?_ GE109.out) | exact HB.out)) hb); clear HO_110001; clear HO_110002; clear HO116; clear HO119; clear BK109; clear HB; have HO_110001 := n0_; have HO_110002 := n1_; have HO116 := n2_; have HO119 := n3_; have BK109 := n4_; have HB := n5_; clear n0_ n1_ n2_ n3_ n4_ n5_; (try clear hb); (try clear hb2); (try clear hk); (try clear hi))); go_ret; exact ⟨by first | rfl | (simp [zA, zB] <;> rfl) | (simp [*, zA, zB] <;> rfl), by repeat (first | (with_reducible first | exact HB.out | apply zf | apply za | apply ze | refine zh ?_ GE109.out) | exact HB.out)⟩
              · rw [if_neg c25] at H; have c25b0 : decide (x7_2 < 4) = false := decide_eq_false c25; clear c25; obtain rfl := Option.some.inj H; go_wp2; go_ret; exact ⟨by first | rfl | (simp [zA, zB] <;> rfl) | (simp [*, zA, zB] <;> rfl), by repeat (first | (with_reducible first | exact HB.out | apply zf | apply za | apply ze | refine zh ?_ GE109.out) | exact HB.out)⟩
def zJ.Pure : Prop := ∀ (l0 : List Int), l0.length ≤ maxLen → l0.length * 1 ≤ 140737488351232 → (∀ x ∈ l0, (Lit.int .u8 x).wf = true) → ∃ k, zJ.f k l0 = some true
theorem zJ.walk (P : zJ.Pure) (a0 : Option Addr) (len0 cap0 : Nat) (z0 : List Int) (w : World) (w0 : (a0 = none ∧ len0 = 0 ∧ cap0 = 0 ∧ z0 = []) ∨ ∃ x, a0 = some x ∧ len0 ≤ cap0 ∧ cap0 ≤ maxLen ∧ z0.length = cap0 ∧ (∀ i, i < z0.length → w.cell? (x.add i) = some (.int .u8 (z0.getD i 0))) ∧ ∀ n ∈ z0, (Lit.int .u8 n).wf = true) (y0 : len0 * 1 ≤ 140737488351232) :
    Calls Try.prog 11 #[.slice a0 len0 cap0] w fun e w' => e = .returned (.bool true) ∧ Below w.heap.size w w' := by
  obtain ⟨l0, rfl, hr0, hm0, hw0, hc0⟩ := zbk.ofRowC w0; obtain ⟨k, h⟩ := P l0 hm0 y0 hw0; refine (zJ.calls k _ _ l0 true w (Kd.zen (d := (0 : Int)) (h1 := fun _ => rfl) hr0) hc0 h).mono ?_; rintro e w' ⟨rfl, hd⟩; exact ⟨rfl, hd⟩
end Go.Proofs.Ytmipjlbkcfpkiaa.K

end
section
namespace Go.Proofs.Ytmipjlbkcfpkiaa.K
set_option linter.unusedVariables false
set_option linter.unusedSimpArgs false
open Go.RowKit Go.Proofs.YtmipjlbkcfpkiaaW.PrintWords Go.Proofs.YtmipjlbkcfpkiaaW.PrintLast Go.Proofs.YtmipjlbkcfpkiaaW.PrintMore
theorem w64d {x : Int} (h1 : -9223372036854775808 ≤ x) (h2 : x < 9223372036854775808) : wrap64 x = x := by unfold wrap64; omega
theorem zaC {α : Type} {c : Prop} [Decidable c] {f g : Nat → Option α} {r : α} (h : c) (k : Ev f r) : Ev (fun n => if c then f n else g n) r := Ev.congr (fun _ => if_pos h) k
theorem zbe {α : Type} {c : Prop} [Decidable c] {f g : Nat → Option α} {r : α} (h : ¬ c) (k : Ev g r) : Ev (fun n => if c then f n else g n) r := Ev.congr (fun _ => if_neg h) k
theorem zbA {α β : Type} {g : Option α} {f : Nat → α → Option β} {a : α} {r : β} (h : g = some a) (k : Ev (fun n => f n a) r) : Ev (fun n => g.bind (f n)) r := Ev.congr (fun n => by rw [h]; rfl) k
theorem dv_eq {α : Type} {g : Nat → Option α} {r r' : α} (h : Ev g r) (e : r = r') : Ev g r' := e ▸ h
theorem zib (a b : Int) (h1 : 0 ≤ a) (h2 : a < 9223372036854775808) (h3 : 0 ≤ b) (h4 : b < 9223372036854775808) : 0 ≤ Go.bits .xor .i64 a b := by
  obtain ⟨a, rfl⟩ := Int.eq_ofNat_of_zero_le h1; obtain ⟨b, rfl⟩ := Int.eq_ofNat_of_zero_le h3; have hx : a ^^^ b < 2 ^ 63 := Nat.xor_lt_two_pow (by omega) (by omega)
  have e1 : (BitVec.ofInt 64 (a : Int)).toNat = a := by
    rw [BitVec.ofInt_natCast, BitVec.toNat_ofNat]; exact Nat.mod_eq_of_lt (by omega)
  have e2 : (BitVec.ofInt 64 (b : Int)).toNat = b := by
    rw [BitVec.ofInt_natCast, BitVec.toNat_ofNat]; exact Nat.mod_eq_of_lt (by omega)
  show 0 ≤ IntKind.i64.wrap ((BitVec.ofInt 64 (a : Int) ^^^ BitVec.ofInt 64 (b : Int)).toNat : Int); rw [BitVec.toNat_xor, e1, e2]
  simp [IntKind.wrap, IntKind.bits, IntKind.signed]
  omega
theorem zdO (l : List Int) (hb : ∀ x ∈ l, 0 ≤ x ∧ x ≤ 255) (i : Int) : 0 ≤ rd l i ∧ rd l i ≤ 255 := by
  unfold rd
  by_cases h : i.toNat < l.length
  · rw [show l.getD i.toNat 0 = l[i.toNat] by simp [h]]; exact hb _ (List.getElem_mem h)
  · rw [show l.getD i.toNat 0 = 0 by simp [show l.length ≤ i.toNat by omega]]; omega
theorem zde {a b : Int} (h : 0 ≤ a) (hb : 0 < b) : 0 ≤ Int.tmod a b ∧ Int.tmod a b < b :=
  ⟨Int.tmod_nonneg _ h, Int.tmod_lt_of_pos _ hb⟩
theorem zfl (l : List Int) (hl : l.length ≤ 2000) (hb : ∀ x ∈ l, 0 ≤ x ∧ x ≤ 255) (p n : Int) (hp : 0 ≤ p) (hp2 : p ≤ 1000000000) (hn : 1 ≤ n) (hn2 : n ≤ 1000000) (k : Nat) (hk : 1 ≤ k) :
    ∃ v, zu.f k l p n = some (v, p + 1) ∧ 0 ≤ v ∧ v < n := by
  obtain ⟨k, rfl⟩ : ∃ m, k = m + 1 := ⟨k - 1, by omega⟩
  have ep : wrap64 (p + 1) = p + 1 := w64d (by omega) (by omega); have eq : wrap64 (p + 1 - 1) = p := by rw [show p + 1 - 1 = p by omega]; exact w64d (by omega) (by omega)
  unfold zu.f; rw [if_neg (by omega), ep]; simp only [zu.j0, eq]
  by_cases hz : l.length = 0
  · exact ⟨0, by simp [hz], by omega, by omega⟩
  · have hz' : ((l.length : Int) == 0) = false := by rw [beq_eq_false_iff_ne]; omega
    rw [hz', if_neg (by simp)]
    by_cases hlt : p < (l.length : Int)
    · rw [if_pos hlt, if_pos hp, if_neg (by omega)]; have hr := zdO l hb p; rw [w64d (x := rd l p) (by omega) (by omega)]; have ht := zde (a := rd l p) (b := n) (by omega) (by omega); exact ⟨_, rfl, ht.1, ht.2⟩
    · have e7 : wrap64 (p * 7) = p * 7 := w64d (by omega) (by omega); have e73 : wrap64 (p * 7 + 3) = p * 7 + 3 := w64d (by omega) (by omega); have t1 := zde (a := p) (b := (l.length : Int)) hp (by omega); have t2 := zde (a := p * 7 + 3) (b := (l.length : Int)) (by omega) (by omega); rw [if_neg hlt, if_neg (by omega), if_pos t1.1, if_pos t1.2, e7, e73, if_pos t2.1, if_pos t2.2, if_neg (by omega)]; have r1 := zdO l hb (Int.tmod p l.length); have r2 := zdO l hb (Int.tmod (p * 7 + 3) l.length); have q1 : 0 ≤ Int.tdiv p l.length := Int.tdiv_nonneg hp (by omega)
      have q2 : Int.tdiv p l.length ≤ p := by
        rw [Int.tdiv_eq_ediv_of_nonneg hp]; exact Int.ediv_le_self _ hp
      generalize rd l (Int.tmod p l.length) = a at *; generalize rd l (Int.tmod (p * 7 + 3) l.length) = b at *; generalize Int.tdiv p l.length = q at *
      have hX : wrap64 ((wrap64 ((wrap64 ((wrap64 ((wrap64 a) * 131)) + (wrap64 ((wrap64 b) * 1117)))) + (wrap64 (p * 29)))) + (wrap64 ((wrap64 q) * 53))) = a * 131 + b * 1117 + p * 29 + q * 53 := by
        rw [w64d (x := a) (by omega) (by omega), w64d (x := b) (by omega) (by omega), w64d (x := q) (by omega) (by omega)]; rw [w64d (x := a * 131) (by omega) (by omega), w64d (x := b * 1117) (by omega) (by omega), w64d (x := p * 29) (by omega) (by omega), w64d (x := q * 53) (by omega) (by omega)]; rw [w64d (x := a * 131 + b * 1117) (by omega) (by omega), w64d (x := a * 131 + b * 1117 + p * 29) (by omega) (by omega)]; exact w64d (by omega) (by omega)
      rw [hX]; have hX0 : 0 ≤ a * 131 + b * 1117 + p * 29 + q * 53 := by omega
      have hX1 : a * 131 + b * 1117 + p * 29 + q * 53 ≤ 100000000000 := by omega
      generalize a * 131 + b * 1117 + p * 29 + q * 53 = X at *; have d0 : 0 ≤ Int.tdiv X 64 := Int.tdiv_nonneg hX0 (by omega)
      have d1 : Int.tdiv X 64 ≤ X := by
        rw [Int.tdiv_eq_ediv_of_nonneg hX0]; exact Int.ediv_le_self _ hX0
      rw [w64d (x := Int.tdiv X 64) (by omega) (by omega)]; have hx := zib X (Int.tdiv X 64) hX0 (by omega) d0 (by omega); have ht := zde (a := Go.bits .xor .i64 X (Int.tdiv X 64)) (b := n) hx (by omega); exact ⟨_, rfl, ht.1, ht.2⟩
theorem zfy (l : List Int) (hb : ∀ x ∈ l, (Lit.int .u8 x).wf = true) : ∃ l', zbO.f l = some (l', 0) ∧ l'.length ≤ 2000 ∧ ∀ x ∈ l', 0 ≤ x ∧ x ≤ 255 := by
  have hb' : ∀ x ∈ l, 0 ≤ x ∧ x ≤ 255 := fun x hx => by
    have := hb x hx
    simp [Lit.wf, IntKind.min, IntKind.max, IntKind.signed, IntKind.bits] at this
    omega
  unfold zbO.f
  by_cases h : (l.length : Int) > 2000
  · rw [if_pos h, if_pos (by omega)]; exact ⟨_, rfl, by rw [List.length_take]; omega, fun x hx => hb' x (List.mem_of_mem_take hx)⟩
  · rw [if_neg h]; exact ⟨_, rfl, by omega, hb'⟩
theorem zhW (a b c : Int) : zay.f a b c = some (decide (b ≤ a) && decide (a ≤ c)) := by
  unfold zay.f
  by_cases h : b ≤ a
  · rw [if_pos h]; simp [h]
  · rw [if_neg h]; simp [h]
theorem zht {b : Bool} (h : b = true) : Ev (fun _ => some b) true := h ▸ Ev.now _
structure Bytes (l : List Int) : Prop where
  len : l.length ≤ 2000
  bytes : ∀ x ∈ l, 0 ≤ x ∧ x ≤ 255
theorem zco {l : List Int} (h : Bytes l) (p n : Int) (hp : 0 ≤ p) (hp2 : p ≤ 1000000000) (hn : 1 ≤ n) (hn2 : n ≤ 1000000) : ∃ v, Ev (fun k => zu.f k l p n) (v, p + 1) ∧ 0 ≤ v ∧ v < n := by
  obtain ⟨v, h1, h2, h3⟩ := zfl l h.len h.bytes p n hp hp2 hn hn2 1 (Nat.le_refl _); exact ⟨v, Ev.of (fun k => zu.mono _ _ _ _) h1, h2, h3⟩
theorem zjh (l : List Int) (hb : ∀ x ∈ l, (Lit.int .u8 x).wf = true) : ∃ l', zbO.f l = some (l', 0) ∧ Bytes l' := by
  obtain ⟨l', h1, h2, h3⟩ := zfy l hb; exact ⟨l', h1, h2, h3⟩
theorem zgM : Ev (fun k => zaJ.f k 255) (List.replicate 8 true) := Ev.of (fun k => zaJ.mono _ _) (k := 12) (by decide +kernel)
theorem ziP {l : List Int} {P : Int → Prop} (h : ∀ x ∈ l, P x) {i : Int} (h0 : 0 ≤ i) (h1 : i < (l.length : Int)) : P (rd l i) := by
  unfold rd; rw [List.getD_eq_getElem?_getD, List.getElem?_eq_getElem (show i.toNat < l.length by omega)]; exact h _ (List.getElem_mem _)
theorem zeS {α : Type} {l : List α} {P : α → Prop} (h : ∀ x ∈ l, P x) {v : α} (hv : P v) (i : Nat) : ∀ x ∈ l.set i v, P x := by
  intro x hx
  rcases List.mem_or_eq_of_mem_set hx with h1 | h1
  · exact h x h1
  · exact h1 ▸ hv
end Go.Proofs.Ytmipjlbkcfpkiaa.K

end
section
namespace Go.Proofs.Ytmipjlbkcfpkiaa.K
open Go.RowKit Go.Proofs.YtmipjlbkcfpkiaaW.PrintWords Go.Proofs.YtmipjlbkcfpkiaaW.PrintLast Go.Proofs.YtmipjlbkcfpkiaaW.PrintMore
attribute [local go_sem] zao zar zaE zaD zad zac zaq zan
set_option linter.unusedVariables false
set_option linter.unusedSimpArgs false
end Go.Proofs.Ytmipjlbkcfpkiaa.K

end
section
namespace Go.Proofs.Ytmipjlbkcfpkiaa.K
open Go.RowKit Go.Proofs.YtmipjlbkcfpkiaaW.PrintWords Go.Proofs.YtmipjlbkcfpkiaaW.PrintLast Go.Proofs.YtmipjlbkcfpkiaaW.PrintMore
attribute [local go_sem] zao zar zaE zaD zad zac zaq zan
set_option linter.unusedVariables false
set_option linter.unusedSimpArgs false
end Go.Proofs.Ytmipjlbkcfpkiaa.K

end
section
namespace Go.Proofs.Ytmipjlbkcfpkiaa.K
set_option linter.unusedVariables false
set_option linter.unusedSimpArgs false
open Go.RowKit Go.Proofs.YtmipjlbkcfpkiaaW.PrintWords Go.Proofs.YtmipjlbkcfpkiaaW.PrintLast Go.Proofs.YtmipjlbkcfpkiaaW.PrintMore
structure Vec4 (d : List Int) : Prop where
  len : d.length = 4
  fld : ∀ x ∈ d, 0 ≤ x ∧ x ≤ 30
def rowS (kind n : Int) : List Int := (zbh.f kind n).getD []
theorem zcA {n : Int} (h0 : 0 ≤ n) (h1 : n ≤ 7) : n = 0 ∨ n = 1 ∨ n = 2 ∨ n = 3 ∨ n = 4 ∨ n = 5 ∨ n = 6 ∨ n = 7 := by omega
theorem zeX {kind n : Int} (hk : kind = 1 ∨ kind = 2) (h0 : 0 ≤ n) (h1 : n ≤ 7) : zbh.f kind n = some (rowS kind n) := by
  rcases hk with rfl | rfl <;> rcases zcA h0 h1 with rfl | rfl | rfl | rfl | rfl | rfl | rfl | rfl <;> decide +kernel
theorem zcQ {kind n : Int} (hk : kind = 1 ∨ kind = 2) (h0 : 0 ≤ n) (h1 : n ≤ 7) : Vec4 (rowS kind n) := by
  rcases hk with rfl | rfl <;> rcases zcA h0 h1 with rfl | rfl | rfl | rfl | rfl | rfl | rfl | rfl <;> exact ⟨by decide +kernel, by decide +kernel⟩
theorem zbV {d : List Int} (h : Vec4 d) {i : Int} (h0 : 0 ≤ i) (h1 : i < 4) : 0 ≤ rd d i ∧ rd d i ≤ 30 := ziP h.fld h0 (by have := h.len; omega)
def dotS (a b : List Int) : Int := (((((0 + rd a 0 * rd b 0) % 31) + rd a 1 * rd b 1) % 31 + rd a 2 * rd b 2) % 31 + rd a 3 * rd b 3) % 31
theorem ziJ {a b : Int} (ha : 0 ≤ a ∧ a ≤ 30) (hb : 0 ≤ b ∧ b ≤ 30) : 0 ≤ a * b ∧ a * b ≤ 900 := by
  refine ⟨Int.mul_nonneg ha.1 hb.1, ?_⟩; have h1 : a * b ≤ 30 * b := Int.mul_le_mul_of_nonneg_right ha.2 hb.1
  omega
theorem mod31 (x : Int) : 0 ≤ x % 31 ∧ x % 31 ≤ 30 := by omega
theorem zhQ (a b : List Int) : 0 ≤ dotS a b ∧ dotS a b ≤ 30 := mod31 _
def encS (kind : Int) (d : List Int) : List Int := [0, 1, 2, 3, 4, 5, 6, 7].map fun n => dotS (rowS kind n) d
theorem zdE (kind : Int) (d : List Int) : (encS kind d).length = 8 := rfl
theorem zhA (kind : Int) (d : List Int) : ∀ x ∈ encS kind d, 0 ≤ x ∧ x ≤ 30 := by
  intro x hx; obtain ⟨n, _, rfl⟩ := List.mem_map.1 hx; exact zhQ _ _
theorem zgx (kind : Int) (d : List Int) {n : Int} (h0 : 0 ≤ n) (h1 : n ≤ 7) : rd (encS kind d) n = dotS (rowS kind n) d := by
  rcases zcA h0 h1 with rfl | rfl | rfl | rfl | rfl | rfl | rfl | rfl <;> rfl
end Go.Proofs.Ytmipjlbkcfpkiaa.K

end
section
namespace Go.Proofs.Ytmipjlbkcfpkiaa.K
set_option linter.unusedVariables false
open Go.RowKit Go.Proofs.YtmipjlbkcfpkiaaW.PrintWords Go.Proofs.YtmipjlbkcfpkiaaW.PrintLast Go.Proofs.YtmipjlbkcfpkiaaW.PrintMore
def subsF : Nat → Int → List (List Int)
  | 0, _ => [[]]
  | m + 1, a => ([0, 1, 2, 3, 4, 5, 6, 7].filter fun i => decide (a ≤ i)).flatMap fun i => (subsF m (i + 1)).map fun t => i :: t
def mixS (kind : Int) : List Int → List Int → Int → Int
  | [], _, _ => 0
  | _, [], _ => 0
  | a :: s, b :: t, c => b * rd (rowS kind a) c + mixS kind s t c
def subsN (m : Nat) (lost : Int) : List (List Int) := (subsF m 0).filter fun s => s.all fun x => !decide (x = lost)
def zbc (kind lost : Int) (s : List Int) : Bool :=
  match zak.f 60 kind lost s with
  | some (a, f, b, true) => a == lost && f == s && b.length == s.length && b.all (fun x => decide (0 ≤ x) && decide (x ≤ 30)) && [0, 1, 2, 3].all fun c => mixS kind s b c % 31 == rd (rowS kind lost) c
  | some (a, f, b, false) => a == 0 && f == [] && b == []
  | none => false
theorem zjd : ([0, 1, 2, 3, 4, 5, 6, 7].all fun l => (subsN 1 l).all fun s => zbc 1 l s) = true := by decide +kernel
theorem ziQ : ([0, 1, 2, 3, 4, 5, 6, 7].all fun l => (subsN 1 l).all fun s => zbc 2 l s) = true := by decide +kernel
theorem ziO : ([0, 1, 2, 3, 4, 5, 6, 7].all fun l => (subsN 2 l).all fun s => zbc 1 l s) = true := by decide +kernel
theorem ziW : ([0, 1, 2, 3, 4, 5, 6, 7].all fun l => (subsN 2 l).all fun s => zbc 2 l s) = true := by decide +kernel
theorem zgg : ((subsN 3 0).all fun s => zbc 1 0 s) = true := by decide +kernel
theorem zgV : ((subsN 3 1).all fun s => zbc 1 1 s) = true := by decide +kernel
theorem zhw : ((subsN 3 2).all fun s => zbc 1 2 s) = true := by decide +kernel
theorem zgm : ((subsN 3 3).all fun s => zbc 1 3 s) = true := by decide +kernel
theorem zho : ((subsN 3 4).all fun s => zbc 1 4 s) = true := by decide +kernel
theorem zhs : ((subsN 3 5).all fun s => zbc 1 5 s) = true := by decide +kernel
theorem zgK : ((subsN 3 6).all fun s => zbc 1 6 s) = true := by decide +kernel
theorem zgL : ((subsN 3 7).all fun s => zbc 1 7 s) = true := by decide +kernel
theorem zgT : ((subsN 3 0).all fun s => zbc 2 0 s) = true := by decide +kernel
theorem zgD : ((subsN 3 1).all fun s => zbc 2 1 s) = true := by decide +kernel
theorem zhb : ((subsN 3 2).all fun s => zbc 2 2 s) = true := by decide +kernel
theorem zgd : ((subsN 3 3).all fun s => zbc 2 3 s) = true := by decide +kernel
theorem zgn : ((subsN 3 4).all fun s => zbc 2 4 s) = true := by decide +kernel
theorem zgp : ((subsN 3 5).all fun s => zbc 2 5 s) = true := by decide +kernel
theorem zgA : ((subsN 3 6).all fun s => zbc 2 6 s) = true := by decide +kernel
theorem zhu : ((subsN 3 7).all fun s => zbc 2 7 s) = true := by decide +kernel
theorem zgC : ((subsN 4 0).all fun s => zbc 1 0 s) = true := by decide +kernel
theorem zhi : ((subsN 4 1).all fun s => zbc 1 1 s) = true := by decide +kernel
theorem zgj : ((subsN 4 2).all fun s => zbc 1 2 s) = true := by decide +kernel
theorem zgW : ((subsN 4 3).all fun s => zbc 1 3 s) = true := by decide +kernel
theorem zgo : ((subsN 4 4).all fun s => zbc 1 4 s) = true := by decide +kernel
theorem zgE : ((subsN 4 5).all fun s => zbc 1 5 s) = true := by decide +kernel
theorem zgc : ((subsN 4 6).all fun s => zbc 1 6 s) = true := by decide +kernel
theorem zgb : ((subsN 4 7).all fun s => zbc 1 7 s) = true := by decide +kernel
theorem zgu : ((subsN 4 0).all fun s => zbc 2 0 s) = true := by decide +kernel
theorem zgX : ((subsN 4 1).all fun s => zbc 2 1 s) = true := by decide +kernel
theorem zgQ : ((subsN 4 2).all fun s => zbc 2 2 s) = true := by decide +kernel
theorem zhh : ((subsN 4 3).all fun s => zbc 2 3 s) = true := by decide +kernel
theorem zgv : ((subsN 4 4).all fun s => zbc 2 4 s) = true := by decide +kernel
theorem zgr : ((subsN 4 5).all fun s => zbc 2 5 s) = true := by decide +kernel
theorem zgy : ((subsN 4 6).all fun s => zbc 2 6 s) = true := by decide +kernel
theorem zhr : ((subsN 4 7).all fun s => zbc 2 7 s) = true := by decide +kernel
theorem zhR (kind lost : Int) (s : List Int) (m : Nat) (hk : kind = 1 ∨ kind = 2) (h0 : 0 ≤ lost) (h1 : lost ≤ 7) (hm : 1 ≤ m) (hm4 : m ≤ 4) (hs : s ∈ subsF m 0) (hn : ∀ x ∈ s, x ≠ lost) : zbc kind lost s = true := by
  have hs2 : s ∈ subsN m lost := List.mem_filter.2 ⟨hs, List.all_eq_true.2 fun x hx => by simp [hn x hx]⟩; have hl : lost = 0 ∨ lost = 1 ∨ lost = 2 ∨ lost = 3 ∨ lost = 4 ∨ lost = 5 ∨ lost = 6 ∨ lost = 7 := by omega
  have hl' : lost ∈ [0, 1, 2, 3, 4, 5, 6, 7] := by rcases hl with rfl | rfl | rfl | rfl | rfl | rfl | rfl | rfl <;> decide
  have hm' : m = 1 ∨ m = 2 ∨ m = 3 ∨ m = 4 := by omega
  rcases hm' with rfl | rfl | rfl | rfl
  · rcases hk with rfl | rfl
    · exact List.all_eq_true.1 (List.all_eq_true.1 zjd lost hl') s hs2
    · exact List.all_eq_true.1 (List.all_eq_true.1 ziQ lost hl') s hs2
  · rcases hk with rfl | rfl
    · exact List.all_eq_true.1 (List.all_eq_true.1 ziO lost hl') s hs2
    · exact List.all_eq_true.1 (List.all_eq_true.1 ziW lost hl') s hs2
  · rcases hk with rfl | rfl
    · rcases hl with rfl | rfl | rfl | rfl | rfl | rfl | rfl | rfl
      · exact List.all_eq_true.1 zgg s hs2
      · exact List.all_eq_true.1 zgV s hs2
      · exact List.all_eq_true.1 zhw s hs2
      · exact List.all_eq_true.1 zgm s hs2
      · exact List.all_eq_true.1 zho s hs2
      · exact List.all_eq_true.1 zhs s hs2
      · exact List.all_eq_true.1 zgK s hs2
      · exact List.all_eq_true.1 zgL s hs2
    · rcases hl with rfl | rfl | rfl | rfl | rfl | rfl | rfl | rfl
      · exact List.all_eq_true.1 zgT s hs2
      · exact List.all_eq_true.1 zgD s hs2
      · exact List.all_eq_true.1 zhb s hs2
      · exact List.all_eq_true.1 zgd s hs2
      · exact List.all_eq_true.1 zgn s hs2
      · exact List.all_eq_true.1 zgp s hs2
      · exact List.all_eq_true.1 zgA s hs2
      · exact List.all_eq_true.1 zhu s hs2
  · rcases hk with rfl | rfl
    · rcases hl with rfl | rfl | rfl | rfl | rfl | rfl | rfl | rfl
      · exact List.all_eq_true.1 zgC s hs2
      · exact List.all_eq_true.1 zhi s hs2
      · exact List.all_eq_true.1 zgj s hs2
      · exact List.all_eq_true.1 zgW s hs2
      · exact List.all_eq_true.1 zgo s hs2
      · exact List.all_eq_true.1 zgE s hs2
      · exact List.all_eq_true.1 zgc s hs2
      · exact List.all_eq_true.1 zgb s hs2
    · rcases hl with rfl | rfl | rfl | rfl | rfl | rfl | rfl | rfl
      · exact List.all_eq_true.1 zgu s hs2
      · exact List.all_eq_true.1 zgX s hs2
      · exact List.all_eq_true.1 zgQ s hs2
      · exact List.all_eq_true.1 zhh s hs2
      · exact List.all_eq_true.1 zgv s hs2
      · exact List.all_eq_true.1 zgr s hs2
      · exact List.all_eq_true.1 zgy s hs2
      · exact List.all_eq_true.1 zhr s hs2
def ascL : Int → List Int → Prop
  | _, [] => True
  | a, i :: t => a ≤ i ∧ i ≤ 7 ∧ ascL (i + 1) t
theorem zfM : ∀ (s : List Int) (a : Int), 0 ≤ a → ascL a s → s ∈ subsF s.length a
  | [], a, _, _ => by simp [subsF]
  | i :: t, a, h0, h => by
    obtain ⟨h1, h2, h3⟩ := h; show i :: t ∈ subsF (t.length + 1) a; unfold subsF; rw [List.mem_flatMap]; refine ⟨i, ?_, List.mem_map.2 ⟨t, zfM t (i + 1) (by omega) h3, rfl⟩⟩; rw [List.mem_filter]; refine ⟨?_, decide_eq_true h1⟩; have hi : i = 0 ∨ i = 1 ∨ i = 2 ∨ i = 3 ∨ i = 4 ∨ i = 5 ∨ i = 6 ∨ i = 7 := by omega
    rcases hi with rfl | rfl | rfl | rfl | rfl | rfl | rfl | rfl <;> decide
def zfO (kind lost : Int) (s : List Int) (r : Int × List Int × List Int × Bool) : Prop :=
  (r.2.2.2 = true ∧ r.1 = lost ∧ r.2.1 = s ∧ r.2.2.1.length = s.length ∧ (∀ x ∈ r.2.2.1, 0 ≤ x ∧ x ≤ 30) ∧ ∀ c : Int, 0 ≤ c → c ≤ 3 → mixS kind s r.2.2.1 c % 31 = rd (rowS kind lost) c) ∨ r = (0, [], [], false)
theorem ziA (kind lost : Int) (s : List Int) (hk : kind = 1 ∨ kind = 2) (h0 : 0 ≤ lost) (h1 : lost ≤ 7) (hm : 1 ≤ s.length) (hm4 : s.length ≤ 4) (hs : ascL 0 s) (hn : ∀ x ∈ s, x ≠ lost) : ∃ r, Ev (fun k => zak.f k kind lost s) r ∧ zfO kind lost s r := by
  have h := zhR kind lost s s.length hk h0 h1 hm hm4 (zfM s 0 (by omega) hs) hn; unfold zbc at h
  split at h
  · rename_i a f b he
    refine ⟨_, Ev.of (fun k => zak.mono _ _ _ _) he, .inl ?_⟩; simp only [Bool.and_eq_true, beq_iff_eq, List.all_eq_true, decide_eq_true_eq] at h; obtain ⟨⟨⟨⟨ha, hf⟩, hb⟩, hr⟩, hc⟩ := h; refine ⟨rfl, ha, hf, hb, hr, fun c c0 c3 => hc c ?_⟩; have hi : c = 0 ∨ c = 1 ∨ c = 2 ∨ c = 3 := by omega
    rcases hi with rfl | rfl | rfl | rfl <;> decide
  · rename_i a f b he
    refine ⟨_, Ev.of (fun k => zak.mono _ _ _ _) he, .inr ?_⟩; simp only [Bool.and_eq_true, beq_iff_eq] at h; obtain ⟨⟨rfl, rfl⟩, rfl⟩ := h; rfl
  · cases h
end Go.Proofs.Ytmipjlbkcfpkiaa.K

end
section
namespace Go.Proofs.Ytmipjlbkcfpkiaa.K
set_option linter.unusedVariables false
set_option linter.unusedSimpArgs false
open Go.RowKit Go.Proofs.YtmipjlbkcfpkiaaW.PrintWords Go.Proofs.YtmipjlbkcfpkiaaW.PrintLast Go.Proofs.YtmipjlbkcfpkiaaW.PrintMore
def PlanR (kind lost : Int) (m : Nat) (r : Int × List Int × List Int × Bool) : Prop :=
  (∃ s : List Int, s.length = m ∧ ascL 0 s ∧ r.2.2.2 = true ∧ zfO kind lost s r) ∨ r = (0, [], [], false)
theorem PlanR.of_is {kind lost : Int} {m : Nat} {s : List Int} {r : Int × List Int × List Int × Bool} (h : zfO kind lost s r) (hl : s.length = m) (ha : ascL 0 s) : PlanR kind lost m r := by
  rcases h with h | h
  · exact .inl ⟨s, hl, ha, h.1, .inl h⟩
  · exact .inr h
theorem PlanR.false {kind lost : Int} {m : Nat} {r : Int × List Int × List Int × Bool} (h : PlanR kind lost m r) (hf : r.2.2.2 = false) : r = (0, [], [], false) := by
  rcases h with ⟨s, _, _, h, _⟩ | h
  · rw [hf] at h; cases h
  · exact h
theorem zhG {kind lost : Int} {there : List Bool} (ht : there.length = 8) (m M : Nat) (frm : List Int) (at_ : Int) (h0 : 0 ≤ at_) (hl : frm.length ≤ 4) (hm : m ≤ 4) (hf : ∀ t, ascL at_ t → ascL 0 (frm ++ t)) (hn : ∀ x ∈ frm, x ≠ lost)
    (ih : ∀ i, at_ ≤ i → i < 8 → (∀ t, ascL (i + 1) t → ascL 0 (frm ++ [i] ++ t)) → (∀ x ∈ frm ++ [i], x ≠ lost) → ∃ r, Ev (fun k => zH.f k kind lost there (frm ++ [i]) (i + 1) (m : Int)) r ∧ PlanR kind lost M r) (d : Nat) :
    ∀ i : Int, at_ ≤ i → i + d = 8 → ∃ r, Ev (fun k => zH.l0 k kind lost there frm ((m : Int) + 1) i) r ∧ PlanR kind lost M r := by
  induction d with
  | zero =>
    intro i hi hd; refine ⟨(0, [], [], false), Ev.step (fun k => by rw [zH.l0]) (zbe (by omega) (Ev.now _)), .inr rfl⟩
  | succ d ihd =>
    intro i hi hd; obtain ⟨r0, e0, p0⟩ := ihd (i + 1) (by omega) (by omega)
    have skip : ∃ r, Ev (fun k => zH.j1 k kind lost there frm ((m : Int) + 1) i true) r ∧ PlanR kind lost M r := by
      refine ⟨r0, Ev.step (fun k => by rw [zH.j1]) (zaC rfl ?_), p0⟩; rw [w64d (by omega) (by omega)]; exact e0
    have take : i ≠ lost → ∃ r, Ev (fun k => zH.j1 k kind lost there frm ((m : Int) + 1) i false) r ∧ PlanR kind lost M r := by
      intro hil
      obtain ⟨r1, e1, p1⟩ := ih i hi (by omega) (fun t hta => by
        rw [List.append_assoc]; exact hf (i :: t) ⟨hi, by omega, hta⟩) (fun x hx => by
        rcases List.mem_append.1 hx with h | h
        · exact hn x h
        · rw [List.mem_singleton.1 h]; exact hil)
      have hw1 : wrap64 (i + 1) = i + 1 := w64d (by omega) (by omega); have hw2 : wrap64 ((m : Int) + 1 - 1) = (m : Int) := by rw [show (m : Int) + 1 - 1 = m by omega]; exact w64d (by omega) (by omega)
      have key : ∀ r, Ev (fun k => if r1.2.2.2 = true then some (r1.1, r1.2.1, r1.2.2.1, true) else zH.l0 k kind lost there frm ((m : Int) + 1) (i + 1)) r → Ev (fun k => zH.j1 k kind lost there frm ((m : Int) + 1) i false) r := by
        intro r h; refine Ev.step (fun k => by rw [zH.j1]) (zbe (by decide) ?_); refine zbA (a := []) rfl (zaC (by simp; omega) (zbA (a := frm) rfl (zaC (by omega) ?_))); rw [hw1, hw2]; exact Ev.bind e1 h
      cases hb : r1.2.2.2 with
      | true =>
        refine ⟨r1, key _ (zaC hb ?_), p1⟩; have : r1 = (r1.1, r1.2.1, r1.2.2.1, true) := by rw [← hb]
        rw [← this]; exact Ev.now _
      | false => exact ⟨r0, key _ (zbe (by rw [hb]; decide) e0), p0⟩
    have go : ∀ r, Ev (fun k => if rdOf false there i = true then zH.j1 k kind lost there frm ((m : Int) + 1) i (i == lost) else zH.j1 k kind lost there frm ((m : Int) + 1) i true) r → Ev (fun k => zH.l0 k kind lost there frm ((m : Int) + 1) i) r := by
      intro r h; exact Ev.step (fun k => by rw [zH.l0]) (zaC (by omega) (zaC (by omega) (zaC (by omega) h)))
    by_cases ht : rdOf false there i = true
    · cases hc : (i == lost) with
      | true =>
        obtain ⟨r, e, p⟩ := skip; exact ⟨r, go r (zaC ht (by rw [hc]; exact e)), p⟩
      | false =>
        obtain ⟨r, e, p⟩ := take (by simpa using hc); exact ⟨r, go r (zaC ht (by rw [hc]; exact e)), p⟩
    · obtain ⟨r, e, p⟩ := skip; exact ⟨r, go r (zbe ht e), p⟩
theorem zhx {kind lost : Int} {there : List Bool} (hk : kind = 1 ∨ kind = 2) (h0 : 0 ≤ lost) (h1 : lost ≤ 7) (ht : there.length = 8) : ∀ (m M : Nat) (frm : List Int) (at_ : Int), 0 ≤ at_ → at_ ≤ 8 → 1 ≤ M → M ≤ 4 → frm.length + m = M → (∀ t, ascL at_ t → ascL 0 (frm ++ t)) → (∀ x ∈ frm, x ≠ lost) →
    ∃ r, Ev (fun k => zH.f k kind lost there frm at_ (m : Int)) r ∧ PlanR kind lost M r := by
  intro m
  induction m with
  | zero =>
    intro M frm at_ h0a h1a hM hM4 hl hf hn; have ha : ascL 0 frm := by have := hf [] trivial; rwa [List.append_nil] at this
    obtain ⟨r, e, p⟩ := ziA kind lost frm hk h0 h1 (by omega) (by omega) ha hn; have es : ∀ k, zH.f (k + 1) kind lost there frm at_ ((0 : Nat) : Int) = (zak.f k kind lost frm).bind fun bt => some (bt.1, bt.2.1, bt.2.2.1, bt.2.2.2) := fun k => by rw [zH.f, if_pos (show ((0 : Nat) : Int) = 0 from rfl)]
    exact ⟨r, Ev.step es (Ev.bind e (Ev.now _)), PlanR.of_is p (by omega) ha⟩
  | succ m ih =>
    intro M frm at_ h0a h1a hM hM4 hl hf hn; obtain ⟨r, e, p⟩ := zhG ht m M frm at_ h0a (by omega) (by omega) hf hn (fun i hi h8 hfi hni => ih M (frm ++ [i]) (i + 1) (by omega) (by omega) hM hM4 (by simp; omega) hfi hni) (8 - at_).toNat at_ (Int.le_refl _) (by omega); have es : ∀ k, zH.f (k + 1) kind lost there frm at_ ((m + 1 : Nat) : Int) = zH.l0 k kind lost there frm ((m : Int) + 1) at_ := fun k => by rw [zH.f, if_neg (by omega)]; rfl
    exact ⟨r, Ev.step es e, p⟩
def PlanL (kind lost : Int) (r : Int × List Int × List Int × Bool) : Prop :=
  (∃ s : List Int, 1 ≤ s.length ∧ s.length ≤ 4 ∧ ascL 0 s ∧ r.2.2.2 = true ∧ zfO kind lost s r) ∨ r = (0, [], [], false)
theorem of_ev {kind lost : Int} {there : List Bool} (hk : kind = 1 ∨ kind = 2) (h0 : 0 ≤ lost) (h1 : lost ≤ 7) (ht : there.length = 8) : ∃ r, Ev (fun k => zaN.f k kind lost there) r ∧ PlanL kind lost r := by
  have key : ∀ d : Nat, d ≤ 4 → ∃ r, Ev (fun k => zaN.l0 k kind lost there (5 - (d : Int))) r ∧ PlanL kind lost r := by
    intro d
    induction d with
    | zero => intro _; exact ⟨_, Ev.step (fun k => by rw [zaN.l0]) (zbe (by omega) (Ev.now _)), .inr rfl⟩
    | succ d ih =>
      intro hd; obtain ⟨r0, e0, p0⟩ := ih (by omega); obtain ⟨r1, e1, p1⟩ := zhx hk h0 h1 ht (4 - d) (4 - d) [] 0 (by omega) (by omega) (by omega) (by omega) (by simp) (fun t h => h) (by intro x hx; cases hx); have hc : (((4 - d : Nat)) : Int) = 5 - ((d + 1 : Nat) : Int) := by omega
      rw [hc] at e1; have hw : wrap64 (5 - ((d + 1 : Nat) : Int) + 1) = 5 - (d : Int) := by rw [w64d (by omega) (by omega)]; omega
      have go : ∀ r, Ev (fun k => if r1.2.2.2 = true then some (r1.1, r1.2.1, r1.2.2.1, true) else zaN.l0 k kind lost there (5 - (d : Int))) r → Ev (fun k => zaN.l0 k kind lost there (5 - ((d + 1 : Nat) : Int))) r := by
        intro r h; refine Ev.step (fun k => by rw [zaN.l0]) (zaC (by omega) (Ev.bind e1 ?_)); rw [hw]; exact h
      cases hb : r1.2.2.2 with
      | true =>
        refine ⟨r1, go _ (zaC hb ?_), ?_⟩
        · have : r1 = (r1.1, r1.2.1, r1.2.2.1, true) := by rw [← hb]
          rw [← this]; exact Ev.now _
        · rcases p1 with ⟨s, h1, h2, h3, h4⟩ | h
          · exact .inl ⟨s, by omega, by omega, h2, h3, h4⟩
          · exact .inr h
      | false => exact ⟨r0, go _ (zbe (by rw [hb]; decide) e0), p0⟩
  have := key 4 (by omega); exact this
theorem zgH {kind lost : Int} {there : List Bool} (hk : kind = 1 ∨ kind = 2) (h0 : 0 ≤ lost) (h1 : lost ≤ 7) : ∃ r, Ev (fun k => zaY.f k kind lost there) r ∧ PlanL kind lost r := by
  have hkd : zba.f kind = some true := by rcases hk with rfl | rfl <;> decide +kernel
  have hin : zay.f lost 0 7 = some true := by rw [zhW]; simp [h0, h1]
  by_cases ht : (there.length : Int) = 8
  · obtain ⟨r, e, p⟩ := of_ev (there := there) hk h0 h1 (by omega); exact ⟨r, Ev.congr (fun k => by rw [zaY.f]) (zbA hkd (zaC rfl (zbA hin (zaC rfl (zaC ht (Ev.bind e (Ev.now _))))))), p⟩
  · exact ⟨_, Ev.congr (fun k => by rw [zaY.f]) (zbA hkd (zaC rfl (zbA hin (zaC rfl (zbe ht (Ev.now _)))))), .inr rfl⟩
theorem zjb {b : List Int} (hb : Bytes b) (d : Nat) : ∀ (x : List Bool) (p : Int), x.length = 8 → 0 ≤ p → p + d ≤ 900000000 → ∃ r q, Ev (fun k => zai.l0 k x (d : Int) b p) (r, q) ∧ p ≤ q ∧ q ≤ p + d + 1 ∧ (r.length = 8 ∨ r.length = 7) := by
  induction d with
  | zero =>
    intro x p hx hp hp2; obtain ⟨v, e, h0, h1⟩ := zco hb p 40 hp (by omega) (by omega) (by omega)
    by_cases hv : v = 0
    · have h1 : (1 : Int) ≤ (x.length : Int) := by omega
      exact ⟨x.drop (1 : Int).toNat, p + 1, Ev.step (fun k => by rw [zai.l0]) (zbe (by omega) (Ev.bind e (zaC hv (zaC h1 (Ev.now _))))), by omega, by omega, .inr (by rw [List.length_drop, hx]; rfl)⟩
    · exact ⟨_, _, Ev.step (fun k => by rw [zai.l0]) (zbe (by omega) (Ev.bind e (zbe hv (Ev.now _)))), by omega, by omega, .inl hx⟩
  | succ d ih =>
    intro x p hx hp hp2; obtain ⟨v, e, h0, h1⟩ := zco hb p (x.length : Int) hp (by omega) (by omega) (by omega); obtain ⟨r, q, e2, hq, hq2, hr⟩ := ih (x.set v.toNat false) (p + 1) (by simp [hx]) (by omega) (by omega); refine ⟨r, q, Ev.step (fun k => by rw [zai.l0]) (zaC (by omega) (Ev.bind e (zaC h0 (zaC h1 ?_)))), by omega, by omega, hr⟩; rw [show wrap64 (((d + 1 : Nat) : Int) - 1) = (d : Int) from by rw [show ((d + 1 : Nat) : Int) - 1 = d by omega]; exact w64d (by omega) (by omega)]; exact e2
theorem zhF {b : List Int} (hb : Bytes b) (p : Int) (hp : 0 ≤ p) (hp2 : p ≤ 800000000) : ∃ r q, Ev (fun k => zai.f k b p) (r, q) ∧ p ≤ q ∧ q ≤ p + 8 ∧ (r.length = 8 ∨ r.length = 7) := by
  obtain ⟨v, e, h0, h1⟩ := zco hb p 6 hp (by omega) (by omega) (by omega); obtain ⟨r, q, e2, hq, hq2, hr⟩ := zjb hb v.toNat (List.replicate 8 true) (p + 1) (by simp) (by omega) (by omega); rw [Int.toNat_of_nonneg h0] at e2; exact ⟨r, q, Ev.congr (fun k => by rw [zai.f]) (Ev.bind zgM (Ev.bind e e2)), by omega, by omega, hr⟩
end Go.Proofs.Ytmipjlbkcfpkiaa.K

end
section
namespace Go.Proofs.Ytmipjlbkcfpkiaa.K
open Go.RowKit Go.Proofs.YtmipjlbkcfpkiaaW.PrintWords Go.Proofs.YtmipjlbkcfpkiaaW.PrintLast Go.Proofs.YtmipjlbkcfpkiaaW.PrintMore
attribute [local go_sem] zao zar zaE zaD zad zac zaq zan
set_option linter.unusedVariables false
set_option linter.unusedSimpArgs false
end Go.Proofs.Ytmipjlbkcfpkiaa.K

end
section
namespace Go.Proofs.Ytmipjlbkcfpkiaa.K
open Go.RowKit Go.Proofs.YtmipjlbkcfpkiaaW.PrintWords Go.Proofs.YtmipjlbkcfpkiaaW.PrintLast Go.Proofs.YtmipjlbkcfpkiaaW.PrintMore
attribute [local go_sem] zao zar zaE zaD zad zac zaq zan
set_option linter.unusedVariables false
set_option linter.unusedSimpArgs false
end Go.Proofs.Ytmipjlbkcfpkiaa.K

end
section
namespace Go.Proofs.Ytmipjlbkcfpkiaa.K
open Go.RowKit Go.Proofs.YtmipjlbkcfpkiaaW.PrintWords Go.Proofs.YtmipjlbkcfpkiaaW.PrintLast Go.Proofs.YtmipjlbkcfpkiaaW.PrintMore
attribute [local go_sem] zao zar zaE zaD zad zac zaq zan
set_option linter.unusedVariables false
set_option linter.unusedSimpArgs false
end Go.Proofs.Ytmipjlbkcfpkiaa.K

end
section
namespace Go.Proofs.Ytmipjlbkcfpkiaa.K
set_option linter.unusedVariables false
set_option linter.unusedSimpArgs false
open Go.RowKit Go.Proofs.YtmipjlbkcfpkiaaW.PrintWords Go.Proofs.YtmipjlbkcfpkiaaW.PrintLast Go.Proofs.YtmipjlbkcfpkiaaW.PrintMore
structure zij (kind lost : Int) (f b : List Int) : Prop where
  kind : kind = 1 ∨ kind = 2
  lost0 : -1 ≤ lost
  lost1 : lost ≤ 8
  len : b.length = f.length
  four : f.length ≤ 4
  frm : ∀ x ∈ f, 0 ≤ x ∧ x ≤ 7
  by_ : ∀ x ∈ b, 0 ≤ x ∧ x ≤ 31
theorem zge : ∀ {s : List Int} {a : Int}, 0 ≤ a → ascL a s → ∀ x ∈ s, 0 ≤ x ∧ x ≤ 7
  | [], _, _, _, x, hx => by cases hx
  | i :: t, a, h0, h, x, hx => by
    obtain ⟨h1, h2, h3⟩ := h
    rcases List.mem_cons.1 hx with rfl | hx
    · exact ⟨by omega, h2⟩
    · exact zge (a := i + 1) (by omega) h3 x hx
theorem zgF {b : List Int} (hb : Bytes b) (p : Int) (hp : 0 ≤ p) (hp2 : p ≤ 700000000) : ∃ kind lost f y q, Ev (fun k => zav.f k b p) (kind, lost, f, y, q) ∧ p ≤ q ∧ q ≤ p + 30 ∧ zij kind lost f y := by
  obtain ⟨a, ea, a0, a1⟩ := zco hb p 2 hp (by omega) (by omega) (by omega); obtain ⟨c, ec, c0, c1⟩ := zco hb (p + 1) 8 (by omega) (by omega) (by omega) (by omega); obtain ⟨th, q1, et, t0, t1, tl⟩ := zhF hb (p + 1 + 1) (by omega) (by omega); have hk : (1 + a) = 1 ∨ (1 + a) = 2 := by omega
  obtain ⟨r, er, pr⟩ := zgH (there := th) hk c0 (show c ≤ 7 by omega)
  have hD : zij (1 + a) r.1 r.2.1 r.2.2.1 := by
    rcases pr with ⟨s, s1, s2, s3, s4, s5⟩ | h
    · rcases s5 with ⟨_, e1, e2, e3, e4, _⟩ | h
      · rw [e1, e2]; exact ⟨hk, by omega, by omega, e3, s2, zge (by omega) s3, fun x hx => by have := e4 x hx; omega⟩
      · rw [h]; exact ⟨hk, by decide, by decide, rfl, by decide, (by intro x hx; cases hx), (by intro x hx; cases hx)⟩
    · rw [h]; exact ⟨hk, by decide, by decide, rfl, by decide, (by intro x hx; cases hx), (by intro x hx; cases hx)⟩
  obtain ⟨g, eg, g0, g1⟩ := zco hb q1 8 (by omega) (by omega) (by omega) (by omega); have hw : wrap64 (1 + a) = 1 + a := w64d (by omega) (by omega)
  have go : ∀ x, Ev (fun k => if g = 0 then (if (r.2.2.1.length : Int) > 0 then ((zu.f k b (q1 + 1) (r.2.2.1.length : Int)).bind fun bt121 => ((zu.f k b bt121.2 32).bind fun bt123 => (if 0 ≤ bt121.1 then (if bt121.1 < (r.2.2.1.length : Int) then (some (1 + a, r.1, r.2.1, (r.2.2.1.set (bt121.1 : Int).toNat bt123.1), bt123.2)) else (none)) else (none)))) else (some (1 + a, r.1, r.2.1, r.2.2.1, (q1 + 1)))) else (if g = 1 then ((zu.f k b (q1 + 1) 10).bind fun bt126 => (some (1 + a, wrap64 (bt126.1 - 1), r.2.1, r.2.2.1, bt126.2))) else (if g = 2 then (if (r.2.1.length : Int) > 0 then ((zu.f k b (q1 + 1) (r.2.1.length : Int)).bind fun bt128 => ((zu.f k b bt128.2 8).bind fun bt130 => (if 0 ≤ bt128.1 then (if bt128.1 < (r.2.1.length : Int) then (some (1 + a, r.1, (r.2.1.set (bt128.1 : Int).toNat bt130.1), r.2.2.1, bt130.2)) else (none)) else (none)))) else (some (1 + a, r.1, r.2.1, r.2.2.1, (q1 + 1)))) else (some (1 + a, r.1, r.2.1, r.2.2.1, (q1 + 1)))))) x → Ev (fun k => zav.f k b p) x := by
    intro x h; unfold zav.f; refine Ev.bind ea (Ev.bind ec (Ev.bind et ?_)); simp only [hw]; exact Ev.bind er (Ev.bind eg h)
  have hf4 := hD.four; have hlen := hD.len
  by_cases h0 : g = 0
  · by_cases hl : (r.2.2.1.length : Int) > 0
    · obtain ⟨u, eu, u0, u1⟩ := zco hb (q1 + 1) (r.2.2.1.length : Int) (by omega) (by omega) (by omega) (by omega); obtain ⟨v, ev, v0, v1⟩ := zco hb (q1 + 1 + 1) 32 (by omega) (by omega) (by omega) (by omega); refine ⟨_, _, _, _, _, go _ (zaC h0 (zaC hl (Ev.bind eu (Ev.bind ev (zaC u0 (zaC u1 (Ev.now _))))))), by omega, by omega, ?_⟩; exact ⟨hk, hD.lost0, hD.lost1, by rw [List.length_set]; exact hlen, hf4, hD.frm, zeS hD.by_ (by omega) _⟩
    · exact ⟨_, _, _, _, _, go _ (zaC h0 (zbe hl (Ev.now _))), by omega, by omega, hD⟩
  by_cases h1 : g = 1
  · obtain ⟨u, eu, u0, u1⟩ := zco hb (q1 + 1) 10 (by omega) (by omega) (by omega) (by omega); have hu : wrap64 (u - 1) = u - 1 := w64d (by omega) (by omega); refine ⟨_, _, _, _, _, go _ (zbe h0 (zaC h1 (Ev.bind eu (Ev.now _)))), by omega, by omega, ?_⟩; exact ⟨hk, by simp only; rw [hu]; omega, by simp only; rw [hu]; omega, hlen, hf4, hD.frm, hD.by_⟩
  by_cases h2 : g = 2
  · by_cases hl : (r.2.1.length : Int) > 0
    · obtain ⟨u, eu, u0, u1⟩ := zco hb (q1 + 1) (r.2.1.length : Int) (by omega) (by omega) (by omega) (by omega); obtain ⟨v, ev, v0, v1⟩ := zco hb (q1 + 1 + 1) 8 (by omega) (by omega) (by omega) (by omega); refine ⟨_, _, _, _, _, go _ (zbe h0 (zbe h1 (zaC h2 (zaC hl (Ev.bind eu (Ev.bind ev (zaC u0 (zaC u1 (Ev.now _))))))))), by omega, by omega, ?_⟩; exact ⟨hk, hD.lost0, hD.lost1, by rw [List.length_set]; exact hlen, by rw [List.length_set]; exact hf4, zeS hD.frm (by omega) _, hD.by_⟩
    · exact ⟨_, _, _, _, _, go _ (zbe h0 (zbe h1 (zaC h2 (zbe hl (Ev.now _))))), by omega, by omega, hD⟩
  · exact ⟨_, _, _, _, _, go _ (zbe h0 (zbe h1 (zbe h2 (Ev.now _)))), by omega, by omega, hD⟩
end Go.Proofs.Ytmipjlbkcfpkiaa.K

end
section
namespace Go.Proofs.Ytmipjlbkcfpkiaa.K
open Go.RowKit Go.Proofs.YtmipjlbkcfpkiaaW.PrintWords Go.Proofs.YtmipjlbkcfpkiaaW.PrintLast Go.Proofs.YtmipjlbkcfpkiaaW.PrintMore
attribute [local go_sem] zao zar zaE zaD zad zac zaq zan
set_option linter.unusedVariables false
set_option linter.unusedSimpArgs false
def zcH.f (a0 : Int) : Option (Bool) := (zay.f a0 0 30).bind fun t101 => (some t101)
end Go.Proofs.Ytmipjlbkcfpkiaa.K

end
section
namespace Go.Proofs.Ytmipjlbkcfpkiaa.K
open Go.RowKit Go.Proofs.YtmipjlbkcfpkiaaW.PrintWords Go.Proofs.YtmipjlbkcfpkiaaW.PrintLast Go.Proofs.YtmipjlbkcfpkiaaW.PrintMore
attribute [local go_sem] zao zar zaE zaD zad zac zaq zan
set_option linter.unusedVariables false
set_option linter.unusedSimpArgs false
def zch.l0 : Nat → List Int → List Bool → Int → Option (Bool)
  | 0, _, _, _ => none
  | k + 1, x0, x1, x5 => if x5 < (x0.length : Int) then (if 0 ≤ x5 then ((zcH.f (rd x0 x5)).bind fun t102 => (if t102 = true then (zch.l0 k x0 x1 (wrap64 (x5 + 1))) else (some false))) else (none)) else (if (x0.length : Int) = 8 then (some ((x1.length : Int) == 8)) else (some false))
def zch.f (k : Nat) (l0 : List Int) (l1 : List Bool) : Option (Bool) := zch.l0 k l0 l1 0
end Go.Proofs.Ytmipjlbkcfpkiaa.K

end
section
namespace Go.Proofs.Ytmipjlbkcfpkiaa.K
open Go.RowKit Go.Proofs.YtmipjlbkcfpkiaaW.PrintWords Go.Proofs.YtmipjlbkcfpkiaaW.PrintLast Go.Proofs.YtmipjlbkcfpkiaaW.PrintMore
attribute [local go_sem] zao zar zaE zaD zad zac zaq zan
set_option linter.unusedVariables false
set_option linter.unusedSimpArgs false
def zcv.l0 : Nat → List Int → Int → Int → Int → List Int → List Int → Option (Int)
  | 0, _, _, _, _, _, _ => none
  | k + 1, x1, x5, x6, x102000, x102001, x102002 => if x6 < (x102001.length : Int) then (if 0 ≤ x6 then (if x6 < (x102002.length : Int) then (if 0 ≤ (rd x102001 x6) then (if (rd x102001 x6) < (x1.length : Int) then (zcv.l0 k x1 (Int.tmod (wrap64 (x5 + (wrap64 ((rd x102002 x6) * (rd x1 (rd x102001 x6)))))) 31) (wrap64 (x6 + 1)) x102000 x102001 x102002) else (none)) else (none)) else (none)) else (none)) else (some x5)
def zcv.f (k : Nat) (a0_0 : Int) (l0_1 : List Int) (l0_2 : List Int) (l1 : List Int) : Option (Int) := zcv.l0 k l1 0 0 a0_0 l0_1 l0_2
end Go.Proofs.Ytmipjlbkcfpkiaa.K

end
section
namespace Go.Proofs.Ytmipjlbkcfpkiaa.K
open Go.RowKit Go.Proofs.YtmipjlbkcfpkiaaW.PrintWords Go.Proofs.YtmipjlbkcfpkiaaW.PrintLast Go.Proofs.YtmipjlbkcfpkiaaW.PrintMore
attribute [local go_sem] zao zar zaE zaD zad zac zaq zan
set_option linter.unusedVariables false
set_option linter.unusedSimpArgs false
def zfm.f (k : Nat) (a0_0 : Int) (l0_1 : List Int) (l0_2 : List Int) (l1 : List Int) : Option (Int × Bool) := (zN.f k a0_0 l0_1 l0_2).bind fun t102 => (if t102 = true then (if 8 ≤ 281474976710656 then ((zch.f k l1 (List.replicate 8 false)).bind fun t106 => (if t106 = true then ((zcv.f k a0_0 l0_1 l0_2 l1).bind fun t107 => (some (t107, true))) else (some (0, false)))) else (none)) else (some (0, false)))
end Go.Proofs.Ytmipjlbkcfpkiaa.K

end
section
namespace Go.Proofs.Ytmipjlbkcfpkiaa.K
set_option linter.unusedVariables false
set_option linter.unusedSimpArgs false
open Go.RowKit Go.Proofs.YtmipjlbkcfpkiaaW.PrintWords Go.Proofs.YtmipjlbkcfpkiaaW.PrintLast Go.Proofs.YtmipjlbkcfpkiaaW.PrintMore
theorem zaV {α : Type} {c : Prop} [Decidable c] {f g : Nat → Option α} {r : α} (h : c) (k : Ev f r) : Ev (fun n => if c then f n else g n) r := Ev.congr (fun _ => if_pos h) k
theorem zbC {α : Type} {c : Prop} [Decidable c] {f g : Nat → Option α} {r : α} (h : ¬ c) (k : Ev g r) : Ev (fun n => if c then f n else g n) r := Ev.congr (fun _ => if_neg h) k
theorem zcg {α β : Type} {g : Option α} {f : Nat → α → Option β} {a : α} {r : β} (h : g = some a) (k : Ev (fun n => f n a) r) : Ev (fun n => g.bind (f n)) r := Ev.congr (fun n => by rw [h]; rfl) k
theorem pv_eq {α : Type} {g : Nat → Option α} {r r' : α} (h : Ev g r) (e : r = r') : Ev g r' := e ▸ h
theorem w64p {x : Int} (h1 : -9223372036854775808 ≤ x) (h2 : x < 9223372036854775808) : wrap64 x = x := by unfold wrap64; omega
theorem zhV (l : List Int) (i : Nat) (h : i < l.length) : rd l (i : Int) = l[i] := by unfold rd; simp [h]
theorem zdk (a b c : Int) : zay.f a b c = some (decide (b ≤ a) && decide (a ≤ c)) := by
  unfold zay.f
  by_cases h : a ≥ b
  · rw [if_pos h]; simp [h]
  · rw [if_neg h]; simp [h]
theorem zew (a b c : Int) : zaf.f a b c = some (decide (b ≤ a) && decide (a ≤ c)) := by
  unfold zaf.f
  by_cases h : a ≥ b
  · rw [if_pos h]; simp [h]
  · rw [if_neg h]; simp [h]
theorem zeN (a : Int) : zaT.f a = some (decide (0 ≤ a) && decide (a ≤ 7)) := by unfold zaT.f; rw [zew]; rfl
theorem zgR (n : Int) : zcH.f n = some (fld n) := by unfold zcH.f; rw [zdk]; rfl
theorem fld_p (n : Int) : fld n = true ↔ 0 ≤ n ∧ n ≤ 30 := by unfold fld; simp
def fps (a b : Int) : Int := (a + b) % 31
def fms (a b : Int) : Int := (a * b) % 31
theorem zdR (n : Int) (h1 : 0 ≤ n) (_h2 : n ≤ 1000000) : zaW.f n = some (n % 31) := by
  unfold zaW.f; rw [Int.tmod_eq_emod_of_nonneg h1, w64p (by omega) (by omega), Int.tmod_eq_emod_of_nonneg (by omega)]
  congr 1
  omega
theorem zjQ (a b : Int) (ha : fld a = true) (hb : fld b = true) : zaM.f a b = some (fps a b) := by
  rw [fld_p] at ha hb; unfold zaM.f fps; rw [w64p (by omega) (by omega), zdR _ (by omega) (by omega)]; rfl
theorem mul_p {a b : Int} (ha : 0 ≤ a ∧ a ≤ 30) (hb : 0 ≤ b ∧ b ≤ 30) : 0 ≤ a * b ∧ a * b ≤ 900 := by
  refine ⟨Int.mul_nonneg ha.1 hb.1, ?_⟩; have h1 : a * b ≤ 30 * b := Int.mul_le_mul_of_nonneg_right ha.2 hb.1
  omega
theorem zje (a b : Int) (ha : fld a = true) (hb : fld b = true) : zaP.f a b = some (fms a b) := by
  rw [fld_p] at ha hb; have h := mul_p ha hb; unfold zaP.f fms; rw [w64p (by omega) (by omega), zdR _ (by omega) (by omega)]; rfl
theorem zgz (a b : Int) : fld (fps a b) = true := by rw [fld_p]; unfold fps; omega
theorem ziZ (a b : Int) : fld (fms a b) = true := by rw [fld_p]; unfold fms; omega
def zbs (p : Nat → Bool) : Nat → Nat → Bool
  | _, 0 => true
  | i, d + 1 => p i && zbs p (i + 1) d
theorem zdK (p q : Nat → Bool) : ∀ (d i : Nat), zbs (fun j => p j && q j) i d = (zbs p i d && zbs q i d)
  | 0, i => rfl
  | d + 1, i => by
    simp only [zbs, zdK p q d (i + 1)]; cases p i <;> cases q i <;> cases zbs p (i + 1) d <;> cases zbs q (i + 1) d <;> rfl
def okAt (lost : Int) (l : List Int) (i : Nat) : Bool := (decide (0 ≤ rd l i) && decide (rd l i ≤ 7)) && (!decide (rd l i = lost) && !(decide (0 < i) && decide (rd l ((i : Int) - 1) ≥ rd l i)))
def byAt (l : List Int) (i : Nat) : Bool := decide (1 ≤ rd l i) && decide (rd l i ≤ 30)
def zby (lost : Int) (from_ by_ : List Int) : Bool := zbs (okAt lost from_) 0 from_.length && (zbs (byAt by_) 0 by_.length && ((decide (0 ≤ lost) && decide (lost ≤ 7)) && (decide (by_.length = from_.length) && (decide (1 ≤ from_.length) && decide (from_.length ≤ 4)))))
theorem ziM (lost : Int) (from_ by_ : List Int) (hb : by_.length ≤ 1048576) (d : Nat) : ∀ (i : Nat), i + d = by_.length → Ev (fun k => zN.l1 k (i : Int) lost from_ by_) (zbs (byAt by_) i d && ((decide (0 ≤ lost) && decide (lost ≤ 7)) && (decide (by_.length = from_.length) && (decide (1 ≤ from_.length) && decide (from_.length ≤ 4))))) := by
  induction d with
  | zero =>
    intro i hi; refine Ev.step (fun k => by rw [zN.l1]) ?_; refine zbC (by omega) (zcg (zdk _ _ _) ?_); simp only [zbs, Bool.true_and]
    by_cases c : (decide (0 ≤ lost) && decide (lost ≤ 7)) = true
    · rw [c, Bool.true_and]; refine zaV rfl ?_
      by_cases c2 : by_.length = from_.length
      · refine zaV (by omega) (zcg (zdk _ _ _) (pv_eq (Ev.now _) ?_)); rw [decide_eq_true c2, Bool.true_and]
        congr 1 <;> exact decide_eq_decide.mpr (by omega)
      · refine zbC (by omega) (pv_eq (Ev.now _) ?_); rw [decide_eq_false c2, Bool.false_and]
    · rw [Bool.not_eq_true] at c; rw [c, Bool.false_and]; exact zbC (by simp) (Ev.now _)
  | succ d ih =>
    intro i hi; refine Ev.step (fun k => by rw [zN.l1]) ?_; refine zaV (by omega) (zaV (by omega) (zcg (zdk _ _ _) ?_)); rw [w64p (by omega) (by omega), show ((i : Int) + 1) = ((i + 1 : Nat) : Int) by omega]; show Ev _ ((byAt by_ i && zbs (byAt by_) (i + 1) d) && _); unfold byAt
    by_cases c : (decide (1 ≤ rd by_ (i : Int)) && decide (rd by_ (i : Int) ≤ 30)) = true
    · rw [c, Bool.true_and]; exact zaV rfl (ih (i + 1) (by omega))
    · rw [Bool.not_eq_true] at c; rw [c, Bool.false_and, Bool.false_and]; exact zbC (by simp) (Ev.now _)
theorem zjs (lost : Int) (from_ by_ : List Int) (hf : from_.length ≤ 1048576) (hb : by_.length ≤ 1048576) (d : Nat) : ∀ (i : Nat), i + d = from_.length → Ev (fun k => zN.l0 k (i : Int) lost from_ by_) (zbs (okAt lost from_) i d && (zbs (byAt by_) 0 by_.length && ((decide (0 ≤ lost) && decide (lost ≤ 7)) && (decide (by_.length = from_.length) && (decide (1 ≤ from_.length) && decide (from_.length ≤ 4)))))) := by
  induction d with
  | zero =>
    intro i hi; refine Ev.step (fun k => by rw [zN.l0]) ?_; refine zbC (by omega) ?_; simp only [zbs, Bool.true_and]; exact ziM lost from_ by_ hb by_.length 0 (by omega)
  | succ d ih =>
    intro i hi; refine Ev.step (fun k => by rw [zN.l0]) ?_; refine zaV (by omega) (zaV (by omega) (zcg (zdk _ _ _) ?_)); show Ev _ ((okAt lost from_ i && zbs (okAt lost from_) (i + 1) d) && _); have hn := ih (i + 1) (by omega); rw [show ((i + 1 : Nat) : Int) = (i : Int) + 1 by omega] at hn; rw [w64p (x := (i : Int) + 1) (by omega) (by omega), w64p (x := (i : Int) - 1) (by omega) (by omega)]; generalize zbs (okAt lost from_) (i + 1) d = R at hn ⊢; unfold okAt
    by_cases c : (decide (0 ≤ rd from_ (i : Int)) && decide (rd from_ (i : Int) ≤ 7)) = true
    · rw [c, Bool.true_and]; refine zaV rfl ?_
      by_cases c1 : rd from_ (i : Int) = lost
      · rw [decide_eq_true c1]; exact zaV c1 (pv_eq (Ev.now _) (by simp))
      · rw [decide_eq_false c1]; refine zbC c1 ?_
        by_cases c2 : 0 < i
        · refine zaV (by omega) (zaV (by omega) (zaV (by omega) ?_)); rw [decide_eq_true c2]
          by_cases c3 : rd from_ ((i : Int) - 1) ≥ rd from_ (i : Int)
          · rw [decide_eq_true c3]; exact zaV c3 (pv_eq (Ev.now _) (by simp))
          · rw [decide_eq_false c3]; exact zbC c3 (pv_eq hn (by simp))
        · rw [decide_eq_false c2]; exact zbC (by omega) (pv_eq hn (by simp))
    · rw [Bool.not_eq_true] at c; rw [c, Bool.false_and, Bool.false_and, Bool.false_and]; exact zbC (by simp) (Ev.now _)
theorem zdS (lost : Int) (from_ by_ : List Int) (hf : from_.length ≤ 1048576) (hb : by_.length ≤ 1048576) : Ev (fun k => zN.f k lost from_ by_) (zby lost from_ by_) :=
  zjs lost from_ by_ hf hb from_.length 0 (by omega)
theorem zhJ (lost : Int) (from_ by_ : List Int) (hf : from_.length ≤ 1048576) (hb : by_.length = from_.length) (d : Nat) : ∀ (i : Nat), i + d = from_.length → Ev (fun k => zF.l0 k from_ (from_.length : Int) (i : Int) lost from_ by_) (zbs (fun j => okAt lost from_ j && byAt by_ j) i d) := by
  induction d with
  | zero =>
    intro i hi; refine Ev.step (fun k => by rw [zF.l0]) ?_; exact zbC (by omega) (Ev.now _)
  | succ d ih =>
    intro i hi; have hn := ih (i + 1) (by omega); rw [show ((i + 1 : Nat) : Int) = (i : Int) + 1 by omega] at hn; refine Ev.step (fun k => by rw [zF.l0]) ?_; refine zaV (by omega) (zaV (by omega) (zaV (by omega) (zcg (zeN _) ?_))); rw [w64p (x := (i : Int) + 1) (by omega) (by omega), w64p (x := (i : Int) - 1) (by omega) (by omega)]; show Ev _ ((okAt lost from_ i && byAt by_ i) && zbs _ (i + 1) d)
    have hend : Ev (fun k => if (i : Int) < (by_.length : Int) then ((zaf.f (rd by_ (i : Int)) 1 30).bind fun t => (if t = true then (zF.l0 k from_ (from_.length : Int) ((i : Int) + 1) lost from_ by_) else (some false))) else none) (byAt by_ i && zbs (fun j => okAt lost from_ j && byAt by_ j) (i + 1) d) := by
      refine zaV (by omega) (zcg (zew _ _ _) ?_); show Ev _ ((decide (1 ≤ rd by_ (i : Int)) && decide (rd by_ (i : Int) ≤ 30)) && _)
      by_cases c : (decide (1 ≤ rd by_ (i : Int)) && decide (rd by_ (i : Int) ≤ 30)) = true
      · rw [c, Bool.true_and]; exact zaV rfl hn
      · rw [Bool.not_eq_true] at c; rw [c, Bool.false_and]; exact zbC (by simp) (Ev.now _)
    unfold okAt
    by_cases c : (decide (0 ≤ rd from_ (i : Int)) && decide (rd from_ (i : Int) ≤ 7)) = true
    · rw [c, Bool.true_and]; refine zaV rfl ?_
      by_cases c1 : rd from_ (i : Int) = lost
      · rw [decide_eq_true c1]; exact zaV c1 (pv_eq (Ev.now _) (by simp))
      · rw [decide_eq_false c1]; refine zbC c1 ?_
        by_cases c2 : 0 < i
        · refine zaV (by omega) (zaV (by omega) (zaV (by omega) ?_)); rw [decide_eq_true c2]
          by_cases c3 : rd from_ ((i : Int) - 1) ≥ rd from_ (i : Int)
          · rw [decide_eq_true c3]; exact zaV c3 (pv_eq (Ev.now _) (by simp))
          · rw [decide_eq_false c3]; exact zbC c3 (pv_eq hend (by simp [okAt]))
        · rw [decide_eq_false c2]; exact zbC (by omega) (pv_eq hend (by simp [okAt]))
    · rw [Bool.not_eq_true] at c; rw [c, Bool.false_and, Bool.false_and, Bool.false_and]; exact zbC (by simp) (Ev.now _)
theorem zdL (lost : Int) (from_ by_ : List Int) (hf : from_.length ≤ 1048576) (hb : by_.length ≤ 1048576) : Ev (fun k => zF.f k lost from_ by_) (zby lost from_ by_) := by
  have hj : ∀ r, (r = false) → Ev (fun k => zF.j0 k true lost from_ by_) r := fun r hr => by
    subst hr; refine Ev.step (fun k => by rw [zF.j0]) ?_; exact zaV rfl (Ev.now _)
  unfold zF.f; refine zcg (zeN _) ?_
  by_cases c : (decide (0 ≤ lost) && decide (lost ≤ 7)) = true
  · refine zaV c (zcg (zew _ _ _) ?_)
    by_cases c1 : (decide ((1 : Int) ≤ (from_.length : Int)) && decide ((from_.length : Int) ≤ 4)) = true
    · refine zaV c1 ?_; refine Ev.step (fun k => by rw [zF.j0]) ?_
      by_cases c2 : by_.length = from_.length
      · refine zbC (by simp; omega) (pv_eq (zhJ lost from_ by_ hf c2 from_.length 0 (by omega)) ?_); rw [zdK]; unfold zby; rw [c, c2, decide_eq_true rfl]; simp only [Bool.and_eq_true, decide_eq_true_eq] at c1; rw [decide_eq_true (show 1 ≤ from_.length by omega), decide_eq_true (show from_.length ≤ 4 by omega)]
        simp
      · refine zaV (by simp; omega) (pv_eq (Ev.now _) ?_); unfold zby; rw [decide_eq_false c2]; simp
    · refine zbC c1 (hj _ ?_); unfold zby
      have : (decide (1 ≤ from_.length) && decide (from_.length ≤ 4)) = false := by
        rw [Bool.not_eq_true] at c1; rw [← c1]
        congr 1 <;> exact decide_eq_decide.mpr (by omega)
      rw [this]; simp
  · refine zbC c (hj _ ?_); rw [Bool.not_eq_true] at c; unfold zby; rw [c]; simp
theorem zdm (p : Nat → Bool) : ∀ (d i : Nat), zbs p i d = true → ∀ j, i ≤ j → j < i + d → p j = true
  | 0, i, _, j, h1, h2 => by omega
  | d + 1, i, h, j, h1, h2 => by
    simp only [zbs, Bool.and_eq_true] at h
    by_cases c : j = i
    · subst c; exact h.1
    · exact zdm p d (i + 1) h.2 j (by omega) (by omega)
theorem zjO (l : List Int) (z : List Bool) (hz : z.length = 8) (hl : l.length ≤ 1048576) (d : Nat) : ∀ (i : Nat), i + d = l.length → Ev (fun k => zch.l0 k l z (i : Int)) ((l.drop i).all fld && decide (l.length = 8)) := by
  induction d with
  | zero =>
    intro i hi; refine Ev.step (fun k => rfl) (zbC (by omega) ?_); rw [List.drop_eq_nil_of_le (by omega), List.all_nil, Bool.true_and]
    by_cases h : l.length = 8
    · refine zaV (by omega) (pv_eq (Ev.now _) ?_); rw [h, hz]; rfl
    · refine zbC (by omega) (pv_eq (Ev.now _) ?_); rw [decide_eq_false h]
  | succ d ih =>
    intro i hi; have hlt : i < l.length := by omega
    refine Ev.step (fun k => rfl) (zaV (by omega) (zaV (by omega) (zcg (zgR _) ?_))); rw [zhV l i hlt, List.drop_eq_getElem_cons hlt, List.all_cons]
    by_cases c : fld l[i] = true
    · rw [c]; refine zaV rfl ?_; rw [w64p (by omega) (by omega), Bool.true_and]; exact ih (i + 1) (by omega)
    · rw [Bool.not_eq_true] at c; rw [c]; exact zbC (by simp) (Ev.now _)
def valsB (l : List Int) : Bool := l.all fld && decide (l.length = 8)
theorem zdM (l : List Int) (hl : l.length ≤ 1048576) : Ev (fun k => zch.f k l (List.replicate 8 false)) (valsB l) := by
  have := zjO l (List.replicate 8 false) (by simp) hl l.length 0 (by omega); exact pv_eq this (by unfold valsB; rw [List.drop_zero])
theorem zei (l : List Int) (hl : l.length ≤ 1048576) : zbz.f l = some (valsB l) := by
  unfold zbz.f zaS.f valsB; rw [if_pos (by omega), Option.bind_some]
  congr 1
  rw [Bool.and_comm]
  congr 1
  exact decide_eq_decide.mpr (by omega)
def sumB (vals from_ by_ : List Int) : Nat → Nat → Int → Int
  | _, 0, acc => acc
  | i, d + 1, acc => sumB vals from_ by_ (i + 1) d (fps acc (fms (rd by_ i) (rd vals (rd from_ i))))
theorem zhp (vals : List Int) (h : valsB vals = true) (i : Int) (h0 : 0 ≤ i) (h7 : i ≤ 7) : fld (rd vals i) = true := by
  unfold valsB at h; rw [Bool.and_eq_true, List.all_eq_true, decide_eq_true_eq] at h; have hi : i.toNat < vals.length := by omega
  unfold rd; rw [show vals.getD i.toNat 0 = vals[i.toNat] by simp [hi]]; exact h.1 _ (List.getElem_mem _)
theorem zhO (lost : Int) (vals from_ by_ : List Int) (hf : from_.length ≤ 1048576) (hb : by_.length = from_.length) (hv : valsB vals = true) (hok : ∀ j, j < from_.length → (0 ≤ rd from_ (j : Int) ∧ rd from_ (j : Int) ≤ 7) ∧ fld (rd by_ (j : Int)) = true) (d : Nat) :
    ∀ (i : Nat) (acc : Int), i + d = from_.length → fld acc = true → Ev (fun k => zcv.l0 k vals acc (i : Int) lost from_ by_) (sumB vals from_ by_ i d acc) := by
  have h8 : vals.length = 8 := by
    unfold valsB at hv; rw [Bool.and_eq_true, decide_eq_true_eq] at hv; exact hv.2
  induction d with
  | zero =>
    intro i acc hi ha; exact Ev.step (fun k => rfl) (zbC (by omega) (Ev.now _))
  | succ d ih =>
    intro i acc hi ha; obtain ⟨⟨h1, h2⟩, h3⟩ := hok i (by omega); have h4 := zhp vals hv _ h1 h2; refine Ev.step (fun k => rfl) (zaV (by omega) (zaV (by omega) (zaV (by omega) (zaV h1 (zaV (by omega) ?_)))))
    have he : Int.tmod (wrap64 (acc + (wrap64 ((rd by_ (i : Int)) * (rd vals (rd from_ (i : Int))))))) 31 = fps acc (fms (rd by_ (i : Int)) (rd vals (rd from_ (i : Int)))) := by
      rw [fld_p] at ha h3 h4; have hm := mul_p h3 h4; rw [w64p (x := _ * _) (by omega) (by omega), w64p (by omega) (by omega), Int.tmod_eq_emod_of_nonneg (by omega)]; unfold fps fms
      omega
    rw [he, w64p (by omega) (by omega), show ((i : Int) + 1) = ((i + 1 : Nat) : Int) by omega]; exact ih (i + 1) _ (by omega) (zgz _ _)
theorem zia (lost : Int) (vals from_ by_ : List Int) (hf : from_.length ≤ 1048576) (hb : by_.length = from_.length) (hv : valsB vals = true) (hok : ∀ j, j < from_.length → (0 ≤ rd from_ (j : Int) ∧ rd from_ (j : Int) ≤ 7) ∧ fld (rd by_ (j : Int)) = true) (d : Nat) :
    ∀ (i : Nat) (acc : Int), i + d = from_.length → fld acc = true → Ev (fun k => zaO.l0 k vals acc from_ (from_.length : Int) (i : Int) lost from_ by_) (sumB vals from_ by_ i d acc) := by
  have h8 : vals.length = 8 := by
    unfold valsB at hv; rw [Bool.and_eq_true, decide_eq_true_eq] at hv; exact hv.2
  induction d with
  | zero =>
    intro i acc hi ha; exact Ev.step (fun k => rfl) (zbC (by omega) (Ev.now _))
  | succ d ih =>
    intro i acc hi ha; obtain ⟨⟨h1, h2⟩, h3⟩ := hok i (by omega); have h4 := zhp vals hv _ h1 h2; refine Ev.step (fun k => rfl) (zaV (by omega) (zaV (by omega) (zaV (by omega) (zaV h1 (zaV (by omega) (zaV (by omega) ?_)))))); refine zcg (zje _ _ h4 h3) (zcg (zjQ _ _ ha (ziZ _ _)) ?_); rw [w64p (by omega) (by omega), show ((i : Int) + 1) = ((i + 1 : Nat) : Int) by omega]; have hc : fms (rd vals (rd from_ (i : Int))) (rd by_ (i : Int)) = fms (rd by_ (i : Int)) (rd vals (rd from_ (i : Int))) := by unfold fms; rw [Int.mul_comm]
    rw [hc]; exact ih (i + 1) _ (by omega) (zgz _ _)
theorem zcq (lost : Int) (from_ by_ : List Int) (h : zby lost from_ by_ = true) : by_.length = from_.length ∧ ∀ j, j < from_.length → (0 ≤ rd from_ (j : Int) ∧ rd from_ (j : Int) ≤ 7) ∧ fld (rd by_ (j : Int)) = true := by
  unfold zby at h; simp only [Bool.and_eq_true, decide_eq_true_eq] at h; obtain ⟨h1, h2, _, h3, _⟩ := h; refine ⟨h3, fun j hj => ?_⟩; have a1 := zdm _ _ _ h1 j (by omega) (by omega); have a2 := zdm _ _ _ h2 j (by omega) (by omega); unfold okAt at a1; unfold byAt at a2; simp only [Bool.and_eq_true, decide_eq_true_eq] at a1 a2; exact ⟨a1.1, by rw [fld_p]; omega⟩
def planV (lost : Int) (vals from_ by_ : List Int) : Int × Bool := if zby lost from_ by_ = true then (if valsB vals = true then (sumB vals from_ by_ 0 from_.length 0, true) else (0, false)) else (0, false)
theorem zeV (lost : Int) (vals from_ by_ : List Int) (hf : from_.length ≤ 1048576) (hb : by_.length ≤ 1048576) (hv : vals.length ≤ 1048576) : Ev (fun k => zfm.f k lost from_ by_ vals) (planV lost vals from_ by_) ∧ Ev (fun k => zbJ.f k lost from_ by_ vals) (planV lost vals from_ by_) := by
  have s1 := zdS lost from_ by_ hf hb; have i1 := zdL lost from_ by_ hf hb; unfold planV
  by_cases c : zby lost from_ by_ = true
  · rw [if_pos c]; rw [c] at s1 i1
    by_cases c2 : valsB vals = true
    · rw [if_pos c2]; obtain ⟨h1, h2⟩ := zcq _ _ _ c; have hs2 := zdM vals hv; rw [c2] at hs2; exact ⟨s1.bind (zaV rfl (zaV (by omega) (hs2.bind (zaV rfl ((zhO lost vals from_ by_ hf h1 c2 h2 from_.length 0 0 (by omega) rfl).bind (Ev.now _)))))), i1.bind (zaV rfl (zcg (zei vals hv) (zaV c2 ((zia lost vals from_ by_ hf h1 c2 h2 from_.length 0 0 (by omega) rfl).bind (Ev.now _)))))⟩
    · rw [if_neg c2]; have hs2 := zdM vals hv; exact ⟨s1.bind (zaV rfl (zaV (by omega) (hs2.bind (zbC c2 (Ev.now _))))), i1.bind (zaV rfl (zcg (zei vals hv) (zbC c2 (Ev.now _))))⟩
  · rw [if_neg c]; exact ⟨s1.bind (zbC c (Ev.now _)), i1.bind (zbC c (Ev.now _))⟩
end Go.Proofs.Ytmipjlbkcfpkiaa.K

end
section
namespace Go.Proofs.Ytmipjlbkcfpkiaa.K
set_option linter.unusedVariables false
set_option linter.unusedSimpArgs false
open Go.RowKit Go.Proofs.YtmipjlbkcfpkiaaW.PrintWords Go.Proofs.YtmipjlbkcfpkiaaW.PrintLast Go.Proofs.YtmipjlbkcfpkiaaW.PrintMore
theorem zeL (l : List (List Int)) (i : Nat) (h : i < l.length) : rd_L5 l (i : Int) = l[i] := by unfold rd_L5; simp [h]
theorem zfA (l : List Int) (i : Nat) (h : i < l.length) : rd l (i : Int) = l[i] := by unfold rd; simp [h]
theorem zga (a b : List (List Int)) (n : Nat) (ha : n < a.length) (hb : n < b.length) (hna : a[n].length = 4) (hnb : b[n].length = 4) (hl : a.length ≤ 140737488351232) (r : Bool)
    (h : a[n] = b[n] → Ev (fun k => zaG.l0 k a b ((n + 1 : Nat) : Int)) r) (hne : a[n] ≠ b[n] → r = false) :
    ∀ (d j : Nat), j + d = 4 → a[n].take j = b[n].take j → Ev (fun k => zaG.l1 k a b (n : Int) (j : Int)) r := by
  intro d
  induction d with
  | zero =>
    intro j hj he; refine Ev.step (fun k => rfl) (zbe (by omega) ?_); rw [w64d (x := (n : Int) + 1) (by omega) (by omega), show ((n : Int) + 1) = ((n + 1 : Nat) : Int) by omega]; rw [List.take_of_length_le (by omega), List.take_of_length_le (by omega)] at he; exact h he
  | succ d ih =>
    intro j hj he; refine Ev.step (fun k => rfl) (zaC (by omega) (zaC (by omega) (zaC (by omega) (zaC (by omega) ?_)))); rw [zeL a n ha, zeL b n hb, zfA _ j (show j < a[n].length by omega), zfA _ j (show j < b[n].length by omega), w64d (x := (j : Int) + 1) (by omega) (by omega), show ((j : Int) + 1) = ((j + 1 : Nat) : Int) by omega]; refine zaC (by omega) (zaC (by omega) (zaC (by omega) ?_))
    by_cases c : a[n][j]'(by omega) = b[n][j]'(by omega)
    · refine zaC c (ih (j + 1) (by omega) ?_); rw [List.take_succ_eq_append_getElem (show j < a[n].length by omega), List.take_succ_eq_append_getElem (show j < b[n].length by omega), he, c]
    · refine zbe c (dv_eq (Ev.now _) (hne (fun hh => c ?_)).symm); simp only [hh]
theorem zgN (a b : List (List Int)) (hab : a.length = b.length) (ha : ∀ r ∈ a, r.length = 4) (hb : ∀ r ∈ b, r.length = 4) (hl : a.length ≤ 140737488351232) :
    ∀ (d i : Nat), i + d = a.length → Ev (fun k => zaG.l0 k a b (i : Int)) (decide (a.drop i = b.drop i)) := by
  intro d
  induction d with
  | zero =>
    intro i hi; refine Ev.step (fun k => rfl) (zbe (by omega) (dv_eq (Ev.now _) ?_)); rw [List.drop_eq_nil_of_le (by omega), List.drop_eq_nil_of_le (by omega)]; simp
  | succ d ih =>
    intro i hi; have hlt : i < a.length := by omega
    have hlt2 : i < b.length := by omega
    have ea : a.drop i = a[i] :: a.drop (i + 1) := List.drop_eq_getElem_cons hlt; have eb : b.drop i = b[i] :: b.drop (i + 1) := List.drop_eq_getElem_cons hlt2; refine Ev.step (fun k => rfl) (zaC (by omega) ?_); refine zga a b i hlt hlt2 (ha _ (List.getElem_mem _)) (hb _ (List.getElem_mem _)) hl _ (fun c => dv_eq (ih (i + 1) (by omega)) ?_) (fun c => ?_) 4 0 (by omega) rfl
    · rw [ea, eb, c]; exact decide_eq_decide.mpr (by rw [List.cons.injEq]; exact ⟨fun h => ⟨rfl, h⟩, fun h => h.2⟩)
    · rw [ea, eb]; exact decide_eq_false (by rw [List.cons.injEq]; exact fun h => c h.1)
theorem zhd (a b : List (List Int)) (ha : ∀ r ∈ a, r.length = 4) (hb : ∀ r ∈ b, r.length = 4) (hl : a.length ≤ 140737488351232) : Ev (fun k => zaG.f k a b) (decide (a = b)) := by
  unfold zaG.f
  by_cases c : a.length = b.length
  · refine zaC (by omega) (dv_eq (zgN a b c ha hb hl a.length 0 (by omega)) ?_)
    simp
  · refine zbe (by omega) (dv_eq (Ev.now _) ?_)
    symm
    rw [decide_eq_false_iff_not]; intro h; exact c (by rw [h])
def scL (r : List Int) (y : Int) : List Int := [rd r 0 * y % 31, rd r 1 * y % 31, rd r 2 * y % 31, rd r 3 * y % 31]
def smL (a b : List Int) : List Int := [(rd a 0 + rd b 0) % 31, (rd a 1 + rd b 1) % 31, (rd a 2 + rd b 2) % 31, (rd a 3 + rd b 3) % 31]
theorem ziE (r : List Int) (y : Int) : Vec4 (scL r y) := ⟨rfl, by
  intro x hx; simp only [scL, List.mem_cons, List.not_mem_nil, or_false] at hx
  omega⟩
theorem zfx (a b : List Int) : Vec4 (smL a b) := ⟨rfl, by
  intro x hx; simp only [smL, List.mem_cons, List.not_mem_nil, or_false] at hx
  omega⟩
theorem w1n : wrap64 (0 + 1) = 1 := w64d (by omega) (by omega)
theorem w2n : wrap64 (1 + 1) = 2 := w64d (by omega) (by omega)
theorem w3n : wrap64 (2 + 1) = 3 := w64d (by omega) (by omega)
theorem w4n : wrap64 (3 + 1) = 4 := w64d (by omega) (by omega)
theorem zeD {a y : Int} (ha : 0 ≤ a ∧ a ≤ 30) (hy : 0 ≤ y ∧ y ≤ 30) : Int.tmod (wrap64 (a * y)) 31 = a * y % 31 := by
  have hm := ziJ ha hy; rw [w64d (by omega) (by omega), Int.tmod_eq_emod_of_nonneg (by omega)]
theorem zey {a b : Int} (ha : 0 ≤ a ∧ a ≤ 30) (hb : 0 ≤ b ∧ b ≤ 30) : Int.tmod (wrap64 (a + b)) 31 = (a + b) % 31 := by
  rw [w64d (by omega) (by omega), Int.tmod_eq_emod_of_nonneg (by omega)]
theorem zie {r : List Int} (h : Vec4 r) {y : Int} (hy : 0 ≤ y ∧ y ≤ 30) : Ev (fun k => zR.f k r y) (scL r y) := by
  have la := h.len; refine Ev.of (fun k => zR.mono _ _ _) (k := 5) ?_; unfold zR.f
  rw [zR.l0, if_pos (by omega), if_pos (by omega), if_pos (by simp), w1n, zeD (zbV h (by omega) (by omega)) hy,
    zR.l0, if_pos (by omega), if_pos (by omega), if_pos (by simp), w2n, zeD (zbV h (by omega) (by omega)) hy,
    zR.l0, if_pos (by omega), if_pos (by omega), if_pos (by simp), w3n, zeD (zbV h (by omega) (by omega)) hy,
    zR.l0, if_pos (by omega), if_pos (by omega), if_pos (by simp), w4n, zeD (zbV h (by omega) (by omega)) hy,
    zR.l0, if_neg (by omega)]
  rfl
theorem zjA {a b : List Int} (h : Vec4 a) (h' : Vec4 b) : Ev (fun k => zW.f k a b) (smL a b) := by
  have la := h.len; have lb := h'.len; refine Ev.of (fun k => zW.mono _ _ _) (k := 5) ?_; unfold zW.f
  rw [zW.l0, if_pos (by omega), if_pos (by omega), if_pos (by omega), if_pos (by simp), w1n, zey (zbV h (by omega) (by omega)) (zbV h' (by omega) (by omega)),
    zW.l0, if_pos (by omega), if_pos (by omega), if_pos (by omega), if_pos (by simp), w2n, zey (zbV h (by omega) (by omega)) (zbV h' (by omega) (by omega)),
    zW.l0, if_pos (by omega), if_pos (by omega), if_pos (by omega), if_pos (by simp), w3n, zey (zbV h (by omega) (by omega)) (zbV h' (by omega) (by omega)),
    zW.l0, if_pos (by omega), if_pos (by omega), if_pos (by omega), if_pos (by simp), w4n, zey (zbV h (by omega) (by omega)) (zbV h' (by omega) (by omega)),
    zW.l0, if_neg (by omega)]
  rfl
theorem zgJ {kind n : Int} (hk : kind = 1 ∨ kind = 2) (h0 : 0 ≤ n) (h1 : n ≤ 7) : zbb.f kind n = some (rd (rowS kind n) 0, rd (rowS kind n) 1, rd (rowS kind n) 2, rd (rowS kind n) 3) := by
  rcases hk with rfl | rfl <;> rcases zcA h0 h1 with rfl | rfl | rfl | rfl | rfl | rfl | rfl | rfl <;> decide +kernel
theorem zfu {d : List Int} (h : Vec4 d) : d = [rd d 0, rd d 1, rd d 2, rd d 3] := by
  have hl := h.len
  match d, hl with
  | [a, b, c, e], _ => rfl
def mixL (kind : Int) (f b : List Int) : Nat → Nat → List Int → List Int
  | _, 0, acc => acc
  | i, d + 1, acc => mixL kind f b (i + 1) d (smL acc (scL (rowS kind (rd f (i : Int))) (rd b (i : Int))))
theorem zeI (kind : Int) (f b : List Int) : ∀ (d i : Nat) (acc : List Int), Vec4 acc → Vec4 (mixL kind f b i d acc)
  | 0, _, _, h => h
  | d + 1, i, acc, _ => zeI kind f b d (i + 1) _ (zfx _ _)
def zcW (kind lost : Int) (f b : List Int) : Bool := zby lost f b && decide (mixL kind f b 0 f.length [0, 0, 0, 0] = rowS kind lost)
theorem zhz {kind : Int} (hk : kind = 1 ∨ kind = 2) : zba.f kind = some true ∧ zbr.f kind = some true := by
  rcases hk with rfl | rfl <;> exact ⟨by decide +kernel, by decide +kernel⟩
theorem zdD : Vec4 [0, 0, 0, 0] := ⟨rfl, by decide⟩
theorem zcB {lost : Int} {f b : List Int} (h : zby lost f b = true) : 0 ≤ lost ∧ lost ≤ 7 ∧ 1 ≤ f.length ∧ f.length ≤ 4 := by
  unfold zby at h; simp only [Bool.and_eq_true, decide_eq_true_eq] at h
  omega
theorem zhU {kind lost : Int} {f b : List Int} (hk : kind = 1 ∨ kind = 2) (hF : zby lost f b = true) (d : Nat) : ∀ (i : Nat) (acc : List Int), i + d = f.length → Vec4 acc →
    Ev (fun k => zP.l0 k kind acc (i : Int) lost f b) (decide (mixL kind f b i d acc = rowS kind lost)) := by
  obtain ⟨hb, hok⟩ := zcq _ _ _ hF; obtain ⟨l0, l1, f1, f4⟩ := zcB hF
  induction d with
  | zero =>
    intro i acc hi ha; have hr := zcQ hk l0 l1; refine Ev.step (fun k => by rw [zP.l0]) (zbe (by omega) (zbA (zeX hk l0 l1) (Ev.bind (zhd [acc] [rowS kind lost] (by intro r hr'; rw [List.mem_singleton.1 hr']; exact ha.len) (by intro r hr'; rw [List.mem_singleton.1 hr']; exact hr.len) (by simp)) ?_))); refine dv_eq (Ev.now _) (decide_eq_decide.mpr ?_)
    simp [mixL]
  | succ d ih =>
    intro i acc hi ha; obtain ⟨⟨h1, h2⟩, h3⟩ := hok i (by omega); rw [fld_p] at h3; have hib : (i : Int) < (b.length : Int) := by omega
    refine Ev.step (fun k => by rw [zP.l0]) (zaC (by omega) (zaC (by omega) (zbA (zeX hk h1 h2) (zaC hib (Ev.bind (zie (zcQ hk h1 h2) h3) (Ev.bind (zjA ha (ziE _ _)) ?_)))))); rw [w64d (by omega) (by omega), show ((i : Int) + 1) = ((i + 1 : Nat) : Int) by omega]; exact ih (i + 1) _ (by omega) (zfx _ _)
theorem zjL {a b c e y : Int} (ha : 0 ≤ a ∧ a ≤ 30) (hb : 0 ≤ b ∧ b ≤ 30) (hc : 0 ≤ c ∧ c ≤ 30) (he : 0 ≤ e ∧ e ≤ 30) (hy : 0 ≤ y ∧ y ≤ 30) : zaZ.f a b c e y = some (a * y % 31, b * y % 31, c * y % 31, e * y % 31) := by
  unfold zaZ.f; rw [if_pos]
  · rfl
  · simp only [fld4, Bool.and_eq_true, fld_p]; exact ⟨⟨⟨⟨ha, hb⟩, hc⟩, he⟩, hy⟩
theorem plus4 {a b c e a' b' c' e' : Int} (ha : 0 ≤ a ∧ a ≤ 30) (hb : 0 ≤ b ∧ b ≤ 30) (hc : 0 ≤ c ∧ c ≤ 30) (he : 0 ≤ e ∧ e ≤ 30) (ha' : 0 ≤ a' ∧ a' ≤ 30) (hb' : 0 ≤ b' ∧ b' ≤ 30) (hc' : 0 ≤ c' ∧ c' ≤ 30) (he' : 0 ≤ e' ∧ e' ≤ 30) :
    zau.f a b c e a' b' c' e' = some ((a + a') % 31, (b + b') % 31, (c + c') % 31, (e + e') % 31) := by
  unfold zau.f; rw [if_pos]
  · rfl
  · simp only [fld4, Bool.and_eq_true, fld_p]; exact ⟨⟨⟨⟨ha, hb⟩, hc⟩, he⟩, ⟨⟨ha', hb'⟩, hc'⟩, he'⟩
theorem zhX {kind lost : Int} {f b : List Int} (hk : kind = 1 ∨ kind = 2) (hF : zby lost f b = true) (d : Nat) : ∀ (i : Nat) (a0 a1 a2 a3 : Int), i + d = f.length → Vec4 [a0, a1, a2, a3] →
    Ev (fun k => zU.l0 k kind f (f.length : Int) (i : Int) lost f b a0 a1 a2 a3) (decide (mixL kind f b i d [a0, a1, a2, a3] = rowS kind lost)) := by
  obtain ⟨hb, hok⟩ := zcq _ _ _ hF; obtain ⟨l0, l1, f1, f4⟩ := zcB hF
  induction d with
  | zero =>
    intro i a0 a1 a2 a3 hi ha; have hr := zfu (zcQ hk l0 l1); refine Ev.step (fun k => by rw [zU.l0]) (zbe (by omega) (zbA (zgJ hk l0 l1) ?_)); show Ev _ (decide ([a0, a1, a2, a3] = rowS kind lost)); rw [hr]; simp only [List.cons.injEq, and_true]
    by_cases c0 : a0 = rd (rowS kind lost) 0
    · by_cases c1 : a1 = rd (rowS kind lost) 1
      · by_cases c2 : a2 = rd (rowS kind lost) 2
        · by_cases c3 : a3 = rd (rowS kind lost) 3
          · exact zaC c0 (zaC c1 (zaC c2 (zaC c3 (dv_eq (Ev.now _) (by simp [c0, c1, c2, c3])))))
          · exact zaC c0 (zaC c1 (zaC c2 (zbe c3 (dv_eq (Ev.now _) (by simp [c3])))))
        · exact zaC c0 (zaC c1 (zbe c2 (dv_eq (Ev.now _) (by simp [c2]))))
      · exact zaC c0 (zbe c1 (dv_eq (Ev.now _) (by simp [c1])))
    · exact zbe c0 (dv_eq (Ev.now _) (by simp [c0]))
  | succ d ih =>
    intro i a0 a1 a2 a3 hi ha; obtain ⟨⟨h1, h2⟩, h3⟩ := hok i (by omega); rw [fld_p] at h3; have hib : (i : Int) < (b.length : Int) := by omega
    have hr := zcQ hk h1 h2; have r0 := zbV hr (i := 0) (by omega) (by omega); have r1 := zbV hr (i := 1) (by omega) (by omega); have r2 := zbV hr (i := 2) (by omega) (by omega); have r3 := zbV hr (i := 3) (by omega) (by omega); have q0 := zbV ha (i := 0) (by omega) (by omega); have q1 := zbV ha (i := 1) (by omega) (by omega); have q2 := zbV ha (i := 2) (by omega) (by omega); have q3 := zbV ha (i := 3) (by omega) (by omega); refine Ev.step (fun k => by rw [zU.l0]) (zaC (by omega) (zaC (by omega) (zaC (by omega) (zbA (zgJ hk h1 h2) (zaC hib (zbA (zjL r0 r1 r2 r3 h3) (zbA (plus4 q0 q1 q2 q3 (mod31 _) (mod31 _) (mod31 _) (mod31 _)) ?_))))))); rw [w64d (by omega) (by omega), show ((i : Int) + 1) = ((i + 1 : Nat) : Int) by omega]; exact ih (i + 1) _ _ _ _ (by omega) (zfx [a0, a1, a2, a3] (scL (rowS kind (rd f (i : Int))) (rd b (i : Int))))
theorem zhq {kind lost : Int} {f b : List Int} (hk : kind = 1 ∨ kind = 2) (hf : f.length ≤ 1048576) (hb : b.length ≤ 1048576) : Ev (fun k => zP.f k kind lost f b) (zcW kind lost f b) ∧ Ev (fun k => zU.f k kind lost f b) (zcW kind lost f b) := by
  have s1 := zdS lost f b hf hb; have i1 := zdL lost f b hf hb; obtain ⟨k1, k2⟩ := zhz hk; unfold zcW zP.f zU.f
  by_cases c : zby lost f b = true
  · rw [c] at s1 i1 ⊢; rw [Bool.true_and]; refine ⟨zbA k1 (zaC rfl (Ev.bind s1 ?_)), zbA k2 (zaC rfl (Ev.bind i1 ?_))⟩
    · have es : ∀ k, zP.j0 (k + 1) kind (!true) lost f b = zP.l0 k kind [0, 0, 0, 0] ((0 : Nat) : Int) lost f b := fun k => by
        rw [zP.j0, if_neg (by decide), if_pos (by omega)]; rfl
      exact Ev.step es (zhU hk c f.length 0 [0, 0, 0, 0] (by omega) zdD)
    · have es : ∀ k, zU.j0 (k + 1) kind (!true) lost f b = zU.l0 k kind f (f.length : Int) ((0 : Nat) : Int) lost f b 0 0 0 0 := fun k => by
        rw [zU.j0, if_neg (by decide)]; rfl
      exact Ev.step es (zhX hk c f.length 0 0 0 0 0 (by omega) zdD)
  · have c' : zby lost f b = false := by simpa using c
    rw [c'] at s1 i1 ⊢; rw [Bool.false_and]; refine ⟨zbA k1 (zaC rfl (Ev.bind s1 ?_)), zbA k2 (zaC rfl (Ev.bind i1 ?_))⟩
    · have es : ∀ k, zP.j0 (k + 1) kind (!false) lost f b = some false := fun k => by rw [zP.j0, if_pos (show (!false) = true from rfl)]
      exact Ev.step es (Ev.now _)
    · have es : ∀ k, zU.j0 (k + 1) kind (!false) lost f b = some false := fun k => by rw [zU.j0, if_pos (show (!false) = true from rfl)]
      exact Ev.step es (Ev.now _)
theorem zdG (A r y d : Int) : ∃ k, (A + r * y % 31) % 31 * d = A * d + y * (r * d) - 31 * k := by
  obtain ⟨q, hq⟩ : ∃ q, (A + r * y % 31) % 31 = A + r * y - 31 * q := ⟨(A + r * y % 31) / 31 + r * y / 31, by omega⟩
  refine ⟨q * d, ?_⟩; rw [hq, Int.sub_mul, Int.add_mul, Int.mul_assoc 31 q d, Int.mul_comm r y, Int.mul_assoc y r d]
def sigma (a d : List Int) : Int := rd a 0 * rd d 0 + rd a 1 * rd d 1 + rd a 2 * rd d 2 + rd a 3 * rd d 3
theorem zeQ (a d : List Int) : dotS a d = sigma a d % 31 := by
  unfold dotS sigma; generalize rd a 0 * rd d 0 = x0; generalize rd a 1 * rd d 1 = x1; generalize rd a 2 * rd d 2 = x2; generalize rd a 3 * rd d 3 = x3
  omega
theorem zfT (acc r d : List Int) (y : Int) : ∃ k, sigma (smL acc (scL r y)) d = sigma acc d + y * sigma r d - 31 * k := by
  obtain ⟨k0, h0⟩ := zdG (rd acc 0) (rd r 0) y (rd d 0); obtain ⟨k1, h1⟩ := zdG (rd acc 1) (rd r 1) y (rd d 1); obtain ⟨k2, h2⟩ := zdG (rd acc 2) (rd r 2) y (rd d 2); obtain ⟨k3, h3⟩ := zdG (rd acc 3) (rd r 3) y (rd d 3); refine ⟨k0 + k1 + k2 + k3, ?_⟩; show (rd acc 0 + rd r 0 * y % 31) % 31 * rd d 0 + (rd acc 1 + rd r 1 * y % 31) % 31 * rd d 1 + (rd acc 2 + rd r 2 * y % 31) % 31 * rd d 2 + (rd acc 3 + rd r 3 * y % 31) % 31 * rd d 3 = _; rw [h0, h1, h2, h3]; unfold sigma; rw [Int.mul_add, Int.mul_add, Int.mul_add]
  omega
theorem ziB {kind : Int} {f b d : List Int} (hk : kind = 1 ∨ kind = 2) (hok : ∀ j, j < f.length → (0 ≤ rd f (j : Int) ∧ rd f (j : Int) ≤ 7) ∧ fld (rd b (j : Int)) = true) (n : Nat) : ∀ (i : Nat) (s : Int) (acc : List Int), i + n = f.length → s % 31 = sigma acc d % 31 →
    sumB (encS kind d) f b i n s % 31 = sigma (mixL kind f b i n acc) d % 31 := by
  induction n with
  | zero => intro i s acc _ h; exact h
  | succ n ih =>
    intro i s acc hi h; obtain ⟨⟨h1, h2⟩, h3⟩ := hok i (by omega); refine ih (i + 1) _ _ (by omega) ?_; rw [zgx kind d h1 h2, zeQ]; obtain ⟨k, hk⟩ := zfT acc (rowS kind (rd f (i : Int))) d (rd b (i : Int)); rw [hk]; unfold fps fms; generalize rd b (i : Int) = y; generalize sigma (rowS kind (rd f (i : Int))) d = t; have e : y * (t % 31) % 31 = y * t % 31 := by rw [Int.mul_emod, Int.emod_emod_of_dvd _ (Int.dvd_refl 31), ← Int.mul_emod]
    rw [e]; generalize y * t = z
    omega
theorem zfg {x : Int} (h : 0 ≤ x ∧ x ≤ 30) : x % 31 = x := by omega
theorem zfP {kind lost : Int} {f b d : List Int} (hk : kind = 1 ∨ kind = 2) (hF : zby lost f b = true) : sumB (encS kind d) f b 0 f.length 0 = sigma (mixL kind f b 0 f.length [0, 0, 0, 0]) d % 31 := by
  obtain ⟨hb, hok⟩ := zcq _ _ _ hF
  have h := ziB (d := d) hk hok f.length 0 0 [0, 0, 0, 0] (by omega) (by
    show 0 % 31 = (0 * _ + 0 * _ + 0 * _ + 0 * _) % 31
    simp)
  rw [← h]
  have hs : ∀ (n i : Nat) (s : Int), 0 ≤ s ∧ s ≤ 30 → 0 ≤ sumB (encS kind d) f b i n s ∧ sumB (encS kind d) f b i n s ≤ 30 := by
    intro n
    induction n with
    | zero => intro i s h; exact h
    | succ n ih => intro i s _; exact ih _ _ (mod31 _)
  exact (zfg (hs _ _ _ (by omega))).symm
theorem zit (kind : Int) (d : List Int) : valsB (encS kind d) = true := by
  unfold valsB; rw [Bool.and_eq_true, List.all_eq_true, decide_eq_true_eq]; exact ⟨fun x hx => (fld_p x).2 (zhA kind d x hx), zdE _ _⟩
theorem zeJ {kind : Int} {d : List Int} (hk : kind = 1 ∨ kind = 2) (hd : Vec4 d) : zbo.f kind d = some (encS kind d) := by
  have hl := hd.len
  have hv : isVec d = true := by
    unfold isVec; rw [Bool.and_eq_true, List.all_eq_true, decide_eq_true_eq]; exact ⟨hl, fun x hx => (fld_p x).2 (hd.fld x hx)⟩
  have hkk : isKind kind = true := by rcases hk with rfl | rfl <;> decide
  unfold zbo.f; rw [if_pos (by omega), if_pos (by rw [hkk, hv]; rfl)]
  have hrow : ∀ n : Nat, n ≤ 7 → rowS kind (n : Int) = [(row kind n).1, (row kind n).2.1, (row kind n).2.2.1, (row kind n).2.2.2] := by
    intro n hn; have : n = 0 ∨ n = 1 ∨ n = 2 ∨ n = 3 ∨ n = 4 ∨ n = 5 ∨ n = 6 ∨ n = 7 := by omega
    rcases hk with rfl | rfl <;> rcases this with rfl | rfl | rfl | rfl | rfl | rfl | rfl | rfl <;> decide +kernel
  have hdot : ∀ n : Nat, n ≤ 7 → dotr (row kind n) (vec4 d) = dotS (rowS kind (n : Int)) d := by
    intro n hn; rw [hrow n hn]; unfold dotr dotv vec4 dotS fp fm; show _ = (((((0 + (row kind n).1 * rd d 0) % 31) + (row kind n).2.1 * rd d 1) % 31 + (row kind n).2.2.1 * rd d 2) % 31 + (row kind n).2.2.2 * rd d 3) % 31
    simp only
    generalize (row kind n).1 * rd d 0 = x0; generalize (row kind n).2.1 * rd d 1 = x1; generalize (row kind n).2.2.1 * rd d 2 = x2; generalize (row kind n).2.2.2 * rd d 3 = x3
    omega
  unfold enc; rw [hdot 0 (by omega), hdot 1 (by omega), hdot 2 (by omega), hdot 3 (by omega), hdot 4 (by omega), hdot 5 (by omega), hdot 6 (by omega), hdot 7 (by omega)]; rfl
end Go.Proofs.Ytmipjlbkcfpkiaa.K

end
section
namespace Go.Proofs.Ytmipjlbkcfpkiaa.Pure
open Go.RowKit Go.Proofs.Ytmipjlbkcfpkiaa.K Go.Proofs.YtmipjlbkcfpkiaaW.PrintWords Go.Proofs.YtmipjlbkcfpkiaaW.PrintLast
set_option linter.unusedVariables false
set_option linter.unusedSimpArgs false
def unitL (i : Int) : List Int := if i = 0 then [1, 0, 0, 0] else if i = 1 then [0, 1, 0, 0] else if i = 2 then [0, 0, 1, 0] else [0, 0, 0, 1]
theorem four {i : Int} (h0 : 0 ≤ i) (h1 : i < 4) : i = 0 ∨ i = 1 ∨ i = 2 ∨ i = 3 := by omega
theorem ziq {i : Int} (h0 : 0 ≤ i) (h1 : i < 4) : zbP.f i = some (unitL i, true) ∧ Vec4 (unitL i) := by
  rcases four h0 h1 with rfl | rfl | rfl | rfl <;> exact ⟨by decide +kernel, ⟨rfl, by decide⟩⟩
theorem zek (a : List Int) {i : Int} (h0 : 0 ≤ i) (h1 : i < 4) : sigma a (unitL i) = rd a i := by
  unfold sigma
  rcases four h0 h1 with rfl | rfl | rfl | rfl
  · show rd a 0 * 1 + rd a 1 * 0 + rd a 2 * 0 + rd a 3 * 0 = _
    omega
  · show rd a 0 * 0 + rd a 1 * 1 + rd a 2 * 0 + rd a 3 * 0 = _
    omega
  · show rd a 0 * 0 + rd a 1 * 0 + rd a 2 * 1 + rd a 3 * 0 = _
    omega
  · show rd a 0 * 0 + rd a 1 * 0 + rd a 2 * 0 + rd a 3 * 1 = _
    omega
theorem zfz {kind lost : Int} {f b : List Int} {ok : Bool} {r : Bool} (hk : kind = 1 ∨ kind = 2) (hf : f.length ≤ 4) (hb : b.length ≤ 4) (hF : zby lost f b = true) (s : Bool) {i : Int} (h0 : 0 ≤ i) (h1 : i < 4)
    (h : Ev (fun k => zJ.l0 k kind ok (s && (rd (mixL kind f b 0 f.length [0, 0, 0, 0]) i == rd (rowS kind lost) i)) (i + 1) lost f b) r) : Ev (fun k => zJ.l0 k kind ok s i lost f b) r := by
  obtain ⟨eu, hu⟩ := ziq h0 h1; obtain ⟨g0, g1, _, _⟩ := zcB hF; obtain ⟨_, e4⟩ := zeV lost (encS kind (unitL i)) f b (by omega) (by omega) (by rw [zdE]; omega)
  have hV : planV lost (encS kind (unitL i)) f b = (sumB (encS kind (unitL i)) f b 0 f.length 0, true) := by
    unfold planV; rw [if_pos hF, if_pos (zit kind _)]
  rw [hV, zfP hk hF, zek _ h0 h1] at e4; have hm := zbV (zeI kind f b f.length 0 _ zdD) h0 h1; have hr := zbV (zcQ hk g0 g1) h0 h1; rw [zfg hm] at e4; have hlt : lost < ((encS kind (unitL i)).length : Int) := by rw [zdE]; omega
  have hrow : rd (encS kind (unitL i)) lost = rd (rowS kind lost) i := by rw [zgx kind _ g0 g1, zeQ, zek _ h0 h1, zfg hr]
  have hw : wrap64 (i + 1) = i + 1 := w64d (by omega) (by omega); refine Ev.step (fun k => by rw [zJ.l0]) (zaC h1 (zbA eu (zbA (zeJ hk hu) (Ev.bind e4 (zaC rfl ?_))))); simp only [hw, hrow]; cases s with
  | true => exact zaC rfl (zaC g0 (zaC hlt (by rw [Bool.true_and] at h; exact h)))
  | false =>
    have hff : ¬ (false = true) := by decide
    exact zbe hff (by rw [Bool.false_and] at h; exact h)
theorem FnPlanNot : zJ.Pure := by
  intro l0 hl _ hb; refine Ev.rounds ?_; unfold zJ.f
  by_cases hc : (l0.length : Int) > 1048576
  · exact zaC hc (Ev.now _)
  refine zbe hc ?_; obtain ⟨c, eo, hB⟩ := zjh l0 hb; obtain ⟨kind, lost, f, b, q, ep, _, hq, D⟩ := zgF hB 0 (by omega) (by omega)
  have ed : Ev (fun k => zbq.f k l0) (kind, lost, f, b) := by
    unfold zbq.f; exact zbA eo (Ev.bind ep (Ev.now _))
  have hf4 := D.four; have hlen := D.len; have hk := D.kind; obtain ⟨e1, e2⟩ := zhq (lost := lost) (f := f) (b := b) hk (by omega) (by omega); have hne : ¬ ((zcW kind lost f b != zcW kind lost f b) = true) := by simp
  have hk1 : ¬ (kind < 1) := by omega
  have hk2 : decide (kind > 2) = false := decide_eq_false (by omega); refine Ev.bind ed (Ev.bind e2 (Ev.bind e1 (zbe hne (zbe hk1 ?_)))); simp only [hk2]; have hff : ¬ (false = true) := by decide
  refine Ev.step (fun k => by rw [zJ.j0]) (zbe hff ?_)
  by_cases hF : zby lost f b = true
  · obtain ⟨g0, g1, _, _⟩ := zcB hF; refine zfz hk hf4 (by omega) hF true (i := 0) (by omega) (by omega) ?_; refine zfz hk hf4 (by omega) hF _ (i := 0 + 1) (by omega) (by omega) ?_; refine zfz hk hf4 (by omega) hF _ (i := 0 + 1 + 1) (by omega) (by omega) ?_; refine zfz hk hf4 (by omega) hF _ (i := 0 + 1 + 1 + 1) (by omega) (by omega) ?_; refine Ev.step (fun k => by rw [zJ.l0]) (zbe (by omega) (zht ?_)); have hm := zfu (zeI kind f b f.length 0 _ zdD); have hr := zfu (zcQ hk g0 g1); rw [beq_iff_eq]; unfold zcW; rw [hF, Bool.true_and, Bool.true_and]; generalize mixL kind f b 0 f.length [0, 0, 0, 0] = M at hm ⊢; generalize rowS kind lost = R at hr ⊢; rw [Bool.eq_iff_iff, decide_eq_true_eq]; simp only [Bool.and_eq_true, beq_iff_eq]; constructor
    · intro h; rw [h]; exact ⟨⟨⟨rfl, rfl⟩, rfl⟩, rfl⟩
    · rintro ⟨⟨⟨h0, h1⟩, h2⟩, h3⟩; have h1' : rd M 1 = rd R 1 := h1; have h2' : rd M 2 = rd R 2 := h2; have h3' : rd M 3 = rd R 3 := h3; rw [hm, hr, h0, h1', h2', h3']
  · obtain ⟨eu, hu⟩ := ziq (i := 0) (by omega) (by omega); obtain ⟨_, e4⟩ := zeV lost (encS kind (unitL 0)) f b (by omega) (by omega) (by rw [zdE]; omega)
    have hV : planV lost (encS kind (unitL 0)) f b = (0, false) := by
      unfold planV; rw [if_neg hF]
    rw [hV] at e4; have h04 : (0 : Int) < 4 := by omega
    refine Ev.step (fun k => by rw [zJ.l0]) (zaC h04 (zbA eu (zbA (zeJ hk hu) (Ev.bind e4 (zbe hff (zht ?_)))))); unfold zcW; have : zby lost f b = false := by simpa using hF
    rw [this]; rfl
end Go.Proofs.Ytmipjlbkcfpkiaa.Pure

end
section
namespace Go.Proofs.YtmipjlbkcfpkiaaW.PrintWords
open Go.ChangeShapes Go.WideShapes
theorem zfY {H : Type} {enc : TypeId × Value → H} {P : Program} {W : World} {base : Nat} {spare : Nat → Bool} {held : Bool} {t e : TypeId} {k : IntKind} {a : Option Addr} {len cap : Nat} {d : DataW H} {ps : List MemPlace} {ts : List TypeId} {ds : List (DataW H)} {j : Nat}
    (hsz : (DataW.weightsEach P ts ds).all (· ≤ reachBytes) = true) (ht : ts[j]? = some t) (hd : ds[j]? = some d) (hu : P.underlying t = some (.slice e)) (he : P.underlying e = some (.int k)) (hc : P.cellsOf e = 1) {B : Nat} (hB : P.bytesOf e = B)
    (h : DataW.Trod enc P W base spare held t (.slice a len cap) d ps) : len * B ≤ 140737488351232 := by
  obtain ⟨fuel, hf⟩ := h
  rcases open_ints hu he hc hf with ⟨hcs, _⟩ | ⟨x, l, c, zs, hcs, _, hl, _, hz, hx, _, _⟩
  · simp [Value.cells] at hcs
    obtain ⟨rfl, rfl, rfl⟩ := hcs
    simp
  · simp [Value.cells] at hcs
    obtain ⟨rfl, rfl, rfl⟩ := hcs; obtain ⟨hx, _⟩ := Prod.mk.inj hx; subst hx; have z := sized_slice hsz ht hd hu; rw [hB] at z
    have hl2 : len ≤ zs.length := by
      rw [hz]
      split
      · exact hl
      · exact Nat.le_refl _
    have h1 : (lits (H := H) k (zs.take len)).length + (lits (H := H) k (zs.drop len)).length = zs.length := by
      simp [lits]
      omega
    rw [h1] at z; exact Nat.le_trans (Nat.mul_le_mul_right _ hl2) z
end Go.Proofs.YtmipjlbkcfpkiaaW.PrintWords

end
