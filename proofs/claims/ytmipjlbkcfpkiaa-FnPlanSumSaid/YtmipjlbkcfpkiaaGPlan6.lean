/- Part 6 of proofs: what the functions compute, step by step. No condition. -/
import Derived.SizedLaws
import Derived.ChangeSlices
import Derived.Test.YtmipjlbkcfpkiaaGPlan1
import Derived.Test.YtmipjlbkcfpkiaaGPlan2
import Derived.Test.YtmipjlbkcfpkiaaGPlan3
import Derived.Test.YtmipjlbkcfpkiaaGPlan4
import Derived.Test.YtmipjlbkcfpkiaaGPlan5
section
namespace Go.Proofs.Ytmipjlbkcfpkiaa.K
open Go.RowKit Go.Proofs.YtmipjlbkcfpkiaaW.PrintWords Go.Proofs.YtmipjlbkcfpkiaaW.PrintLast Go.Proofs.YtmipjlbkcfpkiaaW.PrintMore
attribute [local go_sem] zai zah zay zax zX zY zaj zaf
set_option linter.unusedVariables false
set_option linter.unusedSimpArgs false
def zbm.f (a0 : Int) (a1 : Int) : Option (Int) := (zab.f a0).bind fun t101 => (if t101 = true then ((zab.f a1).bind fun t102 => (if t102 = true then ((zam.f a0 a1).bind fun t103 => (some t103)) else (some 0))) else (some 0))
set_option maxHeartbeats 8000000 in
set_option maxRecDepth 100000 in
theorem zbm.calls (a0 : Int) (a1 : Int) (r : Int) (w : World) (h : zbm.f a0 a1 = some r) :
    Calls Try.prog 32 #[.int .i64 a0, .int .i64 a1] w fun e w' => e = .returned (.int .i64 r) ∧ Drawn0 w w' := by
  have H : ((zab.f a0).bind fun t101 => (if t101 = true then ((zab.f a1).bind fun t102 => (if t102 = true then ((zam.f a0 a1).bind fun t103 => (some t103)) else (some 0))) else (some 0))) = some r := h; clear h; replace H := Option.bind_eq_some_iff.mp H; obtain ⟨t101, A30, H⟩ := H; replace H : (if t101 = true then ((zab.f a1).bind fun t102 => (if t102 = true then ((zam.f a0 a1).bind fun t103 => (some t103)) else (some 0))) else (some 0)) = some r := H; have A3 := Aside0.mk A30; clear A30
  by_cases c4 : t101 = true
  · subst c4; have H1 : ((zab.f a1).bind fun t102 => (if t102 = true then ((zam.f a0 a1).bind fun t103 => (some t103)) else (some 0))) = some r := by rw [if_pos rfl] at H; exact H
    clear H; have H := H1; clear H1; replace H := Option.bind_eq_some_iff.mp H; obtain ⟨t102, A50, H⟩ := H; replace H : (if t102 = true then ((zam.f a0 a1).bind fun t103 => (some t103)) else (some 0)) = some r := H; have A5 := Aside0.mk A50; clear A50
    by_cases c6 : t102 = true
    · subst c6; have H1 : ((zam.f a0 a1).bind fun t103 => (some t103)) = some r := by rw [if_pos rfl] at H; exact H
      clear H; have H := H1; clear H1; replace H := Option.bind_eq_some_iff.mp H; obtain ⟨t103, A70, H⟩ := H; replace H : (some t103) = some r := H; have A7 := Aside0.mk A70; clear A70; obtain rfl := Option.some.inj H
      go_enter Try.func32, Try.ntmps32
      go_wp2_with (first | ((with_reducible refine zw (f := 70) rfl ?_); refine goesL_ (some 6) rfl rfl Try.func70 (by kernel_rfl) rfl #[.int .i64 a0] rfl (by (try simp only [List.map_toArray, List.map_cons, List.map_nil]); first | done | rfl | (simp only [List.length_drop, List.length_take]; rfl)) ?_; (with_reducible refine (zab.calls a0 true _ A3.out).mono ?_); rintro e w' ⟨rfl, ⟨nd, rfl⟩⟩; refine ⟨_, rfl, ?_⟩) | (go_at_call 70; (with_reducible refine (zab.calls a1 true _ A5.out).mono ?_); rintro e w' ⟨rfl, ⟨nd, rfl⟩⟩) | ((with_reducible refine zw (f := 72) rfl ?_); refine goesL_ (some 15) rfl rfl Try.func72 (by kernel_rfl) rfl #[.int .i64 a0, .int .i64 a1] rfl (by (try simp only [List.map_toArray, List.map_cons, List.map_nil]); first | done | rfl | (simp only [List.length_drop, List.length_take]; rfl)) ?_; (with_reducible refine (zam.calls a0 a1 t103 _ A7.out).mono ?_); rintro e w' ⟨rfl, ⟨nd, rfl⟩⟩; refine ⟨_, rfl, ?_⟩)); go_ret; exact ⟨by first | rfl | (simp; done) | (simp [*]; done), by repeat (first | exact Drawn0.refl _ | apply Drawn0.step)⟩
    · replace c6 := Bool.eq_false_iff.mpr c6; subst c6; have H1 : (some 0) = some r := by rw [if_neg (show ¬ (false = true) by decide)] at H; exact H
      clear H; have H := H1; clear H1; obtain rfl := Option.some.inj H
      go_enter Try.func32, Try.ntmps32
      go_wp2_with (first | ((with_reducible refine zw (f := 70) rfl ?_); refine goesL_ (some 6) rfl rfl Try.func70 (by kernel_rfl) rfl #[.int .i64 a0] rfl (by (try simp only [List.map_toArray, List.map_cons, List.map_nil]); first | done | rfl | (simp only [List.length_drop, List.length_take]; rfl)) ?_; (with_reducible refine (zab.calls a0 true _ A3.out).mono ?_); rintro e w' ⟨rfl, ⟨nd, rfl⟩⟩; refine ⟨_, rfl, ?_⟩) | (go_at_call 70; (with_reducible refine (zab.calls a1 false _ A5.out).mono ?_); rintro e w' ⟨rfl, ⟨nd, rfl⟩⟩)); go_ret; exact ⟨by first | rfl | (simp; done) | (simp [*]; done), by repeat (first | exact Drawn0.refl _ | apply Drawn0.step)⟩
  · replace c4 := Bool.eq_false_iff.mpr c4; subst c4; have H1 : (some 0) = some r := by rw [if_neg (show ¬ (false = true) by decide)] at H; exact H
    clear H; have H := H1; clear H1; obtain rfl := Option.some.inj H
    go_enter Try.func32, Try.ntmps32
    go_wp2_with (first | ((with_reducible refine zw (f := 70) rfl ?_); refine goesL_ (some 6) rfl rfl Try.func70 (by kernel_rfl) rfl #[.int .i64 a0] rfl (by (try simp only [List.map_toArray, List.map_cons, List.map_nil]); first | done | rfl | (simp only [List.length_drop, List.length_take]; rfl)) ?_; (with_reducible refine (zab.calls a0 false _ A3.out).mono ?_); rintro e w' ⟨rfl, ⟨nd, rfl⟩⟩; refine ⟨_, rfl, ?_⟩)); go_ret; exact ⟨by first | rfl | (simp; done) | (simp [*]; done), by repeat (first | exact Drawn0.refl _ | apply Drawn0.step)⟩
end Go.Proofs.Ytmipjlbkcfpkiaa.K

end
section
namespace Go.Proofs.Ytmipjlbkcfpkiaa.K
open Go.RowKit Go.Proofs.YtmipjlbkcfpkiaaW.PrintWords Go.Proofs.YtmipjlbkcfpkiaaW.PrintLast Go.Proofs.YtmipjlbkcfpkiaaW.PrintMore
attribute [local go_sem] zai zah zay zax zX zY zaj zaf
set_option linter.unusedVariables false
set_option linter.unusedSimpArgs false
mutual
def zC.j0 : Nat → List Int → Int → Bool → Int → Bool → Bool → Int → List Int → List Int → Option (Bool)
  | 0, _, _, _, _, _, _, _, _, _ => none
  | k + 1, x4, x5, x6, x7, x8, x46, x112000, x112001, x112002 => if x46 = true then (if (x8 == x6) = true then (some (x7 == x5)) else (some false)) else (zC.l0 k x4 x7 0 0 x112000 x112001 x112002)
def zC.l0 : Nat → List Int → Int → Int → Int → Int → List Int → List Int → Option (Bool)
  | 0, _, _, _, _, _, _, _ => none
  | k + 1, x4, x7, x9, x10, x112000, x112001, x112002 => if x10 < (x112001.length : Int) then (if 0 ≤ x10 then (if x10 < (x112002.length : Int) then (if 0 ≤ (rd x112001 x10) then (if (rd x112001 x10) < (x4.length : Int) then ((zbm.f (rd x112002 x10) (rd x4 (rd x112001 x10))).bind fun t119 => ((zaK.f x9 t119).bind fun t120 => (zC.l0 k x4 x7 t120 (wrap64 (x10 + 1)) x112000 x112001 x112002))) else (none)) else (none)) else (none)) else (none)) else (zC.l1 k x4 x7 x9 (([] : List Int)) 0 x112000 x112001 x112002)
def zC.l1 : Nat → List Int → Int → Int → List Int → Int → Int → List Int → List Int → Option (Bool)
  | 0, _, _, _, _, _, _, _, _ => none
  | k + 1, x4, x7, x9, x11, x12, x112000, x112001, x112002 => if x12 < (x4.length : Int) then (if 0 ≤ x12 then ((zaK.f (rd x4 x12) (rd x4 x12)).bind fun t126 => (if x11.length < 17592186044416 then (zC.l1 k x4 x7 x9 (x11 ++ [t126]) (wrap64 (x12 + 1)) x112000 x112001 x112002) else (none))) else (none)) else ((zaQ.f k x112000 x112001 x112002 x11).bind fun bt130 => (if x7 = x9 then (if bt130.2 = true then ((zaK.f x7 x7).bind fun t132 => (some (bt130.1 == t132))) else (some false)) else (some false)))
end
def zC.f (k : Nat) (l0 : List Int) : Option (Bool) := if (l0.length : Int) > 1048576 then (some true) else ((zaX.f k l0).bind fun bt101 => ((zbw.f k bt101.1 bt101.2.1 bt101.2.2.1 bt101.2.2.2).bind fun bt112 => ((zaQ.f k bt101.1 bt101.2.1 bt101.2.2.1 bt101.2.2.2).bind fun bt114 => (if (bt114.2 != bt112.2) = true then (zC.j0 k bt101.2.2.2 bt112.1 bt112.2 bt114.1 bt114.2 true bt101.1 bt101.2.1 bt101.2.2.1) else (if bt114.1 = bt112.1 then (zC.j0 k bt101.2.2.2 bt112.1 bt112.2 bt114.1 bt114.2 (!bt114.2) bt101.1 bt101.2.1 bt101.2.2.1) else (zC.j0 k bt101.2.2.2 bt112.1 bt112.2 bt114.1 bt114.2 true bt101.1 bt101.2.1 bt101.2.2.1))))))
def zC.T12 : Bool × List (List Nat × List Nat) := (true, [([], []), ([], []), ([1], [1]), ([], []), ([2, 3], [2, 3]), ([4], [4]), ([], []), ([], []), ([7], [7]), ([], []), ([8, 9], [8, 9]), ([10], [10]), ([6, 11], [6, 11]), ([12], [12]), ([5, 13], [5, 13]), ([0, 14, 14], [0, 14]), ([15, 15, 0, 1, 2, 3, 4, 5, 6, 7, 8, 9, 10, 11, 12, 13, 14, 15], [0, 15])])
def zC.B12 : List Nat := [0, 0, 2, 0, 14, 30, 0, 0, 128, 0, 896, 1920, 4032, 8128, 16382, 32767, 65535]
theorem zC.tab12 : rtab .any (opsOf Try.f8 12) = zC.T12 := by kernel_rfl
theorem zC.bits12 : zbB zC.T12.2 zC.B12 = true := by kernel_rfl
def zC.T17 : Bool × List (List Nat × List Nat) := (true, [([], []), ([], []), ([], []), ([1, 2], [1, 2]), ([3], [3]), ([], []), ([], []), ([5, 6], [5, 6]), ([7], [7]), ([4, 8], [4, 8]), ([9], [9]), ([0, 10, 9], [0, 10]), ([11, 11, 0, 1, 2, 3, 4, 5, 6, 7, 8, 9, 10, 11], [0, 11])])
def zC.B17 : List Nat := [0, 0, 0, 6, 14, 0, 0, 96, 224, 510, 1022, 2047, 4095]
theorem zC.tab17 : rtab .any (opsOf Try.f8 17) = zC.T17 := by kernel_rfl
theorem zC.bits17 : zbB zC.T17.2 zC.B17 = true := by kernel_rfl
set_option maxHeartbeats 8000000 in
set_option maxRecDepth 100000 in
theorem zC.calls (k : Nat) (A0 : Option Addr) (c0 : Nat) (l0 : List Int) (r : Bool) (w : World) (hr0 : Kd.C (Kd.int .u8) w A0 l0.length l0) (hc0 : l0.length ≤ c0) (h : zC.f k l0 = some r) :
    Calls Try.prog 8 #[.slice A0 l0.length c0] w fun e w' => e = .returned (.bool r) ∧ Below w.heap.size w w' := by
  have hu47 := Try.underlying47; have HR0 := Aside0.mk hr0; have HC0 := Aside0.mk hc0; clear hr0 hc0; have HB := Aside0.mk (Below.refl w.heap.size w); have H : (if (l0.length : Int) > 1048576 then (some true) else ((zaX.f k l0).bind fun bt101 => ((zbw.f k bt101.1 bt101.2.1 bt101.2.2.1 bt101.2.2.2).bind fun bt112 => ((zaQ.f k bt101.1 bt101.2.1 bt101.2.2.1 bt101.2.2.2).bind fun bt114 => (if (bt114.2 != bt112.2) = true then (zC.j0 k bt101.2.2.2 bt112.1 bt112.2 bt114.1 bt114.2 true bt101.1 bt101.2.1 bt101.2.2.1) else (if bt114.1 = bt112.1 then (zC.j0 k bt101.2.2.2 bt112.1 bt112.2 bt114.1 bt114.2 (!bt114.2) bt101.1 bt101.2.1 bt101.2.2.1) else (zC.j0 k bt101.2.2.2 bt112.1 bt112.2 bt114.1 bt114.2 true bt101.1 bt101.2.1 bt101.2.2.1))))))) = some r := h; clear h
  by_cases c2 : (l0.length : Int) > 1048576
  · rw [if_pos c2] at H; have c2b0 : decide (1048576 < (l0.length : Int)) = true := decide_eq_true c2; have c2b1 : decide (1048576 < l0.length) = true := decide_eq_true (by omega); clear c2; obtain rfl := Option.some.inj H
    go_enter Try.func8, Try.ntmps8
    go_wp2; go_ret; exact ⟨by first | rfl | (simp [zB, zA] <;> rfl) | (simp [*, zB, zA] <;> rfl), by repeat (first | (with_reducible first | exact HB.out | apply ze | apply za | apply zb) | exact HB.out | exact Below.refl _ _)⟩
  · rw [if_neg c2] at H; have c2b0 : decide (1048576 < (l0.length : Int)) = false := decide_eq_false c2; have c2b1 : decide (1048576 < l0.length) = false := decide_eq_false (by omega); clear c2; replace H := Option.bind_eq_some_iff.mp H; obtain ⟨⟨t101, t102, t105, t108⟩, A30, H⟩ := H; replace H : ((zbw.f k t101 t102 t105 t108).bind fun bt112 => ((zaQ.f k t101 t102 t105 t108).bind fun bt114 => (if (bt114.2 != bt112.2) = true then (zC.j0 k t108 bt112.1 bt112.2 bt114.1 bt114.2 true t101 t102 t105) else (if bt114.1 = bt112.1 then (zC.j0 k t108 bt112.1 bt112.2 bt114.1 bt114.2 (!bt114.2) t101 t102 t105) else (zC.j0 k t108 bt112.1 bt112.2 bt114.1 bt114.2 true t101 t102 t105))))) = some r := H; have A3 := Aside0.mk A30; clear A30; replace H := Option.bind_eq_some_iff.mp H; obtain ⟨⟨t112, t113⟩, A40, H⟩ := H; replace H : ((zaQ.f k t101 t102 t105 t108).bind fun bt114 => (if (bt114.2 != t113) = true then (zC.j0 k t108 t112 t113 bt114.1 bt114.2 true t101 t102 t105) else (if bt114.1 = t112 then (zC.j0 k t108 t112 t113 bt114.1 bt114.2 (!bt114.2) t101 t102 t105) else (zC.j0 k t108 t112 t113 bt114.1 bt114.2 true t101 t102 t105)))) = some r := H; have A4 := Aside0.mk A40; clear A40; replace H := Option.bind_eq_some_iff.mp H; obtain ⟨⟨t114, t115⟩, A50, H⟩ := H; replace H : (if (t115 != t113) = true then (zC.j0 k t108 t112 t113 t114 t115 true t101 t102 t105) else (if t114 = t112 then (zC.j0 k t108 t112 t113 t114 t115 (!t115) t101 t102 t105) else (zC.j0 k t108 t112 t113 t114 t115 true t101 t102 t105))) = some r := H; have A5 := Aside0.mk A50; clear A50; have HC6 := Aside0.mk H; clear H
    go_enter Try.func8, Try.ntmps8
    go_upto_region 6 with (first | ((with_reducible refine zw (f := 28) rfl ?_); refine goesL_ (some 20) rfl rfl Try.func28 (by kernel_rfl) rfl #[.slice A0 l0.length c0] rfl (by (try simp only [List.map_toArray, List.map_cons, List.map_nil]); first | done | rfl | (simp only [List.length_drop, List.length_take]; rfl)) ?_; (with_reducible refine (zaX.calls k _ _ l0 t101 t102 t105 t108 _ ?side1 ?side2 A3.out).mono ?_); (case side1 => repeat (first | exact HR0.out | (with_reducible refine Kd.zN ?_ _) | (with_reducible refine Kd.zL ?_ _) | (with_reducible refine Kd.C_drew ?_))); (case side2 => exact HC0.out); rintro e w7 ⟨v103, v106, v109, rfl, ho0, ho1, ho2, hb⟩; refine ⟨_, rfl, ?_⟩; have n0_ := Aside0.mk (Kd.zO ho0 (zy (by repeat (first | (with_reducible first | exact HB.out | apply ze | apply za | apply zb) | exact HB.out | exact Below.refl _ _)))); have n1_ := Aside0.mk (Kd.zO ho1 (zy (by repeat (first | (with_reducible first | exact HB.out | apply ze | apply za | apply zb) | exact HB.out | exact Below.refl _ _)))); have n2_ := Aside0.mk (Kd.zO ho2 (zy (by repeat (first | (with_reducible first | exact HB.out | apply ze | apply za | apply zb) | exact HB.out | exact Below.refl _ _)))); have n3_ := Aside0.mk (zz (by repeat (first | (with_reducible first | exact HB.out | apply ze | apply za | apply zb) | exact HB.out | exact Below.refl _ _)) hb); clear HB; have HO104 := n0_; have HO107 := n1_; have HO110 := n2_; have HB := n3_; clear n0_ n1_ n2_ n3_; (try clear hb); (try clear hb2); (try clear hk); (try clear hi); (try clear ho0); (try clear ho1); (try clear ho2)) | ((with_reducible refine zM (N := 3) rfl ?_); refine zac ?hg (N := 3) ?hd (cs := #[.int .i64 0, .slice none 0 0, .slice none 0 0]) (t := 47) ?hr ?_; (case hd => rfl); (case hg => rfl); (case hr => first | (go_simp; done) | (go_simp; rfl)); intro gb111 hg w8 hbox hb; have n0_ := Aside0.mk (Kd.zZ (by (with_reducible repeat (first | apply Kd.zu | apply Kd.zt | apply Kd.R_drew)); exact HO104.out) hb); have n1_ := Aside0.mk (Kd.zZ (by (with_reducible repeat (first | apply Kd.zu | apply Kd.zt | apply Kd.R_drew)); exact HO107.out) hb); have n2_ := Aside0.mk (Kd.zZ (by (with_reducible repeat (first | apply Kd.zu | apply Kd.zt | apply Kd.R_drew)); exact HO110.out) hb); have n3_ := Aside0.mk (zz (by repeat (first | (with_reducible first | exact HB.out | apply ze | apply za | apply zb) | exact HB.out | exact Below.refl _ _)) hb); have n4_ := Aside0.mk (hbox); have n5_ := Aside0.mk ((by rw [hg]; exact (zy (by repeat (first | (with_reducible first | exact HB.out | apply ze | apply za | apply zb) | exact HB.out | exact Below.refl _ _))) : w.heap.size ≤ gb111)); have n6_ := Aside0.mk ((by rw [hg]; exact (zy (by repeat (first | (with_reducible first | exact HB.out | apply ze | apply za | apply zb) | exact HB.out | exact Below.refl _ _))) : w.heap.size ≤ gb111)); clear HO104; clear HO107; clear HO110; clear HB; have HO104 := n0_; have HO107 := n1_; have HO110 := n2_; have HB := n3_; have BK111 := n4_; have GW111 := n5_; have GE111 := n6_; clear n0_ n1_ n2_ n3_ n4_ n5_ n6_; clear hb hbox hg; have hcz9_0 : w8.cell? ⟨gb111, 0, none⟩ = some (.int .i64 0) := (zn BK111.out 0).trans rfl; have hcz9_1 : w8.cell? ⟨gb111, 1, none⟩ = some (.slice none 0 0) := (zn BK111.out 1).trans rfl; have hcz9_2 : w8.cell? ⟨gb111, 2, none⟩ = some (.slice none 0 0) := (zn BK111.out 2).trans rfl; have hfz9_0 := zm BK111.out 0; have hfz9_1 := zm BK111.out 1; have hfz9_2 := zm BK111.out 2; obtain ⟨Ao10, co10, eo10⟩ := Kd.zU HO104.out; subst eo10; obtain ⟨Ao11, co11, eo11⟩ := Kd.zU HO107.out; subst eo11; obtain ⟨Ao12, co12, eo12⟩ := Kd.zU HO110.out; subst eo12) | ((with_reducible refine zw (f := 29) rfl ?_); refine goesL_ (some 26) rfl rfl Try.func29 (by kernel_rfl) rfl #[.agg #[.int .i64 t101, .slice Ao10 t102.length co10, .slice Ao11 t105.length co11], .slice Ao12 t108.length co12] rfl (by (try simp only [List.map_toArray, List.map_cons, List.map_nil]); first | done | rfl | (simp only [List.length_drop, List.length_take]; rfl)) ?_; (with_reducible refine (zbw.calls k t101 _ _ t102 _ _ t105 _ _ t108 t112 t113 _ ?side1 ?side2 ?side3 ?side4 ?side5 ?side6 A4.out).mono ?_); (case side1 => refine (Kd.zI (e := 3) (base := w.heap.size) (ok := fun k_ => (some k_ ≠ (.slice Ao11 t105.length co11 : Value).ownBlock ∧ some k_ ≠ (.slice Ao12 t108.length co12 : Value).ownBlock)) (n := t102.length) (c := co10) ?_).2.2; exact (by (with_reducible repeat (first | apply Kd.zu | apply Kd.zt | apply Kd.R_drew)); exact (Kd.R_mono (Kd.R_far (p := ⟨gb111, 2, none⟩) (Kd.R_far (p := ⟨gb111, 1, none⟩) (Kd.R_far (p := ⟨gb111, 0, none⟩) (Kd.zar HO104.out BK111.out (by decide)) (fun _ hk => hk.2) (.int .i64 t101)) (fun _ hk => hk.2) (.slice Ao10 t102.length co10)) (fun _ hk => hk.2) (.slice Ao11 t105.length co11)) (fun _ h_ => h_.1)))); (case side2 => exact (Kd.zI HO104.out).2.1); (case side3 => refine (Kd.zI (e := 3) (base := w.heap.size) (ok := fun k_ => (some k_ ≠ (.slice Ao10 t102.length co10 : Value).ownBlock ∧ some k_ ≠ (.slice Ao12 t108.length co12 : Value).ownBlock)) (n := t105.length) (c := co11) ?_).2.2; exact (by (with_reducible repeat (first | apply Kd.zu | apply Kd.zt | apply Kd.R_drew)); exact (Kd.R_mono (Kd.R_far (p := ⟨gb111, 2, none⟩) (Kd.R_far (p := ⟨gb111, 1, none⟩) (Kd.R_far (p := ⟨gb111, 0, none⟩) (Kd.zar HO107.out BK111.out (by decide)) (fun _ hk => hk.2) (.int .i64 t101)) (fun _ hk => hk.2) (.slice Ao10 t102.length co10)) (fun _ hk => hk.2) (.slice Ao11 t105.length co11)) (fun _ h_ => h_.1)))); (case side4 => exact (Kd.zI HO107.out).2.1); (case side5 => refine (Kd.zI (e := 3) (base := w.heap.size) (ok := fun k_ => (some k_ ≠ (.slice Ao10 t102.length co10 : Value).ownBlock ∧ some k_ ≠ (.slice Ao11 t105.length co11 : Value).ownBlock)) (n := t108.length) (c := co12) ?_).2.2; exact (by (with_reducible repeat (first | apply Kd.zu | apply Kd.zt | apply Kd.R_drew)); exact (Kd.R_mono (Kd.R_far (p := ⟨gb111, 2, none⟩) (Kd.R_far (p := ⟨gb111, 1, none⟩) (Kd.R_far (p := ⟨gb111, 0, none⟩) (Kd.zar HO110.out BK111.out (by decide)) (fun _ hk => hk.2) (.int .i64 t101)) (fun _ hk => hk.2) (.slice Ao10 t102.length co10)) (fun _ hk => hk.2) (.slice Ao11 t105.length co11)) (fun _ h_ => h_.1)))); (case side6 => exact (Kd.zI HO110.out).2.1); rintro e w13 ⟨rfl, hb⟩; refine ⟨_, rfl, ?_⟩; have n0_ := Aside0.mk (Kd.zZ (by (with_reducible repeat (first | apply Kd.zu | apply Kd.zt | apply Kd.R_drew)); exact (Kd.R_mono (Kd.R_far (p := ⟨gb111, 2, none⟩) (Kd.R_far (p := ⟨gb111, 1, none⟩) (Kd.R_far (p := ⟨gb111, 0, none⟩) (Kd.zar HO104.out BK111.out (by decide)) (fun _ hk => hk.2) (.int .i64 t101)) (fun _ hk => hk.2) (.slice Ao10 t102.length co10)) (fun _ hk => hk.2) (.slice Ao11 t105.length co11)) (fun _ h_ => h_.1))) hb); have n1_ := Aside0.mk (Kd.zZ (by (with_reducible repeat (first | apply Kd.zu | apply Kd.zt | apply Kd.R_drew)); exact (Kd.R_mono (Kd.R_far (p := ⟨gb111, 2, none⟩) (Kd.R_far (p := ⟨gb111, 1, none⟩) (Kd.R_far (p := ⟨gb111, 0, none⟩) (Kd.zar HO107.out BK111.out (by decide)) (fun _ hk => hk.2) (.int .i64 t101)) (fun _ hk => hk.2) (.slice Ao10 t102.length co10)) (fun _ hk => hk.2) (.slice Ao11 t105.length co11)) (fun _ h_ => h_.1))) hb); have n2_ := Aside0.mk (Kd.zZ (by (with_reducible repeat (first | apply Kd.zu | apply Kd.zt | apply Kd.R_drew)); exact (Kd.R_mono (Kd.R_far (p := ⟨gb111, 2, none⟩) (Kd.R_far (p := ⟨gb111, 1, none⟩) (Kd.R_far (p := ⟨gb111, 0, none⟩) (Kd.zar HO110.out BK111.out (by decide)) (fun _ hk => hk.2) (.int .i64 t101)) (fun _ hk => hk.2) (.slice Ao10 t102.length co10)) (fun _ hk => hk.2) (.slice Ao11 t105.length co11)) (fun _ h_ => h_.1))) hb); have n3_ := Aside0.mk (zR (g := gb111) (o := .cells #[.int .i64 t101, .slice Ao10 t102.length co10, .slice Ao11 t105.length co11] 47 (0, 0)) (by (with_reducible repeat (first | refine zi ?_ _ | refine zl ?_ | refine zh ?_ _)); refine zT (cs := #[.int .i64 t101, .slice Ao10 t102.length co10, .slice none 0 0]) ?_ 2 _ rfl; (with_reducible repeat (first | refine zi ?_ _ | refine zl ?_ | refine zh ?_ _)); refine zT (cs := #[.int .i64 t101, .slice none 0 0, .slice none 0 0]) ?_ 1 _ rfl; (with_reducible repeat (first | refine zi ?_ _ | refine zl ?_ | refine zh ?_ _)); refine zT (cs := #[.int .i64 0, .slice none 0 0, .slice none 0 0]) ?_ 0 _ rfl; (with_reducible repeat (first | refine zi ?_ _ | refine zl ?_ | refine zh ?_ _)); exact BK111.out) hb); have n4_ := Aside0.mk (zz (by repeat (first | (with_reducible first | exact HB.out | apply ze | apply za | apply zb | refine zg ?_ GE111.out) | exact HB.out)) hb); clear HO104; clear HO107; clear HO110; clear BK111; clear HB; have HO104 := n0_; have HO107 := n1_; have HO110 := n2_; have BK111 := n3_; have HB := n4_; clear n0_ n1_ n2_ n3_ n4_; (try clear hb); (try clear hb2); (try clear hk); (try clear hi); have hcz14_0 : w13.cell? ⟨gb111, 0, none⟩ = some (.int .i64 t101) := (zn BK111.out 0).trans rfl; have hcz14_1 : w13.cell? ⟨gb111, 1, none⟩ = some (.slice Ao10 t102.length co10) := (zn BK111.out 1).trans rfl; have hcz14_2 : w13.cell? ⟨gb111, 2, none⟩ = some (.slice Ao11 t105.length co11) := (zn BK111.out 2).trans rfl; have hfz14_0 := zm BK111.out 0; have hfz14_1 := zm BK111.out 1; have hfz14_2 := zm BK111.out 2) | ((with_reducible refine zw (f := 30) rfl ?_); refine goesL_ (some 32) rfl rfl Try.func30 (by kernel_rfl) rfl #[.agg #[.int .i64 t101, .slice Ao10 t102.length co10, .slice Ao11 t105.length co11], .slice Ao12 t108.length co12] rfl (by (try simp only [List.map_toArray, List.map_cons, List.map_nil]); first | done | rfl | (simp only [List.length_drop, List.length_take]; rfl)) ?_; (with_reducible refine (zaQ.calls k t101 _ _ t102 _ _ t105 _ _ t108 t114 t115 _ ?side1 ?side2 ?side3 ?side4 ?side5 ?side6 A5.out).mono ?_); (case side1 => repeat (first | exact (Kd.zI HO104.out).2.2 | (with_reducible refine Kd.zN ?_ _) | (with_reducible refine Kd.zL ?_ _) | (with_reducible refine Kd.C_drew ?_))); (case side2 => exact (Kd.zI HO104.out).2.1); (case side3 => repeat (first | exact (Kd.zI HO107.out).2.2 | (with_reducible refine Kd.zN ?_ _) | (with_reducible refine Kd.zL ?_ _) | (with_reducible refine Kd.C_drew ?_))); (case side4 => exact (Kd.zI HO107.out).2.1); (case side5 => repeat (first | exact (Kd.zI HO110.out).2.2 | (with_reducible refine Kd.zN ?_ _) | (with_reducible refine Kd.zL ?_ _) | (with_reducible refine Kd.C_drew ?_))); (case side6 => exact (Kd.zI HO110.out).2.1); rintro e w15 ⟨rfl, hb⟩; refine ⟨_, rfl, ?_⟩; have n0_ := Aside0.mk (Kd.zZ (by (with_reducible repeat (first | apply Kd.zu | apply Kd.zt | apply Kd.R_drew)); exact HO104.out) hb); have n1_ := Aside0.mk (Kd.zZ (by (with_reducible repeat (first | apply Kd.zu | apply Kd.zt | apply Kd.R_drew)); exact HO107.out) hb); have n2_ := Aside0.mk (Kd.zZ (by (with_reducible repeat (first | apply Kd.zu | apply Kd.zt | apply Kd.R_drew)); exact HO110.out) hb); have n3_ := Aside0.mk (zR (g := gb111) (o := .cells #[.int .i64 t101, .slice Ao10 t102.length co10, .slice Ao11 t105.length co11] 47 (0, 0)) (by (with_reducible repeat (first | refine zi ?_ _ | refine zl ?_ | refine zh ?_ _)); exact BK111.out) hb); have n4_ := Aside0.mk (zz (by repeat (first | (with_reducible first | exact HB.out | apply ze | apply za | apply zb | refine zg ?_ GE111.out) | exact HB.out)) hb); clear HO104; clear HO107; clear HO110; clear BK111; clear HB; have HO104 := n0_; have HO107 := n1_; have HO110 := n2_; have BK111 := n3_; have HB := n4_; clear n0_ n1_ n2_ n3_ n4_; (try clear hb); (try clear hb2); (try clear hk); (try clear hi)))
    (try simp only [Act.put, List.setIfInBounds_toArray, List.set_cons_zero, List.set_cons_succ])
    go_cut [46] (fun v46 wc => ∃ (kq : Nat) (x46_5 : Bool), v46 = .bool x46_5 ∧ Aside0 (zC.j0 kq t108 t112 t113 t114 t115 x46_5 t101 t102 t105 = some r) ∧ Aside0 (kq ≤ k) ∧ Aside0 (Kd.R (Kd.int .i64) 3 wc w.heap.size (fun k_ => some k_ ≠ ((.slice Ao10 t102.length co10) : Value).ownBlock ∧ some k_ ≠ ((.slice Ao11 t105.length co11) : Value).ownBlock) (.slice Ao12 t108.length co12) t108) ∧ Aside0 (Kd.R (Kd.int .i64) 3 wc w.heap.size (fun k_ => some k_ ≠ ((.slice Ao12 t108.length co12) : Value).ownBlock ∧ some k_ ≠ ((.slice Ao11 t105.length co11) : Value).ownBlock) (.slice Ao10 t102.length co10) t102) ∧ Aside0 (Kd.R (Kd.int .i64) 3 wc w.heap.size (fun k_ => some k_ ≠ ((.slice Ao12 t108.length co12) : Value).ownBlock ∧ some k_ ≠ ((.slice Ao10 t102.length co10) : Value).ownBlock) (.slice Ao11 t105.length co11) t105) ∧ Aside0 (wc.heap[gb111]? = some (.cells #[.int .i64 t101, (.slice Ao10 t102.length co10), (.slice Ao11 t105.length co11)] 47 (0, 0))) ∧ Aside0 (Below w.heap.size w wc))
    case first =>
      have H := HC6.out; clear HC6
      by_cases c16 : (t115 != t113) = true
      · rw [if_pos c16] at H; have c16b0 : (t115 != t113) = true := c16
        (try (have c16b1 : decide (t115 = t113) = false := by simpa using c16))
        (try (have c16b2 : (t115 == t113) = false := by simpa using c16))
        (try (have c16b3 : ¬ (t115 = t113) := by simpa using c16))
        clear c16; (first | rw [c16b0] | (simp only [i64_w, i32_w]; rw [c16b0]) | skip); have H' := Aside0.mk H; clear H; go_wp2
        go_meet
        case rel => exact ⟨_, (true), (by first | rfl | (simp; done) | (simp [*]; done)), H', ⟨by first | omega | exact Nat.le_refl _⟩, ⟨by (with_reducible repeat (first | apply Kd.zu | apply Kd.zt | apply Kd.R_drew)); exact HO110.out⟩, ⟨by (with_reducible repeat (first | apply Kd.zu | apply Kd.zt | apply Kd.R_drew)); exact Kd.R_mono HO104.out (fun _ hk => ⟨hk.2, hk.1⟩)⟩, ⟨by (with_reducible repeat (first | apply Kd.zu | apply Kd.zt | apply Kd.R_drew)); exact Kd.R_mono HO107.out (fun _ hk => ⟨hk.2, hk.1⟩)⟩, ⟨by (with_reducible repeat (first | refine zi ?_ _ | refine zl ?_ | refine zh ?_ _)); exact BK111.out⟩, ⟨by repeat (first | (with_reducible first | exact HB.out | apply ze | apply za | apply zb | refine zg ?_ GE111.out) | exact HB.out)⟩⟩
      · rw [if_neg c16] at H; have c16b0 : (t115 != t113) = false := by simpa using c16
        (try (have c16b1 : decide (t115 = t113) = true := by simpa using c16))
        (try (have c16b2 : (t115 == t113) = true := by simpa using c16))
        clear c16; (first | rw [c16b0] | (simp only [i64_w, i32_w]; rw [c16b0]) | skip)
        by_cases c17 : t114 = t112
        · rw [if_pos c17] at H; have c17b0 : (t114 == t112) = true := beq_iff_eq.mpr c17; have c17b1 : (t114 != t112) = false := bne_eq_false_iff_eq.mpr c17; clear c17; have H' := Aside0.mk H; clear H; go_wp2
          go_meet
          case rel => exact ⟨_, (!t115), (by first | rfl | (simp; done) | (simp [*]; done)), H', ⟨by first | omega | exact Nat.le_refl _⟩, ⟨by (with_reducible repeat (first | apply Kd.zu | apply Kd.zt | apply Kd.R_drew)); exact HO110.out⟩, ⟨by (with_reducible repeat (first | apply Kd.zu | apply Kd.zt | apply Kd.R_drew)); exact Kd.R_mono HO104.out (fun _ hk => ⟨hk.2, hk.1⟩)⟩, ⟨by (with_reducible repeat (first | apply Kd.zu | apply Kd.zt | apply Kd.R_drew)); exact Kd.R_mono HO107.out (fun _ hk => ⟨hk.2, hk.1⟩)⟩, ⟨by (with_reducible repeat (first | refine zi ?_ _ | refine zl ?_ | refine zh ?_ _)); exact BK111.out⟩, ⟨by repeat (first | (with_reducible first | exact HB.out | apply ze | apply za | apply zb | refine zg ?_ GE111.out) | exact HB.out)⟩⟩
        · rw [if_neg c17] at H; have c17b0 : (t114 == t112) = false := beq_eq_false_iff_ne.mpr c17; have c17b1 : (t114 != t112) = true := bne_iff_ne.mpr c17; have H' := Aside0.mk H; clear H; go_wp2
          go_meet
          case rel => exact ⟨_, (true), (by first | rfl | (simp; done) | (simp [*]; done)), H', ⟨by first | omega | exact Nat.le_refl _⟩, ⟨by (with_reducible repeat (first | apply Kd.zu | apply Kd.zt | apply Kd.R_drew)); exact HO110.out⟩, ⟨by (with_reducible repeat (first | apply Kd.zu | apply Kd.zt | apply Kd.R_drew)); exact Kd.R_mono HO104.out (fun _ hk => ⟨hk.2, hk.1⟩)⟩, ⟨by (with_reducible repeat (first | apply Kd.zu | apply Kd.zt | apply Kd.R_drew)); exact Kd.R_mono HO107.out (fun _ hk => ⟨hk.2, hk.1⟩)⟩, ⟨by (with_reducible repeat (first | refine zi ?_ _ | refine zl ?_ | refine zh ?_ _)); exact BK111.out⟩, ⟨by repeat (first | (with_reducible first | exact HB.out | apply ze | apply za | apply zb | refine zg ?_ GE111.out) | exact HB.out)⟩⟩
    case rest =>
      clear HC6
      try clear c1
      try clear c2
      try clear c2b0
      try clear c2b1
      try clear p2
      try clear c3
      try clear c8
      try clear c16
      try clear c16b0
      try clear c16b1
      try clear c16b2
      try clear c17
      try clear c17b0
      try clear c17b1
      try clear hcz14_0
      try clear hcz14_1
      try clear hcz14_2
      try clear hcz9_0
      try clear hcz9_1
      try clear hcz9_2
      try clear hfz14_0
      try clear hfz14_1
      try clear hfz14_2
      try clear hfz9_0
      try clear hfz9_1
      try clear hfz9_2
      obtain ⟨kq, x46_5, rfl, HA, HJ5, HO_4, HO_112001, HO_112002, BK111, HB⟩ := hcut; cases kq with
      | zero => exact absurd HA.out (by simp [zC.j0])
      | succ kj5 =>
        have H := HA.out; clear HA; simp only [zC.j0] at H
        by_cases c18 : x46_5 = true
        · subst c18; have H1 : (if (t115 == t113) = true then (some (t114 == t112)) else (some false)) = some r := by rw [if_pos rfl] at H; exact H
          clear H; have H := H1; clear H1
          by_cases c19 : (t115 == t113) = true
          · rw [if_pos c19] at H; have c19b0 : (t115 == t113) = true := c19
            (try (have c19b1 : decide (t115 = t113) = true := by simpa using c19))
            (try (have c19b2 : (t115 == t113) = true := by simpa using c19))
            clear c19; obtain rfl := Option.some.inj H; go_wp2; go_ret; exact ⟨by first | rfl | (simp [zB, zA] <;> rfl) | (simp [*, zB, zA] <;> rfl), by repeat (first | (with_reducible first | exact HB.out | apply ze | apply za | apply zb | refine zg ?_ GE111.out) | exact HB.out)⟩
          · rw [if_neg c19] at H; have c19b0 : (t115 == t113) = false := by simpa using c19
            (try (have c19b1 : decide (t115 = t113) = false := by simpa using c19))
            (try (have c19b2 : (t115 == t113) = false := by simpa using c19))
            (try (have c19b3 : ¬ (t115 = t113) := by simpa using c19))
            clear c19; obtain rfl := Option.some.inj H; go_wp2; go_ret; exact ⟨by first | rfl | (simp [zB, zA] <;> rfl) | (simp [*, zB, zA] <;> rfl), by repeat (first | (with_reducible first | exact HB.out | apply ze | apply za | apply zb | refine zg ?_ GE111.out) | exact HB.out)⟩
        · replace c18 := Bool.eq_false_iff.mpr c18; subst c18; have H1 : (zC.l0 kj5 t108 t114 0 0 t101 t102 t105) = some r := by rw [if_neg (show ¬ (false = true) by decide)] at H; exact H
          clear H; have H := H1; clear H1; have H' := Aside0.mk H; clear H; go_wp2
          go_loopg [9, 10] kj5 (fun kq v9 v10 w' => ∃ (x9_2 : Int) (x10_2 : Int), v9 = .int .i64 x9_2 ∧ v10 = .int .i64 x10_2 ∧ Aside0 (zC.l0 kq t108 t114 x9_2 x10_2 t101 t102 t105 = some r) ∧ Aside0 (kq ≤ kj5) ∧ Aside0 (Kd.R (Kd.int .i64) 3 w' w.heap.size (fun k_ => some k_ ≠ ((.slice Ao10 t102.length co10) : Value).ownBlock ∧ some k_ ≠ ((.slice Ao11 t105.length co11) : Value).ownBlock) (.slice Ao12 t108.length co12) t108) ∧ Aside0 (Kd.R (Kd.int .i64) 3 w' w.heap.size (fun k_ => some k_ ≠ ((.slice Ao12 t108.length co12) : Value).ownBlock ∧ some k_ ≠ ((.slice Ao11 t105.length co11) : Value).ownBlock) (.slice Ao10 t102.length co10) t102) ∧ Aside0 (Kd.R (Kd.int .i64) 3 w' w.heap.size (fun k_ => some k_ ≠ ((.slice Ao12 t108.length co12) : Value).ownBlock ∧ some k_ ≠ ((.slice Ao10 t102.length co10) : Value).ownBlock) (.slice Ao11 t105.length co11) t105) ∧ Aside0 (w'.heap[gb111]? = some (.cells #[.int .i64 t101, (.slice Ao10 t102.length co10), (.slice Ao11 t105.length co11)] 47 (0, 0))) ∧ Aside0 (Below w.heap.size w w'))
          case atStart => exact ⟨(0), (0), (by first | rfl | (simp; done) | (simp [*]; done)), (by first | rfl | (simp; done) | (simp [*]; done)), H', ⟨Nat.le_refl _⟩, ⟨by (with_reducible repeat (first | apply Kd.zu | apply Kd.zt | apply Kd.R_drew)); exact HO_4.out⟩, ⟨by (with_reducible repeat (first | apply Kd.zu | apply Kd.zt | apply Kd.R_drew)); exact HO_112001.out⟩, ⟨by (with_reducible repeat (first | apply Kd.zu | apply Kd.zt | apply Kd.R_drew)); exact HO_112002.out⟩, ⟨by (with_reducible repeat (first | refine zi ?_ _ | refine zl ?_ | refine zh ?_ _)); exact BK111.out⟩, ⟨by repeat (first | (with_reducible first | exact HB.out | apply ze | apply za | apply zb | refine zg ?_ GE111.out) | exact HB.out)⟩⟩
          case round =>
            clear H'
            try clear c1
            try clear c2
            try clear c2b0
            try clear c2b1
            try clear p2
            try clear c3
            try clear c8
            try clear c16
            try clear c16b0
            try clear c16b1
            try clear c16b2
            try clear c17
            try clear c17b0
            try clear c17b1
            try clear c18
            try clear c19
            try clear c19b0
            try clear c19b1
            try clear c19b2
            try clear hcz14_0
            try clear hcz14_1
            try clear hcz14_2
            try clear hcz9_0
            try clear hcz9_1
            try clear hcz9_2
            try clear hfz14_0
            try clear hfz14_1
            try clear hfz14_2
            try clear hfz9_0
            try clear hfz9_1
            try clear hfz9_2
            try clear p2
            obtain ⟨x9_2, x10_2, rfl, rfl, HA, HK2, HO_4, HO_112001, HO_112002, BK111, HB⟩ := hrel; cases gk with
            | zero => exact absurd HA.out (by simp [zC.l0])
            | succ k2 =>
              have H := HA.out; clear HA; simp only [zC.l0] at H
              by_cases c20 : x10_2 < (t102.length : Int)
              · rw [if_pos c20] at H; have c20b0 : decide (x10_2 < (t102.length : Int)) = true := decide_eq_true c20; clear c20
                by_cases c21 : 0 ≤ x10_2
                · rw [if_pos c21] at H; have c21b0 : decide (0 ≤ x10_2) = true := decide_eq_true c21; clear c21
                  by_cases c22 : x10_2 < (t105.length : Int)
                  · rw [if_pos c22] at H; have c22b0 : decide (x10_2 < (t105.length : Int)) = true := decide_eq_true c22; clear c22
                    by_cases c23 : 0 ≤ (rd t102 x10_2)
                    · rw [if_pos c23] at H; have c23b0 : decide (0 ≤ (rd t102 x10_2)) = true := decide_eq_true c23; clear c23
                      by_cases c24 : (rd t102 x10_2) < (t108.length : Int)
                      · rw [if_pos c24] at H; have c24b0 : decide ((rd t102 x10_2) < (t108.length : Int)) = true := decide_eq_true c24; clear c24; replace H := Option.bind_eq_some_iff.mp H; obtain ⟨t119, A250, H⟩ := H; replace H : ((zaK.f x9_2 t119).bind fun t120 => (zC.l0 k2 t108 t114 t120 (wrap64 (x10_2 + 1)) t101 t102 t105)) = some r := H; have A25 := Aside0.mk A250; clear A250; replace H := Option.bind_eq_some_iff.mp H; obtain ⟨t120, A260, H⟩ := H; replace H : (zC.l0 k2 t108 t114 t120 (wrap64 (x10_2 + 1)) t101 t102 t105) = some r := H; have A26 := Aside0.mk A260; clear A260; have H' := Aside0.mk H; clear H; have hcz27_0 : wr.cell? ⟨gb111, 0, none⟩ = some (.int .i64 t101) := (zn BK111.out 0).trans rfl; have hcz27_1 : wr.cell? ⟨gb111, 1, none⟩ = some (.slice Ao10 t102.length co10) := (zn BK111.out 1).trans rfl; have hcz27_2 : wr.cell? ⟨gb111, 2, none⟩ = some (.slice Ao11 t105.length co11) := (zn BK111.out 2).trans rfl; have hfz27_0 := zm BK111.out 0; have hfz27_1 := zm BK111.out 1; have hfz27_2 := zm BK111.out 2
                        try go_wp2
                        have n0_ := Aside0.mk (Kd.R_drew HO_4.out); have n1_ := Aside0.mk (Kd.R_drew HO_112001.out); have n2_ := Aside0.mk (Kd.R_drew HO_112002.out); have n3_ := Aside0.mk (zl BK111.out); have n4_ := Aside0.mk (zb HB.out); clear HO_4; clear HO_112001; clear HO_112002; clear BK111; clear HB; have HO_4 := n0_; have HO_112001 := n1_; have HO_112002 := n2_; have BK111 := n3_; have HB := n4_; clear n0_ n1_ n2_ n3_ n4_; have p116 : 0 ≤ (x10_2 : Int) := of_decide_eq_true (by first | (with_reducible assumption) | assumption); have q116 : x10_2 < (t105.length : Int) := of_decide_eq_true (by first | (with_reducible assumption) | assumption); obtain ⟨ad116, e116, hx116_0⟩ := Kd.at_int (Kd.zI HO_112002.out).2.2 x10_2 p116 q116; cases e116; replace p116 := eq_true p116; replace q116 := eq_true q116; have p117 : 0 ≤ (x10_2 : Int) := of_decide_eq_true (by first | (with_reducible assumption) | assumption); have q117 : x10_2 < (t102.length : Int) := of_decide_eq_true (by first | (with_reducible assumption) | assumption); obtain ⟨ad117, e117, hx117_0⟩ := Kd.at_int (Kd.zI HO_112001.out).2.2 x10_2 p117 q117; cases e117; replace p117 := eq_true p117; replace q117 := eq_true q117; have p118 : 0 ≤ ((rd t102 x10_2) : Int) := of_decide_eq_true (by first | (with_reducible assumption) | assumption); have q118 : (rd t102 x10_2) < (t108.length : Int) := of_decide_eq_true (by first | (with_reducible assumption) | assumption); obtain ⟨ad118, e118, hx118_0⟩ := Kd.at_int (Kd.zI HO_4.out).2.2 (rd t102 x10_2) p118 q118; cases e118; replace p118 := eq_true p118; replace q118 := eq_true q118; refine start_ (n := 17) (S := fun w' => w'.cell? ⟨gb111, 0, none⟩ = some (.int .i64 t101) ∧ w'.cell? ⟨gb111, 1, none⟩ = some (.slice (some ad117) t102.length co10) ∧ w'.cell? ⟨gb111, 2, none⟩ = some (.slice (some ad116) t105.length co11) ∧ w'.cell? (ad116.add (x10_2).toNat) = some (.int .i64 (rd t105 x10_2)) ∧ w'.cell? (ad117.add (x10_2).toNat) = some (.int .i64 (rd t102 x10_2)) ∧ w'.cell? (ad118.add ((rd t102 x10_2)).toNat) = some (.int .i64 (rd t108 (rd t102 x10_2)))) (ds := []) #[false, false, false, false, false, false, false, false, false, false, false, false, false, false, false, false, false] (by kernel_rfl) rfl rfl ⟨(zn BK111.out 0).trans rfl, (zn BK111.out 1).trans rfl, (zn BK111.out 2).trans rfl, hx116_0, hx117_0, hx118_0⟩ (fun hHeld => ?_); refine zbe zC.tab12 zC.bits12 (fun HT_ HW_ => ?_); generalize wr.drew = w28 at HO_4 HO_112001 HO_112002 BK111 HB hx116_0 hx117_0 hx118_0 hHeld ⊢; refine pure_ (i := 0) (N := some 62) (v := ?_) (a' := ?_) #[true, false, false, false, false, false, false, false, false, false, false, false, false, false, false, false, false] rfl rfl (any_of HT_.out (by kernel_rfl)) (fun _ _ _ h => h) (Or.inl ⟨by rfl, ?_⟩) ?_ ?_; rotate_left
                        · intro w'; go_simp; (with_reducible rfl)
                        rotate_left
                        · simp only [Act.put, List.setIfInBounds_toArray, List.set_cons_zero, List.set_cons_succ, i64_w, i32_w]; rfl
                        refine pure_ (i := 1) (N := some 63) (v := ?_) (a' := ?_) #[true, true, false, false, false, false, false, false, false, false, false, false, false, false, false, false, false] rfl rfl (any_of HT_.out (by kernel_rfl)) (fun _ _ _ h => h) (Or.inl ⟨by rfl, ?_⟩) ?_ ?_; rotate_left
                        · intro w'; go_simp; (with_reducible rfl)
                        rotate_left
                        · simp only [Act.put, List.setIfInBounds_toArray, List.set_cons_zero, List.set_cons_succ, i64_w, i32_w]; rfl
                        refine pure_ (i := 3) (N := some 65) (v := ?_) (a' := ?_) #[true, true, false, true, false, false, false, false, false, false, false, false, false, false, false, false, false] rfl rfl (any_of HT_.out (by kernel_rfl)) (fun _ _ _ h => h) (Or.inl ⟨by rfl, ?_⟩) ?_ ?_; rotate_left
                        · intro w'; go_simp; (with_reducible rfl)
                        rotate_left
                        · simp only [Act.put, List.setIfInBounds_toArray, List.set_cons_zero, List.set_cons_succ, i64_w, i32_w]; rfl
                        refine pure_ (i := 6) (N := some 68) (v := ?_) (a' := ?_) #[true, true, false, true, false, false, true, false, false, false, false, false, false, false, false, false, false] rfl rfl (any_of HT_.out (by kernel_rfl)) (fun _ _ _ h => h) (Or.inl ⟨by rfl, ?_⟩) ?_ ?_; rotate_left
                        · intro w'; go_simp; (with_reducible rfl)
                        rotate_left
                        · simp only [Act.put, List.setIfInBounds_toArray, List.set_cons_zero, List.set_cons_succ, i64_w, i32_w]; rfl
                        refine pure_ (i := 7) (N := some 69) (v := ?_) (a' := ?_) #[true, true, false, true, false, false, true, true, false, false, false, false, false, false, false, false, false] rfl rfl (any_of HT_.out (by kernel_rfl)) (fun _ _ _ h => h) (Or.inl ⟨by rfl, ?_⟩) ?_ ?_; rotate_left
                        · intro w'; go_simp; (with_reducible rfl)
                        rotate_left
                        · simp only [Act.put, List.setIfInBounds_toArray, List.set_cons_zero, List.set_cons_succ, i64_w, i32_w]; rfl
                        refine pure_ (i := 9) (N := some 71) (v := ?_) (a' := ?_) #[true, true, false, true, false, false, true, true, false, true, false, false, false, false, false, false, false] rfl rfl (any_of HT_.out (by kernel_rfl)) (fun _ _ _ h => h) (Or.inl ⟨by rfl, ?_⟩) ?_ ?_; rotate_left
                        · intro w'; go_simp; (with_reducible rfl)
                        rotate_left
                        · simp only [Act.put, List.setIfInBounds_toArray, List.set_cons_zero, List.set_cons_succ, i64_w, i32_w]; rfl
                        refine take_ (i := 2) (N := some 64) (v := ?_) (a' := ?_) #[true, true, true, true, false, false, true, true, false, true, false, false, false, false, false, false, false] rfl rfl (zal HT_.out HW_.out (by kernel_rfl)) (fun _ _ _ h => h) (Or.inl ⟨by rfl, ?_⟩) hHeld ?_ ?_; rotate_left
                        · rintro w' ⟨s0, s1, s2, s3, s4, s5⟩; go_simp; (with_reducible rfl)
                        rotate_left
                        · simp only [Act.put, List.setIfInBounds_toArray, List.set_cons_zero, List.set_cons_succ, i64_w, i32_w]; rfl
                        refine pure_ (i := 4) (N := some 66) (v := ?_) (a' := ?_) #[true, true, true, true, true, false, true, true, false, true, false, false, false, false, false, false, false] rfl rfl (any_of HT_.out (by kernel_rfl)) (fun _ _ _ h => h) (Or.inl ⟨by rfl, ?_⟩) ?_ ?_; rotate_left
                        · intro w'; go_simp; (with_reducible rfl)
                        rotate_left
                        · simp only [Act.put, List.setIfInBounds_toArray, List.set_cons_zero, List.set_cons_succ, i64_w, i32_w]; rfl
                        refine take_ (i := 5) (N := some 67) (v := ?_) (a' := ?_) #[true, true, true, true, true, true, true, true, false, true, false, false, false, false, false, false, false] rfl rfl (zal HT_.out HW_.out (by kernel_rfl)) (fun _ _ _ h => h) (Or.inl ⟨by rfl, ?_⟩) hHeld ?_ ?_; rotate_left
                        · rintro w' ⟨s0, s1, s2, s3, s4, s5⟩; go_simp; (with_reducible rfl)
                        rotate_left
                        · simp only [Act.put, List.setIfInBounds_toArray, List.set_cons_zero, List.set_cons_succ, i64_w, i32_w]; rfl
                        refine take_ (i := 8) (N := some 70) (v := ?_) (a' := ?_) #[true, true, true, true, true, true, true, true, true, true, false, false, false, false, false, false, false] rfl rfl (zal HT_.out HW_.out (by kernel_rfl)) (fun _ _ _ h => h) (Or.inl ⟨by rfl, ?_⟩) hHeld ?_ ?_; rotate_left
                        · rintro w' ⟨s0, s1, s2, s3, s4, s5⟩; go_simp; (with_reducible rfl)
                        rotate_left
                        · simp only [Act.put, List.setIfInBounds_toArray, List.set_cons_zero, List.set_cons_succ, i64_w, i32_w]; rfl
                        refine pure_ (i := 10) (N := some 72) (v := ?_) (a' := ?_) #[true, true, true, true, true, true, true, true, true, true, true, false, false, false, false, false, false] rfl rfl (any_of HT_.out (by kernel_rfl)) (fun _ _ _ h => h) (Or.inl ⟨by rfl, ?_⟩) ?_ ?_; rotate_left
                        · intro w'; go_simp; (with_reducible rfl)
                        rotate_left
                        · simp only [Act.put, List.setIfInBounds_toArray, List.set_cons_zero, List.set_cons_succ, i64_w, i32_w]; rfl
                        refine take_ (i := 11) (N := some 73) (v := ?_) (a' := ?_) #[true, true, true, true, true, true, true, true, true, true, true, true, false, false, false, false, false] rfl rfl (zal HT_.out HW_.out (by kernel_rfl)) (fun _ _ _ h => h) (Or.inl ⟨by rfl, ?_⟩) hHeld ?_ ?_; rotate_left
                        · rintro w' ⟨s0, s1, s2, s3, s4, s5⟩; go_simp; (with_reducible rfl)
                        rotate_left
                        · simp only [Act.put, List.setIfInBounds_toArray, List.set_cons_zero, List.set_cons_succ, i64_w, i32_w]; rfl
                        refine pure_ (i := 12) (N := some 74) (v := ?_) (a' := ?_) #[true, true, true, true, true, true, true, true, true, true, true, true, true, false, false, false, false] rfl rfl (any_of HT_.out (by kernel_rfl)) (fun _ _ _ h => h) (Or.inl ⟨by rfl, ?_⟩) ?_ ?_; rotate_left
                        · intro w'; go_simp; (with_reducible rfl)
                        rotate_left
                        · simp only [Act.put, List.setIfInBounds_toArray, List.set_cons_zero, List.set_cons_succ, i64_w, i32_w]; rfl
                        refine take_ (i := 13) (N := some 75) (v := ?_) (a' := ?_) #[true, true, true, true, true, true, true, true, true, true, true, true, true, true, false, false, false] rfl rfl (zal HT_.out HW_.out (by kernel_rfl)) (fun _ _ _ h => h) (Or.inl ⟨by rfl, ?_⟩) hHeld ?_ ?_; rotate_left
                        · rintro w' ⟨s0, s1, s2, s3, s4, s5⟩; go_simp; (with_reducible rfl)
                        rotate_left
                        · simp only [Act.put, List.setIfInBounds_toArray, List.set_cons_zero, List.set_cons_succ, i64_w, i32_w]; rfl
                        refine one_ (i := 14) (N := some 76) #[true, true, true, true, true, true, true, true, true, true, true, true, true, true, true, false, false] rfl rfl (one_of HT_.out (by kernel_rfl)) (by decide) (fun K hK => ?_); refine goes_ Try.func32 (by kernel_rfl) rfl #[.int .i64 (rd t105 x10_2), .int .i64 (rd t108 (rd t102 x10_2))] (by rfl) rfl rfl (by (try simp only [List.map_toArray, List.map_cons, List.map_nil]); first | done | rfl | (simp only [List.length_drop, List.length_take]; rfl)) ?_; (with_reducible refine (zbm.calls (rd t105 x10_2) (rd t108 (rd t102 x10_2)) t119 _ A25.out).mono ?_); rintro e w' ⟨rfl, ⟨nd, rfl⟩⟩; refine ⟨_, rfl, ?_⟩; refine hK.out _ _ ⟨(zn BK111.out 0).trans rfl, (zn BK111.out 1).trans rfl, (zn BK111.out 2).trans rfl, hHeld.2.2.2.1, hHeld.2.2.2.2.1, hHeld.2.2.2.2.2⟩ (fun hHeld => ?_); clear hK K; refine norm_ (a' := ?_) ?_ ?_; rotate_left
                        · show Act.put _ (some 76) _ = _; simp only [Act.put, List.setIfInBounds_toArray, List.set_cons_zero, List.set_cons_succ, i64_w, i32_w]; rfl
                        refine one_ (i := 15) (N := some 77) #[true, true, true, true, true, true, true, true, true, true, true, true, true, true, true, true, false] rfl rfl (one_of HT_.out (by kernel_rfl)) (by decide) (fun K hK => ?_); refine goes_ Try.func31 (by kernel_rfl) rfl #[.int .i64 x9_2, .int .i64 t119] (by rfl) rfl rfl (by (try simp only [List.map_toArray, List.map_cons, List.map_nil]); first | done | rfl | (simp only [List.length_drop, List.length_take]; rfl)) ?_; (with_reducible refine (zaK.calls x9_2 t119 t120 _ A26.out).mono ?_); rintro e w' ⟨rfl, ⟨nd, rfl⟩⟩; refine ⟨_, rfl, ?_⟩; refine hK.out _ _ ⟨(zn BK111.out 0).trans rfl, (zn BK111.out 1).trans rfl, (zn BK111.out 2).trans rfl, hHeld.2.2.2.1, hHeld.2.2.2.2.1, hHeld.2.2.2.2.2⟩ (fun hHeld => ?_); clear hK K; refine norm_ (a' := ?_) ?_ ?_; rotate_left
                        · show Act.put _ (some 77) _ = _; simp only [Act.put, List.setIfInBounds_toArray, List.set_cons_zero, List.set_cons_succ, i64_w, i32_w]; rfl
                        refine pure_ (i := 16) (N := some 9) (v := ?_) (a' := ?_) #[true, true, true, true, true, true, true, true, true, true, true, true, true, true, true, true, true] rfl rfl (any_of HT_.out (by kernel_rfl)) (fun _ _ _ h => h) (Or.inl ⟨by rfl, ?_⟩) ?_ ?_; rotate_left
                        · intro w'; go_simp; (with_reducible rfl)
                        rotate_left
                        · simp only [Act.put, List.setIfInBounds_toArray, List.set_cons_zero, List.set_cons_succ, i64_w, i32_w]; rfl
                        refine done_ (zby HT_.out (by kernel_rfl)) ?_
                        try go_wp2
                        go_roundg k2
                        case measure => have := HJ5.out; have := HK2.out; omega
                        case rel => exact ⟨(t120), (wrap64 (x10_2 + 1)), (by first | rfl | (simp; done) | (simp [*]; done)), (by first | rfl | (simp; done) | (simp [*]; done)), H', ⟨by have := HJ5.out; have := HK2.out; omega⟩, ⟨by (with_reducible repeat (first | apply Kd.zu | apply Kd.zt | apply Kd.R_drew)); exact HO_4.out⟩, ⟨by (with_reducible repeat (first | apply Kd.zu | apply Kd.zt | apply Kd.R_drew)); exact HO_112001.out⟩, ⟨by (with_reducible repeat (first | apply Kd.zu | apply Kd.zt | apply Kd.R_drew)); exact HO_112002.out⟩, ⟨by (with_reducible repeat (first | refine zi ?_ _ | refine zl ?_ | refine zh ?_ _)); exact BK111.out⟩, ⟨by repeat (first | (with_reducible first | exact HB.out | apply ze | apply za | apply zb | refine zg ?_ GE111.out) | exact HB.out)⟩⟩
                      · rw [if_neg c24] at H; exact absurd H (by simp)
                    · rw [if_neg c23] at H; exact absurd H (by simp)
                  · rw [if_neg c22] at H; exact absurd H (by simp)
                · rw [if_neg c21] at H; exact absurd H (by simp)
              · rw [if_neg c20] at H; have c20b0 : decide (x10_2 < (t102.length : Int)) = false := decide_eq_false c20; clear c20; obtain ⟨y121, hy121⟩ : ∃ y_ : List Int, y_ = (([] : List Int)) := ⟨_, rfl⟩
                replace H : (zC.l1 k2 t108 t114 x9_2 y121 0 t101 t102 t105) = some r := by first | (rw [hy121]; with_reducible exact H) | (have H2_ := (Option.bind_some _ _).symm.trans H; rw [hy121]; with_reducible exact H2_) | (have H2_ := (Option.bind_some _ _).symm.trans H; with_reducible exact H2_) | with_reducible exact H | (rw [hy121]; exact H) | exact H
                have Ny121 := Aside0.mk hy121; clear hy121; have H' := Aside0.mk H; clear H; have hcz29_0 : wr.cell? ⟨gb111, 0, none⟩ = some (.int .i64 t101) := (zn BK111.out 0).trans rfl; have hcz29_1 : wr.cell? ⟨gb111, 1, none⟩ = some (.slice Ao10 t102.length co10) := (zn BK111.out 1).trans rfl; have hcz29_2 : wr.cell? ⟨gb111, 2, none⟩ = some (.slice Ao11 t105.length co11) := (zn BK111.out 2).trans rfl; have hfz29_0 := zm BK111.out 0; have hfz29_1 := zm BK111.out 1; have hfz29_2 := zm BK111.out 2; go_wp2_with (first | ((with_reducible refine zM (N := 78) rfl ?_); refine Kd.R_lit (Kd.int .i64) _ 3 ?hg (N := 78) ?hd (xs := ([] : List Int)) (inner := []) (ok := fun _ => True) (okp := fun _ => True) ?hr ?hp (fun _ hk => hk) trivial (Below.refl _ _) (Nat.le_refl _) (by simp) ?_; (case hd => rfl); (case hg => rfl); (case hr => first | (go_simp; done) | (go_simp; rfl)); (case hp => exact (Reps.none _ _)); intro v122 w30 ho31 hb hg_ hnew_; clear hg_ hnew_; (first | rw [← Ny121.out] at ho31 | (simp only [Int.reduceToNat] at ho31; rw [← Ny121.out] at ho31)); have n0_ := Aside0.mk (Kd.zav (by (with_reducible repeat (first | apply Kd.zu | apply Kd.zt | apply Kd.R_drew)); exact HO_4.out) (Kd.R_base ho31) hb); have n1_ := Aside0.mk (Kd.zav (by (with_reducible repeat (first | apply Kd.zu | apply Kd.zt | apply Kd.R_drew)); exact HO_112001.out) (Kd.R_base ho31) hb); have n2_ := Aside0.mk (Kd.zav (by (with_reducible repeat (first | apply Kd.zu | apply Kd.zt | apply Kd.R_drew)); exact HO_112002.out) (Kd.R_base ho31) hb); have n3_ := Aside0.mk (Kd.zO (Kd.R_new' (Kd.R_new' (Kd.R_new' ho31 (Kd.R_lt (by (with_reducible repeat (first | apply Kd.zu | apply Kd.zt | apply Kd.R_drew)); exact HO_4.out))) (Kd.R_lt (by (with_reducible repeat (first | apply Kd.zu | apply Kd.zt | apply Kd.R_drew)); exact HO_112001.out))) (Kd.R_lt (by (with_reducible repeat (first | apply Kd.zu | apply Kd.zt | apply Kd.R_drew)); exact HO_112002.out))) (zy (by repeat (first | (with_reducible first | exact HB.out | apply ze | apply za | apply zb | refine zg ?_ GE111.out) | exact HB.out)))); have n4_ := Aside0.mk (zR (g := gb111) (o := .cells #[.int .i64 t101, .slice Ao10 t102.length co10, .slice Ao11 t105.length co11] 47 (0, 0)) (by (with_reducible repeat (first | refine zi ?_ _ | refine zl ?_ | refine zh ?_ _)); exact BK111.out) hb); have n5_ := Aside0.mk (zz (by repeat (first | (with_reducible first | exact HB.out | apply ze | apply za | apply zb | refine zg ?_ GE111.out) | exact HB.out)) hb); clear HO_4; clear HO_112001; clear HO_112002; clear BK111; clear HB; have HO_4 := n0_; have HO_112001 := n1_; have HO_112002 := n2_; have HO123 := n3_; have BK111 := n4_; have HB := n5_; clear n0_ n1_ n2_ n3_ n4_ n5_; clear hb ho31))
                go_loopg [11, 12] k2 (fun kq v11 v12 w' => ∃ (x11_3 : List Int) (x12_3 : Int), v12 = .int .i64 x12_3 ∧ Aside0 (zC.l1 kq t108 t114 x9_2 x11_3 x12_3 t101 t102 t105 = some r) ∧ Aside0 (kq ≤ k2) ∧ Aside0 (Kd.R (Kd.int .i64) 3 w' w.heap.size (fun k_ => some k_ ≠ (v11 : Value).ownBlock ∧ some k_ ≠ ((.slice Ao10 t102.length co10) : Value).ownBlock ∧ some k_ ≠ ((.slice Ao11 t105.length co11) : Value).ownBlock) (.slice Ao12 t108.length co12) t108) ∧ Aside0 (Kd.R (Kd.int .i64) 3 w' w.heap.size (fun k_ => some k_ ≠ ((.slice Ao12 t108.length co12) : Value).ownBlock ∧ some k_ ≠ ((.slice Ao10 t102.length co10) : Value).ownBlock ∧ some k_ ≠ ((.slice Ao11 t105.length co11) : Value).ownBlock) v11 x11_3) ∧ Aside0 (Kd.R (Kd.int .i64) 3 w' w.heap.size (fun k_ => some k_ ≠ ((.slice Ao12 t108.length co12) : Value).ownBlock ∧ some k_ ≠ (v11 : Value).ownBlock ∧ some k_ ≠ ((.slice Ao11 t105.length co11) : Value).ownBlock) (.slice Ao10 t102.length co10) t102) ∧ Aside0 (Kd.R (Kd.int .i64) 3 w' w.heap.size (fun k_ => some k_ ≠ ((.slice Ao12 t108.length co12) : Value).ownBlock ∧ some k_ ≠ (v11 : Value).ownBlock ∧ some k_ ≠ ((.slice Ao10 t102.length co10) : Value).ownBlock) (.slice Ao11 t105.length co11) t105) ∧ Aside0 (w'.heap[gb111]? = some (.cells #[.int .i64 t101, (.slice Ao10 t102.length co10), (.slice Ao11 t105.length co11)] 47 (0, 0))) ∧ Aside0 (Below w.heap.size w w'))
                case atStart => exact ⟨(y121), (0), (by first | rfl | (simp; done) | (simp [*]; done)), H', ⟨Nat.le_refl _⟩, ⟨by (with_reducible repeat (first | apply Kd.zu | apply Kd.zt | apply Kd.R_drew)); exact Kd.R_mono HO_4.out (fun _ hk => ⟨hk.2, ⟨hk.1.1, hk.1.2⟩⟩)⟩, ⟨by (with_reducible repeat (first | apply Kd.zu | apply Kd.zt | apply Kd.R_drew)); exact Kd.R_mono HO123.out (fun _ hk => ⟨hk.1.1.2, ⟨hk.1.2, hk.2⟩⟩)⟩, ⟨by (with_reducible repeat (first | apply Kd.zu | apply Kd.zt | apply Kd.R_drew)); exact Kd.R_mono HO_112001.out (fun _ hk => ⟨hk.1.1, ⟨hk.2, hk.1.2⟩⟩)⟩, ⟨by (with_reducible repeat (first | apply Kd.zu | apply Kd.zt | apply Kd.R_drew)); exact Kd.R_mono HO_112002.out (fun _ hk => ⟨hk.1.1, ⟨hk.2, hk.1.2⟩⟩)⟩, ⟨by (with_reducible repeat (first | refine zi ?_ _ | refine zl ?_ | refine zh ?_ _)); exact BK111.out⟩, ⟨by repeat (first | (with_reducible first | exact HB.out | apply ze | apply za | apply zb | refine zg ?_ GE111.out) | exact HB.out)⟩⟩
                case round =>
                  clear H'
                  try clear c1
                  try clear p1
                  try clear q1
                  try clear hx1
                  try clear c2
                  try clear c2b0
                  try clear c2b1
                  try clear p2
                  try clear c3
                  try clear p6
                  try clear c8
                  try clear p11
                  try clear q11
                  try clear hx11
                  try clear c16
                  try clear c16b0
                  try clear c16b1
                  try clear c16b2
                  try clear c17
                  try clear c17b0
                  try clear c17b1
                  try clear c18
                  try clear c19
                  try clear c19b0
                  try clear c19b1
                  try clear c19b2
                  try clear c20
                  try clear c20b0
                  try clear c21
                  try clear c21b0
                  try clear c22
                  try clear c22b0
                  try clear c23
                  try clear c23b0
                  try clear c24
                  try clear c24b0
                  try clear c28
                  try clear c29
                  try clear c30
                  try clear c31
                  try clear hcz14_0
                  try clear hcz14_1
                  try clear hcz14_2
                  try clear hcz27_0
                  try clear hcz27_1
                  try clear hcz27_2
                  try clear hcz29_0
                  try clear hcz29_1
                  try clear hcz29_2
                  try clear hcz9_0
                  try clear hcz9_1
                  try clear hcz9_2
                  try clear hfz14_0
                  try clear hfz14_1
                  try clear hfz14_2
                  try clear hfz27_0
                  try clear hfz27_1
                  try clear hfz27_2
                  try clear hfz29_0
                  try clear hfz29_1
                  try clear hfz29_2
                  try clear hfz9_0
                  try clear hfz9_1
                  try clear hfz9_2
                  try clear hx116_0
                  try clear hx117_0
                  try clear hx118_0
                  try clear p116
                  try clear p117
                  try clear p118
                  try clear p2
                  try clear q116
                  try clear q117
                  try clear q118
                  obtain ⟨x11_3, x12_3, rfl, HA, HK3, HO_4, HO_11, HO_112001, HO_112002, BK111, HB⟩ := hrel; cases gk with
                  | zero => exact absurd HA.out (by simp [zC.l1])
                  | succ k3 =>
                    have H := HA.out; clear HA; simp only [zC.l1] at H
                    by_cases c32 : x12_3 < (t108.length : Int)
                    · rw [if_pos c32] at H; have c32b0 : decide (x12_3 < (t108.length : Int)) = true := decide_eq_true c32; clear c32
                      by_cases c33 : 0 ≤ x12_3
                      · rw [if_pos c33] at H; have c33b0 : decide (0 ≤ x12_3) = true := decide_eq_true c33; clear c33; replace H := Option.bind_eq_some_iff.mp H; obtain ⟨t126, A340, H⟩ := H; replace H : (if x11_3.length < 17592186044416 then (zC.l1 k3 t108 t114 x9_2 (x11_3 ++ [t126]) (wrap64 (x12_3 + 1)) t101 t102 t105) else (none)) = some r := H; have A34 := Aside0.mk A340; clear A340
                        by_cases c35 : x11_3.length < 17592186044416
                        · rw [if_pos c35] at H; have LMc35 := Aside0.mk c35; clear c35; obtain ⟨y127, hy127⟩ : ∃ y_ : List Int, y_ = (x11_3 ++ [t126]) := ⟨_, rfl⟩
                          replace H : (zC.l1 k3 t108 t114 x9_2 y127 (wrap64 (x12_3 + 1)) t101 t102 t105) = some r := by first | (rw [hy127]; with_reducible exact H) | (have H2_ := (Option.bind_some _ _).symm.trans H; rw [hy127]; with_reducible exact H2_) | (have H2_ := (Option.bind_some _ _).symm.trans H; with_reducible exact H2_) | with_reducible exact H | (rw [hy127]; exact H) | exact H
                          have Ny127 := Aside0.mk hy127; clear hy127; have H' := Aside0.mk H; clear H
                          try go_wp2
                          have n0_ := Aside0.mk (Kd.R_drew HO_4.out); have n1_ := Aside0.mk (Kd.R_drew HO_11.out); have n2_ := Aside0.mk (Kd.R_drew HO_112001.out); have n3_ := Aside0.mk (Kd.R_drew HO_112002.out); have n4_ := Aside0.mk (zl BK111.out); have n5_ := Aside0.mk (zb HB.out); clear HO_4; clear HO_11; clear HO_112001; clear HO_112002; clear BK111; clear HB; have HO_4 := n0_; have HO_11 := n1_; have HO_112001 := n2_; have HO_112002 := n3_; have BK111 := n4_; have HB := n5_; clear n0_ n1_ n2_ n3_ n4_ n5_; have p124 : 0 ≤ (x12_3 : Int) := of_decide_eq_true (by first | (with_reducible assumption) | assumption); have q124 : x12_3 < (t108.length : Int) := of_decide_eq_true (by first | (with_reducible assumption) | assumption); obtain ⟨ad124, e124, hx124_0⟩ := Kd.at_int (Kd.zI HO_4.out).2.2 x12_3 p124 q124; cases e124; replace p124 := eq_true p124; replace q124 := eq_true q124; have p125 : 0 ≤ (x12_3 : Int) := of_decide_eq_true (by first | (with_reducible assumption) | assumption); have q125 : x12_3 < (t108.length : Int) := of_decide_eq_true (by first | (with_reducible assumption) | assumption); obtain ⟨ad125, e125, hx125_0⟩ := Kd.at_int (Kd.zI HO_4.out).2.2 x12_3 p125 q125; obtain rfl : ad124 = ad125 := (by injection e125)
                          replace p125 := eq_true p125; replace q125 := eq_true q125; refine start_ (n := 13) (S := fun w' => w'.cell? (ad124.add (x12_3).toNat) = some (.int .i64 (rd t108 x12_3)) ∧ w'.cell? (ad124.add (x12_3).toNat) = some (.int .i64 (rd t108 x12_3))) (ds := [10, 11]) #[false, false, false, false, false, false, false, false, false, false, false, false, false] (by kernel_rfl) rfl rfl ⟨hx124_0, hx125_0⟩ (fun hHeld => ?_); refine zbe zC.tab17 zC.bits17 (fun HT_ HW_ => ?_); generalize wr.drew = w36 at HO_4 HO_11 HO_112001 HO_112002 BK111 HB hx124_0 hx125_0 hHeld ⊢; refine pure_ (i := 0) (N := some 85) (v := ?_) (a' := ?_) #[true, false, false, false, false, false, false, false, false, false, false, false, false] rfl rfl (any_of HT_.out (by kernel_rfl)) (fun _ _ _ h => h) (Or.inl ⟨by rfl, ?_⟩) ?_ ?_; rotate_left
                          · intro w'; go_simp; (with_reducible rfl)
                          rotate_left
                          · simp only [Act.put, List.setIfInBounds_toArray, List.set_cons_zero, List.set_cons_succ, i64_w, i32_w]; rfl
                          refine pure_ (i := 1) (N := some 86) (v := ?_) (a' := ?_) #[true, true, false, false, false, false, false, false, false, false, false, false, false] rfl rfl (any_of HT_.out (by kernel_rfl)) (fun _ _ _ h => h) (Or.inl ⟨by rfl, ?_⟩) ?_ ?_; rotate_left
                          · intro w'; go_simp; (with_reducible rfl)
                          rotate_left
                          · simp only [Act.put, List.setIfInBounds_toArray, List.set_cons_zero, List.set_cons_succ, i64_w, i32_w]; rfl
                          refine pure_ (i := 2) (N := some 87) (v := ?_) (a' := ?_) #[true, true, true, false, false, false, false, false, false, false, false, false, false] rfl rfl (any_of HT_.out (by kernel_rfl)) (fun _ _ _ h => h) (Or.inl ⟨by rfl, ?_⟩) ?_ ?_; rotate_left
                          · intro w'; go_simp; (with_reducible rfl)
                          rotate_left
                          · simp only [Act.put, List.setIfInBounds_toArray, List.set_cons_zero, List.set_cons_succ, i64_w, i32_w]; rfl
                          refine pure_ (i := 3) (N := some 88) (v := ?_) (a' := ?_) #[true, true, true, true, false, false, false, false, false, false, false, false, false] rfl rfl (any_of HT_.out (by kernel_rfl)) (fun _ _ _ h => h) (Or.inl ⟨by rfl, ?_⟩) ?_ ?_; rotate_left
                          · intro w'; go_simp; (with_reducible rfl)
                          rotate_left
                          · simp only [Act.put, List.setIfInBounds_toArray, List.set_cons_zero, List.set_cons_succ, i64_w, i32_w]; rfl
                          refine pure_ (i := 5) (N := some 90) (v := ?_) (a' := ?_) #[true, true, true, true, false, true, false, false, false, false, false, false, false] rfl rfl (any_of HT_.out (by kernel_rfl)) (fun _ _ _ h => h) (Or.inl ⟨by rfl, ?_⟩) ?_ ?_; rotate_left
                          · intro w'; go_simp; (with_reducible rfl)
                          rotate_left
                          · simp only [Act.put, List.setIfInBounds_toArray, List.set_cons_zero, List.set_cons_succ, i64_w, i32_w]; rfl
                          refine pure_ (i := 6) (N := some 91) (v := ?_) (a' := ?_) #[true, true, true, true, false, true, true, false, false, false, false, false, false] rfl rfl (any_of HT_.out (by kernel_rfl)) (fun _ _ _ h => h) (Or.inl ⟨by rfl, ?_⟩) ?_ ?_; rotate_left
                          · intro w'; go_simp; (with_reducible rfl)
                          rotate_left
                          · simp only [Act.put, List.setIfInBounds_toArray, List.set_cons_zero, List.set_cons_succ, i64_w, i32_w]; rfl
                          refine pure_ (i := 7) (N := some 92) (v := ?_) (a' := ?_) #[true, true, true, true, false, true, true, true, false, false, false, false, false] rfl rfl (any_of HT_.out (by kernel_rfl)) (fun _ _ _ h => h) (Or.inl ⟨by rfl, ?_⟩) ?_ ?_; rotate_left
                          · intro w'; go_simp; (with_reducible rfl)
                          rotate_left
                          · simp only [Act.put, List.setIfInBounds_toArray, List.set_cons_zero, List.set_cons_succ, i64_w, i32_w]; rfl
                          refine take_ (i := 4) (N := some 89) (v := ?_) (a' := ?_) #[true, true, true, true, true, true, true, true, false, false, false, false, false] rfl rfl (zal HT_.out HW_.out (by kernel_rfl)) (fun _ _ _ h => h) (Or.inl ⟨by rfl, ?_⟩) hHeld ?_ ?_; rotate_left
                          · rintro w' ⟨s0, s1⟩; go_simp; (with_reducible rfl)
                          rotate_left
                          · simp only [Act.put, List.setIfInBounds_toArray, List.set_cons_zero, List.set_cons_succ, i64_w, i32_w]; rfl
                          refine take_ (i := 8) (N := some 93) (v := ?_) (a' := ?_) #[true, true, true, true, true, true, true, true, true, false, false, false, false] rfl rfl (zal HT_.out HW_.out (by kernel_rfl)) (fun _ _ _ h => h) (Or.inl ⟨by rfl, ?_⟩) hHeld ?_ ?_; rotate_left
                          · rintro w' ⟨s0, s1⟩; go_simp; (with_reducible rfl)
                          rotate_left
                          · simp only [Act.put, List.setIfInBounds_toArray, List.set_cons_zero, List.set_cons_succ, i64_w, i32_w]; rfl
                          refine one_ (i := 9) (N := some 94) #[true, true, true, true, true, true, true, true, true, true, false, false, false] rfl rfl (one_of HT_.out (by kernel_rfl)) (by decide) (fun K hK => ?_); refine goes_ Try.func31 (by kernel_rfl) rfl #[.int .i64 (rd t108 x12_3), .int .i64 (rd t108 x12_3)] (by rfl) rfl rfl (by (try simp only [List.map_toArray, List.map_cons, List.map_nil]); first | done | rfl | (simp only [List.length_drop, List.length_take]; rfl)) ?_; (with_reducible refine (zaK.calls (rd t108 x12_3) (rd t108 x12_3) t126 _ A34.out).mono ?_); rintro e w' ⟨rfl, ⟨nd, rfl⟩⟩; refine ⟨_, rfl, ?_⟩; refine hK.out _ _ ⟨hHeld.1, hHeld.2⟩ (fun hHeld => ?_); clear hK K; refine norm_ (a' := ?_) ?_ ?_; rotate_left
                          · show Act.put _ (some 94) _ = _; simp only [Act.put, List.setIfInBounds_toArray, List.set_cons_zero, List.set_cons_succ, i64_w, i32_w]; rfl
                          refine last_ (i := 10) (N := some 95) #[true, true, true, true, true, true, true, true, true, true, true, false, false] rfl rfl (one_of HT_.out (by kernel_rfl)) (by decide) (fun K hK => ?_); refine value_ (w1 := ?_) (v := ?_) (by rfl) rfl ?_ ?_; rotate_left 2
                          · go_simp; constructor
                            · rfl
                            · rfl
                          refine hK.out _ _ ?_; clear hK K; refine norm_ (a' := ?_) ?_ ?_; rotate_left
                          · show Act.put _ (some 95) _ = _; simp only [Act.put, List.setIfInBounds_toArray, List.set_cons_zero, List.set_cons_succ, i64_w, i32_w]; rfl
                          refine last_ (i := 11) (N := some 96) #[true, true, true, true, true, true, true, true, true, true, true, true, false] rfl rfl (one_of HT_.out (by kernel_rfl)) (by decide) (fun K hK => ?_); refine Kd.zcp (Kd.int .i64) (w0 := w) w.heap.size (by rfl) (.tmp 85) (.tmp 95) 24 3 (.int .i64 0) 8 rfl Try.underlying24 info3 rfl (by decide) (by omega) u11 x11_3 t126 [.int .i64 t126] (fun k_ => some k_ ≠ (.slice (some ad124) t108.length co12 : Value).ownBlock ∧ some k_ ≠ (.slice Ao10 t102.length co10 : Value).ownBlock ∧ some k_ ≠ (.slice Ao11 t105.length co11 : Value).ownBlock) (fun _ => False) rfl rfl ?aP (fun _ hk => hk.elim) ?aF ?aO ?aB ?aS ?aL ?_; (case aP => exact rfl); (case aB => exact (by repeat (first | (with_reducible first | exact HB.out | apply ze | apply za | apply zb | refine zg ?_ GE111.out) | exact HB.out))); (case aF => exact (fun k_ hk => ⟨Kd.fresh' (Kd.R_lt (by (with_reducible repeat (first | apply Kd.zu | apply Kd.zt | apply Kd.R_drew)); exact HO_4.out)) k_ hk, Kd.fresh' (Kd.R_lt (by (with_reducible repeat (first | apply Kd.zu | apply Kd.zt | apply Kd.R_drew)); exact HO_112001.out)) k_ hk, Kd.fresh' (Kd.R_lt (by (with_reducible repeat (first | apply Kd.zu | apply Kd.zt | apply Kd.R_drew)); exact HO_112002.out)) k_ hk⟩)); (case aO => exact (by (with_reducible repeat (first | apply Kd.zu | apply Kd.zt | apply Kd.R_drew)); exact HO_11.out)); (case aS => exact (zy (by repeat (first | (with_reducible first | exact HB.out | apply ze | apply za | apply zb | refine zg ?_ GE111.out) | exact HB.out)))); (case aL => have := LMc35.out; omega); intro v128 w37 ho hb hg hat; rw [← Ny127.out] at ho; have n0_ := Aside0.mk (Kd.zcs (ok := (fun k_ => some k_ ≠ (.slice Ao10 t102.length co10 : Value).ownBlock ∧ some k_ ≠ (.slice Ao11 t105.length co11 : Value).ownBlock)) (by (with_reducible repeat (first | apply Kd.zu | apply Kd.zt | apply Kd.R_drew)); exact Kd.R_mono HO_4.out (fun _ hk => ⟨⟨hk.2.1, hk.2.2⟩, hk.1⟩)) hg hat); have n1_ := Aside0.mk (Kd.zcs (ok := (fun k_ => some k_ ≠ (.slice (some ad124) t108.length co12 : Value).ownBlock ∧ some k_ ≠ (.slice Ao11 t105.length co11 : Value).ownBlock)) (by (with_reducible repeat (first | apply Kd.zu | apply Kd.zt | apply Kd.R_drew)); exact Kd.R_mono HO_112001.out (fun _ hk => ⟨⟨hk.1, hk.2.2⟩, hk.2.1⟩)) hg hat); have n2_ := Aside0.mk (Kd.zcs (ok := (fun k_ => some k_ ≠ (.slice (some ad124) t108.length co12 : Value).ownBlock ∧ some k_ ≠ (.slice Ao10 t102.length co10 : Value).ownBlock)) (by (with_reducible repeat (first | apply Kd.zu | apply Kd.zt | apply Kd.R_drew)); exact Kd.R_mono HO_112002.out (fun _ hk => ⟨⟨hk.1, hk.2.2⟩, hk.2.1⟩)) hg hat); have n3_ := Aside0.mk (zbA (g := gb111) (o := .cells #[.int .i64 t101, .slice Ao10 t102.length co10, .slice Ao11 t105.length co11] 47 (0, 0)) (by (with_reducible repeat (first | refine zi ?_ _ | refine zl ?_ | refine zh ?_ _)); exact BK111.out) hg (Kd.R_ne HO_11.out BK111.out (by decide))); have n4_ := Aside0.mk (hb); have n5_ := Aside0.mk (ho); clear HO_4; clear HO_112001; clear HO_112002; clear BK111; clear HB; clear HO_11; have HO_4 := n0_; have HO_112001 := n1_; have HO_112002 := n2_; have BK111 := n3_; have HB := n4_; have HO129 := n5_; clear n0_ n1_ n2_ n3_ n4_ n5_; clear ho hb hg hat; refine hK.out _ _ ?_; clear hK K; refine norm_ (a' := ?_) ?_ ?_; rotate_left
                          · show Act.put _ (some 96) _ = _; simp only [Act.put, List.setIfInBounds_toArray, List.set_cons_zero, List.set_cons_succ, i64_w, i32_w]; rfl
                          refine pure_ (i := 12) (N := some 11) (v := ?_) (a' := ?_) #[true, true, true, true, true, true, true, true, true, true, true, true, true] rfl rfl (any_of HT_.out (by kernel_rfl)) (fun _ _ _ h => h) (Or.inl ⟨by rfl, ?_⟩) ?_ ?_; rotate_left
                          · intro w'; go_simp; (with_reducible rfl)
                          rotate_left
                          · simp only [Act.put, List.setIfInBounds_toArray, List.set_cons_zero, List.set_cons_succ, i64_w, i32_w]; rfl
                          refine done_ (zby HT_.out (by kernel_rfl)) ?_
                          try go_wp2
                          go_roundg k3
                          case measure => have := HJ5.out; have := HK2.out; have := HK3.out; omega
                          case rel => exact ⟨(y127), (wrap64 (x12_3 + 1)), (by first | rfl | (simp; done) | (simp [*]; done)), H', ⟨by have := HJ5.out; have := HK2.out; have := HK3.out; omega⟩, ⟨by (with_reducible repeat (first | apply Kd.zu | apply Kd.zt | apply Kd.R_drew)); exact Kd.R_mono HO_4.out (fun _ hk => ⟨hk.2, ⟨hk.1.1, hk.1.2⟩⟩)⟩, ⟨by (with_reducible repeat (first | apply Kd.zu | apply Kd.zt | apply Kd.R_drew)); exact HO129.out⟩, ⟨by (with_reducible repeat (first | apply Kd.zu | apply Kd.zt | apply Kd.R_drew)); exact Kd.R_mono HO_112001.out (fun _ hk => ⟨hk.1.1, ⟨hk.2, hk.1.2⟩⟩)⟩, ⟨by (with_reducible repeat (first | apply Kd.zu | apply Kd.zt | apply Kd.R_drew)); exact Kd.R_mono HO_112002.out (fun _ hk => ⟨hk.1.1, ⟨hk.2, hk.1.2⟩⟩)⟩, ⟨by (with_reducible repeat (first | refine zi ?_ _ | refine zl ?_ | refine zh ?_ _)); exact BK111.out⟩, ⟨by repeat (first | (with_reducible first | exact HB.out | apply ze | apply za | apply zb | refine zg ?_ GE111.out) | exact HB.out)⟩⟩
                        · rw [if_neg c35] at H; exact absurd H (by simp)
                      · rw [if_neg c33] at H; exact absurd H (by simp)
                    · rw [if_neg c32] at H; have c32b0 : decide (x12_3 < (t108.length : Int)) = false := decide_eq_false c32; clear c32; replace H := Option.bind_eq_some_iff.mp H; obtain ⟨⟨t130, t131⟩, A380, H⟩ := H; replace H : (if t114 = x9_2 then (if t131 = true then ((zaK.f t114 t114).bind fun t132 => (some (t130 == t132))) else (some false)) else (some false)) = some r := H; have A38 := Aside0.mk A380; clear A380
                      by_cases c39 : t114 = x9_2
                      · rw [if_pos c39] at H; have c39b0 : (t114 == x9_2) = true := beq_iff_eq.mpr c39; have c39b1 : (t114 != x9_2) = false := bne_eq_false_iff_eq.mpr c39; clear c39
                        by_cases c40 : t131 = true
                        · subst c40; have H1 : ((zaK.f t114 t114).bind fun t132 => (some (t130 == t132))) = some r := by rw [if_pos rfl] at H; exact H
                          clear H; have H := H1; clear H1; replace H := Option.bind_eq_some_iff.mp H; obtain ⟨t132, A410, H⟩ := H; replace H : (some (t130 == t132)) = some r := H; have A41 := Aside0.mk A410; clear A410; obtain rfl := Option.some.inj H; have hcz42_0 : wr.cell? ⟨gb111, 0, none⟩ = some (.int .i64 t101) := (zn BK111.out 0).trans rfl; have hcz42_1 : wr.cell? ⟨gb111, 1, none⟩ = some (.slice Ao10 t102.length co10) := (zn BK111.out 1).trans rfl; have hcz42_2 : wr.cell? ⟨gb111, 2, none⟩ = some (.slice Ao11 t105.length co11) := (zn BK111.out 2).trans rfl; have hfz42_0 := zm BK111.out 0; have hfz42_1 := zm BK111.out 1; have hfz42_2 := zm BK111.out 2; obtain ⟨Ao43, co43, eo43⟩ := Kd.zU HO_11.out; subst eo43; go_wp2_with (first | ((with_reducible refine zw (f := 30) rfl ?_); refine goesL_ (some 100) rfl rfl Try.func30 (by kernel_rfl) rfl #[.agg #[.int .i64 t101, .slice Ao10 t102.length co10, .slice Ao11 t105.length co11], .slice Ao43 x11_3.length co43] rfl (by (try simp only [List.map_toArray, List.map_cons, List.map_nil]); first | done | rfl | (simp only [List.length_drop, List.length_take]; rfl)) ?_; (with_reducible refine (zaQ.calls k3 t101 _ _ t102 _ _ t105 _ _ x11_3 t130 true _ ?side1 ?side2 ?side3 ?side4 ?side5 ?side6 A38.out).mono ?_); (case side1 => repeat (first | exact (Kd.zI HO_112001.out).2.2 | (with_reducible refine Kd.zN ?_ _) | (with_reducible refine Kd.zL ?_ _) | (with_reducible refine Kd.C_drew ?_))); (case side2 => exact (Kd.zI HO_112001.out).2.1); (case side3 => repeat (first | exact (Kd.zI HO_112002.out).2.2 | (with_reducible refine Kd.zN ?_ _) | (with_reducible refine Kd.zL ?_ _) | (with_reducible refine Kd.C_drew ?_))); (case side4 => exact (Kd.zI HO_112002.out).2.1); (case side5 => repeat (first | exact (Kd.zI HO_11.out).2.2 | (with_reducible refine Kd.zN ?_ _) | (with_reducible refine Kd.zL ?_ _) | (with_reducible refine Kd.C_drew ?_))); (case side6 => exact (Kd.zI HO_11.out).2.1); rintro e w44 ⟨rfl, hb⟩; refine ⟨_, rfl, ?_⟩; have n0_ := Aside0.mk (Kd.zZ (by (with_reducible repeat (first | apply Kd.zu | apply Kd.zt | apply Kd.R_drew)); exact HO_4.out) hb); have n1_ := Aside0.mk (Kd.zZ (by (with_reducible repeat (first | apply Kd.zu | apply Kd.zt | apply Kd.R_drew)); exact HO_11.out) hb); have n2_ := Aside0.mk (Kd.zZ (by (with_reducible repeat (first | apply Kd.zu | apply Kd.zt | apply Kd.R_drew)); exact HO_112001.out) hb); have n3_ := Aside0.mk (Kd.zZ (by (with_reducible repeat (first | apply Kd.zu | apply Kd.zt | apply Kd.R_drew)); exact HO_112002.out) hb); have n4_ := Aside0.mk (zR (g := gb111) (o := .cells #[.int .i64 t101, .slice Ao10 t102.length co10, .slice Ao11 t105.length co11] 47 (0, 0)) (by (with_reducible repeat (first | refine zi ?_ _ | refine zl ?_ | refine zh ?_ _)); exact BK111.out) hb); have n5_ := Aside0.mk (zz (by repeat (first | (with_reducible first | exact HB.out | apply ze | apply za | apply zb | refine zg ?_ GE111.out) | exact HB.out)) hb); clear HO_4; clear HO_11; clear HO_112001; clear HO_112002; clear BK111; clear HB; have HO_4 := n0_; have HO_11 := n1_; have HO_112001 := n2_; have HO_112002 := n3_; have BK111 := n4_; have HB := n5_; clear n0_ n1_ n2_ n3_ n4_ n5_; (try clear hb); (try clear hb2); (try clear hk); (try clear hi)) | (go_at_call 31; (with_reducible refine (zaK.calls t114 t114 t132 _ A41.out).mono ?_); rintro e w' ⟨rfl, ⟨nd, rfl⟩⟩)); go_ret; exact ⟨by first | rfl | (simp [zB, zA] <;> rfl) | (simp [*, zB, zA] <;> rfl), by repeat (first | (with_reducible first | exact HB.out | apply ze | apply za | apply zb | refine zg ?_ GE111.out) | exact HB.out)⟩
                        · replace c40 := Bool.eq_false_iff.mpr c40; subst c40; have H1 : (some false) = some r := by rw [if_neg (show ¬ (false = true) by decide)] at H; exact H
                          clear H; have H := H1; clear H1; obtain rfl := Option.some.inj H; have hcz45_0 : wr.cell? ⟨gb111, 0, none⟩ = some (.int .i64 t101) := (zn BK111.out 0).trans rfl; have hcz45_1 : wr.cell? ⟨gb111, 1, none⟩ = some (.slice Ao10 t102.length co10) := (zn BK111.out 1).trans rfl; have hcz45_2 : wr.cell? ⟨gb111, 2, none⟩ = some (.slice Ao11 t105.length co11) := (zn BK111.out 2).trans rfl; have hfz45_0 := zm BK111.out 0; have hfz45_1 := zm BK111.out 1; have hfz45_2 := zm BK111.out 2; obtain ⟨Ao46, co46, eo46⟩ := Kd.zU HO_11.out; subst eo46; go_wp2_with (first | ((with_reducible refine zw (f := 30) rfl ?_); refine goesL_ (some 100) rfl rfl Try.func30 (by kernel_rfl) rfl #[.agg #[.int .i64 t101, .slice Ao10 t102.length co10, .slice Ao11 t105.length co11], .slice Ao46 x11_3.length co46] rfl (by (try simp only [List.map_toArray, List.map_cons, List.map_nil]); first | done | rfl | (simp only [List.length_drop, List.length_take]; rfl)) ?_; (with_reducible refine (zaQ.calls k3 t101 _ _ t102 _ _ t105 _ _ x11_3 t130 false _ ?side1 ?side2 ?side3 ?side4 ?side5 ?side6 A38.out).mono ?_); (case side1 => repeat (first | exact (Kd.zI HO_112001.out).2.2 | (with_reducible refine Kd.zN ?_ _) | (with_reducible refine Kd.zL ?_ _) | (with_reducible refine Kd.C_drew ?_))); (case side2 => exact (Kd.zI HO_112001.out).2.1); (case side3 => repeat (first | exact (Kd.zI HO_112002.out).2.2 | (with_reducible refine Kd.zN ?_ _) | (with_reducible refine Kd.zL ?_ _) | (with_reducible refine Kd.C_drew ?_))); (case side4 => exact (Kd.zI HO_112002.out).2.1); (case side5 => repeat (first | exact (Kd.zI HO_11.out).2.2 | (with_reducible refine Kd.zN ?_ _) | (with_reducible refine Kd.zL ?_ _) | (with_reducible refine Kd.C_drew ?_))); (case side6 => exact (Kd.zI HO_11.out).2.1); rintro e w47 ⟨rfl, hb⟩; refine ⟨_, rfl, ?_⟩; have n0_ := Aside0.mk (Kd.zZ (by (with_reducible repeat (first | apply Kd.zu | apply Kd.zt | apply Kd.R_drew)); exact HO_4.out) hb); have n1_ := Aside0.mk (Kd.zZ (by (with_reducible repeat (first | apply Kd.zu | apply Kd.zt | apply Kd.R_drew)); exact HO_11.out) hb); have n2_ := Aside0.mk (Kd.zZ (by (with_reducible repeat (first | apply Kd.zu | apply Kd.zt | apply Kd.R_drew)); exact HO_112001.out) hb); have n3_ := Aside0.mk (Kd.zZ (by (with_reducible repeat (first | apply Kd.zu | apply Kd.zt | apply Kd.R_drew)); exact HO_112002.out) hb); have n4_ := Aside0.mk (zR (g := gb111) (o := .cells #[.int .i64 t101, .slice Ao10 t102.length co10, .slice Ao11 t105.length co11] 47 (0, 0)) (by (with_reducible repeat (first | refine zi ?_ _ | refine zl ?_ | refine zh ?_ _)); exact BK111.out) hb); have n5_ := Aside0.mk (zz (by repeat (first | (with_reducible first | exact HB.out | apply ze | apply za | apply zb | refine zg ?_ GE111.out) | exact HB.out)) hb); clear HO_4; clear HO_11; clear HO_112001; clear HO_112002; clear BK111; clear HB; have HO_4 := n0_; have HO_11 := n1_; have HO_112001 := n2_; have HO_112002 := n3_; have BK111 := n4_; have HB := n5_; clear n0_ n1_ n2_ n3_ n4_ n5_; (try clear hb); (try clear hb2); (try clear hk); (try clear hi))); go_ret; exact ⟨by first | rfl | (simp [zB, zA] <;> rfl) | (simp [*, zB, zA] <;> rfl), by repeat (first | (with_reducible first | exact HB.out | apply ze | apply za | apply zb | refine zg ?_ GE111.out) | exact HB.out)⟩
                      · rw [if_neg c39] at H; have c39b0 : (t114 == x9_2) = false := beq_eq_false_iff_ne.mpr c39; have c39b1 : (t114 != x9_2) = true := bne_iff_ne.mpr c39; obtain rfl := Option.some.inj H; have hcz48_0 : wr.cell? ⟨gb111, 0, none⟩ = some (.int .i64 t101) := (zn BK111.out 0).trans rfl; have hcz48_1 : wr.cell? ⟨gb111, 1, none⟩ = some (.slice Ao10 t102.length co10) := (zn BK111.out 1).trans rfl; have hcz48_2 : wr.cell? ⟨gb111, 2, none⟩ = some (.slice Ao11 t105.length co11) := (zn BK111.out 2).trans rfl; have hfz48_0 := zm BK111.out 0; have hfz48_1 := zm BK111.out 1; have hfz48_2 := zm BK111.out 2; obtain ⟨Ao49, co49, eo49⟩ := Kd.zU HO_11.out; subst eo49; go_wp2_with (first | ((with_reducible refine zw (f := 30) rfl ?_); refine goesL_ (some 100) rfl rfl Try.func30 (by kernel_rfl) rfl #[.agg #[.int .i64 t101, .slice Ao10 t102.length co10, .slice Ao11 t105.length co11], .slice Ao49 x11_3.length co49] rfl (by (try simp only [List.map_toArray, List.map_cons, List.map_nil]); first | done | rfl | (simp only [List.length_drop, List.length_take]; rfl)) ?_; (with_reducible refine (zaQ.calls k3 t101 _ _ t102 _ _ t105 _ _ x11_3 t130 t131 _ ?side1 ?side2 ?side3 ?side4 ?side5 ?side6 A38.out).mono ?_); (case side1 => repeat (first | exact (Kd.zI HO_112001.out).2.2 | (with_reducible refine Kd.zN ?_ _) | (with_reducible refine Kd.zL ?_ _) | (with_reducible refine Kd.C_drew ?_))); (case side2 => exact (Kd.zI HO_112001.out).2.1); (case side3 => repeat (first | exact (Kd.zI HO_112002.out).2.2 | (with_reducible refine Kd.zN ?_ _) | (with_reducible refine Kd.zL ?_ _) | (with_reducible refine Kd.C_drew ?_))); (case side4 => exact (Kd.zI HO_112002.out).2.1); (case side5 => repeat (first | exact (Kd.zI HO_11.out).2.2 | (with_reducible refine Kd.zN ?_ _) | (with_reducible refine Kd.zL ?_ _) | (with_reducible refine Kd.C_drew ?_))); (case side6 => exact (Kd.zI HO_11.out).2.1); rintro e w50 ⟨rfl, hb⟩; refine ⟨_, rfl, ?_⟩; have n0_ := Aside0.mk (Kd.zZ (by (with_reducible repeat (first | apply Kd.zu | apply Kd.zt | apply Kd.R_drew)); exact HO_4.out) hb); have n1_ := Aside0.mk (Kd.zZ (by (with_reducible repeat (first | apply Kd.zu | apply Kd.zt | apply Kd.R_drew)); exact HO_11.out) hb); have n2_ := Aside0.mk (Kd.zZ (by (with_reducible repeat (first | apply Kd.zu | apply Kd.zt | apply Kd.R_drew)); exact HO_112001.out) hb); have n3_ := Aside0.mk (Kd.zZ (by (with_reducible repeat (first | apply Kd.zu | apply Kd.zt | apply Kd.R_drew)); exact HO_112002.out) hb); have n4_ := Aside0.mk (zR (g := gb111) (o := .cells #[.int .i64 t101, .slice Ao10 t102.length co10, .slice Ao11 t105.length co11] 47 (0, 0)) (by (with_reducible repeat (first | refine zi ?_ _ | refine zl ?_ | refine zh ?_ _)); exact BK111.out) hb); have n5_ := Aside0.mk (zz (by repeat (first | (with_reducible first | exact HB.out | apply ze | apply za | apply zb | refine zg ?_ GE111.out) | exact HB.out)) hb); clear HO_4; clear HO_11; clear HO_112001; clear HO_112002; clear BK111; clear HB; have HO_4 := n0_; have HO_11 := n1_; have HO_112001 := n2_; have HO_112002 := n3_; have BK111 := n4_; have HB := n5_; clear n0_ n1_ n2_ n3_ n4_ n5_; (try clear hb); (try clear hb2); (try clear hk); (try clear hi))); go_ret; exact ⟨by first | rfl | (simp [zB, zA] <;> rfl) | (simp [*, zB, zA] <;> rfl), by repeat (first | (with_reducible first | exact HB.out | apply ze | apply za | apply zb | refine zg ?_ GE111.out) | exact HB.out)⟩
def zC.Pure : Prop := ∀ (l0 : List Int), l0.length ≤ maxLen → l0.length * 1 ≤ 140737488351232 → (∀ x ∈ l0, (Lit.int .u8 x).wf = true) → ∃ k, zC.f k l0 = some true
theorem zC.walk (P : zC.Pure) (a0 : Option Addr) (len0 cap0 : Nat) (z0 : List Int) (w : World) (w0 : (a0 = none ∧ len0 = 0 ∧ cap0 = 0 ∧ z0 = []) ∨ ∃ x, a0 = some x ∧ len0 ≤ cap0 ∧ cap0 ≤ maxLen ∧ z0.length = cap0 ∧ (∀ i, i < z0.length → w.cell? (x.add i) = some (.int .u8 (z0.getD i 0))) ∧ ∀ n ∈ z0, (Lit.int .u8 n).wf = true) (y0 : len0 * 1 ≤ 140737488351232) :
    Calls Try.prog 8 #[.slice a0 len0 cap0] w fun e w' => e = .returned (.bool true) ∧ Below w.heap.size w w' := by
  obtain ⟨l0, rfl, hr0, hm0, hw0, hc0⟩ := zaS.ofRowC w0; obtain ⟨k, h⟩ := P l0 hm0 y0 hw0; refine (zC.calls k _ _ l0 true w (Kd.zdd (d := (0 : Int)) (h1 := fun _ => rfl) hr0) hc0 h).mono ?_; rintro e w' ⟨rfl, hd⟩; exact ⟨rfl, hd⟩
end Go.Proofs.Ytmipjlbkcfpkiaa.K

end
section
namespace Go.Proofs.Ytmipjlbkcfpkiaa.K
set_option linter.unusedVariables false
set_option linter.unusedSimpArgs false
open Go.RowKit Go.Proofs.YtmipjlbkcfpkiaaW.PrintWords Go.Proofs.YtmipjlbkcfpkiaaW.PrintLast Go.Proofs.YtmipjlbkcfpkiaaW.PrintMore
theorem w64d {x : Int} (h1 : -9223372036854775808 ≤ x) (h2 : x < 9223372036854775808) : wrap64 x = x := by unfold wrap64; omega
theorem dv_pos {α : Type} {c : Prop} [Decidable c] {f g : Nat → Option α} {r : α} (h : c) (k : Ev f r) : Ev (fun n => if c then f n else g n) r := Ev.congr (fun _ => if_pos h) k
theorem dv_neg {α : Type} {c : Prop} [Decidable c] {f g : Nat → Option α} {r : α} (h : ¬ c) (k : Ev g r) : Ev (fun n => if c then f n else g n) r := Ev.congr (fun _ => if_neg h) k
theorem zbu {α β : Type} {g : Option α} {f : Nat → α → Option β} {a : α} {r : β} (h : g = some a) (k : Ev (fun n => f n a) r) : Ev (fun n => g.bind (f n)) r := Ev.congr (fun n => by rw [h]; rfl) k
theorem zfS (a b : Int) (h1 : 0 ≤ a) (h2 : a < 9223372036854775808) (h3 : 0 ≤ b) (h4 : b < 9223372036854775808) : 0 ≤ Go.bits .xor .i64 a b := by
  obtain ⟨a, rfl⟩ := Int.eq_ofNat_of_zero_le h1; obtain ⟨b, rfl⟩ := Int.eq_ofNat_of_zero_le h3; have hx : a ^^^ b < 2 ^ 63 := Nat.xor_lt_two_pow (by omega) (by omega)
  have e1 : (BitVec.ofInt 64 (a : Int)).toNat = a := by
    rw [BitVec.ofInt_natCast, BitVec.toNat_ofNat]; exact Nat.mod_eq_of_lt (by omega)
  have e2 : (BitVec.ofInt 64 (b : Int)).toNat = b := by
    rw [BitVec.ofInt_natCast, BitVec.toNat_ofNat]; exact Nat.mod_eq_of_lt (by omega)
  show 0 ≤ IntKind.i64.wrap ((BitVec.ofInt 64 (a : Int) ^^^ BitVec.ofInt 64 (b : Int)).toNat : Int); rw [BitVec.toNat_xor, e1, e2]
  simp [IntKind.wrap, IntKind.bits, IntKind.signed]
  omega
theorem zcU (l : List Int) (hb : ∀ x ∈ l, 0 ≤ x ∧ x ≤ 255) (i : Int) : 0 ≤ rd l i ∧ rd l i ≤ 255 := by
  unfold rd
  by_cases h : i.toNat < l.length
  · rw [show l.getD i.toNat 0 = l[i.toNat] by simp [h]]; exact hb _ (List.getElem_mem h)
  · rw [show l.getD i.toNat 0 = 0 by simp [show l.length ≤ i.toNat by omega]]; omega
theorem zcj {a b : Int} (h : 0 ≤ a) (hb : 0 < b) : 0 ≤ Int.tmod a b ∧ Int.tmod a b < b :=
  ⟨Int.tmod_nonneg _ h, Int.tmod_lt_of_pos _ hb⟩
theorem zdI (l : List Int) (hl : l.length ≤ 2000) (hb : ∀ x ∈ l, 0 ≤ x ∧ x ≤ 255) (p n : Int) (hp : 0 ≤ p) (hp2 : p ≤ 1000000000) (hn : 1 ≤ n) (hn2 : n ≤ 1000000) (k : Nat) (hk : 1 ≤ k) :
    ∃ v, zf.f k l p n = some (v, p + 1) ∧ 0 ≤ v ∧ v < n := by
  obtain ⟨k, rfl⟩ : ∃ m, k = m + 1 := ⟨k - 1, by omega⟩
  have ep : wrap64 (p + 1) = p + 1 := w64d (by omega) (by omega); have eq : wrap64 (p + 1 - 1) = p := by rw [show p + 1 - 1 = p by omega]; exact w64d (by omega) (by omega)
  unfold zf.f; rw [if_neg (by omega), ep]; simp only [zf.j0, eq]
  by_cases hz : l.length = 0
  · exact ⟨0, by simp [hz], by omega, by omega⟩
  · have hz' : ((l.length : Int) == 0) = false := by rw [beq_eq_false_iff_ne]; omega
    rw [hz', if_neg (by simp)]
    by_cases hlt : p < (l.length : Int)
    · rw [if_pos hlt, if_pos hp, if_neg (by omega)]; have hr := zcU l hb p; rw [w64d (x := rd l p) (by omega) (by omega)]; have ht := zcj (a := rd l p) (b := n) (by omega) (by omega); exact ⟨_, rfl, ht.1, ht.2⟩
    · have e7 : wrap64 (p * 7) = p * 7 := w64d (by omega) (by omega); have e73 : wrap64 (p * 7 + 3) = p * 7 + 3 := w64d (by omega) (by omega); have t1 := zcj (a := p) (b := (l.length : Int)) hp (by omega); have t2 := zcj (a := p * 7 + 3) (b := (l.length : Int)) (by omega) (by omega); rw [if_neg hlt, if_neg (by omega), if_pos t1.1, if_pos t1.2, e7, e73, if_pos t2.1, if_pos t2.2, if_neg (by omega)]; have r1 := zcU l hb (Int.tmod p l.length); have r2 := zcU l hb (Int.tmod (p * 7 + 3) l.length); have q1 : 0 ≤ Int.tdiv p l.length := Int.tdiv_nonneg hp (by omega)
      have q2 : Int.tdiv p l.length ≤ p := by
        rw [Int.tdiv_eq_ediv_of_nonneg hp]; exact Int.ediv_le_self _ hp
      generalize rd l (Int.tmod p l.length) = a at *; generalize rd l (Int.tmod (p * 7 + 3) l.length) = b at *; generalize Int.tdiv p l.length = q at *
      have hX : wrap64 ((wrap64 ((wrap64 ((wrap64 ((wrap64 a) * 131)) + (wrap64 ((wrap64 b) * 1117)))) + (wrap64 (p * 29)))) + (wrap64 ((wrap64 q) * 53))) = a * 131 + b * 1117 + p * 29 + q * 53 := by
        rw [w64d (x := a) (by omega) (by omega), w64d (x := b) (by omega) (by omega), w64d (x := q) (by omega) (by omega)]; rw [w64d (x := a * 131) (by omega) (by omega), w64d (x := b * 1117) (by omega) (by omega), w64d (x := p * 29) (by omega) (by omega), w64d (x := q * 53) (by omega) (by omega)]; rw [w64d (x := a * 131 + b * 1117) (by omega) (by omega), w64d (x := a * 131 + b * 1117 + p * 29) (by omega) (by omega)]; exact w64d (by omega) (by omega)
      rw [hX]; have hX0 : 0 ≤ a * 131 + b * 1117 + p * 29 + q * 53 := by omega
      have hX1 : a * 131 + b * 1117 + p * 29 + q * 53 ≤ 100000000000 := by omega
      generalize a * 131 + b * 1117 + p * 29 + q * 53 = X at *; have d0 : 0 ≤ Int.tdiv X 64 := Int.tdiv_nonneg hX0 (by omega)
      have d1 : Int.tdiv X 64 ≤ X := by
        rw [Int.tdiv_eq_ediv_of_nonneg hX0]; exact Int.ediv_le_self _ hX0
      rw [w64d (x := Int.tdiv X 64) (by omega) (by omega)]; have hx := zfS X (Int.tdiv X 64) hX0 (by omega) d0 (by omega); have ht := zcj (a := Go.bits .xor .i64 X (Int.tdiv X 64)) (b := n) hx (by omega); exact ⟨_, rfl, ht.1, ht.2⟩
theorem zdU (l : List Int) (hb : ∀ x ∈ l, (Lit.int .u8 x).wf = true) : ∃ l', zbl.f l = some (l', 0) ∧ l'.length ≤ 2000 ∧ ∀ x ∈ l', 0 ≤ x ∧ x ≤ 255 := by
  have hb' : ∀ x ∈ l, 0 ≤ x ∧ x ≤ 255 := fun x hx => by
    have := hb x hx
    simp [Lit.wf, IntKind.min, IntKind.max, IntKind.signed, IntKind.bits] at this
    omega
  unfold zbl.f
  by_cases h : (l.length : Int) > 2000
  · rw [if_pos h, if_pos (by omega)]; exact ⟨_, rfl, by rw [List.length_take]; omega, fun x hx => hb' x (List.mem_of_mem_take hx)⟩
  · rw [if_neg h]; exact ⟨_, rfl, by omega, hb'⟩
theorem zfJ (a b c : Int) : zad.f a b c = some (decide (b ≤ a) && decide (a ≤ c)) := by
  unfold zad.f
  by_cases h : b ≤ a
  · rw [if_pos h]; simp [h]
  · rw [if_neg h]; simp [h]
theorem zfv {b : Bool} (h : b = true) : Ev (fun _ => some b) true := h ▸ Ev.now _
structure Bytes (l : List Int) : Prop where
  len : l.length ≤ 2000
  bytes : ∀ x ∈ l, 0 ≤ x ∧ x ≤ 255
theorem zaP {l : List Int} (h : Bytes l) (p n : Int) (hp : 0 ≤ p) (hp2 : p ≤ 1000000000) (hn : 1 ≤ n) (hn2 : n ≤ 1000000) : ∃ v, Ev (fun k => zf.f k l p n) (v, p + 1) ∧ 0 ≤ v ∧ v < n := by
  obtain ⟨v, h1, h2, h3⟩ := zdI l h.len h.bytes p n hp hp2 hn hn2 1 (Nat.le_refl _); exact ⟨v, Ev.of (fun k => zf.mono _ _ _ _) h1, h2, h3⟩
theorem zge (l : List Int) (hb : ∀ x ∈ l, (Lit.int .u8 x).wf = true) : ∃ l', zbl.f l = some (l', 0) ∧ Bytes l' := by
  obtain ⟨l', h1, h2, h3⟩ := zdU l hb; exact ⟨l', h1, h2, h3⟩
theorem zfh : Ev (fun k => zaw.f k 255) (List.replicate 8 true) := Ev.of (fun k => zaw.mono _ _) (k := 12) (by decide +kernel)
theorem zds {l : List Int} {P : Int → Prop} (h : ∀ x ∈ l, P x) {i : Int} (h0 : 0 ≤ i) (h1 : i < (l.length : Int)) : P (rd l i) := by
  unfold rd; rw [List.getD_eq_getElem?_getD, List.getElem?_eq_getElem (show i.toNat < l.length by omega)]; exact h _ (List.getElem_mem _)
theorem zcK {α : Type} {l : List α} {P : α → Prop} (h : ∀ x ∈ l, P x) {v : α} (hv : P v) (i : Nat) : ∀ x ∈ l.set i v, P x := by
  intro x hx
  rcases List.mem_or_eq_of_mem_set hx with h1 | h1
  · exact h x h1
  · exact h1 ▸ hv
end Go.Proofs.Ytmipjlbkcfpkiaa.K

end
section
namespace Go.Proofs.Ytmipjlbkcfpkiaa.K
set_option linter.unusedVariables false
set_option linter.unusedSimpArgs false
open Go.RowKit Go.Proofs.YtmipjlbkcfpkiaaW.PrintWords Go.Proofs.YtmipjlbkcfpkiaaW.PrintLast Go.Proofs.YtmipjlbkcfpkiaaW.PrintMore
structure Vec4 (d : List Int) : Prop where
  len : d.length = 4
  fld : ∀ x ∈ d, 0 ≤ x ∧ x ≤ 30
def rowS (kind n : Int) : List Int := (zaZ.f kind n).getD []
theorem zcf {n : Int} (h0 : 0 ≤ n) (h1 : n ≤ 7) : n = 0 ∨ n = 1 ∨ n = 2 ∨ n = 3 ∨ n = 4 ∨ n = 5 ∨ n = 6 ∨ n = 7 := by omega
theorem zfs {kind n : Int} (hk : kind = 1 ∨ kind = 2) (h0 : 0 ≤ n) (h1 : n ≤ 7) : zaZ.f kind n = some (rowS kind n) := by
  rcases hk with rfl | rfl <;> rcases zcf h0 h1 with rfl | rfl | rfl | rfl | rfl | rfl | rfl | rfl <;> decide +kernel
theorem zfX {kind n : Int} (hk : kind = 1 ∨ kind = 2) (h0 : 0 ≤ n) (h1 : n ≤ 7) : Vec4 (rowS kind n) := by
  rcases hk with rfl | rfl <;> rcases zcf h0 h1 with rfl | rfl | rfl | rfl | rfl | rfl | rfl | rfl <;> exact ⟨by decide +kernel, by decide +kernel⟩
theorem rd_fld {d : List Int} (h : Vec4 d) {i : Int} (h0 : 0 ≤ i) (h1 : i < 4) : 0 ≤ rd d i ∧ rd d i ≤ 30 := zds h.fld h0 (by have := h.len; omega)
def dotS (a b : List Int) : Int := (((((0 + rd a 0 * rd b 0) % 31) + rd a 1 * rd b 1) % 31 + rd a 2 * rd b 2) % 31 + rd a 3 * rd b 3) % 31
theorem zgi {a b : Int} (ha : 0 ≤ a ∧ a ≤ 30) (hb : 0 ≤ b ∧ b ≤ 30) : 0 ≤ a * b ∧ a * b ≤ 900 := by
  refine ⟨Int.mul_nonneg ha.1 hb.1, ?_⟩; have h1 : a * b ≤ 30 * b := Int.mul_le_mul_of_nonneg_right ha.2 hb.1
  omega
theorem zbW (acc a b : Int) (h : 0 ≤ acc ∧ acc ≤ 30) (ha : 0 ≤ a ∧ a ≤ 30) (hb : 0 ≤ b ∧ b ≤ 30) : Int.tmod (wrap64 (acc + (wrap64 (a * b)))) 31 = (acc + a * b) % 31 := by
  have hm := zgi ha hb; rw [w64d (x := a * b) (by omega) (by omega), w64d (by omega) (by omega), Int.tmod_eq_emod_of_nonneg (by omega)]
theorem mod31 (x : Int) : 0 ≤ x % 31 ∧ x % 31 ≤ 30 := by omega
theorem zfF (a b : List Int) : 0 ≤ dotS a b ∧ dotS a b ≤ 30 := mod31 _
theorem dot_f {a b : List Int} (ha : Vec4 a) (hb : Vec4 b) : zao.f 5 a b = some (dotS a b) := by
  have w1 : wrap64 (0 + 1) = 1 := w64d (by omega) (by omega); have w2 : wrap64 (1 + 1) = 2 := w64d (by omega) (by omega); have w3 : wrap64 (2 + 1) = 3 := w64d (by omega) (by omega); have w4 : wrap64 (3 + 1) = 4 := w64d (by omega) (by omega); have la := ha.len; have lb := hb.len; unfold zao.f
  rw [zao.l0, if_pos (by omega), if_pos (by omega), if_pos (by omega), w1, zbW 0 _ _ (by omega) (rd_fld ha (by omega) (by omega)) (rd_fld hb (by omega) (by omega)),
    zao.l0, if_pos (by omega), if_pos (by omega), if_pos (by omega), w2, zbW _ _ _ (mod31 _) (rd_fld ha (by omega) (by omega)) (rd_fld hb (by omega) (by omega)),
    zao.l0, if_pos (by omega), if_pos (by omega), if_pos (by omega), w3, zbW _ _ _ (mod31 _) (rd_fld ha (by omega) (by omega)) (rd_fld hb (by omega) (by omega)),
    zao.l0, if_pos (by omega), if_pos (by omega), if_pos (by omega), w4, zbW _ _ _ (mod31 _) (rd_fld ha (by omega) (by omega)) (rd_fld hb (by omega) (by omega)),
    zao.l0, if_neg (by omega)]
  rfl
theorem dot_ev {a b : List Int} (ha : Vec4 a) (hb : Vec4 b) : Ev (fun k => zao.f k a b) (dotS a b) := Ev.of (fun k => zao.mono _ _ _) (dot_f ha hb)
def encS (kind : Int) (d : List Int) : List Int := [0, 1, 2, 3, 4, 5, 6, 7].map fun n => dotS (rowS kind n) d
theorem zca (kind : Int) (d : List Int) : (encS kind d).length = 8 := rfl
theorem zfP (kind : Int) (d : List Int) : ∀ x ∈ encS kind d, 0 ≤ x ∧ x ≤ 30 := by
  intro x hx; obtain ⟨n, _, rfl⟩ := List.mem_map.1 hx; exact zfF _ _
theorem all_l {kind : Int} {d : List Int} (hk : kind = 1 ∨ kind = 2) (hd : Vec4 d) (m : Nat) : ∀ (n : Int) (acc : List Int), 0 ≤ n → n + m = 8 → acc.length + m = 8 →
    Ev (fun k => zat.l0 k kind d acc n) (acc ++ ([0, 1, 2, 3, 4, 5, 6, 7].drop n.toNat).map fun n => dotS (rowS kind n) d) := by
  induction m with
  | zero =>
    intro n acc h0 hn hl; have e : n = 8 := by omega
    subst e; refine Ev.step (fun k => by rw [zat.l0]) ?_; refine dv_neg (by omega) ?_; rw [show ([0, 1, 2, 3, 4, 5, 6, 7] : List Int).drop (8 : Int).toNat = [] from rfl, List.map_nil, List.append_nil]; exact Ev.now _
  | succ m ih =>
    intro n acc h0 hn hl; refine Ev.step (fun k => by rw [zat.l0]) ?_; refine dv_pos (by omega) ?_; refine zbu (zfs hk h0 (by omega)) ?_; refine Ev.bind (dot_ev (zfX hk h0 (by omega)) hd) ?_; refine dv_pos (by omega) ?_; have h := ih (n + 1) (acc ++ [dotS (rowS kind n) d]) (by omega) (by omega) (by simp; omega); rw [w64d (by omega) (by omega)]
    have e : acc ++ ([0, 1, 2, 3, 4, 5, 6, 7].drop n.toNat).map (fun n => dotS (rowS kind n) d) = acc ++ [dotS (rowS kind n) d] ++ ([0, 1, 2, 3, 4, 5, 6, 7].drop (n + 1).toNat).map (fun n => dotS (rowS kind n) d) := by
      rcases zcf h0 (by omega) with rfl | rfl | rfl | rfl | rfl | rfl | rfl | rfl <;> simp
    rw [e]; exact h
theorem all_ev {kind : Int} {d : List Int} (hk : kind = 1 ∨ kind = 2) (hd : Vec4 d) : Ev (fun k => zat.f k kind d) (encS kind d) := all_l hk hd 8 0 [] (by omega) (by omega) (by simp)
end Go.Proofs.Ytmipjlbkcfpkiaa.K

end
section
namespace Go.Proofs.Ytmipjlbkcfpkiaa.K
set_option linter.unusedVariables false
open Go.RowKit Go.Proofs.YtmipjlbkcfpkiaaW.PrintWords Go.Proofs.YtmipjlbkcfpkiaaW.PrintLast Go.Proofs.YtmipjlbkcfpkiaaW.PrintMore
def subsF : Nat → Int → List (List Int)
  | 0, _ => [[]]
  | m + 1, a => ([0, 1, 2, 3, 4, 5, 6, 7].filter fun i => decide (a ≤ i)).flatMap fun i => (subsF m (i + 1)).map fun t => i :: t
def mixS (kind : Int) : List Int → List Int → Int → Int
  | [], _, _ => 0
  | _, [], _ => 0
  | a :: s, b :: t, c => b * rd (rowS kind a) c + mixS kind s t c
def subsN (m : Nat) (lost : Int) : List (List Int) := (subsF m 0).filter fun s => s.all fun x => !decide (x = lost)
def okPlan (kind lost : Int) (s : List Int) : Bool :=
  match zW.f 60 kind lost s with
  | some (a, f, b, true) => a == lost && f == s && b.length == s.length && b.all (fun x => decide (0 ≤ x) && decide (x ≤ 30)) && [0, 1, 2, 3].all fun c => mixS kind s b c % 31 == rd (rowS kind lost) c
  | some (a, f, b, false) => a == 0 && f == [] && b == []
  | none => false
theorem zgC : ([0, 1, 2, 3, 4, 5, 6, 7].all fun l => (subsN 1 l).all fun s => okPlan 1 l s) = true := by decide +kernel
theorem zgc : ([0, 1, 2, 3, 4, 5, 6, 7].all fun l => (subsN 1 l).all fun s => okPlan 2 l s) = true := by decide +kernel
theorem zgs : ([0, 1, 2, 3, 4, 5, 6, 7].all fun l => (subsN 2 l).all fun s => okPlan 1 l s) = true := by decide +kernel
theorem zgr : ([0, 1, 2, 3, 4, 5, 6, 7].all fun l => (subsN 2 l).all fun s => okPlan 2 l s) = true := by decide +kernel
theorem zfz : ((subsN 3 0).all fun s => okPlan 1 0 s) = true := by decide +kernel
theorem zfo : ((subsN 3 1).all fun s => okPlan 1 1 s) = true := by decide +kernel
theorem zfw : ((subsN 3 2).all fun s => okPlan 1 2 s) = true := by decide +kernel
theorem zfi : ((subsN 3 3).all fun s => okPlan 1 3 s) = true := by decide +kernel
theorem zfb : ((subsN 3 4).all fun s => okPlan 1 4 s) = true := by decide +kernel
theorem zeM : ((subsN 3 5).all fun s => okPlan 1 5 s) = true := by decide +kernel
theorem zeA : ((subsN 3 6).all fun s => okPlan 1 6 s) = true := by decide +kernel
theorem zft : ((subsN 3 7).all fun s => okPlan 1 7 s) = true := by decide +kernel
theorem zeZ : ((subsN 3 0).all fun s => okPlan 2 0 s) = true := by decide +kernel
theorem zeE : ((subsN 3 1).all fun s => okPlan 2 1 s) = true := by decide +kernel
theorem zeP : ((subsN 3 2).all fun s => okPlan 2 2 s) = true := by decide +kernel
theorem zeH : ((subsN 3 3).all fun s => okPlan 2 3 s) = true := by decide +kernel
theorem zew : ((subsN 3 4).all fun s => okPlan 2 4 s) = true := by decide +kernel
theorem zeK : ((subsN 3 5).all fun s => okPlan 2 5 s) = true := by decide +kernel
theorem zfg : ((subsN 3 6).all fun s => okPlan 2 6 s) = true := by decide +kernel
theorem zfk : ((subsN 3 7).all fun s => okPlan 2 7 s) = true := by decide +kernel
theorem zeT : ((subsN 4 0).all fun s => okPlan 1 0 s) = true := by decide +kernel
theorem zfp : ((subsN 4 1).all fun s => okPlan 1 1 s) = true := by decide +kernel
theorem zez : ((subsN 4 2).all fun s => okPlan 1 2 s) = true := by decide +kernel
theorem zeS : ((subsN 4 3).all fun s => okPlan 1 3 s) = true := by decide +kernel
theorem zeu : ((subsN 4 4).all fun s => okPlan 1 4 s) = true := by decide +kernel
theorem zfx : ((subsN 4 5).all fun s => okPlan 1 5 s) = true := by decide +kernel
theorem zer : ((subsN 4 6).all fun s => okPlan 1 6 s) = true := by decide +kernel
theorem zeU : ((subsN 4 7).all fun s => okPlan 1 7 s) = true := by decide +kernel
theorem zeO : ((subsN 4 0).all fun s => okPlan 2 0 s) = true := by decide +kernel
theorem zeI : ((subsN 4 1).all fun s => okPlan 2 1 s) = true := by decide +kernel
theorem zes : ((subsN 4 2).all fun s => okPlan 2 2 s) = true := by decide +kernel
theorem zfd : ((subsN 4 3).all fun s => okPlan 2 3 s) = true := by decide +kernel
theorem zeL : ((subsN 4 4).all fun s => okPlan 2 4 s) = true := by decide +kernel
theorem zeC : ((subsN 4 5).all fun s => okPlan 2 5 s) = true := by decide +kernel
theorem zeD : ((subsN 4 6).all fun s => okPlan 2 6 s) = true := by decide +kernel
theorem zeN : ((subsN 4 7).all fun s => okPlan 2 7 s) = true := by decide +kernel
theorem zfD (kind lost : Int) (s : List Int) (m : Nat) (hk : kind = 1 ∨ kind = 2) (h0 : 0 ≤ lost) (h1 : lost ≤ 7) (hm : 1 ≤ m) (hm4 : m ≤ 4) (hs : s ∈ subsF m 0) (hn : ∀ x ∈ s, x ≠ lost) : okPlan kind lost s = true := by
  have hs2 : s ∈ subsN m lost := List.mem_filter.2 ⟨hs, List.all_eq_true.2 fun x hx => by simp [hn x hx]⟩; have hl : lost = 0 ∨ lost = 1 ∨ lost = 2 ∨ lost = 3 ∨ lost = 4 ∨ lost = 5 ∨ lost = 6 ∨ lost = 7 := by omega
  have hl' : lost ∈ [0, 1, 2, 3, 4, 5, 6, 7] := by rcases hl with rfl | rfl | rfl | rfl | rfl | rfl | rfl | rfl <;> decide
  have hm' : m = 1 ∨ m = 2 ∨ m = 3 ∨ m = 4 := by omega
  rcases hm' with rfl | rfl | rfl | rfl
  · rcases hk with rfl | rfl
    · exact List.all_eq_true.1 (List.all_eq_true.1 zgC lost hl') s hs2
    · exact List.all_eq_true.1 (List.all_eq_true.1 zgc lost hl') s hs2
  · rcases hk with rfl | rfl
    · exact List.all_eq_true.1 (List.all_eq_true.1 zgs lost hl') s hs2
    · exact List.all_eq_true.1 (List.all_eq_true.1 zgr lost hl') s hs2
  · rcases hk with rfl | rfl
    · rcases hl with rfl | rfl | rfl | rfl | rfl | rfl | rfl | rfl
      · exact List.all_eq_true.1 zfz s hs2
      · exact List.all_eq_true.1 zfo s hs2
      · exact List.all_eq_true.1 zfw s hs2
      · exact List.all_eq_true.1 zfi s hs2
      · exact List.all_eq_true.1 zfb s hs2
      · exact List.all_eq_true.1 zeM s hs2
      · exact List.all_eq_true.1 zeA s hs2
      · exact List.all_eq_true.1 zft s hs2
    · rcases hl with rfl | rfl | rfl | rfl | rfl | rfl | rfl | rfl
      · exact List.all_eq_true.1 zeZ s hs2
      · exact List.all_eq_true.1 zeE s hs2
      · exact List.all_eq_true.1 zeP s hs2
      · exact List.all_eq_true.1 zeH s hs2
      · exact List.all_eq_true.1 zew s hs2
      · exact List.all_eq_true.1 zeK s hs2
      · exact List.all_eq_true.1 zfg s hs2
      · exact List.all_eq_true.1 zfk s hs2
  · rcases hk with rfl | rfl
    · rcases hl with rfl | rfl | rfl | rfl | rfl | rfl | rfl | rfl
      · exact List.all_eq_true.1 zeT s hs2
      · exact List.all_eq_true.1 zfp s hs2
      · exact List.all_eq_true.1 zez s hs2
      · exact List.all_eq_true.1 zeS s hs2
      · exact List.all_eq_true.1 zeu s hs2
      · exact List.all_eq_true.1 zfx s hs2
      · exact List.all_eq_true.1 zer s hs2
      · exact List.all_eq_true.1 zeU s hs2
    · rcases hl with rfl | rfl | rfl | rfl | rfl | rfl | rfl | rfl
      · exact List.all_eq_true.1 zeO s hs2
      · exact List.all_eq_true.1 zeI s hs2
      · exact List.all_eq_true.1 zes s hs2
      · exact List.all_eq_true.1 zfd s hs2
      · exact List.all_eq_true.1 zeL s hs2
      · exact List.all_eq_true.1 zeC s hs2
      · exact List.all_eq_true.1 zeD s hs2
      · exact List.all_eq_true.1 zeN s hs2
def ascL : Int → List Int → Prop
  | _, [] => True
  | a, i :: t => a ≤ i ∧ i ≤ 7 ∧ ascL (i + 1) t
theorem zed : ∀ (s : List Int) (a : Int), 0 ≤ a → ascL a s → s ∈ subsF s.length a
  | [], a, _, _ => by simp [subsF]
  | i :: t, a, h0, h => by
    obtain ⟨h1, h2, h3⟩ := h; show i :: t ∈ subsF (t.length + 1) a; unfold subsF; rw [List.mem_flatMap]; refine ⟨i, ?_, List.mem_map.2 ⟨t, zed t (i + 1) (by omega) h3, rfl⟩⟩; rw [List.mem_filter]; refine ⟨?_, decide_eq_true h1⟩; have hi : i = 0 ∨ i = 1 ∨ i = 2 ∨ i = 3 ∨ i = 4 ∨ i = 5 ∨ i = 6 ∨ i = 7 := by omega
    rcases hi with rfl | rfl | rfl | rfl | rfl | rfl | rfl | rfl <;> decide
def PlanIs (kind lost : Int) (s : List Int) (r : Int × List Int × List Int × Bool) : Prop :=
  (r.2.2.2 = true ∧ r.1 = lost ∧ r.2.1 = s ∧ r.2.2.1.length = s.length ∧ (∀ x ∈ r.2.2.1, 0 ≤ x ∧ x ≤ 30) ∧ ∀ c : Int, 0 ≤ c → c ≤ 3 → mixS kind s r.2.2.1 c % 31 = rd (rowS kind lost) c) ∨ r = (0, [], [], false)
theorem zgw (kind lost : Int) (s : List Int) (hk : kind = 1 ∨ kind = 2) (h0 : 0 ≤ lost) (h1 : lost ≤ 7) (hm : 1 ≤ s.length) (hm4 : s.length ≤ 4) (hs : ascL 0 s) (hn : ∀ x ∈ s, x ≠ lost) : ∃ r, Ev (fun k => zW.f k kind lost s) r ∧ PlanIs kind lost s r := by
  have h := zfD kind lost s s.length hk h0 h1 hm hm4 (zed s 0 (by omega) hs) hn; unfold okPlan at h
  split at h
  · rename_i a f b he
    refine ⟨_, Ev.of (fun k => zW.mono _ _ _ _) he, .inl ?_⟩; simp only [Bool.and_eq_true, beq_iff_eq, List.all_eq_true, decide_eq_true_eq] at h; obtain ⟨⟨⟨⟨ha, hf⟩, hb⟩, hr⟩, hc⟩ := h; refine ⟨rfl, ha, hf, hb, hr, fun c c0 c3 => hc c ?_⟩; have hi : c = 0 ∨ c = 1 ∨ c = 2 ∨ c = 3 := by omega
    rcases hi with rfl | rfl | rfl | rfl <;> decide
  · rename_i a f b he
    refine ⟨_, Ev.of (fun k => zW.mono _ _ _ _) he, .inr ?_⟩; simp only [Bool.and_eq_true, beq_iff_eq] at h; obtain ⟨⟨rfl, rfl⟩, rfl⟩ := h; rfl
  · cases h
end Go.Proofs.Ytmipjlbkcfpkiaa.K

end
section
namespace Go.Proofs.Ytmipjlbkcfpkiaa.K
set_option linter.unusedVariables false
set_option linter.unusedSimpArgs false
open Go.RowKit Go.Proofs.YtmipjlbkcfpkiaaW.PrintWords Go.Proofs.YtmipjlbkcfpkiaaW.PrintLast Go.Proofs.YtmipjlbkcfpkiaaW.PrintMore
def PlanR (kind lost : Int) (m : Nat) (r : Int × List Int × List Int × Bool) : Prop :=
  (∃ s : List Int, s.length = m ∧ ascL 0 s ∧ r.2.2.2 = true ∧ PlanIs kind lost s r) ∨ r = (0, [], [], false)
theorem PlanR.of_is {kind lost : Int} {m : Nat} {s : List Int} {r : Int × List Int × List Int × Bool} (h : PlanIs kind lost s r) (hl : s.length = m) (ha : ascL 0 s) : PlanR kind lost m r := by
  rcases h with h | h
  · exact .inl ⟨s, hl, ha, h.1, .inl h⟩
  · exact .inr h
theorem PlanR.false {kind lost : Int} {m : Nat} {r : Int × List Int × List Int × Bool} (h : PlanR kind lost m r) (hf : r.2.2.2 = false) : r = (0, [], [], false) := by
  rcases h with ⟨s, _, _, h, _⟩ | h
  · rw [hf] at h; cases h
  · exact h
theorem zfH {kind lost : Int} {there : List Bool} (ht : there.length = 8) (m M : Nat) (frm : List Int) (at_ : Int) (h0 : 0 ≤ at_) (hl : frm.length ≤ 4) (hm : m ≤ 4) (hf : ∀ t, ascL at_ t → ascL 0 (frm ++ t)) (hn : ∀ x ∈ frm, x ≠ lost)
    (ih : ∀ i, at_ ≤ i → i < 8 → (∀ t, ascL (i + 1) t → ascL 0 (frm ++ [i] ++ t)) → (∀ x ∈ frm ++ [i], x ≠ lost) → ∃ r, Ev (fun k => zF.f k kind lost there (frm ++ [i]) (i + 1) (m : Int)) r ∧ PlanR kind lost M r) (d : Nat) :
    ∀ i : Int, at_ ≤ i → i + d = 8 → ∃ r, Ev (fun k => zF.l0 k kind lost there frm ((m : Int) + 1) i) r ∧ PlanR kind lost M r := by
  induction d with
  | zero =>
    intro i hi hd; refine ⟨(0, [], [], false), Ev.step (fun k => by rw [zF.l0]) (dv_neg (by omega) (Ev.now _)), .inr rfl⟩
  | succ d ihd =>
    intro i hi hd; obtain ⟨r0, e0, p0⟩ := ihd (i + 1) (by omega) (by omega)
    have skip : ∃ r, Ev (fun k => zF.j1 k kind lost there frm ((m : Int) + 1) i true) r ∧ PlanR kind lost M r := by
      refine ⟨r0, Ev.step (fun k => by rw [zF.j1]) (dv_pos rfl ?_), p0⟩; rw [w64d (by omega) (by omega)]; exact e0
    have take : i ≠ lost → ∃ r, Ev (fun k => zF.j1 k kind lost there frm ((m : Int) + 1) i false) r ∧ PlanR kind lost M r := by
      intro hil
      obtain ⟨r1, e1, p1⟩ := ih i hi (by omega) (fun t hta => by
        rw [List.append_assoc]; exact hf (i :: t) ⟨hi, by omega, hta⟩) (fun x hx => by
        rcases List.mem_append.1 hx with h | h
        · exact hn x h
        · rw [List.mem_singleton.1 h]; exact hil)
      have hw1 : wrap64 (i + 1) = i + 1 := w64d (by omega) (by omega); have hw2 : wrap64 ((m : Int) + 1 - 1) = (m : Int) := by rw [show (m : Int) + 1 - 1 = m by omega]; exact w64d (by omega) (by omega)
      have key : ∀ r, Ev (fun k => if r1.2.2.2 = true then some (r1.1, r1.2.1, r1.2.2.1, true) else zF.l0 k kind lost there frm ((m : Int) + 1) (i + 1)) r → Ev (fun k => zF.j1 k kind lost there frm ((m : Int) + 1) i false) r := by
        intro r h; refine Ev.step (fun k => by rw [zF.j1]) (dv_neg (by decide) ?_); refine zbu (a := []) rfl (dv_pos (by simp; omega) (zbu (a := frm) rfl (dv_pos (by omega) ?_))); rw [hw1, hw2]; exact Ev.bind e1 h
      cases hb : r1.2.2.2 with
      | true =>
        refine ⟨r1, key _ (dv_pos hb ?_), p1⟩; have : r1 = (r1.1, r1.2.1, r1.2.2.1, true) := by rw [← hb]
        rw [← this]; exact Ev.now _
      | false => exact ⟨r0, key _ (dv_neg (by rw [hb]; decide) e0), p0⟩
    have go : ∀ r, Ev (fun k => if rdOf false there i = true then zF.j1 k kind lost there frm ((m : Int) + 1) i (i == lost) else zF.j1 k kind lost there frm ((m : Int) + 1) i true) r → Ev (fun k => zF.l0 k kind lost there frm ((m : Int) + 1) i) r := by
      intro r h; exact Ev.step (fun k => by rw [zF.l0]) (dv_pos (by omega) (dv_pos (by omega) (dv_pos (by omega) h)))
    by_cases ht : rdOf false there i = true
    · cases hc : (i == lost) with
      | true =>
        obtain ⟨r, e, p⟩ := skip; exact ⟨r, go r (dv_pos ht (by rw [hc]; exact e)), p⟩
      | false =>
        obtain ⟨r, e, p⟩ := take (by simpa using hc); exact ⟨r, go r (dv_pos ht (by rw [hc]; exact e)), p⟩
    · obtain ⟨r, e, p⟩ := skip; exact ⟨r, go r (dv_neg ht e), p⟩
theorem zfr {kind lost : Int} {there : List Bool} (hk : kind = 1 ∨ kind = 2) (h0 : 0 ≤ lost) (h1 : lost ≤ 7) (ht : there.length = 8) : ∀ (m M : Nat) (frm : List Int) (at_ : Int), 0 ≤ at_ → at_ ≤ 8 → 1 ≤ M → M ≤ 4 → frm.length + m = M → (∀ t, ascL at_ t → ascL 0 (frm ++ t)) → (∀ x ∈ frm, x ≠ lost) →
    ∃ r, Ev (fun k => zF.f k kind lost there frm at_ (m : Int)) r ∧ PlanR kind lost M r := by
  intro m
  induction m with
  | zero =>
    intro M frm at_ h0a h1a hM hM4 hl hf hn; have ha : ascL 0 frm := by have := hf [] trivial; rwa [List.append_nil] at this
    obtain ⟨r, e, p⟩ := zgw kind lost frm hk h0 h1 (by omega) (by omega) ha hn; have es : ∀ k, zF.f (k + 1) kind lost there frm at_ ((0 : Nat) : Int) = (zW.f k kind lost frm).bind fun bt => some (bt.1, bt.2.1, bt.2.2.1, bt.2.2.2) := fun k => by rw [zF.f, if_pos (show ((0 : Nat) : Int) = 0 from rfl)]
    exact ⟨r, Ev.step es (Ev.bind e (Ev.now _)), PlanR.of_is p (by omega) ha⟩
  | succ m ih =>
    intro M frm at_ h0a h1a hM hM4 hl hf hn; obtain ⟨r, e, p⟩ := zfH ht m M frm at_ h0a (by omega) (by omega) hf hn (fun i hi h8 hfi hni => ih M (frm ++ [i]) (i + 1) (by omega) (by omega) hM hM4 (by simp; omega) hfi hni) (8 - at_).toNat at_ (Int.le_refl _) (by omega); have es : ∀ k, zF.f (k + 1) kind lost there frm at_ ((m + 1 : Nat) : Int) = zF.l0 k kind lost there frm ((m : Int) + 1) at_ := fun k => by rw [zF.f, if_neg (by omega)]; rfl
    exact ⟨r, Ev.step es e, p⟩
def PlanL (kind lost : Int) (r : Int × List Int × List Int × Bool) : Prop :=
  (∃ s : List Int, 1 ≤ s.length ∧ s.length ≤ 4 ∧ ascL 0 s ∧ r.2.2.2 = true ∧ PlanIs kind lost s r) ∨ r = (0, [], [], false)
theorem of_ev {kind lost : Int} {there : List Bool} (hk : kind = 1 ∨ kind = 2) (h0 : 0 ≤ lost) (h1 : lost ≤ 7) (ht : there.length = 8) : ∃ r, Ev (fun k => zaB.f k kind lost there) r ∧ PlanL kind lost r := by
  have key : ∀ d : Nat, d ≤ 4 → ∃ r, Ev (fun k => zaB.l0 k kind lost there (5 - (d : Int))) r ∧ PlanL kind lost r := by
    intro d
    induction d with
    | zero => intro _; exact ⟨_, Ev.step (fun k => by rw [zaB.l0]) (dv_neg (by omega) (Ev.now _)), .inr rfl⟩
    | succ d ih =>
      intro hd; obtain ⟨r0, e0, p0⟩ := ih (by omega); obtain ⟨r1, e1, p1⟩ := zfr hk h0 h1 ht (4 - d) (4 - d) [] 0 (by omega) (by omega) (by omega) (by omega) (by simp) (fun t h => h) (by intro x hx; cases hx); have hc : (((4 - d : Nat)) : Int) = 5 - ((d + 1 : Nat) : Int) := by omega
      rw [hc] at e1; have hw : wrap64 (5 - ((d + 1 : Nat) : Int) + 1) = 5 - (d : Int) := by rw [w64d (by omega) (by omega)]; omega
      have go : ∀ r, Ev (fun k => if r1.2.2.2 = true then some (r1.1, r1.2.1, r1.2.2.1, true) else zaB.l0 k kind lost there (5 - (d : Int))) r → Ev (fun k => zaB.l0 k kind lost there (5 - ((d + 1 : Nat) : Int))) r := by
        intro r h; refine Ev.step (fun k => by rw [zaB.l0]) (dv_pos (by omega) (Ev.bind e1 ?_)); rw [hw]; exact h
      cases hb : r1.2.2.2 with
      | true =>
        refine ⟨r1, go _ (dv_pos hb ?_), ?_⟩
        · have : r1 = (r1.1, r1.2.1, r1.2.2.1, true) := by rw [← hb]
          rw [← this]; exact Ev.now _
        · rcases p1 with ⟨s, h1, h2, h3, h4⟩ | h
          · exact .inl ⟨s, by omega, by omega, h2, h3, h4⟩
          · exact .inr h
      | false => exact ⟨r0, go _ (dv_neg (by rw [hb]; decide) e0), p0⟩
  have := key 4 (by omega); exact this
theorem zeQ {kind lost : Int} {there : List Bool} (hk : kind = 1 ∨ kind = 2) (h0 : 0 ≤ lost) (h1 : lost ≤ 7) : ∃ r, Ev (fun k => zaM.f k kind lost there) r ∧ PlanL kind lost r := by
  have hkd : zbf.f kind = some true := by rcases hk with rfl | rfl <;> decide +kernel
  have hin : zad.f lost 0 7 = some true := by rw [zfJ]; simp [h0, h1]
  by_cases ht : (there.length : Int) = 8
  · obtain ⟨r, e, p⟩ := of_ev (there := there) hk h0 h1 (by omega); exact ⟨r, Ev.congr (fun k => by rw [zaM.f]) (zbu hkd (dv_pos rfl (zbu hin (dv_pos rfl (dv_pos ht (Ev.bind e (Ev.now _))))))), p⟩
  · exact ⟨_, Ev.congr (fun k => by rw [zaM.f]) (zbu hkd (dv_pos rfl (zbu hin (dv_pos rfl (dv_neg ht (Ev.now _)))))), .inr rfl⟩
theorem zgx {b : List Int} (hb : Bytes b) (d : Nat) : ∀ (x : List Bool) (p : Int), x.length = 8 → 0 ≤ p → p + d ≤ 900000000 → ∃ r q, Ev (fun k => zK.l0 k x (d : Int) b p) (r, q) ∧ p ≤ q ∧ q ≤ p + d + 1 ∧ (r.length = 8 ∨ r.length = 7) := by
  induction d with
  | zero =>
    intro x p hx hp hp2; obtain ⟨v, e, h0, h1⟩ := zaP hb p 40 hp (by omega) (by omega) (by omega)
    by_cases hv : v = 0
    · have h1 : (1 : Int) ≤ (x.length : Int) := by omega
      exact ⟨x.drop (1 : Int).toNat, p + 1, Ev.step (fun k => by rw [zK.l0]) (dv_neg (by omega) (Ev.bind e (dv_pos hv (dv_pos h1 (Ev.now _))))), by omega, by omega, .inr (by rw [List.length_drop, hx]; rfl)⟩
    · exact ⟨_, _, Ev.step (fun k => by rw [zK.l0]) (dv_neg (by omega) (Ev.bind e (dv_neg hv (Ev.now _)))), by omega, by omega, .inl hx⟩
  | succ d ih =>
    intro x p hx hp hp2; obtain ⟨v, e, h0, h1⟩ := zaP hb p (x.length : Int) hp (by omega) (by omega) (by omega); obtain ⟨r, q, e2, hq, hq2, hr⟩ := ih (x.set v.toNat false) (p + 1) (by simp [hx]) (by omega) (by omega); refine ⟨r, q, Ev.step (fun k => by rw [zK.l0]) (dv_pos (by omega) (Ev.bind e (dv_pos h0 (dv_pos h1 ?_)))), by omega, by omega, hr⟩; rw [show wrap64 (((d + 1 : Nat) : Int) - 1) = (d : Int) from by rw [show ((d + 1 : Nat) : Int) - 1 = d by omega]; exact w64d (by omega) (by omega)]; exact e2
theorem zea {b : List Int} (hb : Bytes b) (p : Int) (hp : 0 ≤ p) (hp2 : p ≤ 800000000) : ∃ r q, Ev (fun k => zK.f k b p) (r, q) ∧ p ≤ q ∧ q ≤ p + 8 ∧ (r.length = 8 ∨ r.length = 7) := by
  obtain ⟨v, e, h0, h1⟩ := zaP hb p 6 hp (by omega) (by omega) (by omega); obtain ⟨r, q, e2, hq, hq2, hr⟩ := zgx hb v.toNat (List.replicate 8 true) (p + 1) (by simp) (by omega) (by omega); rw [Int.toNat_of_nonneg h0] at e2; exact ⟨r, q, Ev.congr (fun k => by rw [zK.f]) (Ev.bind zfh (Ev.bind e e2)), by omega, by omega, hr⟩
end Go.Proofs.Ytmipjlbkcfpkiaa.K

end
section
namespace Go.Proofs.Ytmipjlbkcfpkiaa.K
set_option linter.unusedVariables false
set_option linter.unusedSimpArgs false
open Go.RowKit Go.Proofs.YtmipjlbkcfpkiaaW.PrintWords Go.Proofs.YtmipjlbkcfpkiaaW.PrintLast Go.Proofs.YtmipjlbkcfpkiaaW.PrintMore
theorem zfV {b : List Int} (hb : Bytes b) (p : Int) (hp : 0 ≤ p) (hp2 : p ≤ 900000000) : ∃ v q, Ev (fun k => zaA.f k b p) (v, q) ∧ p ≤ q ∧ q ≤ p + 3 ∧ -1 ≤ v ∧ v ≤ 31 := by
  obtain ⟨a, ea, a0, a1⟩ := zaP hb p 10 hp (by omega) (by omega) (by omega); obtain ⟨c, ec, c0, c1⟩ := zaP hb (p + 1) 2 (by omega) (by omega) (by omega) (by omega); obtain ⟨d, ed, d0, d1⟩ := zaP hb (p + 1) 5 (by omega) (by omega) (by omega) (by omega); obtain ⟨e, ee, e0, e1⟩ := zaP hb (p + 1 + 1) 2 (by omega) (by omega) (by omega) (by omega); obtain ⟨f, ef, f0, f1⟩ := zaP hb (p + 1 + 1) 31 (by omega) (by omega) (by omega) (by omega); obtain ⟨g, eg, g0, g1⟩ := zaP hb (p + 1) 31 (by omega) (by omega) (by omega) (by omega)
  by_cases h0 : a = 0
  · refine ⟨0, p + 1, ?_, by omega, by omega, by omega, by omega⟩; unfold zaA.f; exact Ev.bind ea (dv_pos h0 (Ev.now _))
  by_cases h1 : a = 1
  · refine ⟨rd [1, 30] c, p + 1 + 1, ?_, by omega, by omega, zds (l := [1, 30]) (P := fun x => -1 ≤ x ∧ x ≤ 31) (by decide) c0 c1⟩; unfold zaA.f; exact Ev.bind ea (dv_neg h0 (dv_pos h1 (zbu rfl (Ev.bind ec (dv_pos c0 (dv_pos c1 (Ev.now _)))))))
  by_cases h2 : a = 2
  · by_cases hd : d = 0
    · refine ⟨rd [-1, 31] e, p + 1 + 1 + 1, ?_, by omega, by omega, zds (l := [-1, 31]) (P := fun x => -1 ≤ x ∧ x ≤ 31) (by decide) e0 e1⟩; unfold zaA.f; exact Ev.bind ea (dv_neg h0 (dv_neg h1 (dv_pos h2 (Ev.bind ed (dv_pos hd (zbu rfl (Ev.bind ee (dv_pos e0 (dv_pos e1 (Ev.now _))))))))))
    · refine ⟨f, p + 1 + 1 + 1, ?_, by omega, by omega, by omega, by omega⟩; unfold zaA.f; exact Ev.bind ea (dv_neg h0 (dv_neg h1 (dv_pos h2 (Ev.bind ed (dv_neg hd (Ev.bind ef (Ev.now _)))))))
  · refine ⟨g, p + 1 + 1, ?_, by omega, by omega, by omega, by omega⟩; unfold zaA.f; exact Ev.bind ea (dv_neg h0 (dv_neg h1 (dv_neg h2 (Ev.bind eg (Ev.now _)))))
theorem zev {b : List Int} (hb : Bytes b) (p : Int) (hp : 0 ≤ p) (hp2 : p ≤ 900000000) : ∃ v q, Ev (fun k => zaC.f k b p) (v, q) ∧ p ≤ q ∧ q ≤ p + 3 ∧ 0 ≤ v ∧ v ≤ 3 := by
  obtain ⟨a, ea, a0, a1⟩ := zaP hb p 40 hp (by omega) (by omega) (by omega); obtain ⟨c, ec, c0, c1⟩ := zaP hb (p + 1) 2 (by omega) (by omega) (by omega) (by omega)
  by_cases h0 : a = 0
  · refine ⟨rd [0, 3] c, p + 1 + 1, ?_, by omega, by omega, zds (l := [0, 3]) (P := fun x => 0 ≤ x ∧ x ≤ 3) (by decide) c0 c1⟩; unfold zaC.f; exact Ev.bind ea (dv_pos h0 (zbu rfl (Ev.bind ec (dv_pos c0 (dv_pos c1 (Ev.now _))))))
  · refine ⟨1 + c, p + 1 + 1, ?_, by omega, by omega, by omega, by omega⟩; unfold zaC.f; refine Ev.bind ea (dv_neg h0 (Ev.bind ec ?_))
    simp only
    rw [w64d (by omega) (by omega)]; exact Ev.now _
structure Drawn4 (kind lost : Int) (f b : List Int) : Prop where
  kind : kind = 1 ∨ kind = 2
  lost0 : -1 ≤ lost
  lost1 : lost ≤ 8
  len : b.length = f.length
  four : f.length ≤ 4
  frm : ∀ x ∈ f, 0 ≤ x ∧ x ≤ 7
  by_ : ∀ x ∈ b, 0 ≤ x ∧ x ≤ 31
theorem zeB : ∀ {s : List Int} {a : Int}, 0 ≤ a → ascL a s → ∀ x ∈ s, 0 ≤ x ∧ x ≤ 7
  | [], _, _, _, x, hx => by cases hx
  | i :: t, a, h0, h, x, hx => by
    obtain ⟨h1, h2, h3⟩ := h
    rcases List.mem_cons.1 hx with rfl | hx
    · exact ⟨by omega, h2⟩
    · exact zeB (a := i + 1) (by omega) h3 x hx
theorem zfq {b : List Int} (hb : Bytes b) (p : Int) (hp : 0 ≤ p) (hp2 : p ≤ 700000000) : ∃ kind lost f y q, Ev (fun k => zae.f k b p) (kind, lost, f, y, q) ∧ p ≤ q ∧ q ≤ p + 30 ∧ Drawn4 kind lost f y := by
  obtain ⟨a, ea, a0, a1⟩ := zaP hb p 2 hp (by omega) (by omega) (by omega); obtain ⟨c, ec, c0, c1⟩ := zaP hb (p + 1) 8 (by omega) (by omega) (by omega) (by omega); obtain ⟨th, q1, et, t0, t1, tl⟩ := zea hb (p + 1 + 1) (by omega) (by omega); have hk : (1 + a) = 1 ∨ (1 + a) = 2 := by omega
  obtain ⟨r, er, pr⟩ := zeQ (there := th) hk c0 (show c ≤ 7 by omega)
  have hD : Drawn4 (1 + a) r.1 r.2.1 r.2.2.1 := by
    rcases pr with ⟨s, s1, s2, s3, s4, s5⟩ | h
    · rcases s5 with ⟨_, e1, e2, e3, e4, _⟩ | h
      · rw [e1, e2]; exact ⟨hk, by omega, by omega, e3, s2, zeB (by omega) s3, fun x hx => by have := e4 x hx; omega⟩
      · rw [h]; exact ⟨hk, by decide, by decide, rfl, by decide, (by intro x hx; cases hx), (by intro x hx; cases hx)⟩
    · rw [h]; exact ⟨hk, by decide, by decide, rfl, by decide, (by intro x hx; cases hx), (by intro x hx; cases hx)⟩
  obtain ⟨g, eg, g0, g1⟩ := zaP hb q1 8 (by omega) (by omega) (by omega) (by omega); have hw : wrap64 (1 + a) = 1 + a := w64d (by omega) (by omega)
  have go : ∀ x, Ev (fun k => if g = 0 then (if (r.2.2.1.length : Int) > 0 then ((zf.f k b (q1 + 1) (r.2.2.1.length : Int)).bind fun bt121 => ((zf.f k b bt121.2 32).bind fun bt123 => (if 0 ≤ bt121.1 then (if bt121.1 < (r.2.2.1.length : Int) then (some (1 + a, r.1, r.2.1, (r.2.2.1.set (bt121.1 : Int).toNat bt123.1), bt123.2)) else (none)) else (none)))) else (some (1 + a, r.1, r.2.1, r.2.2.1, (q1 + 1)))) else (if g = 1 then ((zf.f k b (q1 + 1) 10).bind fun bt126 => (some (1 + a, wrap64 (bt126.1 - 1), r.2.1, r.2.2.1, bt126.2))) else (if g = 2 then (if (r.2.1.length : Int) > 0 then ((zf.f k b (q1 + 1) (r.2.1.length : Int)).bind fun bt128 => ((zf.f k b bt128.2 8).bind fun bt130 => (if 0 ≤ bt128.1 then (if bt128.1 < (r.2.1.length : Int) then (some (1 + a, r.1, (r.2.1.set (bt128.1 : Int).toNat bt130.1), r.2.2.1, bt130.2)) else (none)) else (none)))) else (some (1 + a, r.1, r.2.1, r.2.2.1, (q1 + 1)))) else (some (1 + a, r.1, r.2.1, r.2.2.1, (q1 + 1)))))) x → Ev (fun k => zae.f k b p) x := by
    intro x h; unfold zae.f; refine Ev.bind ea (Ev.bind ec (Ev.bind et ?_)); simp only [hw]; exact Ev.bind er (Ev.bind eg h)
  have hf4 := hD.four; have hlen := hD.len
  by_cases h0 : g = 0
  · by_cases hl : (r.2.2.1.length : Int) > 0
    · obtain ⟨u, eu, u0, u1⟩ := zaP hb (q1 + 1) (r.2.2.1.length : Int) (by omega) (by omega) (by omega) (by omega); obtain ⟨v, ev, v0, v1⟩ := zaP hb (q1 + 1 + 1) 32 (by omega) (by omega) (by omega) (by omega); refine ⟨_, _, _, _, _, go _ (dv_pos h0 (dv_pos hl (Ev.bind eu (Ev.bind ev (dv_pos u0 (dv_pos u1 (Ev.now _))))))), by omega, by omega, ?_⟩; exact ⟨hk, hD.lost0, hD.lost1, by rw [List.length_set]; exact hlen, hf4, hD.frm, zcK hD.by_ (by omega) _⟩
    · exact ⟨_, _, _, _, _, go _ (dv_pos h0 (dv_neg hl (Ev.now _))), by omega, by omega, hD⟩
  by_cases h1 : g = 1
  · obtain ⟨u, eu, u0, u1⟩ := zaP hb (q1 + 1) 10 (by omega) (by omega) (by omega) (by omega); have hu : wrap64 (u - 1) = u - 1 := w64d (by omega) (by omega); refine ⟨_, _, _, _, _, go _ (dv_neg h0 (dv_pos h1 (Ev.bind eu (Ev.now _)))), by omega, by omega, ?_⟩; exact ⟨hk, by simp only; rw [hu]; omega, by simp only; rw [hu]; omega, hlen, hf4, hD.frm, hD.by_⟩
  by_cases h2 : g = 2
  · by_cases hl : (r.2.1.length : Int) > 0
    · obtain ⟨u, eu, u0, u1⟩ := zaP hb (q1 + 1) (r.2.1.length : Int) (by omega) (by omega) (by omega) (by omega); obtain ⟨v, ev, v0, v1⟩ := zaP hb (q1 + 1 + 1) 8 (by omega) (by omega) (by omega) (by omega); refine ⟨_, _, _, _, _, go _ (dv_neg h0 (dv_neg h1 (dv_pos h2 (dv_pos hl (Ev.bind eu (Ev.bind ev (dv_pos u0 (dv_pos u1 (Ev.now _))))))))), by omega, by omega, ?_⟩; exact ⟨hk, hD.lost0, hD.lost1, by rw [List.length_set]; exact hlen, by rw [List.length_set]; exact hf4, zcK hD.frm (by omega) _, hD.by_⟩
    · exact ⟨_, _, _, _, _, go _ (dv_neg h0 (dv_neg h1 (dv_pos h2 (dv_neg hl (Ev.now _))))), by omega, by omega, hD⟩
  · exact ⟨_, _, _, _, _, go _ (dv_neg h0 (dv_neg h1 (dv_neg h2 (Ev.now _)))), by omega, by omega, hD⟩
theorem zff {b : List Int} (hb : Bytes b) (p : Int) (hp : 0 ≤ p) (hp2 : p ≤ 700000100) : ∃ kind vals th q, Ev (fun k => zaU.f k b p) (kind, vals, th, q) ∧ vals.length = 8 ∧ ∀ x ∈ vals, -1 ≤ x ∧ x ≤ 31 := by
  obtain ⟨a, ea, a0, a1⟩ := zaP hb p 2 hp (by omega) (by omega) (by omega); obtain ⟨d0, e0, d00, d01⟩ := zaP hb (p + 1) 31 (by omega) (by omega) (by omega) (by omega); obtain ⟨d1, e1, d10, d11⟩ := zaP hb (p + 1 + 1) 5 (by omega) (by omega) (by omega) (by omega); obtain ⟨d2, e2, d20, d21⟩ := zaP hb (p + 1 + 1 + 1) 31 (by omega) (by omega) (by omega) (by omega); obtain ⟨d3, e3, d30, d31⟩ := zaP hb (p + 1 + 1 + 1 + 1) 3 (by omega) (by omega) (by omega) (by omega); have hk : (1 + a) = 1 ∨ (1 + a) = 2 := by omega
  have hw : wrap64 (1 + a) = 1 + a := w64d (by omega) (by omega)
  have hv : Vec4 [d0, d1, d2, d3] := ⟨rfl, by
    intro x hx; simp only [List.mem_cons, List.not_mem_nil, or_false] at hx
    omega⟩
  have eA := all_ev hk hv; obtain ⟨th, q1, et, t0, t1, tl⟩ := zea hb (p + 1 + 1 + 1 + 1 + 1) (by omega) (by omega); obtain ⟨g, eg, g0, g1⟩ := zaP hb q1 6 (by omega) (by omega) (by omega) (by omega); have hE : ∀ x ∈ encS (1 + a) [d0, d1, d2, d3], -1 ≤ x ∧ x ≤ 31 := fun x hx => by have := zfP _ _ x hx; omega
  have go : ∀ x, Ev (fun k => if g = 0 then ((zf.f k b (q1 + 1) ((encS (1 + a) [d0, d1, d2, d3]).length : Int)).bind fun bt123 => ((zaA.f k b bt123.2).bind fun bt125 => (if 0 ≤ bt123.1 then (if bt123.1 < ((encS (1 + a) [d0, d1, d2, d3]).length : Int) then (some (1 + a, ((encS (1 + a) [d0, d1, d2, d3]).set (bt123.1 : Int).toNat bt125.1), th, bt125.2)) else (none)) else (none)))) else (if g = 1 then ((zf.f k b (q1 + 1) 3).bind fun bt128 => (if bt128.1 = 0 then ((zaC.f k b bt128.2).bind fun bt130 => (some (bt130.1, (encS (1 + a) [d0, d1, d2, d3]), th, bt130.2))) else (some (1 + a, (encS (1 + a) [d0, d1, d2, d3]), th, bt128.2)))) else (some (1 + a, (encS (1 + a) [d0, d1, d2, d3]), th, (q1 + 1))))) x → Ev (fun k => zaU.f k b p) x := by
    intro x h; unfold zaU.f; refine Ev.bind ea (Ev.bind e0 (Ev.bind e1 (Ev.bind e2 (Ev.bind e3 ?_)))); simp only [hw]; exact Ev.bind eA (Ev.bind et (Ev.bind eg h))
  by_cases h0 : g = 0
  · obtain ⟨u, eu, u0, u1⟩ := zaP hb (q1 + 1) ((encS (1 + a) [d0, d1, d2, d3]).length : Int) (by omega) (by omega) (by rw [zca]; omega) (by rw [zca]; omega); obtain ⟨v, q2, ev, _, _, v0, v1⟩ := zfV hb (q1 + 1 + 1) (by omega) (by omega); refine ⟨_, _, _, _, go _ (dv_pos h0 (Ev.bind eu (Ev.bind ev (dv_pos u0 (dv_pos u1 (Ev.now _)))))), by rw [List.length_set, zca], zcK hE ⟨v0, v1⟩ _⟩
  by_cases h1 : g = 1
  · obtain ⟨u, eu, u0, u1⟩ := zaP hb (q1 + 1) 3 (by omega) (by omega) (by omega) (by omega)
    by_cases hu : u = 0
    · obtain ⟨v, q2, ev, _⟩ := zev hb (q1 + 1 + 1) (by omega) (by omega); exact ⟨_, _, _, _, go _ (dv_neg h0 (dv_pos h1 (Ev.bind eu (dv_pos hu (Ev.bind ev (Ev.now _)))))), zca _ _, hE⟩
    · exact ⟨_, _, _, _, go _ (dv_neg h0 (dv_pos h1 (Ev.bind eu (dv_neg hu (Ev.now _))))), zca _ _, hE⟩
  · exact ⟨_, _, _, _, go _ (dv_neg h0 (dv_neg h1 (Ev.now _))), zca _ _, hE⟩
end Go.Proofs.Ytmipjlbkcfpkiaa.K

end
section
namespace Go.Proofs.Ytmipjlbkcfpkiaa.K
set_option linter.unusedVariables false
set_option linter.unusedSimpArgs false
open Go.RowKit Go.Proofs.YtmipjlbkcfpkiaaW.PrintWords Go.Proofs.YtmipjlbkcfpkiaaW.PrintLast Go.Proofs.YtmipjlbkcfpkiaaW.PrintMore
theorem pv_pos {α : Type} {c : Prop} [Decidable c] {f g : Nat → Option α} {r : α} (h : c) (k : Ev f r) : Ev (fun n => if c then f n else g n) r := Ev.congr (fun _ => if_pos h) k
theorem pv_neg {α : Type} {c : Prop} [Decidable c] {f g : Nat → Option α} {r : α} (h : ¬ c) (k : Ev g r) : Ev (fun n => if c then f n else g n) r := Ev.congr (fun _ => if_neg h) k
theorem zbx {α β : Type} {g : Option α} {f : Nat → α → Option β} {a : α} {r : β} (h : g = some a) (k : Ev (fun n => f n a) r) : Ev (fun n => g.bind (f n)) r := Ev.congr (fun n => by rw [h]; rfl) k
theorem pv_eq {α : Type} {g : Nat → Option α} {r r' : α} (h : Ev g r) (e : r = r') : Ev g r' := e ▸ h
theorem w64p {x : Int} (h1 : -9223372036854775808 ≤ x) (h2 : x < 9223372036854775808) : wrap64 x = x := by unfold wrap64; omega
theorem zfC (l : List Int) (i : Nat) (h : i < l.length) : rd l (i : Int) = l[i] := by unfold rd; simp [h]
theorem zcq (a b c : Int) : zad.f a b c = some (decide (b ≤ a) && decide (a ≤ c)) := by
  unfold zad.f
  by_cases h : a ≥ b
  · rw [if_pos h]; simp [h]
  · rw [if_neg h]; simp [h]
theorem zcH (a b c : Int) : zak.f a b c = some (decide (b ≤ a) && decide (a ≤ c)) := by
  unfold zak.f
  by_cases h : a ≥ b
  · rw [if_pos h]; simp [h]
  · rw [if_neg h]; simp [h]
theorem zdB (a : Int) : zaI.f a = some (decide (0 ≤ a) && decide (a ≤ 7)) := by unfold zaI.f; rw [zcH]; rfl
theorem zfy (n : Int) : zbj.f n = some (fld n) := by unfold zbj.f; rw [zcq]; rfl
theorem fld_p (n : Int) : fld n = true ↔ 0 ≤ n ∧ n ≤ 30 := by unfold fld; simp
def fps (a b : Int) : Int := (a + b) % 31
def fms (a b : Int) : Int := (a * b) % 31
theorem zcQ (n : Int) (h1 : 0 ≤ n) (_h2 : n ≤ 1000000) : zaO.f n = some (n % 31) := by
  unfold zaO.f; rw [Int.tmod_eq_emod_of_nonneg h1, w64p (by omega) (by omega), Int.tmod_eq_emod_of_nonneg (by omega)]
  congr 1
  omega
theorem plus_p (a b : Int) (ha : fld a = true) (hb : fld b = true) : zan.f a b = some (fps a b) := by
  rw [fld_p] at ha hb; unfold zan.f fps; rw [w64p (by omega) (by omega), zcQ _ (by omega) (by omega)]; rfl
theorem mul_p {a b : Int} (ha : 0 ≤ a ∧ a ≤ 30) (hb : 0 ≤ b ∧ b ≤ 30) : 0 ≤ a * b ∧ a * b ≤ 900 := by
  refine ⟨Int.mul_nonneg ha.1 hb.1, ?_⟩; have h1 : a * b ≤ 30 * b := Int.mul_le_mul_of_nonneg_right ha.2 hb.1
  omega
theorem zeG (a b : Int) (ha : fld a = true) (hb : fld b = true) : zam.f a b = some (fms a b) := by
  rw [fld_p] at ha hb; have h := mul_p ha hb; unfold zam.f fms; rw [w64p (by omega) (by omega), zcQ _ (by omega) (by omega)]; rfl
theorem zcT (a b : Int) : fld (fps a b) = true := by rw [fld_p]; unfold fps; omega
theorem zeq (a b : Int) : fld (fms a b) = true := by rw [fld_p]; unfold fms; omega
def zaY (p : Nat → Bool) : Nat → Nat → Bool
  | _, 0 => true
  | i, d + 1 => p i && zaY p (i + 1) d
theorem zcR (p q : Nat → Bool) : ∀ (d i : Nat), zaY (fun j => p j && q j) i d = (zaY p i d && zaY q i d)
  | 0, i => rfl
  | d + 1, i => by
    simp only [zaY, zcR p q d (i + 1)]; cases p i <;> cases q i <;> cases zaY p (i + 1) d <;> cases zaY q (i + 1) d <;> rfl
def okAt (lost : Int) (l : List Int) (i : Nat) : Bool := (decide (0 ≤ rd l i) && decide (rd l i ≤ 7)) && (!decide (rd l i = lost) && !(decide (0 < i) && decide (rd l ((i : Int) - 1) ≥ rd l i)))
def byAt (l : List Int) (i : Nat) : Bool := decide (1 ≤ rd l i) && decide (rd l i ≤ 30)
def zbD (lost : Int) (from_ by_ : List Int) : Bool := zaY (okAt lost from_) 0 from_.length && (zaY (byAt by_) 0 by_.length && ((decide (0 ≤ lost) && decide (lost ≤ 7)) && (decide (by_.length = from_.length) && (decide (1 ≤ from_.length) && decide (from_.length ≤ 4)))))
theorem zgz (lost : Int) (from_ by_ : List Int) (hb : by_.length ≤ 1048576) (d : Nat) : ∀ (i : Nat), i + d = by_.length → Ev (fun k => zH.l1 k (i : Int) lost from_ by_) (zaY (byAt by_) i d && ((decide (0 ≤ lost) && decide (lost ≤ 7)) && (decide (by_.length = from_.length) && (decide (1 ≤ from_.length) && decide (from_.length ≤ 4))))) := by
  induction d with
  | zero =>
    intro i hi; refine Ev.step (fun k => by rw [zH.l1]) ?_; refine pv_neg (by omega) (zbx (zcq _ _ _) ?_); simp only [zaY, Bool.true_and]
    by_cases c : (decide (0 ≤ lost) && decide (lost ≤ 7)) = true
    · rw [c, Bool.true_and]; refine pv_pos rfl ?_
      by_cases c2 : by_.length = from_.length
      · refine pv_pos (by omega) (zbx (zcq _ _ _) (pv_eq (Ev.now _) ?_)); rw [decide_eq_true c2, Bool.true_and]
        congr 1 <;> exact decide_eq_decide.mpr (by omega)
      · refine pv_neg (by omega) (pv_eq (Ev.now _) ?_); rw [decide_eq_false c2, Bool.false_and]
    · rw [Bool.not_eq_true] at c; rw [c, Bool.false_and]; exact pv_neg (by simp) (Ev.now _)
  | succ d ih =>
    intro i hi; refine Ev.step (fun k => by rw [zH.l1]) ?_; refine pv_pos (by omega) (pv_pos (by omega) (zbx (zcq _ _ _) ?_)); rw [w64p (by omega) (by omega), show ((i : Int) + 1) = ((i + 1 : Nat) : Int) by omega]; show Ev _ ((byAt by_ i && zaY (byAt by_) (i + 1) d) && _); unfold byAt
    by_cases c : (decide (1 ≤ rd by_ (i : Int)) && decide (rd by_ (i : Int) ≤ 30)) = true
    · rw [c, Bool.true_and]; exact pv_pos rfl (ih (i + 1) (by omega))
    · rw [Bool.not_eq_true] at c; rw [c, Bool.false_and, Bool.false_and]; exact pv_neg (by simp) (Ev.now _)
theorem zgv (lost : Int) (from_ by_ : List Int) (hf : from_.length ≤ 1048576) (hb : by_.length ≤ 1048576) (d : Nat) : ∀ (i : Nat), i + d = from_.length → Ev (fun k => zH.l0 k (i : Int) lost from_ by_) (zaY (okAt lost from_) i d && (zaY (byAt by_) 0 by_.length && ((decide (0 ≤ lost) && decide (lost ≤ 7)) && (decide (by_.length = from_.length) && (decide (1 ≤ from_.length) && decide (from_.length ≤ 4)))))) := by
  induction d with
  | zero =>
    intro i hi; refine Ev.step (fun k => by rw [zH.l0]) ?_; refine pv_neg (by omega) ?_; simp only [zaY, Bool.true_and]; exact zgz lost from_ by_ hb by_.length 0 (by omega)
  | succ d ih =>
    intro i hi; refine Ev.step (fun k => by rw [zH.l0]) ?_; refine pv_pos (by omega) (pv_pos (by omega) (zbx (zcq _ _ _) ?_)); show Ev _ ((okAt lost from_ i && zaY (okAt lost from_) (i + 1) d) && _); have hn := ih (i + 1) (by omega); rw [show ((i + 1 : Nat) : Int) = (i : Int) + 1 by omega] at hn; rw [w64p (x := (i : Int) + 1) (by omega) (by omega), w64p (x := (i : Int) - 1) (by omega) (by omega)]; generalize zaY (okAt lost from_) (i + 1) d = R at hn ⊢; unfold okAt
    by_cases c : (decide (0 ≤ rd from_ (i : Int)) && decide (rd from_ (i : Int) ≤ 7)) = true
    · rw [c, Bool.true_and]; refine pv_pos rfl ?_
      by_cases c1 : rd from_ (i : Int) = lost
      · rw [decide_eq_true c1]; exact pv_pos c1 (pv_eq (Ev.now _) (by simp))
      · rw [decide_eq_false c1]; refine pv_neg c1 ?_
        by_cases c2 : 0 < i
        · refine pv_pos (by omega) (pv_pos (by omega) (pv_pos (by omega) ?_)); rw [decide_eq_true c2]
          by_cases c3 : rd from_ ((i : Int) - 1) ≥ rd from_ (i : Int)
          · rw [decide_eq_true c3]; exact pv_pos c3 (pv_eq (Ev.now _) (by simp))
          · rw [decide_eq_false c3]; exact pv_neg c3 (pv_eq hn (by simp))
        · rw [decide_eq_false c2]; exact pv_neg (by omega) (pv_eq hn (by simp))
    · rw [Bool.not_eq_true] at c; rw [c, Bool.false_and, Bool.false_and, Bool.false_and]; exact pv_neg (by simp) (Ev.now _)
theorem zdS (lost : Int) (from_ by_ : List Int) (hf : from_.length ≤ 1048576) (hb : by_.length ≤ 1048576) : Ev (fun k => zH.f k lost from_ by_) (zbD lost from_ by_) :=
  zgv lost from_ by_ hf hb from_.length 0 (by omega)
theorem zfQ (lost : Int) (from_ by_ : List Int) (hf : from_.length ≤ 1048576) (hb : by_.length = from_.length) (d : Nat) : ∀ (i : Nat), i + d = from_.length → Ev (fun k => zD.l0 k from_ (from_.length : Int) (i : Int) lost from_ by_) (zaY (fun j => okAt lost from_ j && byAt by_ j) i d) := by
  induction d with
  | zero =>
    intro i hi; refine Ev.step (fun k => by rw [zD.l0]) ?_; exact pv_neg (by omega) (Ev.now _)
  | succ d ih =>
    intro i hi; have hn := ih (i + 1) (by omega); rw [show ((i + 1 : Nat) : Int) = (i : Int) + 1 by omega] at hn; refine Ev.step (fun k => by rw [zD.l0]) ?_; refine pv_pos (by omega) (pv_pos (by omega) (pv_pos (by omega) (zbx (zdB _) ?_))); rw [w64p (x := (i : Int) + 1) (by omega) (by omega), w64p (x := (i : Int) - 1) (by omega) (by omega)]; show Ev _ ((okAt lost from_ i && byAt by_ i) && zaY _ (i + 1) d)
    have hend : Ev (fun k => if (i : Int) < (by_.length : Int) then ((zak.f (rd by_ (i : Int)) 1 30).bind fun t => (if t = true then (zD.l0 k from_ (from_.length : Int) ((i : Int) + 1) lost from_ by_) else (some false))) else none) (byAt by_ i && zaY (fun j => okAt lost from_ j && byAt by_ j) (i + 1) d) := by
      refine pv_pos (by omega) (zbx (zcH _ _ _) ?_); show Ev _ ((decide (1 ≤ rd by_ (i : Int)) && decide (rd by_ (i : Int) ≤ 30)) && _)
      by_cases c : (decide (1 ≤ rd by_ (i : Int)) && decide (rd by_ (i : Int) ≤ 30)) = true
      · rw [c, Bool.true_and]; exact pv_pos rfl hn
      · rw [Bool.not_eq_true] at c; rw [c, Bool.false_and]; exact pv_neg (by simp) (Ev.now _)
    unfold okAt
    by_cases c : (decide (0 ≤ rd from_ (i : Int)) && decide (rd from_ (i : Int) ≤ 7)) = true
    · rw [c, Bool.true_and]; refine pv_pos rfl ?_
      by_cases c1 : rd from_ (i : Int) = lost
      · rw [decide_eq_true c1]; exact pv_pos c1 (pv_eq (Ev.now _) (by simp))
      · rw [decide_eq_false c1]; refine pv_neg c1 ?_
        by_cases c2 : 0 < i
        · refine pv_pos (by omega) (pv_pos (by omega) (pv_pos (by omega) ?_)); rw [decide_eq_true c2]
          by_cases c3 : rd from_ ((i : Int) - 1) ≥ rd from_ (i : Int)
          · rw [decide_eq_true c3]; exact pv_pos c3 (pv_eq (Ev.now _) (by simp))
          · rw [decide_eq_false c3]; exact pv_neg c3 (pv_eq hend (by simp [okAt]))
        · rw [decide_eq_false c2]; exact pv_neg (by omega) (pv_eq hend (by simp [okAt]))
    · rw [Bool.not_eq_true] at c; rw [c, Bool.false_and, Bool.false_and, Bool.false_and]; exact pv_neg (by simp) (Ev.now _)
theorem zdX (lost : Int) (from_ by_ : List Int) (hf : from_.length ≤ 1048576) (hb : by_.length ≤ 1048576) : Ev (fun k => zD.f k lost from_ by_) (zbD lost from_ by_) := by
  have hj : ∀ r, (r = false) → Ev (fun k => zD.j0 k true lost from_ by_) r := fun r hr => by
    subst hr; refine Ev.step (fun k => by rw [zD.j0]) ?_; exact pv_pos rfl (Ev.now _)
  unfold zD.f; refine zbx (zdB _) ?_
  by_cases c : (decide (0 ≤ lost) && decide (lost ≤ 7)) = true
  · refine pv_pos c (zbx (zcH _ _ _) ?_)
    by_cases c1 : (decide ((1 : Int) ≤ (from_.length : Int)) && decide ((from_.length : Int) ≤ 4)) = true
    · refine pv_pos c1 ?_; refine Ev.step (fun k => by rw [zD.j0]) ?_
      by_cases c2 : by_.length = from_.length
      · refine pv_neg (by simp; omega) (pv_eq (zfQ lost from_ by_ hf c2 from_.length 0 (by omega)) ?_); rw [zcR]; unfold zbD; rw [c, c2, decide_eq_true rfl]; simp only [Bool.and_eq_true, decide_eq_true_eq] at c1; rw [decide_eq_true (show 1 ≤ from_.length by omega), decide_eq_true (show from_.length ≤ 4 by omega)]
        simp
      · refine pv_pos (by simp; omega) (pv_eq (Ev.now _) ?_); unfold zbD; rw [decide_eq_false c2]; simp
    · refine pv_neg c1 (hj _ ?_); unfold zbD
      have : (decide (1 ≤ from_.length) && decide (from_.length ≤ 4)) = false := by
        rw [Bool.not_eq_true] at c1; rw [← c1]
        congr 1 <;> exact decide_eq_decide.mpr (by omega)
      rw [this]; simp
  · refine pv_neg c (hj _ ?_); rw [Bool.not_eq_true] at c; unfold zbD; rw [c]; simp
theorem zcu (p : Nat → Bool) : ∀ (d i : Nat), zaY p i d = true → ∀ j, i ≤ j → j < i + d → p j = true
  | 0, i, _, j, h1, h2 => by omega
  | d + 1, i, h, j, h1, h2 => by
    simp only [zaY, Bool.and_eq_true] at h
    by_cases c : j = i
    · subst c; exact h.1
    · exact zcu p d (i + 1) h.2 j (by omega) (by omega)
theorem vals_l (l : List Int) (z : List Bool) (hz : z.length = 8) (hl : l.length ≤ 1048576) (d : Nat) : ∀ (i : Nat), i + d = l.length → Ev (fun k => zaG.l0 k l z (i : Int)) ((l.drop i).all fld && decide (l.length = 8)) := by
  induction d with
  | zero =>
    intro i hi; refine Ev.step (fun k => rfl) (pv_neg (by omega) ?_); rw [List.drop_eq_nil_of_le (by omega), List.all_nil, Bool.true_and]
    by_cases h : l.length = 8
    · refine pv_pos (by omega) (pv_eq (Ev.now _) ?_); rw [h, hz]; rfl
    · refine pv_neg (by omega) (pv_eq (Ev.now _) ?_); rw [decide_eq_false h]
  | succ d ih =>
    intro i hi; have hlt : i < l.length := by omega
    refine Ev.step (fun k => rfl) (pv_pos (by omega) (pv_pos (by omega) (zbx (zfy _) ?_))); rw [zfC l i hlt, List.drop_eq_getElem_cons hlt, List.all_cons]
    by_cases c : fld l[i] = true
    · rw [c]; refine pv_pos rfl ?_; rw [w64p (by omega) (by omega), Bool.true_and]; exact ih (i + 1) (by omega)
    · rw [Bool.not_eq_true] at c; rw [c]; exact pv_neg (by simp) (Ev.now _)
def valsB (l : List Int) : Bool := l.all fld && decide (l.length = 8)
theorem zcM (l : List Int) (hl : l.length ≤ 1048576) : Ev (fun k => zaG.f k l (List.replicate 8 false)) (valsB l) := by
  have := vals_l l (List.replicate 8 false) (by simp) hl l.length 0 (by omega); exact pv_eq this (by unfold valsB; rw [List.drop_zero])
theorem zdc (l : List Int) (hl : l.length ≤ 1048576) : zbb.f l = some (valsB l) := by
  unfold zbb.f zaW.f valsB; rw [if_pos (by omega), Option.bind_some]
  congr 1
  rw [Bool.and_comm]
  congr 1
  exact decide_eq_decide.mpr (by omega)
def sumB (vals from_ by_ : List Int) : Nat → Nat → Int → Int
  | _, 0, acc => acc
  | i, d + 1, acc => sumB vals from_ by_ (i + 1) d (fps acc (fms (rd by_ i) (rd vals (rd from_ i))))
theorem zdk (vals : List Int) (h : valsB vals = true) (i : Int) (h0 : 0 ≤ i) (h7 : i ≤ 7) : fld (rd vals i) = true := by
  unfold valsB at h; rw [Bool.and_eq_true, List.all_eq_true, decide_eq_true_eq] at h; have hi : i.toNat < vals.length := by omega
  unfold rd; rw [show vals.getD i.toNat 0 = vals[i.toNat] by simp [hi]]; exact h.1 _ (List.getElem_mem _)
theorem zfB (lost : Int) (vals from_ by_ : List Int) (hf : from_.length ≤ 1048576) (hb : by_.length = from_.length) (hv : valsB vals = true) (hok : ∀ j, j < from_.length → (0 ≤ rd from_ (j : Int) ∧ rd from_ (j : Int) ≤ 7) ∧ fld (rd by_ (j : Int)) = true) (d : Nat) :
    ∀ (i : Nat) (acc : Int), i + d = from_.length → fld acc = true → Ev (fun k => zaN.l0 k vals acc (i : Int) lost from_ by_) (sumB vals from_ by_ i d acc) := by
  have h8 : vals.length = 8 := by
    unfold valsB at hv; rw [Bool.and_eq_true, decide_eq_true_eq] at hv; exact hv.2
  induction d with
  | zero =>
    intro i acc hi ha; exact Ev.step (fun k => rfl) (pv_neg (by omega) (Ev.now _))
  | succ d ih =>
    intro i acc hi ha; obtain ⟨⟨h1, h2⟩, h3⟩ := hok i (by omega); have h4 := zdk vals hv _ h1 h2; refine Ev.step (fun k => rfl) (pv_pos (by omega) (pv_pos (by omega) (pv_pos (by omega) (pv_pos h1 (pv_pos (by omega) ?_)))))
    have he : Int.tmod (wrap64 (acc + (wrap64 ((rd by_ (i : Int)) * (rd vals (rd from_ (i : Int))))))) 31 = fps acc (fms (rd by_ (i : Int)) (rd vals (rd from_ (i : Int)))) := by
      rw [fld_p] at ha h3 h4; have hm := mul_p h3 h4; rw [w64p (x := _ * _) (by omega) (by omega), w64p (by omega) (by omega), Int.tmod_eq_emod_of_nonneg (by omega)]; unfold fps fms
      omega
    rw [he, w64p (by omega) (by omega), show ((i : Int) + 1) = ((i + 1 : Nat) : Int) by omega]; exact ih (i + 1) _ (by omega) (zcT _ _)
theorem zfE (lost : Int) (vals from_ by_ : List Int) (hf : from_.length ≤ 1048576) (hb : by_.length = from_.length) (hv : valsB vals = true) (hok : ∀ j, j < from_.length → (0 ≤ rd from_ (j : Int) ∧ rd from_ (j : Int) ≤ 7) ∧ fld (rd by_ (j : Int)) = true) (d : Nat) :
    ∀ (i : Nat) (acc : Int), i + d = from_.length → fld acc = true → Ev (fun k => zaE.l0 k vals acc from_ (from_.length : Int) (i : Int) lost from_ by_) (sumB vals from_ by_ i d acc) := by
  have h8 : vals.length = 8 := by
    unfold valsB at hv; rw [Bool.and_eq_true, decide_eq_true_eq] at hv; exact hv.2
  induction d with
  | zero =>
    intro i acc hi ha; exact Ev.step (fun k => rfl) (pv_neg (by omega) (Ev.now _))
  | succ d ih =>
    intro i acc hi ha; obtain ⟨⟨h1, h2⟩, h3⟩ := hok i (by omega); have h4 := zdk vals hv _ h1 h2; refine Ev.step (fun k => rfl) (pv_pos (by omega) (pv_pos (by omega) (pv_pos (by omega) (pv_pos h1 (pv_pos (by omega) (pv_pos (by omega) ?_)))))); refine zbx (zeG _ _ h4 h3) (zbx (plus_p _ _ ha (zeq _ _)) ?_); rw [w64p (by omega) (by omega), show ((i : Int) + 1) = ((i + 1 : Nat) : Int) by omega]; have hc : fms (rd vals (rd from_ (i : Int))) (rd by_ (i : Int)) = fms (rd by_ (i : Int)) (rd vals (rd from_ (i : Int))) := by unfold fms; rw [Int.mul_comm]
    rw [hc]; exact ih (i + 1) _ (by omega) (zcT _ _)
theorem zcD (lost : Int) (from_ by_ : List Int) (h : zbD lost from_ by_ = true) : by_.length = from_.length ∧ ∀ j, j < from_.length → (0 ≤ rd from_ (j : Int) ∧ rd from_ (j : Int) ≤ 7) ∧ fld (rd by_ (j : Int)) = true := by
  unfold zbD at h; simp only [Bool.and_eq_true, decide_eq_true_eq] at h; obtain ⟨h1, h2, _, h3, _⟩ := h; refine ⟨h3, fun j hj => ?_⟩; have a1 := zcu _ _ _ h1 j (by omega) (by omega); have a2 := zcu _ _ _ h2 j (by omega) (by omega); unfold okAt at a1; unfold byAt at a2; simp only [Bool.and_eq_true, decide_eq_true_eq] at a1 a2; exact ⟨a1.1, by rw [fld_p]; omega⟩
def planV (lost : Int) (vals from_ by_ : List Int) : Int × Bool := if zbD lost from_ by_ = true then (if valsB vals = true then (sumB vals from_ by_ 0 from_.length 0, true) else (0, false)) else (0, false)
theorem zdu (lost : Int) (vals from_ by_ : List Int) (hf : from_.length ≤ 1048576) (hb : by_.length ≤ 1048576) (hv : vals.length ≤ 1048576) : Ev (fun k => zbw.f k lost from_ by_ vals) (planV lost vals from_ by_) ∧ Ev (fun k => zaQ.f k lost from_ by_ vals) (planV lost vals from_ by_) := by
  have s1 := zdS lost from_ by_ hf hb; have i1 := zdX lost from_ by_ hf hb; unfold planV
  by_cases c : zbD lost from_ by_ = true
  · rw [if_pos c]; rw [c] at s1 i1
    by_cases c2 : valsB vals = true
    · rw [if_pos c2]; obtain ⟨h1, h2⟩ := zcD _ _ _ c; have hs2 := zcM vals hv; rw [c2] at hs2; exact ⟨s1.bind (pv_pos rfl (pv_pos (by omega) (hs2.bind (pv_pos rfl ((zfB lost vals from_ by_ hf h1 c2 h2 from_.length 0 0 (by omega) rfl).bind (Ev.now _)))))), i1.bind (pv_pos rfl (zbx (zdc vals hv) (pv_pos c2 ((zfE lost vals from_ by_ hf h1 c2 h2 from_.length 0 0 (by omega) rfl).bind (Ev.now _)))))⟩
    · rw [if_neg c2]; have hs2 := zcM vals hv; exact ⟨s1.bind (pv_pos rfl (pv_pos (by omega) (hs2.bind (pv_neg c2 (Ev.now _))))), i1.bind (pv_pos rfl (zbx (zdc vals hv) (pv_neg c2 (Ev.now _))))⟩
  · rw [if_neg c]; exact ⟨s1.bind (pv_neg c (Ev.now _)), i1.bind (pv_neg c (Ev.now _))⟩
end Go.Proofs.Ytmipjlbkcfpkiaa.K

end
section
namespace Go.Proofs.Ytmipjlbkcfpkiaa.Pure
open Go.RowKit Go.Proofs.Ytmipjlbkcfpkiaa.K Go.Proofs.YtmipjlbkcfpkiaaW.PrintWords Go.Proofs.YtmipjlbkcfpkiaaW.PrintLast
set_option linter.unusedVariables false
set_option linter.unusedSimpArgs false
theorem zcn (n : Int) : zab.f n = some (fld n) := by
  unfold zab.f; rw [zcH]; rfl
theorem sum_s {a b : Int} (ha : fld a = true) (hb : fld b = true) : zaK.f a b = some (fps a b) := by
  unfold zaK.f; rw [zcn, ha]; simp only [Option.bind_some, if_true]; rw [zcn, hb]; simp only [Option.bind_some, if_true]; rw [plus_p a b ha hb]; rfl
theorem mul_s {a b : Int} (ha : fld a = true) (hb : fld b = true) : zbm.f a b = some (fms a b) := by
  unfold zbm.f; rw [zcn, ha]; simp only [Option.bind_some, if_true]; rw [zcn, hb]; simp only [Option.bind_some, if_true]; rw [zeG a b ha hb]; rfl
def twice (l : List Int) : List Int := l.map fun v => fps v v
theorem zfZ {l : List Int} (h : valsB l = true) : valsB (twice l) = true := by
  unfold valsB at h ⊢; rw [Bool.and_eq_true, List.all_eq_true, decide_eq_true_eq] at h ⊢; refine ⟨fun x hx => ?_, by rw [twice, List.length_map]; exact h.2⟩; obtain ⟨v, hv, rfl⟩ := List.mem_map.1 hx; exact zcT _ _
theorem zdY (l : List Int) (i : Int) (h0 : 0 ≤ i) (h1 : i < (l.length : Int)) : rd (twice l) i = fps (rd l i) (rd l i) := by
  unfold rd twice; rw [List.getD_eq_getElem?_getD, List.getD_eq_getElem?_getD, List.getElem?_map, List.getElem?_eq_getElem (show i.toNat < l.length by omega)]; rfl
theorem zex (vals f b : List Int) (hv : valsB vals = true) (hok : ∀ j, j < f.length → (0 ≤ rd f (j : Int) ∧ rd f (j : Int) ≤ 7) ∧ fld (rd b (j : Int)) = true) (d : Nat) : ∀ (i : Nat) (acc acc2 : Int), i + d = f.length → acc2 % 31 = (acc + acc) % 31 → (sumB (twice vals) f b i d acc2) % 31 = (sumB vals f b i d acc + sumB vals f b i d acc) % 31 := by
  have h8 : vals.length = 8 := by
    unfold valsB at hv; rw [Bool.and_eq_true, decide_eq_true_eq] at hv; exact hv.2
  induction d with
  | zero => intro i acc acc2 hi ha; exact ha
  | succ d ih =>
    intro i acc acc2 hi ha; obtain ⟨⟨h1, h2⟩, h3⟩ := hok i (by omega); refine ih (i + 1) _ _ (by omega) ?_; rw [zdY vals _ h1 (by omega)]; unfold fps fms; generalize rd b (i : Int) = y; generalize rd vals (rd f (i : Int)) = v; have e : y * ((v + v) % 31) % 31 = (y * v + y * v) % 31 := by rw [Int.mul_emod, Int.emod_emod_of_dvd _ (Int.dvd_refl 31), ← Int.mul_emod, Int.mul_add]
    rw [e]; generalize y * v = z
    omega
theorem zeb (vals f b : List Int) (d : Nat) : ∀ (i : Nat) (acc : Int), fld acc = true → fld (sumB vals f b i d acc) = true := by
  induction d with
  | zero => intro i acc h; exact h
  | succ d ih => intro i acc h; exact ih _ _ (zcT _ _)
theorem l0_s (vals f b : List Int) (n lost : Int) (hl : f.length ≤ 4) (hb : b.length = f.length) (hv : valsB vals = true) (hok : ∀ j, j < f.length → (0 ≤ rd f (j : Int) ∧ rd f (j : Int) ≤ 7) ∧ fld (rd b (j : Int)) = true) (r : Bool) (d : Nat) :
    ∀ (i : Nat) (acc : Int), i + d = f.length → fld acc = true → Ev (fun k => zC.l1 k vals n (sumB vals f b i d acc) [] 0 lost f b) r → Ev (fun k => zC.l0 k vals n acc (i : Int) lost f b) r := by
  have h8 : vals.length = 8 := by
    unfold valsB at hv; rw [Bool.and_eq_true, decide_eq_true_eq] at hv; exact hv.2
  induction d with
  | zero =>
    intro i acc hi ha h; exact Ev.step (fun k => by rw [zC.l0, if_neg (by omega)]; rfl) h
  | succ d ih =>
    intro i acc hi ha h; obtain ⟨⟨h1, h2⟩, h3⟩ := hok i (by omega); have h4 := zdk vals hv _ h1 h2; refine Ev.step (fun k => by rw [zC.l0]) (dv_pos (by omega) (dv_pos (by omega) (dv_pos (by omega) (dv_pos h1 (dv_pos (by omega) (zbu (mul_s h3 h4) (zbu (sum_s ha (zeq _ _)) ?_))))))); rw [w64d (by omega) (by omega), show ((i : Int) + 1) = ((i + 1 : Nat) : Int) by omega]; exact ih (i + 1) _ (by omega) (zcT _ _) h
theorem l1_s (vals f b : List Int) (n lost sum : Int) (hv : valsB vals = true) (r : Bool) (d : Nat)
    (h : Ev (fun k => (zaQ.f k lost f b (twice vals)).bind fun bt130 => (if n = sum then (if bt130.2 = true then ((zaK.f n n).bind fun t132 => (some (bt130.1 == t132))) else (some false)) else (some false))) r) :
    ∀ (i : Nat), i + d = vals.length → Ev (fun k => zC.l1 k vals n sum ((twice vals).take i) (i : Int) lost f b) r := by
  have h8 : vals.length = 8 := by
    unfold valsB at hv; rw [Bool.and_eq_true, decide_eq_true_eq] at hv; exact hv.2
  induction d with
  | zero =>
    intro i hi; refine Ev.step (fun k => by rw [zC.l1]) (dv_neg (by omega) ?_); rw [List.take_of_length_le (by rw [twice, List.length_map]; omega)]; exact h
  | succ d ih =>
    intro i hi; have hlt : i < vals.length := by omega
    have hf : fld (rd vals (i : Int)) = true := zdk vals hv _ (by omega) (by omega); have htl : ((twice vals).take i).length < 17592186044416 := by rw [List.length_take]; omega
    refine Ev.step (fun k => by rw [zC.l1]) (dv_pos (by omega) (dv_pos (by omega) (zbu (sum_s hf hf) (dv_pos htl ?_)))); rw [w64d (by omega) (by omega), show ((i : Int) + 1) = ((i + 1 : Nat) : Int) by omega]
    have e : (twice vals).take i ++ [fps (rd vals (i : Int)) (rd vals (i : Int))] = (twice vals).take (i + 1) := by
      rw [← zdY vals (i : Int) (by omega) (by omega)]; have hl2 : i < (twice vals).length := by rw [twice, List.length_map]; omega
      rw [List.take_succ_eq_append_getElem hl2]; unfold rd
      simp [hl2]
    rw [e]; exact ih (i + 1) (by omega)
theorem FnPlanSum : zC.Pure := by
  intro l hl _ hb; refine Ev.rounds ?_; unfold zC.f
  by_cases hc : (l.length : Int) > 1048576
  · exact dv_pos hc (Ev.now _)
  refine dv_neg hc ?_; obtain ⟨c, eo, hB⟩ := zge l hb; obtain ⟨kind, lost, f, b, q, ep, _, hq, D⟩ := zfq hB 0 (by omega) (by omega); obtain ⟨kind2, vals, th, q2, ev, hv8, hvb⟩ := zff hB q (by omega) (by omega)
  have ed : Ev (fun k => zaX.f k l) (lost, f, b, vals) := by
    unfold zaX.f; exact zbu eo (Ev.bind ep (Ev.bind ev (Ev.now _)))
  have hf4 := D.four; have hlen := D.len; obtain ⟨e1, e2⟩ := zdu lost vals f b (by omega) (by omega) (by omega); refine Ev.bind ed (Ev.bind e1 (Ev.bind e2 (dv_neg (by simp) (dv_pos rfl ?_))))
  simp only
  refine Ev.step (fun k => by rw [zC.j0]) ?_; cases ho : (planV lost vals f b).2 with
  | false =>
    refine dv_pos rfl (dv_pos (by simp) ?_); exact zfv (by simp)
  | true =>
    refine dv_neg (by decide) ?_
    have hform : zbD lost f b = true := by
      unfold planV at ho
      by_cases h : zbD lost f b = true
      · exact h
      · rw [if_neg h] at ho; cases ho
    have hvals : valsB vals = true := by
      unfold planV at ho; rw [if_pos hform] at ho
      by_cases h : valsB vals = true
      · exact h
      · rw [if_neg h] at ho; cases ho
    have hV : ∀ v, valsB v = true → planV lost v f b = (sumB v f b 0 f.length 0, true) := fun v h => by
      unfold planV; rw [if_pos hform, if_pos h]
    obtain ⟨h1, h2⟩ := zcD _ _ _ hform; rw [hV vals hvals]
    simp only
    refine l0_s vals f b _ lost hf4 h1 hvals h2 true f.length 0 0 (by omega) rfl ?_; have hfs := zeb vals f b f.length 0 0 rfl; refine l1_s vals f b _ lost _ hvals true vals.length ?_ 0 (by omega); have h8 : (twice vals).length = 8 := by rw [twice, List.length_map]; exact hv8
    obtain ⟨_, e4⟩ := zdu lost (twice vals) f b (by omega) (by omega) (by omega); refine Ev.bind e4 ?_; rw [hV _ (zfZ hvals)]; refine dv_pos rfl (dv_pos rfl (zbu (sum_s hfs hfs) ?_)); have ht := zex vals f b hvals h2 f.length 0 0 0 (by omega) rfl; have hf2 := zeb (twice vals) f b f.length 0 0 rfl; rw [fld_p] at hf2; refine zfv ?_; rw [beq_iff_eq]; unfold fps
    simp only
    omega
end Go.Proofs.Ytmipjlbkcfpkiaa.Pure

end
section
namespace Go.Proofs.YtmipjlbkcfpkiaaW.PrintWords
open Go.ChangeShapes Go.WideShapes
theorem zen {H : Type} {enc : TypeId × Value → H} {P : Program} {W : World} {base : Nat} {spare : Nat → Bool} {held : Bool} {t e : TypeId} {k : IntKind} {a : Option Addr} {len cap : Nat} {d : DataW H} {ps : List MemPlace} {ts : List TypeId} {ds : List (DataW H)} {j : Nat}
    (hsz : (DataW.weightsEach P ts ds).all (· ≤ reachBytes) = true) (ht : ts[j]? = some t) (hd : ds[j]? = some d) (hu : P.underlying t = some (.slice e)) (he : P.underlying e = some (.int k)) (hc : P.cellsOf e = 1) {B : Nat} (hB : P.bytesOf e = B)
    (h : DataW.Trod enc P W base spare held t (.slice a len cap) d ps) : len * B ≤ 140737488351232 := by
  obtain ⟨fuel, hf⟩ := h
  rcases open_ints hu he hc hf with ⟨hcs, _⟩ | ⟨x, l, c, zs, hcs, _, hl, _, hz, hx, _, _⟩
  · simp [Value.cells] at hcs
    obtain ⟨rfl, rfl, rfl⟩ := hcs
    simp
  · simp [Value.cells] at hcs
    obtain ⟨rfl, rfl, rfl⟩ := hcs; obtain ⟨hx, _⟩ := Prod.mk.inj hx; subst hx; have z := sized_slice hsz ht hd hu; rw [hB] at z
    have hl2 : len ≤ zs.length := by
      rw [hz]
      split
      · exact hl
      · exact Nat.le_refl _
    have h1 : (lits (H := H) k (zs.take len)).length + (lits (H := H) k (zs.drop len)).length = zs.length := by
      simp [lits]
      omega
    rw [h1] at z; exact Nat.le_trans (Nat.mul_le_mul_right _ hl2) z
end Go.Proofs.YtmipjlbkcfpkiaaW.PrintWords

end
