/- Part 2 of proofs: what the functions compute, step by step. No condition. -/
import Derived.WalkSpells
import Derived.Test.YtmipjlbkcfpkiaaGPlanN1
section
namespace Go.Proofs.Ytmipjlbkcfpkiaa.K
open Go.RowKit Go.Proofs.YtmipjlbkcfpkiaaW.PrintWords Go.Proofs.YtmipjlbkcfpkiaaW.PrintLast Go.Proofs.YtmipjlbkcfpkiaaW.PrintMore
attribute [local go_sem] zao zar zaE zaD zad zac zaq zan
set_option linter.unusedVariables false
set_option linter.unusedSimpArgs false
def zg (w0 W : World) (g : Nat) (f0 : List Int) (f1 : Int) : Prop := ∃ A0 c0, W.heap[g]? = some (.cells #[.slice A0 f0.length c0, .int .i64 f1] 117 (0, 0)) ∧ w0.heap.size ≤ g ∧ Kd.C (Kd.int .u8) w0 A0 f0.length f0
theorem zg.grown {w0 W : World} {g : Nat} {f0 : List Int} {f1 : Int} {W1 : World} {row : Option Nat} (h : zg w0 W g f0 f1) (hw : W.grownBy W1 row) (hne : some g ≠ row) : zg w0 W1 g f0 f1 := by
  obtain ⟨A0, c0, hb, hg, hr0⟩ := h; exact ⟨A0, c0, zcj hb hw hne, hg, hr0⟩
theorem zg.kept {w0 W : World} {g : Nat} {f0 : List Int} {f1 : Int} {W1 : World} {S : Nat → Prop} (h : zg w0 W g f0 f1) (hk : Kept W W1 S) (hne : ¬ S g) : zg w0 W1 g f0 f1 := by
  obtain ⟨A0, c0, hb, hg, hr0⟩ := h; exact ⟨A0, c0, zhN hb hk hne, hg, hr0⟩
theorem zg.below {w0 W : World} {g : Nat} {f0 : List Int} {f1 : Int} {W1 : World} (h : zg w0 W g f0 f1) (hw : Below W.heap.size W W1) : zg w0 W1 g f0 f1 := h.grown (zcS hw none) (by simp)
theorem zg.alloc {w0 W : World} {g : Nat} {f0 : List Int} {f1 : Int} (h : zg w0 W g f0 f1) (o : Obj) : zg w0 (W.alloc o) g f0 f1 := h.below (zf (Below.refl _ _) o)
theorem zg.drewN {w0 W : World} {g : Nat} {f0 : List Int} {f1 : Int} (h : zg w0 W g f0 f1) (m : Nat) : zg w0 (W.drewN m) g f0 f1 := h
theorem zg.drew {w0 W : World} {g : Nat} {f0 : List Int} {f1 : Int} (h : zg w0 W g f0 f1) : zg w0 W.drew g f0 f1 := h
theorem zg.at_ {w0 W : World} {g : Nat} {f0 : List Int} {f1 : Int} {w' : World} {m : Nat} (hq : W.drewN m = w') (h : zg w0 W g f0 f1) : zg w0 w' g f0 f1 := by subst hq; exact zg.drewN h m
theorem zg.apart {w0 W : World} {g : Nat} {f0 : List Int} {f1 : Int} {α : Type} {d : Kd α} {e : Nat} {base : Nat} {ok : Nat → Prop} {v : Value} {xs : List α} (h : zg w0 W g f0 f1) (ho : d.R e W base ok v xs) (ht : ∀ q, q ∈ e :: d.E → q ≠ 117) : d.R e W base (fun k => ok k ∧ k ≠ g) v xs := by
  obtain ⟨A0, c0, hb, hg, hr0⟩ := h; exact Kd.zaI ho hb ht
theorem zg.own_ne {w0 W : World} {g : Nat} {f0 : List Int} {f1 : Int} {α : Type} {d : Kd α} {e : Nat} {base : Nat} {ok : Nat → Prop} {v : Value} {xs : List α} (h : zg w0 W g f0 f1) (ho : d.R e W base ok v xs) (ht : e ≠ 117) : some g ≠ v.ownBlock := by
  obtain ⟨A0, c0, hb, hg, hr0⟩ := h; exact Kd.R_ne ho hb ht
theorem zg.apartQ {w0 W : World} {g : Nat} {f0 : List Int} {f1 : Int} {α : Type} {d : Kd α} {e : Nat} {base : Nat} {ok : Nat → Prop} {v : Value} {xs : List α} (h : zg w0 W g f0 f1) (ho : d.Q e W base ok v xs) (ht : ∀ q, q ∈ e :: d.E → q ≠ 117) : d.Q e W base (fun k => ok k ∧ k ≠ g) v xs := by
  obtain ⟨A0, c0, hb, hg, hr0⟩ := h; exact Kd.zcr ho hb ht
theorem zg.lt {w0 W : World} {g : Nat} {f0 : List Int} {f1 : Int} (h : zg w0 W g f0 f1) : g < W.heap.size := by
  obtain ⟨A0, c0, hb, hg, hr0⟩ := h; exact zbn hb
theorem zg.ge {w0 W : World} {g : Nat} {f0 : List Int} {f1 : Int} (h : zg w0 W g f0 f1) : w0.heap.size ≤ g := by
  obtain ⟨A0, c0, hb, hg, hr0⟩ := h; exact hg
theorem zg.ne_blk {w0 W : World} {g : Nat} {f0 : List Int} {f1 : Int} {a : Nat} {cs : Array Value} {t : TypeId} {fr : Nat × Nat} (h : zg w0 W g f0 f1) (hb2 : W.heap[a]? = some (.cells cs t fr)) (ht : t ≠ 117) : g ≠ a := by
  obtain ⟨A0, c0, hb, hg, hr0⟩ := h; rintro rfl; rw [hb] at hb2; injection hb2 with hb2
  injection hb2 with _ ht2
  exact ht ht2.symm
theorem zg.far {w0 W : World} {g : Nat} {f0 : List Int} {f1 : Int} {p : Addr} (h : zg w0 W g f0 f1) (hne : g ≠ p.block) (u : Value) : zg w0 (W.setCell p u) g f0 f1 := by
  obtain ⟨A0, c0, hb, hg, hr0⟩ := h; exact ⟨A0, c0, zaA hb hne u, hg, hr0⟩
theorem zcN {W : World} {g : Nat} {A0 : Option Addr} {c0 : Nat} {f0 : List Int} {f1 : Int} (h : W.heap[g]? = some (.cells #[.slice A0 f0.length c0, .int .i64 f1] 117 (0, 0))) : W.cell? ⟨g, 0, none⟩ = some (.slice A0 f0.length c0) := (zi h 0).trans rfl
theorem zcO {W : World} {g : Nat} {A0 : Option Addr} {c0 : Nat} {f0 : List Int} {f1 : Int} (h : W.heap[g]? = some (.cells #[.slice A0 f0.length c0, .int .i64 f1] 117 (0, 0))) : W.cell? ⟨g, 1, none⟩ = some (.int .i64 f1) := (zi h 1).trans rfl
theorem zg.set_1 {w0 W : World} {g : Nat} {f0 : List Int} {f1 : Int} (h : zg w0 W g f0 f1) (x : Int) : zg w0 (W.setCell ⟨g, 1, none⟩ (.int .i64 x)) g f0 x := by
  obtain ⟨A0, c0, hb, hg, hr0⟩ := h; exact ⟨A0, c0, by simpa using zft hb 1 (.int .i64 x), hg, hr0⟩
def zbO.f (l0 : List Int) : Option (List Int × Int) := if (l0.length : Int) > 2000 then (if 2000 ≤ (l0.length : Int) then (some (l0.take 2000, 0)) else (none)) else (some (l0, 0))
set_option maxHeartbeats 8000000 in
set_option maxRecDepth 100000 in
theorem zbO.calls (A0 : Option Addr) (c0 : Nat) (l0 : List Int) (r1 : List Int) (r2 : Int) (w0 w : World) (hB : Below w0.heap.size w0 w) (hr0 : Kd.C (Kd.int .u8) w0 A0 l0.length l0) (hc0 : l0.length ≤ c0) (h : zbO.f l0 = some (r1, r2)) :
    Calls Try.prog 53 #[.slice A0 l0.length c0] w fun e w' => ∃ g_ : Nat, e = .returned (.pointer (some ⟨g_, 0, none⟩)) ∧ zg w0 w' g_ r1 r2 ∧ Below w0.heap.size w0 w' ∧ Below w.heap.size w w' := by
  have hu117 := Try.underlying117; have HR0 := zb.mk hr0; have HC0 := zb.mk hc0; clear hr0 hc0; have HBW := zb.mk (Below.refl w.heap.size w); have HW0 := zb.mk hB.size; have HB := zb.mk hB; clear hB; have H : (if (l0.length : Int) > 2000 then (if 2000 ≤ (l0.length : Int) then (some (l0.take 2000, 0)) else (none)) else (some (l0, 0))) = some (r1, r2) := h; clear h
  by_cases c2 : (l0.length : Int) > 2000
  · rw [if_pos c2] at H; have c2b0 : decide (2000 < (l0.length : Int)) = true := decide_eq_true c2; have c2b1 : decide (2000 < l0.length) = true := decide_eq_true (by omega); clear c2
    by_cases c3 : 2000 ≤ (l0.length : Int)
    · rw [if_pos c3] at H; have c3b0 := eq_true c3; have c3b1 : decide (2000 ≤ (l0.length : Int)) = true := decide_eq_true c3; clear c3; simp only [Option.some.injEq, Prod.mk.injEq] at H; obtain ⟨rfl, rfl⟩ := H; obtain ⟨i04, hi04, _, hsz4, _⟩ := info_parts info5; obtain ⟨hcut4, hA4, hC4⟩ := zex (P := Try.prog) (Value.int .u8) 0 34 5 .i64 Try.underlying34 hi04 hsz4 A0 c0 l0 2000 (by omega) (of_decide_eq_true (by first | (with_reducible assumption) | assumption)) HC0.out; have HR101 := zb.mk (Kd.zen (h1 := fun _ => rfl) (hA4 _ (Kd.zdo HR0.out))); have HC101 := zb.mk hC4; clear hA4 hC4 hi04 hsz4
      go_enter Try.func53, Try.ntmps53
      go_wp2_with (first | ((with_reducible refine zV (N := 10) rfl ?_); refine zal ?hg (N := 10) ?hd (cs := #[.slice A0 (l0.take 2000).length c0, .int .i64 0]) (t := 117) ?hr ?_; (case hd => rfl); (case hg => rfl); (case hr => first | (go_simp; done) | (go_simp; rfl)); intro gb102 hg w5 hbox hb; have n0_ := zb.mk (zw HBW.out hb); have n1_ := zb.mk (zw (by repeat (first | (with_reducible first | exact HB.out | apply zf | apply za | apply ze) | exact HB.out | exact Below.refl _ _)) hb); have n2_ := zb.mk (hbox); have n3_ := zb.mk ((by rw [hg]; exact (zo (by repeat (first | (with_reducible first | exact HBW.out | apply zf | apply za | apply ze) | exact HBW.out))) : w.heap.size ≤ gb102)); have n4_ := zb.mk ((Nat.le_trans HW0.out (by rw [hg]; exact (zo (by repeat (first | (with_reducible first | exact HBW.out | apply zf | apply za | apply ze) | exact HBW.out))) : w.heap.size ≤ gb102) : w0.heap.size ≤ gb102)); clear HBW; clear HB; have HBW := n0_; have HB := n1_; have BK102 := n2_; have GW102 := n3_; have GE102 := n4_; clear n0_ n1_ n2_ n3_ n4_; clear hb hbox hg)); go_ret; exact ⟨_, rfl, (show zg w0 _ gb102 (l0.take 2000) 0 from ⟨_, _, by (with_reducible repeat (first | refine zl ?_ _ | refine zm ?_ | refine zk ?_ _)); exact BK102.out, GE102.out, HR101.out⟩), by repeat (first | (with_reducible first | exact HB.out | apply zf | apply za | apply ze | refine zh ?_ GE102.out) | exact HB.out), by repeat (first | (with_reducible first | exact HBW.out | apply zf | apply za | apply ze | refine zh ?_ GW102.out) | exact HBW.out)⟩
    · rw [if_neg c3] at H; exact absurd H (by simp)
  · rw [if_neg c2] at H; have c2b0 : decide (2000 < (l0.length : Int)) = false := decide_eq_false c2; have c2b1 : decide (2000 < l0.length) = false := decide_eq_false (by omega); clear c2; simp only [Option.some.injEq, Prod.mk.injEq] at H; obtain ⟨rfl, rfl⟩ := H
    go_enter Try.func53, Try.ntmps53
    go_wp2_with (first | ((with_reducible refine zV (N := 10) rfl ?_); refine zal ?hg (N := 10) ?hd (cs := #[.slice A0 l0.length c0, .int .i64 0]) (t := 117) ?hr ?_; (case hd => rfl); (case hg => rfl); (case hr => first | (go_simp; done) | (go_simp; rfl)); intro gb103 hg w6 hbox hb; have n0_ := zb.mk (zw HBW.out hb); have n1_ := zb.mk (zw (by repeat (first | (with_reducible first | exact HB.out | apply zf | apply za | apply ze) | exact HB.out | exact Below.refl _ _)) hb); have n2_ := zb.mk (hbox); have n3_ := zb.mk ((by rw [hg]; exact (zo (by repeat (first | (with_reducible first | exact HBW.out | apply zf | apply za | apply ze) | exact HBW.out))) : w.heap.size ≤ gb103)); have n4_ := zb.mk ((Nat.le_trans HW0.out (by rw [hg]; exact (zo (by repeat (first | (with_reducible first | exact HBW.out | apply zf | apply za | apply ze) | exact HBW.out))) : w.heap.size ≤ gb103) : w0.heap.size ≤ gb103)); clear HBW; clear HB; have HBW := n0_; have HB := n1_; have BK103 := n2_; have GW103 := n3_; have GE103 := n4_; clear n0_ n1_ n2_ n3_ n4_; clear hb hbox hg)); go_ret; exact ⟨_, rfl, (show zg w0 _ gb103 l0 0 from ⟨_, _, by (with_reducible repeat (first | refine zl ?_ _ | refine zm ?_ | refine zk ?_ _)); exact BK103.out, GE103.out, HR0.out⟩), by repeat (first | (with_reducible first | exact HB.out | apply zf | apply za | apply ze | refine zh ?_ GE103.out) | exact HB.out), by repeat (first | (with_reducible first | exact HBW.out | apply zf | apply za | apply ze | refine zh ?_ GW103.out) | exact HBW.out)⟩
end Go.Proofs.Ytmipjlbkcfpkiaa.K

end
section
namespace Go.Proofs.Ytmipjlbkcfpkiaa.K
open Go.RowKit Go.Proofs.YtmipjlbkcfpkiaaW.PrintWords Go.Proofs.YtmipjlbkcfpkiaaW.PrintLast Go.Proofs.YtmipjlbkcfpkiaaW.PrintMore
attribute [local go_sem] zao zar zaE zaD zad zac zaq zan
set_option linter.unusedVariables false
set_option linter.unusedSimpArgs false
def zu.j0 : Nat → Int → Bool → List Int → Int → Option (Int × Int)
  | 0, _, _, _, _ => none
  | k + 1, x1, x24, x1000, x1001 => if x24 = true then (some (0, x1001)) else (if (wrap64 (x1001 - 1)) < (x1000.length : Int) then (if 0 ≤ (wrap64 (x1001 - 1)) then (if x1 = 0 then (none) else (some (Int.tmod (wrap64 (rd x1000 (wrap64 (x1001 - 1)))) x1, x1001))) else (none)) else (if (x1000.length : Int) = 0 then (none) else (if 0 ≤ (Int.tmod (wrap64 (x1001 - 1)) (x1000.length : Int)) then (if (Int.tmod (wrap64 (x1001 - 1)) (x1000.length : Int)) < (x1000.length : Int) then (if 0 ≤ (Int.tmod (wrap64 ((wrap64 ((wrap64 (x1001 - 1)) * 7)) + 3)) (x1000.length : Int)) then (if (Int.tmod (wrap64 ((wrap64 ((wrap64 (x1001 - 1)) * 7)) + 3)) (x1000.length : Int)) < (x1000.length : Int) then (if x1 = 0 then (none) else (some (Int.tmod (Go.bits .xor .i64 (wrap64 ((wrap64 ((wrap64 ((wrap64 ((wrap64 (rd x1000 (Int.tmod (wrap64 (x1001 - 1)) (x1000.length : Int)))) * 131)) + (wrap64 ((wrap64 (rd x1000 (Int.tmod (wrap64 ((wrap64 ((wrap64 (x1001 - 1)) * 7)) + 3)) (x1000.length : Int)))) * 1117)))) + (wrap64 ((wrap64 (x1001 - 1)) * 29)))) + (wrap64 ((wrap64 (Int.tdiv (wrap64 (x1001 - 1)) (x1000.length : Int))) * 53)))) (wrap64 (Int.tdiv (wrap64 ((wrap64 ((wrap64 ((wrap64 ((wrap64 (rd x1000 (Int.tmod (wrap64 (x1001 - 1)) (x1000.length : Int)))) * 131)) + (wrap64 ((wrap64 (rd x1000 (Int.tmod (wrap64 ((wrap64 ((wrap64 (x1001 - 1)) * 7)) + 3)) (x1000.length : Int)))) * 1117)))) + (wrap64 ((wrap64 (x1001 - 1)) * 29)))) + (wrap64 ((wrap64 (Int.tdiv (wrap64 (x1001 - 1)) (x1000.length : Int))) * 53)))) 64))) x1, x1001))) else (none)) else (none)) else (none)) else (none))))
def zu.f (k : Nat) (s0_0 : List Int) (s0_1 : Int) (a1 : Int) : Option (Int × Int) := if a1 < 1 then (zu.j0 k a1 true s0_0 (wrap64 (s0_1 + 1))) else (zu.j0 k a1 ((s0_0.length : Int) == 0) s0_0 (wrap64 (s0_1 + 1)))
theorem zu.zbI : ∀ k, (∀ y0 y1 y2 y3, LeO (zu.j0 k y0 y1 y2 y3) (zu.j0 (k + 1) y0 y1 y2 y3))
  | 0 => fun _ _ _ _ r h => by simp [zu.j0] at h
  | k + 1 => by
    have ih0 := zu.zbI k
    · intro y0 y1 y2 y3; unfold zu.j0
      repeat' first
      | (with_reducible exact ih0 _ _ _ _)
      | (with_reducible exact LeO.refl _)
      | (with_reducible exact LeO.none _)
      | (with_reducible refine LeO.ite ?_ ?_)
      | (with_reducible refine LeO.bind ?_ (fun _ => ?_))
      | exact ih0 _ _ _ _
      | exact LeO.none _
      | refine LeO.ite ?_ ?_
      | refine LeO.bind ?_ (fun _ => ?_)
theorem zu.mono : ∀ a0 a1 a2 k, LeO (zu.f k a0 a1 a2) (zu.f (k + 1) a0 a1 a2) := by
  intro a0 a1 a2 k; have ih0 := zu.zbI k; unfold zu.f
  repeat' first
      | (with_reducible exact ih0 _ _ _ _)
      | (with_reducible exact LeO.refl _)
      | (with_reducible exact LeO.none _)
      | (with_reducible refine LeO.ite ?_ ?_)
      | (with_reducible refine LeO.bind ?_ (fun _ => ?_))
      | exact ih0 _ _ _ _
      | exact LeO.none _
      | refine LeO.ite ?_ ?_
      | refine LeO.bind ?_ (fun _ => ?_)
set_option maxHeartbeats 8000000 in
set_option maxRecDepth 100000 in
theorem zu.calls (k : Nat) (g : Nat) (s0_0 : List Int) (s0_1 : Int) (a1 : Int) (r1 : Int) (r2 : Int) (w0 w : World) (hI : zg w0 w g s0_0 s0_1) (hB : Below w0.heap.size w0 w) (h : zu.f k s0_0 s0_1 a1 = some (r1, r2)) :
    Calls Try.prog 54 #[.pointer (some ⟨g, 0, none⟩), .int .i64 a1] w fun e w' => e = .returned (.int .i64 r1) ∧ zg w0 w' g s0_0 r2 ∧ Below w0.heap.size w0 w' ∧ zx w w' g none := by
  have HI0 := zb.mk hI; have HK := zb.mk (zx.refl w g none); have HL := zb.mk hB.size; clear hI; have HW0 := zb.mk hB.size; have HB := zb.mk hB; clear hB; have H : (if a1 < 1 then (zu.j0 k a1 true s0_0 (wrap64 (s0_1 + 1))) else (zu.j0 k a1 ((s0_0.length : Int) == 0) s0_0 (wrap64 (s0_1 + 1)))) = some (r1, r2) := h; clear h; have HC3 := zb.mk H; clear H; obtain ⟨ASz4_0, cSz4_0, HGz4, hgz4, HSz4_0⟩ := HI0.out; have hcz4_0 := zcN HGz4; have hcz4_1 := zcO HGz4; have hfz4_1 := zn HGz4 1; clear HGz4 hgz4
  go_enter Try.func54, Try.ntmps54
  go_upto_region 2 with (fail)
  repeat (go_quiet (fail); go_upto_region 2 with (fail))
  go_cut [24] (fun v24 wc => ∃ (kq : Nat) (x24_2 : Bool), v24 = .bool x24_2 ∧ zb (zu.j0 kq a1 x24_2 s0_0 (wrap64 (s0_1 + 1)) = some (r1, r2)) ∧ zb (kq ≤ k) ∧ zb (zg w0 wc g s0_0 (wrap64 (s0_1 + 1))) ∧ zb (zx w wc g none) ∧ zb (Below w0.heap.size w0 wc))
  case first =>
    have H := HC3.out; clear HC3
    by_cases c5 : a1 < 1
    · rw [if_pos c5] at H; have c5b0 : decide (a1 < 1) = true := decide_eq_true c5; clear c5; (first | rw [c5b0] | (simp only [i64_w, i32_w]; rw [c5b0]) | skip); have H' := zb.mk H; clear H; go_wp2
      repeat (go_quiet (fail); try go_wp2)
      go_meet
      case rel => exact ⟨_, (true), (by first | rfl | (simp; done) | (simp [*]; done)), H', ⟨by first | omega | exact Nat.le_refl _⟩, ⟨by repeat (first | (with_reducible first | exact HI0.out | apply zg.alloc | apply zg.drewN | apply zg.drew | apply zg.set_1) | exact HI0.out)⟩, ⟨by repeat (first | (with_reducible first | exact HK.out | apply zx.set_ | apply zC | apply zG | apply zD) | exact HK.out)⟩, ⟨by repeat (first | (with_reducible first | exact HB.out | apply zf | apply za | apply ze | refine zh ?_ (zg.ge HI0.out)) | exact HB.out)⟩⟩
    · rw [if_neg c5] at H; have c5b0 : decide (a1 < 1) = false := decide_eq_false c5; clear c5; (first | rw [c5b0] | (simp only [i64_w, i32_w]; rw [c5b0]) | skip); have H' := zb.mk H; clear H; obtain ⟨ASz6_0, cSz6_0, HGz6, hgz6, HSz6_0⟩ := HI0.out; have hcz6_0 := zcN HGz6; have hcz6_1 := zcO HGz6; have hfz6_1 := zn HGz6 1; clear HGz6 hgz6; go_wp2
      repeat (go_quiet (fail); try go_wp2)
      go_meet
      case rel => exact ⟨_, (((s0_0.length : Int) == 0)), (by first | rfl | (simp; done) | (simp [*]; done)), H', ⟨by first | omega | exact Nat.le_refl _⟩, ⟨by repeat (first | (with_reducible first | exact HI0.out | apply zg.alloc | apply zg.drewN | apply zg.drew | apply zg.set_1) | exact HI0.out)⟩, ⟨by repeat (first | (with_reducible first | exact HK.out | apply zx.set_ | apply zC | apply zG | apply zD) | exact HK.out)⟩, ⟨by repeat (first | (with_reducible first | exact HB.out | apply zf | apply za | apply ze | refine zh ?_ (zg.ge HI0.out)) | exact HB.out)⟩⟩
  case rest =>
    clear HC3
    try clear p2
    try clear c5
    try clear c5b0
    try clear p6
    try clear hcz4_0
    try clear hcz4_1
    try clear hcz6_0
    try clear hcz6_1
    try clear hfz4_1
    try clear hfz6_1
    obtain ⟨kq, x24_2, rfl, HA, HJ2, HI0, HK, HB⟩ := hcut; cases kq with
    | zero => exact absurd HA.out (by simp [zu.j0])
    | succ kj2 =>
      have H := HA.out; clear HA; simp only [zu.j0] at H
      by_cases c7 : x24_2 = true
      · subst c7; have H1 : (some (0, (wrap64 (s0_1 + 1)))) = some (r1, r2) := by rw [if_pos rfl] at H; exact H
        clear H; have H := H1; clear H1; simp only [Option.some.injEq, Prod.mk.injEq] at H; obtain ⟨rfl, rfl⟩ := H; go_wp2
        repeat (go_quiet (fail); try go_wp2)
        go_ret; exact ⟨by first | rfl | (simp [zA, zB] <;> rfl) | (simp [*, zA, zB] <;> rfl), by repeat (first | (with_reducible first | exact HI0.out | apply zg.alloc | apply zg.drewN | apply zg.drew | apply zg.set_1) | exact HI0.out), by repeat (first | (with_reducible first | exact HB.out | apply zf | apply za | apply ze | refine zh ?_ (zg.ge HI0.out)) | exact HB.out), by repeat (first | (with_reducible first | exact HK.out | apply zx.set_ | apply zC | apply zG | apply zD) | exact HK.out)⟩
      · replace c7 := Bool.eq_false_iff.mpr c7; subst c7; have H1 : (if (wrap64 ((wrap64 (s0_1 + 1)) - 1)) < (s0_0.length : Int) then (if 0 ≤ (wrap64 ((wrap64 (s0_1 + 1)) - 1)) then (if a1 = 0 then (none) else (some (Int.tmod (wrap64 (rd s0_0 (wrap64 ((wrap64 (s0_1 + 1)) - 1)))) a1, (wrap64 (s0_1 + 1))))) else (none)) else (if (s0_0.length : Int) = 0 then (none) else (if 0 ≤ (Int.tmod (wrap64 ((wrap64 (s0_1 + 1)) - 1)) (s0_0.length : Int)) then (if (Int.tmod (wrap64 ((wrap64 (s0_1 + 1)) - 1)) (s0_0.length : Int)) < (s0_0.length : Int) then (if 0 ≤ (Int.tmod (wrap64 ((wrap64 ((wrap64 ((wrap64 (s0_1 + 1)) - 1)) * 7)) + 3)) (s0_0.length : Int)) then (if (Int.tmod (wrap64 ((wrap64 ((wrap64 ((wrap64 (s0_1 + 1)) - 1)) * 7)) + 3)) (s0_0.length : Int)) < (s0_0.length : Int) then (if a1 = 0 then (none) else (some (Int.tmod (Go.bits .xor .i64 (wrap64 ((wrap64 ((wrap64 ((wrap64 ((wrap64 (rd s0_0 (Int.tmod (wrap64 ((wrap64 (s0_1 + 1)) - 1)) (s0_0.length : Int)))) * 131)) + (wrap64 ((wrap64 (rd s0_0 (Int.tmod (wrap64 ((wrap64 ((wrap64 ((wrap64 (s0_1 + 1)) - 1)) * 7)) + 3)) (s0_0.length : Int)))) * 1117)))) + (wrap64 ((wrap64 ((wrap64 (s0_1 + 1)) - 1)) * 29)))) + (wrap64 ((wrap64 (Int.tdiv (wrap64 ((wrap64 (s0_1 + 1)) - 1)) (s0_0.length : Int))) * 53)))) (wrap64 (Int.tdiv (wrap64 ((wrap64 ((wrap64 ((wrap64 ((wrap64 (rd s0_0 (Int.tmod (wrap64 ((wrap64 (s0_1 + 1)) - 1)) (s0_0.length : Int)))) * 131)) + (wrap64 ((wrap64 (rd s0_0 (Int.tmod (wrap64 ((wrap64 ((wrap64 ((wrap64 (s0_1 + 1)) - 1)) * 7)) + 3)) (s0_0.length : Int)))) * 1117)))) + (wrap64 ((wrap64 ((wrap64 (s0_1 + 1)) - 1)) * 29)))) + (wrap64 ((wrap64 (Int.tdiv (wrap64 ((wrap64 (s0_1 + 1)) - 1)) (s0_0.length : Int))) * 53)))) 64))) a1, (wrap64 (s0_1 + 1))))) else (none)) else (none)) else (none)) else (none)))) = some (r1, r2) := by rw [if_neg (show ¬ (false = true) by decide)] at H; exact H
        clear H; have H := H1; clear H1
        by_cases c8 : (wrap64 ((wrap64 (s0_1 + 1)) - 1)) < (s0_0.length : Int)
        · rw [if_pos c8] at H; have c8b0 : decide ((wrap64 ((wrap64 (s0_1 + 1)) - 1)) < (s0_0.length : Int)) = true := decide_eq_true c8; clear c8; obtain ⟨ji9, hji9⟩ : ∃ j_ : Int, (wrap64 ((wrap64 (s0_1 + 1)) - 1)) = j_ := ⟨_, rfl⟩
          replace H : (if 0 ≤ (ji9) then (if a1 = 0 then (none) else (some (Int.tmod (wrap64 (rd s0_0 (ji9))) a1, (wrap64 (s0_1 + 1))))) else (none)) = some (r1, r2) := by first | (rw [hji9] at H; exact H) | (simp only [hji9] at H ⊢; exact H)
          (try rw [hji9] at c8b0)
          have hji9w : (IntKind.i64.wrap ((wrap64 (s0_1 + 1)) - 1)) = ji9 := (i64_w _).trans hji9
          by_cases c10 : 0 ≤ (ji9)
          · rw [if_pos c10] at H; have c10b0 : decide (0 ≤ (ji9)) = true := decide_eq_true c10; clear c10
            by_cases c11 : a1 = 0
            · rw [if_pos c11] at H; exact absurd H (by simp)
            · rw [if_neg c11] at H; have c11b0 : (a1 == 0) = false := beq_eq_false_iff_ne.mpr c11; have c11b1 : (a1 != 0) = true := bne_iff_ne.mpr c11; simp only [Option.some.injEq, Prod.mk.injEq] at H; obtain ⟨rfl, rfl⟩ := H; obtain ⟨ASz12_0, cSz12_0, HGz12, hgz12, HSz12_0⟩ := HI0.out; have hcz12_0 := zcN HGz12; have hcz12_1 := zcO HGz12; have hfz12_1 := zn HGz12 1; clear HGz12 hgz12; have p101 : 0 ≤ ((ji9) : Int) := of_decide_eq_true (by first | (with_reducible assumption) | assumption); have q101 : (ji9) < (s0_0.length : Int) := of_decide_eq_true (by first | (with_reducible assumption) | assumption); obtain ⟨ad101, e101, hx101_0⟩ := Kd.zaR HSz12_0 (ji9) p101 q101; cases e101; replace hx101_0 := zbR HB.out hx101_0; replace p101 := eq_true p101; replace q101 := eq_true q101; go_wp2
              repeat (go_quiet (fail); try go_wp2)
              go_ret; exact ⟨by first | rfl | (simp [zA, zB] <;> rfl) | (simp only [← hji9]; first | rfl | (simp [zA, zB] <;> rfl)) | (simp [*, zA, zB] <;> rfl), by repeat (first | (with_reducible first | exact HI0.out | apply zg.alloc | apply zg.drewN | apply zg.drew | apply zg.set_1) | exact HI0.out), by repeat (first | (with_reducible first | exact HB.out | apply zf | apply za | apply ze | refine zh ?_ (zg.ge HI0.out)) | exact HB.out), by repeat (first | (with_reducible first | exact HK.out | apply zx.set_ | apply zC | apply zG | apply zD) | exact HK.out)⟩
          · rw [if_neg c10] at H; exact absurd H (by simp)
        · rw [if_neg c8] at H; have c8b0 : decide ((wrap64 ((wrap64 (s0_1 + 1)) - 1)) < (s0_0.length : Int)) = false := decide_eq_false c8; clear c8
          by_cases c13 : (s0_0.length : Int) = 0
          · rw [if_pos c13] at H; exact absurd H (by simp)
          · rw [if_neg c13] at H; have c13b0 : ((s0_0.length : Int) == 0) = false := beq_eq_false_iff_ne.mpr c13; have c13b1 : ((s0_0.length : Int) != 0) = true := bne_iff_ne.mpr c13; have c13b2 : ¬ (s0_0 = []) := fun h_ => c13 (by rw [h_]; rfl)
            obtain ⟨ji14, hji14⟩ : ∃ j_ : Int, (Int.tmod (wrap64 ((wrap64 (s0_1 + 1)) - 1)) (s0_0.length : Int)) = j_ := ⟨_, rfl⟩
            replace H : (if 0 ≤ (ji14) then (if (ji14) < (s0_0.length : Int) then (if 0 ≤ (Int.tmod (wrap64 ((wrap64 ((wrap64 ((wrap64 (s0_1 + 1)) - 1)) * 7)) + 3)) (s0_0.length : Int)) then (if (Int.tmod (wrap64 ((wrap64 ((wrap64 ((wrap64 (s0_1 + 1)) - 1)) * 7)) + 3)) (s0_0.length : Int)) < (s0_0.length : Int) then (if a1 = 0 then (none) else (some (Int.tmod (Go.bits .xor .i64 (wrap64 ((wrap64 ((wrap64 ((wrap64 ((wrap64 (rd s0_0 (ji14))) * 131)) + (wrap64 ((wrap64 (rd s0_0 (Int.tmod (wrap64 ((wrap64 ((wrap64 ((wrap64 (s0_1 + 1)) - 1)) * 7)) + 3)) (s0_0.length : Int)))) * 1117)))) + (wrap64 ((wrap64 ((wrap64 (s0_1 + 1)) - 1)) * 29)))) + (wrap64 ((wrap64 (Int.tdiv (wrap64 ((wrap64 (s0_1 + 1)) - 1)) (s0_0.length : Int))) * 53)))) (wrap64 (Int.tdiv (wrap64 ((wrap64 ((wrap64 ((wrap64 ((wrap64 (rd s0_0 (ji14))) * 131)) + (wrap64 ((wrap64 (rd s0_0 (Int.tmod (wrap64 ((wrap64 ((wrap64 ((wrap64 (s0_1 + 1)) - 1)) * 7)) + 3)) (s0_0.length : Int)))) * 1117)))) + (wrap64 ((wrap64 ((wrap64 (s0_1 + 1)) - 1)) * 29)))) + (wrap64 ((wrap64 (Int.tdiv (wrap64 ((wrap64 (s0_1 + 1)) - 1)) (s0_0.length : Int))) * 53)))) 64))) a1, (wrap64 (s0_1 + 1))))) else (none)) else (none)) else (none)) else (none)) = some (r1, r2) := by first | (rw [hji14] at H; exact H) | (simp only [hji14] at H ⊢; exact H)
            by_cases c15 : 0 ≤ (ji14)
            · rw [if_pos c15] at H; have c15b0 : decide (0 ≤ (ji14)) = true := decide_eq_true c15; clear c15
              by_cases c16 : (ji14) < (s0_0.length : Int)
              · rw [if_pos c16] at H; have c16b0 : decide ((ji14) < (s0_0.length : Int)) = true := decide_eq_true c16; clear c16; obtain ⟨ji17, hji17⟩ : ∃ j_ : Int, (Int.tmod (wrap64 ((wrap64 ((wrap64 ((wrap64 (s0_1 + 1)) - 1)) * 7)) + 3)) (s0_0.length : Int)) = j_ := ⟨_, rfl⟩
                replace H : (if 0 ≤ (ji17) then (if (ji17) < (s0_0.length : Int) then (if a1 = 0 then (none) else (some (Int.tmod (Go.bits .xor .i64 (wrap64 ((wrap64 ((wrap64 ((wrap64 ((wrap64 (rd s0_0 (ji14))) * 131)) + (wrap64 ((wrap64 (rd s0_0 (ji17))) * 1117)))) + (wrap64 ((wrap64 ((wrap64 (s0_1 + 1)) - 1)) * 29)))) + (wrap64 ((wrap64 (Int.tdiv (wrap64 ((wrap64 (s0_1 + 1)) - 1)) (s0_0.length : Int))) * 53)))) (wrap64 (Int.tdiv (wrap64 ((wrap64 ((wrap64 ((wrap64 ((wrap64 (rd s0_0 (ji14))) * 131)) + (wrap64 ((wrap64 (rd s0_0 (ji17))) * 1117)))) + (wrap64 ((wrap64 ((wrap64 (s0_1 + 1)) - 1)) * 29)))) + (wrap64 ((wrap64 (Int.tdiv (wrap64 ((wrap64 (s0_1 + 1)) - 1)) (s0_0.length : Int))) * 53)))) 64))) a1, (wrap64 (s0_1 + 1))))) else (none)) else (none)) = some (r1, r2) := by first | (rw [hji17] at H; exact H) | (simp only [hji17] at H ⊢; exact H)
                by_cases c18 : 0 ≤ (ji17)
                · rw [if_pos c18] at H; have c18b0 : decide (0 ≤ (ji17)) = true := decide_eq_true c18; clear c18
                  by_cases c19 : (ji17) < (s0_0.length : Int)
                  · rw [if_pos c19] at H; have c19b0 : decide ((ji17) < (s0_0.length : Int)) = true := decide_eq_true c19; clear c19
                    by_cases c20 : a1 = 0
                    · rw [if_pos c20] at H; exact absurd H (by simp)
                    · rw [if_neg c20] at H; have c20b0 : (a1 == 0) = false := beq_eq_false_iff_ne.mpr c20; have c20b1 : (a1 != 0) = true := bne_iff_ne.mpr c20; simp only [Option.some.injEq, Prod.mk.injEq] at H; obtain ⟨rfl, rfl⟩ := H; obtain ⟨ASz21_0, cSz21_0, HGz21, hgz21, HSz21_0⟩ := HI0.out; have hcz21_0 := zcN HGz21; have hcz21_1 := zcO HGz21; have hfz21_1 := zn HGz21 1; clear HGz21 hgz21; have p102 : 0 ≤ ((ji14) : Int) := of_decide_eq_true (by first | (with_reducible assumption) | assumption); have q102 : (ji14) < (s0_0.length : Int) := of_decide_eq_true (by first | (with_reducible assumption) | assumption); obtain ⟨ad102, e102, hx102_0⟩ := Kd.zaR HSz21_0 (ji14) p102 q102; cases e102; replace hx102_0 := zbR HB.out hx102_0; replace p102 := eq_true p102; replace q102 := eq_true q102; have p103 : 0 ≤ ((ji17) : Int) := of_decide_eq_true (by first | (with_reducible assumption) | assumption); have q103 : (ji17) < (s0_0.length : Int) := of_decide_eq_true (by first | (with_reducible assumption) | assumption); obtain ⟨ad103, e103, hx103_0⟩ := Kd.zaR HSz21_0 (ji17) p103 q103; obtain rfl : ad102 = ad103 := (by injection e103)
                      replace hx103_0 := zbR HB.out hx103_0; replace p103 := eq_true p103; replace q103 := eq_true q103; go_wp2
                      repeat (go_quiet (fail); try go_wp2)
                      go_ret; exact ⟨by first | rfl | (simp [zA, zB] <;> rfl) | (simp only [← hji14, ← hji17]; first | rfl | (simp [zA, zB] <;> rfl)) | (simp [*, zA, zB] <;> rfl), by repeat (first | (with_reducible first | exact HI0.out | apply zg.alloc | apply zg.drewN | apply zg.drew | apply zg.set_1) | exact HI0.out), by repeat (first | (with_reducible first | exact HB.out | apply zf | apply za | apply ze | refine zh ?_ (zg.ge HI0.out)) | exact HB.out), by repeat (first | (with_reducible first | exact HK.out | apply zx.set_ | apply zC | apply zG | apply zD) | exact HK.out)⟩
                  · rw [if_neg c19] at H; exact absurd H (by simp)
                · rw [if_neg c18] at H; exact absurd H (by simp)
              · rw [if_neg c16] at H; exact absurd H (by simp)
            · rw [if_neg c15] at H; exact absurd H (by simp)
end Go.Proofs.Ytmipjlbkcfpkiaa.K

end
section
namespace Go.Proofs.Ytmipjlbkcfpkiaa.K
open Go.RowKit Go.Proofs.YtmipjlbkcfpkiaaW.PrintWords Go.Proofs.YtmipjlbkcfpkiaaW.PrintLast Go.Proofs.YtmipjlbkcfpkiaaW.PrintMore
attribute [local go_sem] zao zar zaE zaD zad zac zaq zan
set_option linter.unusedVariables false
set_option linter.unusedSimpArgs false
def zay.f (a0 : Int) (a1 : Int) (a2 : Int) : Option (Bool) := if a0 ≥ a1 then (some (decide (a0 ≤ a2))) else (some false)
set_option maxHeartbeats 8000000 in
set_option maxRecDepth 100000 in
theorem zay.calls (a0 : Int) (a1 : Int) (a2 : Int) (r : Bool) (w : World) (h : zay.f a0 a1 a2 = some r) :
    Calls Try.prog 44 #[.int .i64 a0, .int .i64 a1, .int .i64 a2] w fun e w' => e = .returned (.bool r) ∧ zam w w' := by
  have H : (if a0 ≥ a1 then (some (decide (a0 ≤ a2))) else (some false)) = some r := h; clear h
  by_cases c4 : a0 ≥ a1
  · rw [if_pos c4] at H; have c4b0 : decide (a1 ≤ a0) = true := decide_eq_true c4; clear c4; obtain rfl := Option.some.inj H
    go_enter Try.func44, Try.ntmps44
    go_wp2; go_ret; exact ⟨by first | rfl | (simp; done) | (simp [*]; done), by repeat (first | exact zam.refl _ | apply zam.step)⟩
  · rw [if_neg c4] at H; have c4b0 : decide (a1 ≤ a0) = false := decide_eq_false c4; clear c4; obtain rfl := Option.some.inj H
    go_enter Try.func44, Try.ntmps44
    go_wp2; go_ret; exact ⟨by first | rfl | (simp; done) | (simp [*]; done), by repeat (first | exact zam.refl _ | apply zam.step)⟩
end Go.Proofs.Ytmipjlbkcfpkiaa.K

end
section
namespace Go.Proofs.Ytmipjlbkcfpkiaa.K
open Go.RowKit Go.Proofs.YtmipjlbkcfpkiaaW.PrintWords Go.Proofs.YtmipjlbkcfpkiaaW.PrintLast Go.Proofs.YtmipjlbkcfpkiaaW.PrintMore
attribute [local go_sem] zao zar zaE zaD zad zac zaq zan
set_option linter.unusedVariables false
set_option linter.unusedSimpArgs false
def zba.f (a0 : Int) : Option (Bool) := (zay.f a0 1 2).bind fun t101 => (some t101)
set_option maxHeartbeats 8000000 in
set_option maxRecDepth 100000 in
theorem zba.calls (a0 : Int) (r : Bool) (w : World) (h : zba.f a0 = some r) :
    Calls Try.prog 84 #[.int .i64 a0] w fun e w' => e = .returned (.bool r) ∧ zam w w' := by
  have H : ((zay.f a0 1 2).bind fun t101 => (some t101)) = some r := h; clear h; replace H := Option.bind_eq_some_iff.mp H; obtain ⟨t101, A20, H⟩ := H; replace H : (some t101) = some r := H; have A2 := zb.mk A20; clear A20; obtain rfl := Option.some.inj H
  go_enter Try.func84, Try.ntmps84
  go_wp2_with (first | ((with_reducible refine zz (f := 44) rfl ?_); refine zX (some 4) rfl rfl Try.func44 (by kernel_rfl) rfl #[.int .i64 a0, .int .i64 1, .int .i64 2] rfl (by (try simp only [List.map_toArray, List.map_cons, List.map_nil]); first | done | rfl | (simp only [List.length_drop, List.length_take]; rfl)) ?_; (with_reducible refine (zay.calls a0 1 2 t101 _ A2.out).mono ?_); rintro e w' ⟨rfl, ⟨nd, rfl⟩⟩; refine ⟨_, rfl, ?_⟩)); go_ret; exact ⟨by first | rfl | (simp; done) | (simp [*]; done), by repeat (first | exact zam.refl _ | apply zam.step)⟩
end Go.Proofs.Ytmipjlbkcfpkiaa.K

end
section
namespace Go.Proofs.Ytmipjlbkcfpkiaa.K
open Go.RowKit Go.Proofs.YtmipjlbkcfpkiaaW.PrintWords Go.Proofs.YtmipjlbkcfpkiaaW.PrintLast Go.Proofs.YtmipjlbkcfpkiaaW.PrintMore
attribute [local go_sem] zao zar zaE zaD zad zac zaq zan
set_option linter.unusedVariables false
set_option linter.unusedSimpArgs false
def zbh.f (a0 : Int) (a1 : Int) : Option (List Int) := if a0 = 1 then ((some (([(([1, 0, 0, 0] : List Int)), (([0, 1, 0, 0] : List Int)), (([0, 0, 1, 0] : List Int)), (([0, 0, 0, 1] : List Int)), (([1, 1, 0, 0] : List Int)), (([0, 0, 1, 1] : List Int)), (([1, 2, 4, 8] : List Int)), (([1, 3, 9, 27] : List Int))] : List (List Int)) : List (List Int))).bind fun y125 => (if 0 ≤ a1 then (if a1 < (y125.length : Int) then (some (rd_L5 y125 a1)) else (none)) else (none))) else (some (([1, wrap64 (a1 + 1), Int.tmod (wrap64 ((wrap64 (a1 + 1)) * (wrap64 (a1 + 1)))) 31, Int.tmod (wrap64 ((wrap64 ((wrap64 (a1 + 1)) * (wrap64 (a1 + 1)))) * (wrap64 (a1 + 1)))) 31] : List Int)))
set_option maxHeartbeats 8000000 in
set_option maxRecDepth 100000 in
theorem zbh.calls (a0 : Int) (a1 : Int) (r : List Int) (w : World) (h : zbh.f a0 a1 = some r) :
    Calls Try.prog 87 #[.int .i64 a0, .int .i64 a1] w fun e w' => ∃ v0_ : Value, e = .returned (v0_) ∧ Kd.V (Kd.int .i64) 3 w' w.heap.size (fun k_ => (w.heap.size ≤ k_)) v0_ r ∧ Below w.heap.size w w' := by
  have HB := zb.mk (Below.refl w.heap.size w); have H : (if a0 = 1 then ((some (([(([1, 0, 0, 0] : List Int)), (([0, 1, 0, 0] : List Int)), (([0, 0, 1, 0] : List Int)), (([0, 0, 0, 1] : List Int)), (([1, 1, 0, 0] : List Int)), (([0, 0, 1, 1] : List Int)), (([1, 2, 4, 8] : List Int)), (([1, 3, 9, 27] : List Int))] : List (List Int)) : List (List Int))).bind fun y125 => (if 0 ≤ a1 then (if a1 < (y125.length : Int) then (some (rd_L5 y125 a1)) else (none)) else (none))) else (some (([1, wrap64 (a1 + 1), Int.tmod (wrap64 ((wrap64 (a1 + 1)) * (wrap64 (a1 + 1)))) 31, Int.tmod (wrap64 ((wrap64 ((wrap64 (a1 + 1)) * (wrap64 (a1 + 1)))) * (wrap64 (a1 + 1)))) 31] : List Int)))) = some r := h; clear h
  by_cases c3 : a0 = 1
  · rw [if_pos c3] at H; have c3b0 : (a0 == 1) = true := beq_iff_eq.mpr c3; have c3b1 : (a0 != 1) = false := bne_eq_false_iff_eq.mpr c3; clear c3; obtain ⟨y101, hy101⟩ : ∃ y_ : List Int, y_ = (([1, 0, 0, 0] : List Int)) := ⟨_, rfl⟩
    replace H : ((some (([y101, (([0, 1, 0, 0] : List Int)), (([0, 0, 1, 0] : List Int)), (([0, 0, 0, 1] : List Int)), (([1, 1, 0, 0] : List Int)), (([0, 0, 1, 1] : List Int)), (([1, 2, 4, 8] : List Int)), (([1, 3, 9, 27] : List Int))] : List (List Int)) : List (List Int))).bind fun y125 => (if 0 ≤ a1 then (if a1 < (y125.length : Int) then (some (rd_L5 y125 a1)) else (none)) else (none))) = some r := by first | (rw [hy101]; with_reducible exact H) | (have H2_ := (Option.bind_some _ _).symm.trans H; rw [hy101]; with_reducible exact H2_) | (have H2_ := (Option.bind_some _ _).symm.trans H; with_reducible exact H2_) | with_reducible exact H | (rw [hy101]; exact H) | exact H
    have Ny101 := zb.mk hy101; clear hy101; obtain ⟨y104, hy104⟩ : ∃ y_ : List Int, y_ = (([0, 1, 0, 0] : List Int)) := ⟨_, rfl⟩
    replace H : ((some (([y101, y104, (([0, 0, 1, 0] : List Int)), (([0, 0, 0, 1] : List Int)), (([1, 1, 0, 0] : List Int)), (([0, 0, 1, 1] : List Int)), (([1, 2, 4, 8] : List Int)), (([1, 3, 9, 27] : List Int))] : List (List Int)) : List (List Int))).bind fun y125 => (if 0 ≤ a1 then (if a1 < (y125.length : Int) then (some (rd_L5 y125 a1)) else (none)) else (none))) = some r := by first | (rw [hy104]; with_reducible exact H) | (have H2_ := (Option.bind_some _ _).symm.trans H; rw [hy104]; with_reducible exact H2_) | (have H2_ := (Option.bind_some _ _).symm.trans H; with_reducible exact H2_) | with_reducible exact H | (rw [hy104]; exact H) | exact H
    have Ny104 := zb.mk hy104; clear hy104; obtain ⟨y107, hy107⟩ : ∃ y_ : List Int, y_ = (([0, 0, 1, 0] : List Int)) := ⟨_, rfl⟩
    replace H : ((some (([y101, y104, y107, (([0, 0, 0, 1] : List Int)), (([1, 1, 0, 0] : List Int)), (([0, 0, 1, 1] : List Int)), (([1, 2, 4, 8] : List Int)), (([1, 3, 9, 27] : List Int))] : List (List Int)) : List (List Int))).bind fun y125 => (if 0 ≤ a1 then (if a1 < (y125.length : Int) then (some (rd_L5 y125 a1)) else (none)) else (none))) = some r := by first | (rw [hy107]; with_reducible exact H) | (have H2_ := (Option.bind_some _ _).symm.trans H; rw [hy107]; with_reducible exact H2_) | (have H2_ := (Option.bind_some _ _).symm.trans H; with_reducible exact H2_) | with_reducible exact H | (rw [hy107]; exact H) | exact H
    have Ny107 := zb.mk hy107; clear hy107; obtain ⟨y110, hy110⟩ : ∃ y_ : List Int, y_ = (([0, 0, 0, 1] : List Int)) := ⟨_, rfl⟩
    replace H : ((some (([y101, y104, y107, y110, (([1, 1, 0, 0] : List Int)), (([0, 0, 1, 1] : List Int)), (([1, 2, 4, 8] : List Int)), (([1, 3, 9, 27] : List Int))] : List (List Int)) : List (List Int))).bind fun y125 => (if 0 ≤ a1 then (if a1 < (y125.length : Int) then (some (rd_L5 y125 a1)) else (none)) else (none))) = some r := by first | (rw [hy110]; with_reducible exact H) | (have H2_ := (Option.bind_some _ _).symm.trans H; rw [hy110]; with_reducible exact H2_) | (have H2_ := (Option.bind_some _ _).symm.trans H; with_reducible exact H2_) | with_reducible exact H | (rw [hy110]; exact H) | exact H
    have Ny110 := zb.mk hy110; clear hy110; obtain ⟨y113, hy113⟩ : ∃ y_ : List Int, y_ = (([1, 1, 0, 0] : List Int)) := ⟨_, rfl⟩
    replace H : ((some (([y101, y104, y107, y110, y113, (([0, 0, 1, 1] : List Int)), (([1, 2, 4, 8] : List Int)), (([1, 3, 9, 27] : List Int))] : List (List Int)) : List (List Int))).bind fun y125 => (if 0 ≤ a1 then (if a1 < (y125.length : Int) then (some (rd_L5 y125 a1)) else (none)) else (none))) = some r := by first | (rw [hy113]; with_reducible exact H) | (have H2_ := (Option.bind_some _ _).symm.trans H; rw [hy113]; with_reducible exact H2_) | (have H2_ := (Option.bind_some _ _).symm.trans H; with_reducible exact H2_) | with_reducible exact H | (rw [hy113]; exact H) | exact H
    have Ny113 := zb.mk hy113; clear hy113; obtain ⟨y116, hy116⟩ : ∃ y_ : List Int, y_ = (([0, 0, 1, 1] : List Int)) := ⟨_, rfl⟩
    replace H : ((some (([y101, y104, y107, y110, y113, y116, (([1, 2, 4, 8] : List Int)), (([1, 3, 9, 27] : List Int))] : List (List Int)) : List (List Int))).bind fun y125 => (if 0 ≤ a1 then (if a1 < (y125.length : Int) then (some (rd_L5 y125 a1)) else (none)) else (none))) = some r := by first | (rw [hy116]; with_reducible exact H) | (have H2_ := (Option.bind_some _ _).symm.trans H; rw [hy116]; with_reducible exact H2_) | (have H2_ := (Option.bind_some _ _).symm.trans H; with_reducible exact H2_) | with_reducible exact H | (rw [hy116]; exact H) | exact H
    have Ny116 := zb.mk hy116; clear hy116; obtain ⟨y119, hy119⟩ : ∃ y_ : List Int, y_ = (([1, 2, 4, 8] : List Int)) := ⟨_, rfl⟩
    replace H : ((some (([y101, y104, y107, y110, y113, y116, y119, (([1, 3, 9, 27] : List Int))] : List (List Int)) : List (List Int))).bind fun y125 => (if 0 ≤ a1 then (if a1 < (y125.length : Int) then (some (rd_L5 y125 a1)) else (none)) else (none))) = some r := by first | (rw [hy119]; with_reducible exact H) | (have H2_ := (Option.bind_some _ _).symm.trans H; rw [hy119]; with_reducible exact H2_) | (have H2_ := (Option.bind_some _ _).symm.trans H; with_reducible exact H2_) | with_reducible exact H | (rw [hy119]; exact H) | exact H
    have Ny119 := zb.mk hy119; clear hy119; obtain ⟨y122, hy122⟩ : ∃ y_ : List Int, y_ = (([1, 3, 9, 27] : List Int)) := ⟨_, rfl⟩
    replace H : ((some (([y101, y104, y107, y110, y113, y116, y119, y122] : List (List Int)) : List (List Int))).bind fun y125 => (if 0 ≤ a1 then (if a1 < (y125.length : Int) then (some (rd_L5 y125 a1)) else (none)) else (none))) = some r := by first | (rw [hy122]; with_reducible exact H) | (have H2_ := (Option.bind_some _ _).symm.trans H; rw [hy122]; with_reducible exact H2_) | (have H2_ := (Option.bind_some _ _).symm.trans H; with_reducible exact H2_) | with_reducible exact H | (rw [hy122]; exact H) | exact H
    have Ny122 := zb.mk hy122; clear hy122; obtain ⟨y125, hy125⟩ : ∃ y_ : List (List Int), y_ = (([y101, y104, y107, y110, y113, y116, y119, y122] : List (List Int))) := ⟨_, rfl⟩
    replace H : (if 0 ≤ a1 then (if a1 < (y125.length : Int) then (some (rd_L5 y125 a1)) else (none)) else (none)) = some r := by first | (rw [hy125]; with_reducible exact H) | (have H2_ := (Option.bind_some _ _).symm.trans H; rw [hy125]; with_reducible exact H2_) | (have H2_ := (Option.bind_some _ _).symm.trans H; with_reducible exact H2_) | with_reducible exact H | (rw [hy125]; exact H) | exact H
    have Ny125 := zb.mk hy125; clear hy125
    by_cases c4 : 0 ≤ a1
    · rw [if_pos c4] at H; have c4b0 : decide (0 ≤ a1) = true := decide_eq_true c4; clear c4
      by_cases c5 : a1 < (y125.length : Int)
      · rw [if_pos c5] at H; have c5b0 : decide (a1 < (y125.length : Int)) = true := decide_eq_true c5; clear c5; obtain rfl := Option.some.inj H
        go_enter Try.func87, Try.ntmps87
        go_wp2_with (first | ((with_reducible refine zV (N := 8) rfl ?_); refine Kd.R_lit (Kd.int .i64) _ 3 ?hg (N := 8) ?hd (xs := ([1, 0, 0, 0] : List Int)) (inner := [.int .i64 1, .int .i64 0, .int .i64 0, .int .i64 0]) (ok := fun _ => True) (okp := fun _ => True) ?hr ?hp (fun _ hk => hk) trivial (Below.refl _ _) (Nat.le_refl _) (by simp) ?_; (case hd => rfl); (case hg => rfl); (case hr => first | (go_simp; done) | (go_simp; rfl)); (case hp => exact (Reps.one (show Kd.M (Kd.int .i64) _ _ _ 1 [.int .i64 1] from rfl) (Reps.one (show Kd.M (Kd.int .i64) _ _ _ 0 [.int .i64 0] from rfl) (Reps.one (show Kd.M (Kd.int .i64) _ _ _ 0 [.int .i64 0] from rfl) (Reps.one (show Kd.M (Kd.int .i64) _ _ _ 0 [.int .i64 0] from rfl) (Reps.none _ _)))))); intro v102 w6 ho7 hb hg_ hnew_; clear hg_ hnew_; (first | rw [← Ny101.out] at ho7 | (simp only [Int.reduceToNat] at ho7; rw [← Ny101.out] at ho7)); have n0_ := zb.mk (Kd.zaa (Kd.zdl (M := fun k_ => (w.heap.size ≤ k_)) ho7 (zo (by repeat (first | (with_reducible first | exact HB.out | apply zf | apply za | apply ze) | exact HB.out | exact Below.refl _ _))) (fun k_ h_ => h_)) (zo (by repeat (first | (with_reducible first | exact HB.out | apply zf | apply za | apply ze) | exact HB.out | exact Below.refl _ _)))); have n1_ := zb.mk (zw (by repeat (first | (with_reducible first | exact HB.out | apply zf | apply za | apply ze) | exact HB.out | exact Below.refl _ _)) hb); clear HB; have HO103 := n0_; have HB := n1_; clear n0_ n1_; clear hb ho7) | ((with_reducible refine zV (N := 9) rfl ?_); refine Kd.R_lit (Kd.int .i64) _ 3 ?hg (N := 9) ?hd (xs := ([0, 1, 0, 0] : List Int)) (inner := [.int .i64 0, .int .i64 1, .int .i64 0, .int .i64 0]) (ok := fun _ => True) (okp := fun _ => True) ?hr ?hp (fun _ hk => hk) trivial (Below.refl _ _) (Nat.le_refl _) (by simp) ?_; (case hd => rfl); (case hg => rfl); (case hr => first | (go_simp; done) | (go_simp; rfl)); (case hp => exact (Reps.one (show Kd.M (Kd.int .i64) _ _ _ 0 [.int .i64 0] from rfl) (Reps.one (show Kd.M (Kd.int .i64) _ _ _ 1 [.int .i64 1] from rfl) (Reps.one (show Kd.M (Kd.int .i64) _ _ _ 0 [.int .i64 0] from rfl) (Reps.one (show Kd.M (Kd.int .i64) _ _ _ 0 [.int .i64 0] from rfl) (Reps.none _ _)))))); intro v105 w8 ho9 hb hg_ hnew_; clear hg_ hnew_; (first | rw [← Ny104.out] at ho9 | (simp only [Int.reduceToNat] at ho9; rw [← Ny104.out] at ho9)); have n0_ := zb.mk (Kd.zat (by (with_reducible repeat (first | apply Kd.zt | apply Kd.zq | apply Kd.zy)); exact HO103.out) (Kd.zaw ho9) hb); have n1_ := zb.mk (Kd.zaa (Kd.zaQ (Kd.zdl (M := fun k_ => (w.heap.size ≤ k_)) ho9 (zo (by repeat (first | (with_reducible first | exact HB.out | apply zf | apply za | apply ze) | exact HB.out | exact Below.refl _ _))) (fun k_ h_ => h_)) (Kd.R_lt (by (with_reducible repeat (first | apply Kd.zt | apply Kd.zq | apply Kd.zy)); exact HO103.out))) (zo (by repeat (first | (with_reducible first | exact HB.out | apply zf | apply za | apply ze) | exact HB.out | exact Below.refl _ _)))); have n2_ := zb.mk (zw (by repeat (first | (with_reducible first | exact HB.out | apply zf | apply za | apply ze) | exact HB.out | exact Below.refl _ _)) hb); clear HO103; clear HB; have HO103 := n0_; have HO106 := n1_; have HB := n2_; clear n0_ n1_ n2_; clear hb ho9) | ((with_reducible refine zV (N := 10) rfl ?_); refine Kd.R_lit (Kd.int .i64) _ 3 ?hg (N := 10) ?hd (xs := ([0, 0, 1, 0] : List Int)) (inner := [.int .i64 0, .int .i64 0, .int .i64 1, .int .i64 0]) (ok := fun _ => True) (okp := fun _ => True) ?hr ?hp (fun _ hk => hk) trivial (Below.refl _ _) (Nat.le_refl _) (by simp) ?_; (case hd => rfl); (case hg => rfl); (case hr => first | (go_simp; done) | (go_simp; rfl)); (case hp => exact (Reps.one (show Kd.M (Kd.int .i64) _ _ _ 0 [.int .i64 0] from rfl) (Reps.one (show Kd.M (Kd.int .i64) _ _ _ 0 [.int .i64 0] from rfl) (Reps.one (show Kd.M (Kd.int .i64) _ _ _ 1 [.int .i64 1] from rfl) (Reps.one (show Kd.M (Kd.int .i64) _ _ _ 0 [.int .i64 0] from rfl) (Reps.none _ _)))))); intro v108 w10 ho11 hb hg_ hnew_; clear hg_ hnew_; (first | rw [← Ny107.out] at ho11 | (simp only [Int.reduceToNat] at ho11; rw [← Ny107.out] at ho11)); have n0_ := zb.mk (Kd.zat (by (with_reducible repeat (first | apply Kd.zt | apply Kd.zq | apply Kd.zy)); exact HO103.out) (Kd.zaw ho11) hb); have n1_ := zb.mk (Kd.zat (by (with_reducible repeat (first | apply Kd.zt | apply Kd.zq | apply Kd.zy)); exact HO106.out) (Kd.zaw ho11) hb); have n2_ := zb.mk (Kd.zaa (Kd.zaQ (Kd.zaQ (Kd.zdl (M := fun k_ => (w.heap.size ≤ k_)) ho11 (zo (by repeat (first | (with_reducible first | exact HB.out | apply zf | apply za | apply ze) | exact HB.out | exact Below.refl _ _))) (fun k_ h_ => h_)) (Kd.R_lt (by (with_reducible repeat (first | apply Kd.zt | apply Kd.zq | apply Kd.zy)); exact HO103.out))) (Kd.R_lt (by (with_reducible repeat (first | apply Kd.zt | apply Kd.zq | apply Kd.zy)); exact HO106.out))) (zo (by repeat (first | (with_reducible first | exact HB.out | apply zf | apply za | apply ze) | exact HB.out | exact Below.refl _ _)))); have n3_ := zb.mk (zw (by repeat (first | (with_reducible first | exact HB.out | apply zf | apply za | apply ze) | exact HB.out | exact Below.refl _ _)) hb); clear HO103; clear HO106; clear HB; have HO103 := n0_; have HO106 := n1_; have HO109 := n2_; have HB := n3_; clear n0_ n1_ n2_ n3_; clear hb ho11) | ((with_reducible refine zV (N := 11) rfl ?_); refine Kd.R_lit (Kd.int .i64) _ 3 ?hg (N := 11) ?hd (xs := ([0, 0, 0, 1] : List Int)) (inner := [.int .i64 0, .int .i64 0, .int .i64 0, .int .i64 1]) (ok := fun _ => True) (okp := fun _ => True) ?hr ?hp (fun _ hk => hk) trivial (Below.refl _ _) (Nat.le_refl _) (by simp) ?_; (case hd => rfl); (case hg => rfl); (case hr => first | (go_simp; done) | (go_simp; rfl)); (case hp => exact (Reps.one (show Kd.M (Kd.int .i64) _ _ _ 0 [.int .i64 0] from rfl) (Reps.one (show Kd.M (Kd.int .i64) _ _ _ 0 [.int .i64 0] from rfl) (Reps.one (show Kd.M (Kd.int .i64) _ _ _ 0 [.int .i64 0] from rfl) (Reps.one (show Kd.M (Kd.int .i64) _ _ _ 1 [.int .i64 1] from rfl) (Reps.none _ _)))))); intro v111 w12 ho13 hb hg_ hnew_; clear hg_ hnew_; (first | rw [← Ny110.out] at ho13 | (simp only [Int.reduceToNat] at ho13; rw [← Ny110.out] at ho13)); have n0_ := zb.mk (Kd.zat (by (with_reducible repeat (first | apply Kd.zt | apply Kd.zq | apply Kd.zy)); exact HO103.out) (Kd.zaw ho13) hb); have n1_ := zb.mk (Kd.zat (by (with_reducible repeat (first | apply Kd.zt | apply Kd.zq | apply Kd.zy)); exact HO106.out) (Kd.zaw ho13) hb); have n2_ := zb.mk (Kd.zat (by (with_reducible repeat (first | apply Kd.zt | apply Kd.zq | apply Kd.zy)); exact HO109.out) (Kd.zaw ho13) hb); have n3_ := zb.mk (Kd.zaa (Kd.zaQ (Kd.zaQ (Kd.zaQ (Kd.zdl (M := fun k_ => (w.heap.size ≤ k_)) ho13 (zo (by repeat (first | (with_reducible first | exact HB.out | apply zf | apply za | apply ze) | exact HB.out | exact Below.refl _ _))) (fun k_ h_ => h_)) (Kd.R_lt (by (with_reducible repeat (first | apply Kd.zt | apply Kd.zq | apply Kd.zy)); exact HO103.out))) (Kd.R_lt (by (with_reducible repeat (first | apply Kd.zt | apply Kd.zq | apply Kd.zy)); exact HO106.out))) (Kd.R_lt (by (with_reducible repeat (first | apply Kd.zt | apply Kd.zq | apply Kd.zy)); exact HO109.out))) (zo (by repeat (first | (with_reducible first | exact HB.out | apply zf | apply za | apply ze) | exact HB.out | exact Below.refl _ _)))); have n4_ := zb.mk (zw (by repeat (first | (with_reducible first | exact HB.out | apply zf | apply za | apply ze) | exact HB.out | exact Below.refl _ _)) hb); clear HO103; clear HO106; clear HO109; clear HB; have HO103 := n0_; have HO106 := n1_; have HO109 := n2_; have HO112 := n3_; have HB := n4_; clear n0_ n1_ n2_ n3_ n4_; clear hb ho13) | ((with_reducible refine zV (N := 12) rfl ?_); refine Kd.R_lit (Kd.int .i64) _ 3 ?hg (N := 12) ?hd (xs := ([1, 1, 0, 0] : List Int)) (inner := [.int .i64 1, .int .i64 1, .int .i64 0, .int .i64 0]) (ok := fun _ => True) (okp := fun _ => True) ?hr ?hp (fun _ hk => hk) trivial (Below.refl _ _) (Nat.le_refl _) (by simp) ?_; (case hd => rfl); (case hg => rfl); (case hr => first | (go_simp; done) | (go_simp; rfl)); (case hp => exact (Reps.one (show Kd.M (Kd.int .i64) _ _ _ 1 [.int .i64 1] from rfl) (Reps.one (show Kd.M (Kd.int .i64) _ _ _ 1 [.int .i64 1] from rfl) (Reps.one (show Kd.M (Kd.int .i64) _ _ _ 0 [.int .i64 0] from rfl) (Reps.one (show Kd.M (Kd.int .i64) _ _ _ 0 [.int .i64 0] from rfl) (Reps.none _ _)))))); intro v114 w14 ho15 hb hg_ hnew_; clear hg_ hnew_; (first | rw [← Ny113.out] at ho15 | (simp only [Int.reduceToNat] at ho15; rw [← Ny113.out] at ho15)); have n0_ := zb.mk (Kd.zat (by (with_reducible repeat (first | apply Kd.zt | apply Kd.zq | apply Kd.zy)); exact HO103.out) (Kd.zaw ho15) hb); have n1_ := zb.mk (Kd.zat (by (with_reducible repeat (first | apply Kd.zt | apply Kd.zq | apply Kd.zy)); exact HO106.out) (Kd.zaw ho15) hb); have n2_ := zb.mk (Kd.zat (by (with_reducible repeat (first | apply Kd.zt | apply Kd.zq | apply Kd.zy)); exact HO109.out) (Kd.zaw ho15) hb); have n3_ := zb.mk (Kd.zat (by (with_reducible repeat (first | apply Kd.zt | apply Kd.zq | apply Kd.zy)); exact HO112.out) (Kd.zaw ho15) hb); have n4_ := zb.mk (Kd.zaa (Kd.zaQ (Kd.zaQ (Kd.zaQ (Kd.zaQ (Kd.zdl (M := fun k_ => (w.heap.size ≤ k_)) ho15 (zo (by repeat (first | (with_reducible first | exact HB.out | apply zf | apply za | apply ze) | exact HB.out | exact Below.refl _ _))) (fun k_ h_ => h_)) (Kd.R_lt (by (with_reducible repeat (first | apply Kd.zt | apply Kd.zq | apply Kd.zy)); exact HO103.out))) (Kd.R_lt (by (with_reducible repeat (first | apply Kd.zt | apply Kd.zq | apply Kd.zy)); exact HO106.out))) (Kd.R_lt (by (with_reducible repeat (first | apply Kd.zt | apply Kd.zq | apply Kd.zy)); exact HO109.out))) (Kd.R_lt (by (with_reducible repeat (first | apply Kd.zt | apply Kd.zq | apply Kd.zy)); exact HO112.out))) (zo (by repeat (first | (with_reducible first | exact HB.out | apply zf | apply za | apply ze) | exact HB.out | exact Below.refl _ _)))); have n5_ := zb.mk (zw (by repeat (first | (with_reducible first | exact HB.out | apply zf | apply za | apply ze) | exact HB.out | exact Below.refl _ _)) hb); clear HO103; clear HO106; clear HO109; clear HO112; clear HB; have HO103 := n0_; have HO106 := n1_; have HO109 := n2_; have HO112 := n3_; have HO115 := n4_; have HB := n5_; clear n0_ n1_ n2_ n3_ n4_ n5_; clear hb ho15) | ((with_reducible refine zV (N := 13) rfl ?_); refine Kd.R_lit (Kd.int .i64) _ 3 ?hg (N := 13) ?hd (xs := ([0, 0, 1, 1] : List Int)) (inner := [.int .i64 0, .int .i64 0, .int .i64 1, .int .i64 1]) (ok := fun _ => True) (okp := fun _ => True) ?hr ?hp (fun _ hk => hk) trivial (Below.refl _ _) (Nat.le_refl _) (by simp) ?_; (case hd => rfl); (case hg => rfl); (case hr => first | (go_simp; done) | (go_simp; rfl)); (case hp => exact (Reps.one (show Kd.M (Kd.int .i64) _ _ _ 0 [.int .i64 0] from rfl) (Reps.one (show Kd.M (Kd.int .i64) _ _ _ 0 [.int .i64 0] from rfl) (Reps.one (show Kd.M (Kd.int .i64) _ _ _ 1 [.int .i64 1] from rfl) (Reps.one (show Kd.M (Kd.int .i64) _ _ _ 1 [.int .i64 1] from rfl) (Reps.none _ _)))))); intro v117 w16 ho17 hb hg_ hnew_; clear hg_ hnew_; (first | rw [← Ny116.out] at ho17 | (simp only [Int.reduceToNat] at ho17; rw [← Ny116.out] at ho17)); have n0_ := zb.mk (Kd.zat (by (with_reducible repeat (first | apply Kd.zt | apply Kd.zq | apply Kd.zy)); exact HO103.out) (Kd.zaw ho17) hb); have n1_ := zb.mk (Kd.zat (by (with_reducible repeat (first | apply Kd.zt | apply Kd.zq | apply Kd.zy)); exact HO106.out) (Kd.zaw ho17) hb); have n2_ := zb.mk (Kd.zat (by (with_reducible repeat (first | apply Kd.zt | apply Kd.zq | apply Kd.zy)); exact HO109.out) (Kd.zaw ho17) hb); have n3_ := zb.mk (Kd.zat (by (with_reducible repeat (first | apply Kd.zt | apply Kd.zq | apply Kd.zy)); exact HO112.out) (Kd.zaw ho17) hb); have n4_ := zb.mk (Kd.zat (by (with_reducible repeat (first | apply Kd.zt | apply Kd.zq | apply Kd.zy)); exact HO115.out) (Kd.zaw ho17) hb); have n5_ := zb.mk (Kd.zaa (Kd.zaQ (Kd.zaQ (Kd.zaQ (Kd.zaQ (Kd.zaQ (Kd.zdl (M := fun k_ => (w.heap.size ≤ k_)) ho17 (zo (by repeat (first | (with_reducible first | exact HB.out | apply zf | apply za | apply ze) | exact HB.out | exact Below.refl _ _))) (fun k_ h_ => h_)) (Kd.R_lt (by (with_reducible repeat (first | apply Kd.zt | apply Kd.zq | apply Kd.zy)); exact HO103.out))) (Kd.R_lt (by (with_reducible repeat (first | apply Kd.zt | apply Kd.zq | apply Kd.zy)); exact HO106.out))) (Kd.R_lt (by (with_reducible repeat (first | apply Kd.zt | apply Kd.zq | apply Kd.zy)); exact HO109.out))) (Kd.R_lt (by (with_reducible repeat (first | apply Kd.zt | apply Kd.zq | apply Kd.zy)); exact HO112.out))) (Kd.R_lt (by (with_reducible repeat (first | apply Kd.zt | apply Kd.zq | apply Kd.zy)); exact HO115.out))) (zo (by repeat (first | (with_reducible first | exact HB.out | apply zf | apply za | apply ze) | exact HB.out | exact Below.refl _ _)))); have n6_ := zb.mk (zw (by repeat (first | (with_reducible first | exact HB.out | apply zf | apply za | apply ze) | exact HB.out | exact Below.refl _ _)) hb); clear HO103; clear HO106; clear HO109; clear HO112; clear HO115; clear HB; have HO103 := n0_; have HO106 := n1_; have HO109 := n2_; have HO112 := n3_; have HO115 := n4_; have HO118 := n5_; have HB := n6_; clear n0_ n1_ n2_ n3_ n4_ n5_ n6_; clear hb ho17) | ((with_reducible refine zV (N := 14) rfl ?_); refine Kd.R_lit (Kd.int .i64) _ 3 ?hg (N := 14) ?hd (xs := ([1, 2, 4, 8] : List Int)) (inner := [.int .i64 1, .int .i64 2, .int .i64 4, .int .i64 8]) (ok := fun _ => True) (okp := fun _ => True) ?hr ?hp (fun _ hk => hk) trivial (Below.refl _ _) (Nat.le_refl _) (by simp) ?_; (case hd => rfl); (case hg => rfl); (case hr => first | (go_simp; done) | (go_simp; rfl)); (case hp => exact (Reps.one (show Kd.M (Kd.int .i64) _ _ _ 1 [.int .i64 1] from rfl) (Reps.one (show Kd.M (Kd.int .i64) _ _ _ 2 [.int .i64 2] from rfl) (Reps.one (show Kd.M (Kd.int .i64) _ _ _ 4 [.int .i64 4] from rfl) (Reps.one (show Kd.M (Kd.int .i64) _ _ _ 8 [.int .i64 8] from rfl) (Reps.none _ _)))))); intro v120 w18 ho19 hb hg_ hnew_; clear hg_ hnew_; (first | rw [← Ny119.out] at ho19 | (simp only [Int.reduceToNat] at ho19; rw [← Ny119.out] at ho19)); have n0_ := zb.mk (Kd.zat (by (with_reducible repeat (first | apply Kd.zt | apply Kd.zq | apply Kd.zy)); exact HO103.out) (Kd.zaw ho19) hb); have n1_ := zb.mk (Kd.zat (by (with_reducible repeat (first | apply Kd.zt | apply Kd.zq | apply Kd.zy)); exact HO106.out) (Kd.zaw ho19) hb); have n2_ := zb.mk (Kd.zat (by (with_reducible repeat (first | apply Kd.zt | apply Kd.zq | apply Kd.zy)); exact HO109.out) (Kd.zaw ho19) hb); have n3_ := zb.mk (Kd.zat (by (with_reducible repeat (first | apply Kd.zt | apply Kd.zq | apply Kd.zy)); exact HO112.out) (Kd.zaw ho19) hb); have n4_ := zb.mk (Kd.zat (by (with_reducible repeat (first | apply Kd.zt | apply Kd.zq | apply Kd.zy)); exact HO115.out) (Kd.zaw ho19) hb); have n5_ := zb.mk (Kd.zat (by (with_reducible repeat (first | apply Kd.zt | apply Kd.zq | apply Kd.zy)); exact HO118.out) (Kd.zaw ho19) hb); have n6_ := zb.mk (Kd.zaa (Kd.zaQ (Kd.zaQ (Kd.zaQ (Kd.zaQ (Kd.zaQ (Kd.zaQ (Kd.zdl (M := fun k_ => (w.heap.size ≤ k_)) ho19 (zo (by repeat (first | (with_reducible first | exact HB.out | apply zf | apply za | apply ze) | exact HB.out | exact Below.refl _ _))) (fun k_ h_ => h_)) (Kd.R_lt (by (with_reducible repeat (first | apply Kd.zt | apply Kd.zq | apply Kd.zy)); exact HO103.out))) (Kd.R_lt (by (with_reducible repeat (first | apply Kd.zt | apply Kd.zq | apply Kd.zy)); exact HO106.out))) (Kd.R_lt (by (with_reducible repeat (first | apply Kd.zt | apply Kd.zq | apply Kd.zy)); exact HO109.out))) (Kd.R_lt (by (with_reducible repeat (first | apply Kd.zt | apply Kd.zq | apply Kd.zy)); exact HO112.out))) (Kd.R_lt (by (with_reducible repeat (first | apply Kd.zt | apply Kd.zq | apply Kd.zy)); exact HO115.out))) (Kd.R_lt (by (with_reducible repeat (first | apply Kd.zt | apply Kd.zq | apply Kd.zy)); exact HO118.out))) (zo (by repeat (first | (with_reducible first | exact HB.out | apply zf | apply za | apply ze) | exact HB.out | exact Below.refl _ _)))); have n7_ := zb.mk (zw (by repeat (first | (with_reducible first | exact HB.out | apply zf | apply za | apply ze) | exact HB.out | exact Below.refl _ _)) hb); clear HO103; clear HO106; clear HO109; clear HO112; clear HO115; clear HO118; clear HB; have HO103 := n0_; have HO106 := n1_; have HO109 := n2_; have HO112 := n3_; have HO115 := n4_; have HO118 := n5_; have HO121 := n6_; have HB := n7_; clear n0_ n1_ n2_ n3_ n4_ n5_ n6_ n7_; clear hb ho19) | ((with_reducible refine zV (N := 15) rfl ?_); refine Kd.R_lit (Kd.int .i64) _ 3 ?hg (N := 15) ?hd (xs := ([1, 3, 9, 27] : List Int)) (inner := [.int .i64 1, .int .i64 3, .int .i64 9, .int .i64 27]) (ok := fun _ => True) (okp := fun _ => True) ?hr ?hp (fun _ hk => hk) trivial (Below.refl _ _) (Nat.le_refl _) (by simp) ?_; (case hd => rfl); (case hg => rfl); (case hr => first | (go_simp; done) | (go_simp; rfl)); (case hp => exact (Reps.one (show Kd.M (Kd.int .i64) _ _ _ 1 [.int .i64 1] from rfl) (Reps.one (show Kd.M (Kd.int .i64) _ _ _ 3 [.int .i64 3] from rfl) (Reps.one (show Kd.M (Kd.int .i64) _ _ _ 9 [.int .i64 9] from rfl) (Reps.one (show Kd.M (Kd.int .i64) _ _ _ 27 [.int .i64 27] from rfl) (Reps.none _ _)))))); intro v123 w20 ho21 hb hg_ hnew_; clear hg_ hnew_; (first | rw [← Ny122.out] at ho21 | (simp only [Int.reduceToNat] at ho21; rw [← Ny122.out] at ho21)); have n0_ := zb.mk (Kd.zat (by (with_reducible repeat (first | apply Kd.zt | apply Kd.zq | apply Kd.zy)); exact HO103.out) (Kd.zaw ho21) hb); have n1_ := zb.mk (Kd.zat (by (with_reducible repeat (first | apply Kd.zt | apply Kd.zq | apply Kd.zy)); exact HO106.out) (Kd.zaw ho21) hb); have n2_ := zb.mk (Kd.zat (by (with_reducible repeat (first | apply Kd.zt | apply Kd.zq | apply Kd.zy)); exact HO109.out) (Kd.zaw ho21) hb); have n3_ := zb.mk (Kd.zat (by (with_reducible repeat (first | apply Kd.zt | apply Kd.zq | apply Kd.zy)); exact HO112.out) (Kd.zaw ho21) hb); have n4_ := zb.mk (Kd.zat (by (with_reducible repeat (first | apply Kd.zt | apply Kd.zq | apply Kd.zy)); exact HO115.out) (Kd.zaw ho21) hb); have n5_ := zb.mk (Kd.zat (by (with_reducible repeat (first | apply Kd.zt | apply Kd.zq | apply Kd.zy)); exact HO118.out) (Kd.zaw ho21) hb); have n6_ := zb.mk (Kd.zat (by (with_reducible repeat (first | apply Kd.zt | apply Kd.zq | apply Kd.zy)); exact HO121.out) (Kd.zaw ho21) hb); have n7_ := zb.mk (Kd.zaa (Kd.zaQ (Kd.zaQ (Kd.zaQ (Kd.zaQ (Kd.zaQ (Kd.zaQ (Kd.zaQ (Kd.zdl (M := fun k_ => (w.heap.size ≤ k_)) ho21 (zo (by repeat (first | (with_reducible first | exact HB.out | apply zf | apply za | apply ze) | exact HB.out | exact Below.refl _ _))) (fun k_ h_ => h_)) (Kd.R_lt (by (with_reducible repeat (first | apply Kd.zt | apply Kd.zq | apply Kd.zy)); exact HO103.out))) (Kd.R_lt (by (with_reducible repeat (first | apply Kd.zt | apply Kd.zq | apply Kd.zy)); exact HO106.out))) (Kd.R_lt (by (with_reducible repeat (first | apply Kd.zt | apply Kd.zq | apply Kd.zy)); exact HO109.out))) (Kd.R_lt (by (with_reducible repeat (first | apply Kd.zt | apply Kd.zq | apply Kd.zy)); exact HO112.out))) (Kd.R_lt (by (with_reducible repeat (first | apply Kd.zt | apply Kd.zq | apply Kd.zy)); exact HO115.out))) (Kd.R_lt (by (with_reducible repeat (first | apply Kd.zt | apply Kd.zq | apply Kd.zy)); exact HO118.out))) (Kd.R_lt (by (with_reducible repeat (first | apply Kd.zt | apply Kd.zq | apply Kd.zy)); exact HO121.out))) (zo (by repeat (first | (with_reducible first | exact HB.out | apply zf | apply za | apply ze) | exact HB.out | exact Below.refl _ _)))); have n8_ := zb.mk (zw (by repeat (first | (with_reducible first | exact HB.out | apply zf | apply za | apply ze) | exact HB.out | exact Below.refl _ _)) hb); clear HO103; clear HO106; clear HO109; clear HO112; clear HO115; clear HO118; clear HO121; clear HB; have HO103 := n0_; have HO106 := n1_; have HO109 := n2_; have HO112 := n3_; have HO115 := n4_; have HO118 := n5_; have HO121 := n6_; have HO124 := n7_; have HB := n8_; clear n0_ n1_ n2_ n3_ n4_ n5_ n6_ n7_ n8_; clear hb ho21; obtain ⟨Ao22, co22, eo22⟩ := Kd.zae HO103.out; subst eo22; obtain ⟨Ao23, co23, eo23⟩ := Kd.zae HO106.out; subst eo23; obtain ⟨Ao24, co24, eo24⟩ := Kd.zae HO109.out; subst eo24; obtain ⟨Ao25, co25, eo25⟩ := Kd.zae HO112.out; subst eo25; obtain ⟨Ao26, co26, eo26⟩ := Kd.zae HO115.out; subst eo26; obtain ⟨Ao27, co27, eo27⟩ := Kd.zae HO118.out; subst eo27; obtain ⟨Ao28, co28, eo28⟩ := Kd.zae HO121.out; subst eo28; obtain ⟨Ao29, co29, eo29⟩ := Kd.zae HO124.out; subst eo29) | ((with_reducible refine zV (N := 16) rfl ?_); refine Kd.N_lit (Kd.slice 3 (Kd.int .i64)) _ 24 ?hg (N' := 16) ?hd (xs := ([y101, y104, y107, y110, y113, y116, y119, y122] : List (List Int))) (inner := [.slice Ao22 y101.length co22, .slice Ao23 y104.length co23, .slice Ao24 y107.length co24, .slice Ao25 y110.length co25, .slice Ao26 y113.length co26, .slice Ao27 y116.length co27, .slice Ao28 y119.length co28, .slice Ao29 y122.length co29]) (ok := (fun k_ => (w.heap.size ≤ k_))) (okp := (fun k_ => (w.heap.size ≤ k_))) ?hr ?hp (fun _ hk => hk) ((show ∀ k_, w20.heap.size ≤ k_ → (fun k_ => (w.heap.size ≤ k_)) k_ from fun k_ hk => (Nat.le_trans (zo (by repeat (first | (with_reducible first | exact HB.out | apply zf | apply za | apply ze) | exact HB.out | exact Below.refl _ _))) hk)) _ (Nat.le_refl _)) (Below.refl _ _) (Nat.le_refl _) (by simp) ?_; (case hd => rfl); (case hg => rfl); (case hr => first | (go_simp; done) | (go_simp; rfl)); (case hp => exact (Reps.one (show Kd.FK (Kd.slice 3 (Kd.int .i64)) _ _ y101 [.slice Ao22 y101.length co22] from (Kd.zbp (Kd.zO (Kd.zZ (ok' := (fun k_ => (w.heap.size ≤ k_))) (HO103.out) (fun k_ hk => hk.1.1.1.1.1.1.1.1))).2.1 (Kd.R_F (Kd.zZ (ok' := (fun k_ => (w.heap.size ≤ k_))) (HO103.out) (fun k_ hk => hk.1.1.1.1.1.1.1.1))))) (Reps.one (show Kd.FK (Kd.slice 3 (Kd.int .i64)) _ _ y104 [.slice Ao23 y104.length co23] from (Kd.zbp (Kd.zO (Kd.zZ (ok' := (fun k_ => (w.heap.size ≤ k_))) (HO106.out) (fun k_ hk => hk.1.1.1.1.1.1.1.1))).2.1 (Kd.R_F (Kd.zZ (ok' := (fun k_ => (w.heap.size ≤ k_))) (HO106.out) (fun k_ hk => hk.1.1.1.1.1.1.1.1))))) (Reps.one (show Kd.FK (Kd.slice 3 (Kd.int .i64)) _ _ y107 [.slice Ao24 y107.length co24] from (Kd.zbp (Kd.zO (Kd.zZ (ok' := (fun k_ => (w.heap.size ≤ k_))) (HO109.out) (fun k_ hk => hk.1.1.1.1.1.1.1.1))).2.1 (Kd.R_F (Kd.zZ (ok' := (fun k_ => (w.heap.size ≤ k_))) (HO109.out) (fun k_ hk => hk.1.1.1.1.1.1.1.1))))) (Reps.one (show Kd.FK (Kd.slice 3 (Kd.int .i64)) _ _ y110 [.slice Ao25 y110.length co25] from (Kd.zbp (Kd.zO (Kd.zZ (ok' := (fun k_ => (w.heap.size ≤ k_))) (HO112.out) (fun k_ hk => hk.1.1.1.1.1.1.1.1))).2.1 (Kd.R_F (Kd.zZ (ok' := (fun k_ => (w.heap.size ≤ k_))) (HO112.out) (fun k_ hk => hk.1.1.1.1.1.1.1.1))))) (Reps.one (show Kd.FK (Kd.slice 3 (Kd.int .i64)) _ _ y113 [.slice Ao26 y113.length co26] from (Kd.zbp (Kd.zO (Kd.zZ (ok' := (fun k_ => (w.heap.size ≤ k_))) (HO115.out) (fun k_ hk => hk.1.1.1.1.1.1.1.1))).2.1 (Kd.R_F (Kd.zZ (ok' := (fun k_ => (w.heap.size ≤ k_))) (HO115.out) (fun k_ hk => hk.1.1.1.1.1.1.1.1))))) (Reps.one (show Kd.FK (Kd.slice 3 (Kd.int .i64)) _ _ y116 [.slice Ao27 y116.length co27] from (Kd.zbp (Kd.zO (Kd.zZ (ok' := (fun k_ => (w.heap.size ≤ k_))) (HO118.out) (fun k_ hk => hk.1.1.1.1.1.1.1.1))).2.1 (Kd.R_F (Kd.zZ (ok' := (fun k_ => (w.heap.size ≤ k_))) (HO118.out) (fun k_ hk => hk.1.1.1.1.1.1.1.1))))) (Reps.one (show Kd.FK (Kd.slice 3 (Kd.int .i64)) _ _ y119 [.slice Ao28 y119.length co28] from (Kd.zbp (Kd.zO (Kd.zZ (ok' := (fun k_ => (w.heap.size ≤ k_))) (HO121.out) (fun k_ hk => hk.1.1.1.1.1.1.1.1))).2.1 (Kd.R_F (Kd.zZ (ok' := (fun k_ => (w.heap.size ≤ k_))) (HO121.out) (fun k_ hk => hk.1.1.1.1.1.1.1.1))))) (Reps.one (show Kd.FK (Kd.slice 3 (Kd.int .i64)) _ _ y122 [.slice Ao29 y122.length co29] from (Kd.zbp (Kd.zO (Kd.zZ (ok' := (fun k_ => (w.heap.size ≤ k_))) (HO124.out) (fun k_ hk => hk.1.1.1.1.1.1.1.1))).2.1 (Kd.R_F (Kd.zZ (ok' := (fun k_ => (w.heap.size ≤ k_))) (HO124.out) (fun k_ hk => hk.1.1.1.1.1.1.1.1))))) (Reps.none _ _)))))))))); intro v126 w30 ho31 hb hg_ hnew_; clear hg_ hnew_; (first | rw [← Ny125.out] at ho31 | (simp only [Int.reduceToNat] at ho31; rw [← Ny125.out] at ho31)); have n0_ := zb.mk (Kd.zev ho31 (zo (by repeat (first | (with_reducible first | exact HB.out | apply zf | apply za | apply ze) | exact HB.out | exact Below.refl _ _)))); have n1_ := zb.mk (zw (by repeat (first | (with_reducible first | exact HB.out | apply zf | apply za | apply ze) | exact HB.out | exact Below.refl _ _)) hb); clear HB; clear HO103; clear HO106; clear HO109; clear HO112; clear HO115; clear HO118; clear HO121; clear HO124; have HO127 := n0_; have HB := n1_; clear n0_ n1_; clear hb ho31; obtain ⟨Ao32, co32, eo32⟩ := Kd.zdq HO127.out; subst eo32; have p128 : 0 ≤ (a1 : Int) := of_decide_eq_true (by first | (with_reducible assumption) | assumption); have q128 : a1 < (y125.length : Int) := of_decide_eq_true (by first | (with_reducible assumption) | assumption); obtain ⟨ad128, A128_0, c128_0, e128, hx128_0, hl128_0, hi128_0⟩ := at_L5 (Kd.zbB HO127.out).2.2 a1 p128 q128; cases e128; obtain ⟨ce128, hce128, hMe128, hcc128⟩ := Kd.N_get HO127.out [] a1 p128 (by first | exact q128 | exact of_decide_eq_true (by first | (with_reducible assumption) | assumption) | (have e_ := (Kd.zbB HO127.out).1; omega)); obtain ⟨ua128_0, uc128_0, rfl, ul128_0, ge128_0⟩ := Kd.zeC hMe128; have hv128_0 := hcc128 0 _ rfl; rw [Nat.add_zero, show ((Kd.slice 3 (Kd.int .i64))).sz = 1 from rfl, Nat.mul_one] at hv128_0; replace hv128_0 := Option.some.inj (hv128_0.symm.trans hx128_0); injection hv128_0 with hva_ hvn_ hvc_; rw [hva_] at ge128_0; rw [hvc_] at ul128_0; have HL128_0 := zb.mk (show Kd.V (Kd.int .i64) 3 _ w.heap.size _ _ (rd_L5 y125 a1) from Kd.V_mk ul128_0 ge128_0); clear hva_ hvn_ hvc_ ge128_0 ul128_0; clear hcc128 hce128; have HR128_0 := zb.mk hi128_0; have HC128_0 := zb.mk hl128_0; clear hi128_0 hl128_0; replace p128 := eq_true p128; replace q128 := eq_true q128)); go_ret; exact ⟨_, by first | rfl | (simp [zA, zB] <;> rfl) | (simp [*, zA, zB] <;> rfl), by (with_reducible repeat (first | apply Kd.zce | apply Kd.zbZ | apply Kd.zcw)); exact Kd.zcb HL128_0.out (fun _ hk => hk.1), by repeat (first | (with_reducible first | exact HB.out | apply zf | apply za | apply ze) | exact HB.out | exact Below.refl _ _)⟩
      · rw [if_neg c5] at H; exact absurd H (by simp)
    · rw [if_neg c4] at H; exact absurd H (by simp)
  · rw [if_neg c3] at H; have c3b0 : (a0 == 1) = false := beq_eq_false_iff_ne.mpr c3; have c3b1 : (a0 != 1) = true := bne_iff_ne.mpr c3; obtain ⟨y129, hy129⟩ : ∃ y_ : List Int, y_ = (([1, wrap64 (a1 + 1), Int.tmod (wrap64 ((wrap64 (a1 + 1)) * (wrap64 (a1 + 1)))) 31, Int.tmod (wrap64 ((wrap64 ((wrap64 (a1 + 1)) * (wrap64 (a1 + 1)))) * (wrap64 (a1 + 1)))) 31] : List Int)) := ⟨_, rfl⟩
    replace H : (some y129) = some r := by first | (rw [hy129]; with_reducible exact H) | (have H2_ := (Option.bind_some _ _).symm.trans H; rw [hy129]; with_reducible exact H2_) | (have H2_ := (Option.bind_some _ _).symm.trans H; with_reducible exact H2_) | with_reducible exact H | (rw [hy129]; exact H) | exact H
    have Ny129 := zb.mk hy129; clear hy129; obtain rfl := Option.some.inj H
    go_enter Try.func87, Try.ntmps87
    go_wp2_with (first | ((with_reducible refine zV (N := 33) rfl ?_); refine Kd.R_lit (Kd.int .i64) _ 3 ?hg (N := 33) ?hd (xs := ([1, wrap64 (a1 + 1), Int.tmod (wrap64 ((wrap64 (a1 + 1)) * (wrap64 (a1 + 1)))) 31, Int.tmod (wrap64 ((wrap64 ((wrap64 (a1 + 1)) * (wrap64 (a1 + 1)))) * (wrap64 (a1 + 1)))) 31] : List Int)) (inner := [.int .i64 1, .int .i64 (wrap64 (a1 + 1)), .int .i64 (Int.tmod (wrap64 ((wrap64 (a1 + 1)) * (wrap64 (a1 + 1)))) 31), .int .i64 (Int.tmod (wrap64 ((wrap64 ((wrap64 (a1 + 1)) * (wrap64 (a1 + 1)))) * (wrap64 (a1 + 1)))) 31)]) (ok := fun _ => True) (okp := fun _ => True) ?hr ?hp (fun _ hk => hk) trivial (Below.refl _ _) (Nat.le_refl _) (by simp) ?_; (case hd => rfl); (case hg => rfl); (case hr => first | (go_simp; done) | (go_simp; rfl)); (case hp => exact (Reps.one (show Kd.M (Kd.int .i64) _ _ _ 1 [.int .i64 1] from rfl) (Reps.one (show Kd.M (Kd.int .i64) _ _ _ (wrap64 (a1 + 1)) [.int .i64 (wrap64 (a1 + 1))] from rfl) (Reps.one (show Kd.M (Kd.int .i64) _ _ _ (Int.tmod (wrap64 ((wrap64 (a1 + 1)) * (wrap64 (a1 + 1)))) 31) [.int .i64 (Int.tmod (wrap64 ((wrap64 (a1 + 1)) * (wrap64 (a1 + 1)))) 31)] from rfl) (Reps.one (show Kd.M (Kd.int .i64) _ _ _ (Int.tmod (wrap64 ((wrap64 ((wrap64 (a1 + 1)) * (wrap64 (a1 + 1)))) * (wrap64 (a1 + 1)))) 31) [.int .i64 (Int.tmod (wrap64 ((wrap64 ((wrap64 (a1 + 1)) * (wrap64 (a1 + 1)))) * (wrap64 (a1 + 1)))) 31)] from rfl) (Reps.none _ _)))))); intro v130 w33 ho34 hb hg_ hnew_; clear hg_ hnew_; (first | rw [← Ny129.out] at ho34 | (simp only [Int.reduceToNat] at ho34; rw [← Ny129.out] at ho34)); have n0_ := zb.mk (Kd.zaa (Kd.zdl (M := fun k_ => (w.heap.size ≤ k_)) ho34 (zo (by repeat (first | (with_reducible first | exact HB.out | apply zf | apply za | apply ze) | exact HB.out | exact Below.refl _ _))) (fun k_ h_ => h_)) (zo (by repeat (first | (with_reducible first | exact HB.out | apply zf | apply za | apply ze) | exact HB.out | exact Below.refl _ _)))); have n1_ := zb.mk (zw (by repeat (first | (with_reducible first | exact HB.out | apply zf | apply za | apply ze) | exact HB.out | exact Below.refl _ _)) hb); clear HB; have HO131 := n0_; have HB := n1_; clear n0_ n1_; clear hb ho34)); go_ret; exact ⟨_, by first | rfl | (simp [zA, zB] <;> rfl) | (simp [*, zA, zB] <;> rfl), Kd.R_V (by (with_reducible repeat (first | apply Kd.zt | apply Kd.zq | apply Kd.zy)); exact Kd.zZ HO131.out (fun _ hk => hk.1)), by repeat (first | (with_reducible first | exact HB.out | apply zf | apply za | apply ze) | exact HB.out | exact Below.refl _ _)⟩
end Go.Proofs.Ytmipjlbkcfpkiaa.K

end
section
namespace Go.Proofs.Ytmipjlbkcfpkiaa.K
set_option linter.unusedVariables false
set_option linter.unusedSimpArgs false
open Go.RowKit Go.Proofs.YtmipjlbkcfpkiaaW.PrintWords Go.Proofs.YtmipjlbkcfpkiaaW.PrintLast Go.Proofs.YtmipjlbkcfpkiaaW.PrintMore
def Rd1 (w : World) (v : Value) (xs : List Int) : Prop := ∃ A c, v = .slice A xs.length c ∧ xs.length ≤ c ∧ Kd.C (Kd.int .i64) w A xs.length xs
theorem add_block (a : Addr) (n : Nat) : (a.add n).block = a.block := by unfold Addr.add; split <;> rfl
theorem Rd1.below {w w' : World} {v : Value} {xs : List Int} (h : Rd1 w v xs) (hb : Below w.heap.size w w') : Rd1 w' v xs := by
  obtain ⟨A, c, e, hl, hC⟩ := h; exact ⟨A, c, e, hl, Kd.zaL hC hb⟩
theorem Rd1.grown {w w' : World} {v : Value} {xs : List Int} {row : Option Nat} (h : Rd1 w v xs) (hg : w.grownBy w' row) (hne : 0 < xs.length → v.ownBlock ≠ row) : Rd1 w' v xs := by
  obtain ⟨A, c, rfl, hl, hC⟩ := h; refine ⟨A, c, rfl, hl, hC.1, hC.2.1, fun hp => ?_⟩; obtain ⟨ad, rfl, hc⟩ := hC.2.2 hp; refine ⟨ad, rfl, fun j p hj => ?_⟩; obtain ⟨cs, h1, h2, h3⟩ := hc j p hj; refine ⟨cs, h1, h2, fun i u hi => ?_⟩; refine hg.cell (h3 i u hi) ?_; rw [add_block]; exact hne hp
theorem zcl {e : Nat} {w : World} {base : Nat} {ok : Nat → Prop} {v : Value} {xs : List Int} (h : Kd.R (Kd.int .i64) e w base ok v xs) : Rd1 w v xs := Kd.zeB h
theorem Rd1.lt {w : World} {v : Value} {xs : List Int} (h : Rd1 w v xs) (hp : 0 < xs.length) : ∃ k, v.ownBlock = some k ∧ k < w.heap.size := by
  obtain ⟨A, c, rfl, hl, hC⟩ := h; obtain ⟨ad, rfl, hc⟩ := hC.2.2 hp; obtain ⟨cs, h1, h2, h3⟩ := hc 0 _ (List.getElem?_eq_getElem hp); obtain ⟨u, hu⟩ : ∃ u, cs[0]? = some u := ⟨cs[0]'(by rw [h1]; exact Nat.one_pos), List.getElem?_eq_getElem _⟩
  have := World.block_lt_of_cell? w _ (h3 0 u hu); rw [add_block] at this; exact ⟨ad.block, rfl, this⟩
abbrev VC := {v : Value // v.oneCell' = true}
def kV : Kd VC := Kd.scalar (fun x => x.1) (fun x => x.2)
def vcS (A : Option Addr) (n c : Nat) : VC := ⟨.slice A n c, rfl⟩
def RowsP (B : Nat) (w : World) (v : Value) (vs : List VC) (xss : List (List Int)) : Prop := vs.length = xss.length ∧ ∀ (i : Nat) (x : List Int), xss[i]? = some x → ∃ u : VC, vs[i]? = some u ∧ Rd1 w u.1 x ∧ (0 < x.length → u.1.ownBlock ≠ v.ownBlock) ∧ ∀ b, u.1.ownBlock = some b → B ≤ b
theorem zeP (B : Nat) (w : World) (v : Value) : RowsP B w v [] [] := ⟨rfl, fun i x h => by simp at h⟩
theorem RowsP.below {B : Nat} {w w' : World} {v : Value} {vs : List VC} {xss : List (List Int)} (h : RowsP B w v vs xss) (hb : Below w.heap.size w w') : RowsP B w' v vs xss :=
  ⟨h.1, fun i x hx => by
    obtain ⟨u, h1, h2, h3⟩ := h.2 i x hx; exact ⟨u, h1, h2.below hb, h3⟩⟩
theorem RowsP.snoc {B : Nat} {w w' : World} {v v' : Value} {vs : List VC} {xss : List (List Int)} {u : VC} {x : List Int} (h : RowsP B w v vs xss) (hu : Rd1 w u.1 x) (hne : 0 < x.length → u.1.ownBlock ≠ v.ownBlock) (hB : ∀ b, u.1.ownBlock = some b → B ≤ b) (hg : w.grownBy w' v.ownBlock) (hat : v'.ownBlock = v.ownBlock ∨ ∃ b, v'.ownBlock = some b ∧ w.heap.size ≤ b) : RowsP B w' v' (vs ++ [u]) (xss ++ [x]) := by
  have key : ∀ (u : VC) (x : List Int), Rd1 w u.1 x → (0 < x.length → u.1.ownBlock ≠ v.ownBlock) → Rd1 w' u.1 x ∧ (0 < x.length → u.1.ownBlock ≠ v'.ownBlock) := by
    intro u x hu hne; refine ⟨hu.grown hg hne, fun hp => ?_⟩
    rcases hat with hat | ⟨b, hb, hle⟩
    · rw [hat]; exact hne hp
    · obtain ⟨k, hk, hlt⟩ := hu.lt hp; rw [hk, hb]; intro e; injection e with e
      omega
  refine ⟨by simp [h.1], fun i y hy => ?_⟩
  rcases Nat.lt_or_ge i xss.length with hlt | hge
  · rw [List.getElem?_append_left hlt] at hy; obtain ⟨u2, h1, h2, h3, h4⟩ := h.2 i y hy; obtain ⟨k1, k2⟩ := key u2 y h2 h3; exact ⟨u2, by rw [List.getElem?_append_left (by rw [h.1]; exact hlt)]; exact h1, k1, k2, h4⟩
  · rw [List.getElem?_append_right hge] at hy
    have hi : i - xss.length = 0 := by
      rcases Nat.eq_zero_or_pos (i - xss.length) with h0 | h0
      · exact h0
      · rw [List.getElem?_eq_none (by simp; omega)] at hy; cases hy
    rw [hi] at hy; obtain rfl : x = y := by simpa using hy
    obtain ⟨k1, k2⟩ := key u x hu hne; exact ⟨u, by rw [List.getElem?_append_right (by rw [h.1]; exact hge), h.1, hi]; rfl, k1, k2, hB⟩
def kRow : Kd (List Int) := Kd.slice 3 (Kd.int .i64)
theorem zjB {B : Nat} {w : World} {base cap n : Nat} {A : Option Addr} {vs : List VC} {xss : List (List Int)} (h : Kd.R kV 24 w base (fun _ => True) (.slice A n cap) vs) (hp : RowsP B w (.slice A n cap) vs xss) : n = xss.length ∧ xss.length ≤ cap ∧ Kd.C kRow w A xss.length xss := by
  obtain ⟨h1, h2, h3⟩ := Kd.zO h; obtain ⟨k1, k2, k3⟩ := h3; have hl := hp.1; refine ⟨by omega, by omega, rfl, by omega, fun hpos => ?_⟩; obtain ⟨ad, rfl, hc⟩ := k3 (by omega); refine ⟨ad, rfl, fun j x hx => ?_⟩; obtain ⟨u, hu1, ⟨A', c', e, hlc, hC⟩, _⟩ := hp.2 j x hx; obtain ⟨cs, q1, q2, q3⟩ := hc j u hu1; refine ⟨cs, q1, ⟨A', c', ?_, hlc, hC⟩, q3⟩; rw [← e]; exact q2
theorem ziL {w : World} {A : Option Addr} {c : Nat} {xs : List Int} {B : Nat} (hC : Kd.C (Kd.int .i64) w A xs.length xs) (hB : ∀ b, (Value.slice A xs.length c).ownBlock = some b → B ≤ b) : Kd.F (Kd.int .i64) w (fun k => B ≤ k) A xs.length xs := by
  intro W' hW; refine ⟨hC.1, hC.2.1, fun hp => ?_⟩; obtain ⟨ad, rfl, hc⟩ := hC.2.2 hp; refine ⟨ad, rfl, fun j p hj => ?_⟩; obtain ⟨cs, h1, h2, h3⟩ := hc j p hj; refine ⟨cs, h1, h2, fun i u hi => ?_⟩; have h4 := h3 i u hi; have hlt := World.block_lt_of_cell? w _ h4; rw [add_block] at hlt; have e := hW ad.block (hB _ rfl) hlt; unfold World.cell? at h4 ⊢; rw [add_block] at h4 ⊢; rw [e]; exact h4
theorem zjH {B : Nat} {w : World} {cap n : Nat} {A : Option Addr} {vs : List VC} {xss : List (List Int)} (h : Kd.R kV 24 w B (fun _ => True) (.slice A n cap) vs) (hp : RowsP B w (.slice A n cap) vs xss) : Kd.F kRow w (fun k => B ≤ k) A xss.length xss := by
  intro W' hW; have hF := Kd.zfK (Kd.R_F (Kd.zfs rfl h)) (ok' := fun k => B ≤ k) (fun k hk => Kd.zaw h k hk.symm); obtain ⟨k1, k2, k3⟩ := hF W' hW; have hl := hp.1; refine ⟨rfl, by omega, fun hpos => ?_⟩; obtain ⟨ad, rfl, hc⟩ := k3 (by omega); refine ⟨ad, rfl, fun j x hx => ?_⟩; obtain ⟨u, hu1, ⟨A', c', e, hlc, hC⟩, _, hB⟩ := hp.2 j x hx; obtain ⟨cs, q1, q2, q3⟩ := hc j u hu1; have hF2 := ziL (B := B) (c := c') hC (fun b hb => hB b (by rw [e]; exact hb)) W' hW; refine ⟨cs, q1, ⟨A', c', ?_, hlc, hF2⟩, q3⟩; rw [← e]; exact q2
theorem zil {B e : Nat} {w : World} {base cap n : Nat} {A : Option Addr} {vs : List VC} {xss : List (List Int)} (h : Kd.R kV 24 w B (fun _ => True) (.slice A n cap) vs) (hp : RowsP B w (.slice A n cap) vs xss) : Kd.V (Kd.slice 3 (Kd.int .i64)) e w base (fun k => B ≤ k) (.slice A n cap) xss := by
  obtain ⟨q1, q2, _⟩ := zjB h hp; exact ⟨A, cap, by rw [q1], q2, zjH h hp⟩
theorem RowsP.set {B : Nat} {w w' : World} {g n c : Nat} {vs : List VC} {xss : List (List Int)} {u : VC} {x : List Int} (h : RowsP B w (.slice (some ⟨g, 0, none⟩) n c) vs xss) (hu : Rd1 w u.1 x) (hne : 0 < x.length → u.1.ownBlock ≠ some g) (hB : ∀ b, u.1.ownBlock = some b → B ≤ b) (hg : w.grownBy w' (some g)) (i : Nat) : RowsP B w' (.slice (some ⟨g, 0, none⟩) n c) (vs.set i u) (xss.set i x) := by
  refine ⟨by simp [h.1], fun j y hy => ?_⟩
  by_cases hij : i = j
  · subst hij
    by_cases hlt : i < xss.length
    · rw [List.getElem?_set_self hlt] at hy; obtain rfl := Option.some.inj hy; refine ⟨u, by rw [List.getElem?_set_self (by rw [h.1]; exact hlt)], hu.grown hg hne, hne, hB⟩
    · rw [List.getElem?_eq_none (by simp; omega)] at hy; cases hy
  · rw [List.getElem?_set_ne hij] at hy; obtain ⟨u2, h1, h2, h3, h4⟩ := h.2 j y hy; exact ⟨u2, by rw [List.getElem?_set_ne hij]; exact h1, h2.grown hg h3, h3, h4⟩
theorem ziV {B : Nat} {w : World} {base n c g : Nat} {vs : List VC} {xss : List (List Int)} (h : Kd.R kV 24 w base (fun _ => True) (.slice (some ⟨g, 0, none⟩) n c) vs) (hp : RowsP B w (.slice (some ⟨g, 0, none⟩) n c) vs xss) (i : Int) (h0 : 0 ≤ i) (h1 : i < xss.length) : ∃ A' c', w.cell? ⟨g, i.toNat, none⟩ = some (.slice A' (xss.getD i.toNat []).length c') ∧ (xss.getD i.toNat []).length ≤ c' ∧ Kd.C (Kd.int .i64) w A' (xss.getD i.toNat []).length (xss.getD i.toNat []) ∧ w.frozen? ⟨g, i.toNat, none⟩ = false ∧ (0 < (xss.getD i.toNat []).length → (Value.slice A' (xss.getD i.toNat []).length c').ownBlock ≠ some g) := by
  have hlt : i.toNat < xss.length := by omega
  obtain ⟨hn, hnc, hC⟩ := Kd.zO h; obtain ⟨u, hu1, ⟨A', c', e, hl, hr⟩, hne, hB⟩ := hp.2 i.toNat _ (List.getElem?_eq_getElem hlt); have hx : xss.getD i.toNat [] = xss[i.toNat] := by rw [List.getD_eq_getElem?_getD, List.getElem?_eq_getElem hlt]; rfl
  have hln : i < (n : Int) := by have := hp.1; omega
  obtain ⟨k1, k2⟩ := Kd.zcT (vcS none 0 0) h i h0 hln
  have hv : rdOf (vcS none 0 0) vs i = u := by
    show vs.getD i.toNat _ = u; rw [List.getD_eq_getElem?_getD, hu1]; rfl
  rw [hv] at k1; rw [hx]; refine ⟨A', c', by rw [k1]; exact congrArg some e, hl, hr, k2, fun hp0 => ?_⟩; rw [← e]; exact hne hp0
theorem zhl {w : World} {A : Option Addr} {n : Nat} {xss : List (List Int)} (h : Kd.C kRow w A n xss) (i : Int) (h0 : 0 ≤ i) (h1 : i < n) : ∃ ad A' c', A = some ad ∧ w.cell? (ad.add i.toNat) = some (.slice A' (xss.getD i.toNat []).length c') ∧ (xss.getD i.toNat []).length ≤ c' ∧ Kd.C (Kd.int .i64) w A' (xss.getD i.toNat []).length (xss.getD i.toNat []) := by
  obtain ⟨ad, c, e, hs, ⟨A', c', rfl, hl, hC⟩, hc⟩ := Kd.C_get h [] i h0 h1; refine ⟨ad, A', c', e, ?_, hl, hC⟩; have := hc 0 _ rfl; have e1 : i.toNat * kRow.sz + 0 = i.toNat := by show i.toNat * 1 + 0 = _; omega
  rw [e1] at this; exact this
theorem zjG {α β : Type} {d : Kd α} {d' : Kd β} {e e' b : Nat} {w w1 : World} {ok ok' : Nat → Prop} {u v : Value} {xs : List α} {ys : List β} (hu : Kd.R d e w b ok u xs) (hv : Kd.R d' e' w1 w.heap.size ok' v ys) : ∀ k, v.ownBlock = some k → some k ≠ u.ownBlock := by
  intro k hk e; have h1 := Kd.zaw hv k hk; have h2 := Kd.R_lt hu k e.symm
  omega
theorem zcV {w : World} {base base' : Nat} {ok ok' : Nat → Prop} {u v : Value} {x : List Int} {vs : List VC} (hu : Kd.R (Kd.int .i64) 3 w base ok u x) (hv : Kd.R kV 24 w base' ok' v vs) (hp : 0 < x.length) : u.ownBlock ≠ v.ownBlock := by
  obtain ⟨k, hk, _⟩ := (zcl hu).lt hp; intro e; obtain ⟨c1, h1⟩ := Kd.zcU hu k hk; obtain ⟨c2, h2⟩ := Kd.zcU hv k (by rw [← e]; exact hk); rw [h1] at h2; injection h2 with h2
  injection h2 with _ h2
  exact absurd h2 (by decide)
end Go.Proofs.Ytmipjlbkcfpkiaa.K

end
section
namespace Go.Proofs.Ytmipjlbkcfpkiaa.K
open Go.RowKit Go.Proofs.YtmipjlbkcfpkiaaW.PrintWords Go.Proofs.YtmipjlbkcfpkiaaW.PrintLast Go.Proofs.YtmipjlbkcfpkiaaW.PrintMore
attribute [local go_sem] zao zar zaE zaD zad zac zaq zan
set_option linter.unusedVariables false
set_option linter.unusedSimpArgs false
def zR.l0 : Nat → List Int → Int → List Int → Int → Option (List Int)
  | 0, _, _, _, _ => none
  | k + 1, x0, x1, x5, x6 => if x6 < (x0.length : Int) then (if 0 ≤ x6 then (if x5.length < 17592186044416 then (zR.l0 k x0 x1 (x5 ++ [Int.tmod (wrap64 ((rd x0 x6) * x1)) 31]) (wrap64 (x6 + 1))) else (none)) else (none)) else (some x5)
def zR.f (k : Nat) (l0 : List Int) (a1 : Int) : Option (List Int) := zR.l0 k l0 a1 (([] : List Int)) 0
theorem zR.zbI : ∀ k, (∀ y0 y1 y2 y3, LeO (zR.l0 k y0 y1 y2 y3) (zR.l0 (k + 1) y0 y1 y2 y3))
  | 0 => fun _ _ _ _ r h => by simp [zR.l0] at h
  | k + 1 => by
    have ih0 := zR.zbI k
    · intro y0 y1 y2 y3; unfold zR.l0
      repeat' first
      | (with_reducible exact ih0 _ _ _ _)
      | (with_reducible exact LeO.refl _)
      | (with_reducible exact LeO.none _)
      | (with_reducible refine LeO.ite ?_ ?_)
      | (with_reducible refine LeO.bind ?_ (fun _ => ?_))
      | exact ih0 _ _ _ _
      | exact LeO.none _
      | refine LeO.ite ?_ ?_
      | refine LeO.bind ?_ (fun _ => ?_)
theorem zR.mono : ∀ a0 a1 k, LeO (zR.f k a0 a1) (zR.f (k + 1) a0 a1) := by
  intro a0 a1 k; have ih0 := zR.zbI k; unfold zR.f
  repeat' first
      | (with_reducible exact ih0 _ _ _ _)
      | (with_reducible exact LeO.refl _)
      | (with_reducible exact LeO.none _)
      | (with_reducible refine LeO.ite ?_ ?_)
      | (with_reducible refine LeO.bind ?_ (fun _ => ?_))
      | exact ih0 _ _ _ _
      | exact LeO.none _
      | refine LeO.ite ?_ ?_
      | refine LeO.bind ?_ (fun _ => ?_)
set_option maxHeartbeats 8000000 in
set_option maxRecDepth 100000 in
theorem zR.calls (k : Nat) (A0 : Option Addr) (c0 : Nat) (l0 : List Int) (a1 : Int) (r : List Int) (w : World) (hr0 : Kd.C (Kd.int .i64) w A0 l0.length l0) (hc0 : l0.length ≤ c0) (h : zR.f k l0 a1 = some r) :
    Calls Try.prog 86 #[.slice A0 l0.length c0, .int .i64 a1] w fun e w' => ∃ v0_ : Value, e = .returned (v0_) ∧ Kd.R (Kd.int .i64) 3 w' w.heap.size (fun _ => True) v0_ r ∧ Below w.heap.size w w' := by
  have HR0 := zb.mk hr0; have HC0 := zb.mk hc0; clear hr0 hc0; have HB := zb.mk (Below.refl w.heap.size w); have H : (zR.l0 k l0 a1 (([] : List Int)) 0) = some r := h; clear h; obtain ⟨y101, hy101⟩ : ∃ y_ : List Int, y_ = (([] : List Int)) := ⟨_, rfl⟩
  replace H : (zR.l0 k l0 a1 y101 0) = some r := by first | (rw [hy101]; with_reducible exact H) | (have H2_ := (Option.bind_some _ _).symm.trans H; rw [hy101]; with_reducible exact H2_) | (have H2_ := (Option.bind_some _ _).symm.trans H; with_reducible exact H2_) | with_reducible exact H | (rw [hy101]; exact H) | exact H
  have Ny101 := zb.mk hy101; clear hy101; have H' := zb.mk H; clear H
  go_enter Try.func86, Try.ntmps86
  go_wp2_with (first | ((with_reducible refine zV (N := 7) rfl ?_); refine Kd.R_lit (Kd.int .i64) _ 3 ?hg (N := 7) ?hd (xs := ([] : List Int)) (inner := []) (ok := fun _ => True) (okp := fun _ => True) ?hr ?hp (fun _ hk => hk) trivial (Below.refl _ _) (Nat.le_refl _) (by simp) ?_; (case hd => rfl); (case hg => rfl); (case hr => first | (go_simp; done) | (go_simp; rfl)); (case hp => exact (Reps.none _ _)); intro v102 w3 ho4 hb hg_ hnew_; clear hg_ hnew_; (first | rw [← Ny101.out] at ho4 | (simp only [Int.reduceToNat] at ho4; rw [← Ny101.out] at ho4)); have n0_ := zb.mk (Kd.zaa ho4 (zo (by repeat (first | (with_reducible first | exact HB.out | apply zf | apply za | apply ze) | exact HB.out | exact Below.refl _ _)))); have n1_ := zb.mk (zw (by repeat (first | (with_reducible first | exact HB.out | apply zf | apply za | apply ze) | exact HB.out | exact Below.refl _ _)) hb); clear HB; have HO103 := n0_; have HB := n1_; clear n0_ n1_; clear hb ho4))
  go_loopg [5, 6] k (fun kq v5 v6 w' => ∃ (x5_1 : List Int) (x6_1 : Int), v6 = .int .i64 x6_1 ∧ zb (zR.l0 kq l0 a1 x5_1 x6_1 = some r) ∧ zb (kq ≤ k) ∧ zb (Kd.R (Kd.int .i64) 3 w' w.heap.size (fun _ => True) v5 x5_1) ∧ zb (Below w.heap.size w w'))
  case atStart => exact ⟨(y101), (0), (by first | rfl | (simp; done) | (simp [*]; done)), H', ⟨Nat.le_refl _⟩, ⟨by (with_reducible repeat (first | apply Kd.zt | apply Kd.zq | apply Kd.zy)); exact HO103.out⟩, ⟨by repeat (first | (with_reducible first | exact HB.out | apply zf | apply za | apply ze) | exact HB.out | exact Below.refl _ _)⟩⟩
  case round =>
    clear H'
    try clear p2
    obtain ⟨x5_1, x6_1, rfl, HA, HK1, HO_5, HB⟩ := hrel; cases gk with
    | zero => exact absurd HA.out (by simp [zR.l0])
    | succ k1 =>
      have H := HA.out; clear HA; simp only [zR.l0] at H
      by_cases c5 : x6_1 < (l0.length : Int)
      · rw [if_pos c5] at H; have c5b0 : decide (x6_1 < (l0.length : Int)) = true := decide_eq_true c5; clear c5
        by_cases c6 : 0 ≤ x6_1
        · rw [if_pos c6] at H; have c6b0 : decide (0 ≤ x6_1) = true := decide_eq_true c6; clear c6
          by_cases c7 : x5_1.length < 17592186044416
          · rw [if_pos c7] at H; have LMc7 := zb.mk c7; clear c7; obtain ⟨y105, hy105⟩ : ∃ y_ : List Int, y_ = (x5_1 ++ [Int.tmod (wrap64 ((rd l0 x6_1) * a1)) 31]) := ⟨_, rfl⟩
            replace H : (zR.l0 k1 l0 a1 y105 (wrap64 (x6_1 + 1))) = some r := by first | (rw [hy105]; with_reducible exact H) | (have H2_ := (Option.bind_some _ _).symm.trans H; rw [hy105]; with_reducible exact H2_) | (have H2_ := (Option.bind_some _ _).symm.trans H; with_reducible exact H2_) | with_reducible exact H | (rw [hy105]; exact H) | exact H
            have Ny105 := zb.mk hy105; clear hy105; have H' := zb.mk H; clear H; have p104 : 0 ≤ (x6_1 : Int) := of_decide_eq_true (by first | (with_reducible assumption) | assumption); have q104 : x6_1 < (l0.length : Int) := of_decide_eq_true (by first | (with_reducible assumption) | assumption); obtain ⟨ad104, e104, hx104_0⟩ := Kd.zaR HR0.out x6_1 p104 q104; cases e104; replace hx104_0 := (HB.out.cell (World.block_lt_of_cell? w _ hx104_0)).trans hx104_0; replace p104 := eq_true p104; replace q104 := eq_true q104; go_wp2_with (first | ((with_reducible refine zaH (b := .append) (xs := #[.tmp 14, .tmp 22]) rfl ?_); at_builtin; refine Kd.zbM (Kd.int .i64) (w0 := w) w.heap.size rfl (.tmp 14) (.tmp 22) 24 3 (.int .i64 0) 8 rfl Try.underlying24 info3 rfl (by decide) (by omega) u5 x5_1 (Int.tmod (wrap64 ((rd l0 x6_1) * a1)) 31) [.int .i64 (Int.tmod (wrap64 ((rd l0 x6_1) * a1)) 31)] (fun _ => True) (fun _ => False) rfl rfl ?aP (fun _ hk => hk.elim) ?aF ?aO ?aB ?aS ?aL ?_; (case aP => exact rfl); (case aB => exact (by repeat (first | (with_reducible first | exact HB.out | apply zf | apply za | apply ze) | exact HB.out | exact Below.refl _ _))); (case aF => exact (fun _ _ => trivial)); (case aO => exact (by (with_reducible repeat (first | apply Kd.zt | apply Kd.zq | apply Kd.zy)); exact HO_5.out)); (case aS => exact (zo (by repeat (first | (with_reducible first | exact HB.out | apply zf | apply za | apply ze) | exact HB.out | exact Below.refl _ _)))); (case aL => have := LMc7.out; omega); intro v106 w8 ho hb hg hat; rw [← Ny105.out] at ho; have n0_ := zb.mk (hb); have n1_ := zb.mk (ho); clear HB; clear HO_5; have HB := n0_; have HO107 := n1_; clear n0_ n1_; clear ho hb hg hat))
            go_roundg k1
            case measure => have := HK1.out; omega
            case rel => exact ⟨(y105), (wrap64 (x6_1 + 1)), (by first | rfl | (simp; done) | (simp [*]; done)), H', ⟨by have := HK1.out; omega⟩, ⟨by (with_reducible repeat (first | apply Kd.zt | apply Kd.zq | apply Kd.zy)); exact HO107.out⟩, ⟨by repeat (first | (with_reducible first | exact HB.out | apply zf | apply za | apply ze) | exact HB.out | exact Below.refl _ _)⟩⟩
          · rw [if_neg c7] at H; exact absurd H (by simp)
        · rw [if_neg c6] at H; exact absurd H (by simp)
      · rw [if_neg c5] at H; have c5b0 : decide (x6_1 < (l0.length : Int)) = false := decide_eq_false c5; clear c5; obtain rfl := Option.some.inj H; go_wp2; go_ret; exact ⟨_, by first | rfl | (simp [zA, zB] <;> rfl) | (simp [*, zA, zB] <;> rfl), by (with_reducible repeat (first | apply Kd.zt | apply Kd.zq | apply Kd.zy)); exact HO_5.out, by repeat (first | (with_reducible first | exact HB.out | apply zf | apply za | apply ze) | exact HB.out | exact Below.refl _ _)⟩
end Go.Proofs.Ytmipjlbkcfpkiaa.K

end
section
namespace Go.Proofs.Ytmipjlbkcfpkiaa.K
open Go.RowKit Go.Proofs.YtmipjlbkcfpkiaaW.PrintWords Go.Proofs.YtmipjlbkcfpkiaaW.PrintLast Go.Proofs.YtmipjlbkcfpkiaaW.PrintMore
attribute [local go_sem] zao zar zaE zaD zad zac zaq zan
set_option linter.unusedVariables false
set_option linter.unusedSimpArgs false
def zY.l0 : Nat → List Int → Int → Option (Int)
  | 0, _, _ => none
  | k + 1, x0, x3 => if x3 < (x0.length : Int) then (if 0 ≤ x3 then (if (rd x0 x3) = 0 then (zY.l0 k x0 (wrap64 (x3 + 1))) else (some x3)) else (none)) else (some (-1))
def zY.f (k : Nat) (l0 : List Int) : Option (Int) := zY.l0 k l0 0
theorem zY.zbI : ∀ k, (∀ y0 y1, LeO (zY.l0 k y0 y1) (zY.l0 (k + 1) y0 y1))
  | 0 => fun _ _ r h => by simp [zY.l0] at h
  | k + 1 => by
    have ih0 := zY.zbI k
    · intro y0 y1; unfold zY.l0
      repeat' first
      | (with_reducible exact ih0 _ _)
      | (with_reducible exact LeO.refl _)
      | (with_reducible exact LeO.none _)
      | (with_reducible refine LeO.ite ?_ ?_)
      | (with_reducible refine LeO.bind ?_ (fun _ => ?_))
      | exact ih0 _ _
      | exact LeO.none _
      | refine LeO.ite ?_ ?_
      | refine LeO.bind ?_ (fun _ => ?_)
theorem zY.mono : ∀ a0 k, LeO (zY.f k a0) (zY.f (k + 1) a0) := by
  intro a0 k; have ih0 := zY.zbI k; unfold zY.f
  repeat' first
      | (with_reducible exact ih0 _ _)
      | (with_reducible exact LeO.refl _)
      | (with_reducible exact LeO.none _)
      | (with_reducible refine LeO.ite ?_ ?_)
      | (with_reducible refine LeO.bind ?_ (fun _ => ?_))
      | exact ih0 _ _
      | exact LeO.none _
      | refine LeO.ite ?_ ?_
      | refine LeO.bind ?_ (fun _ => ?_)
set_option maxHeartbeats 8000000 in
set_option maxRecDepth 100000 in
theorem zY.calls (k : Nat) (A0 : Option Addr) (c0 : Nat) (l0 : List Int) (r : Int) (w : World) (hr0 : Kd.C (Kd.int .i64) w A0 l0.length l0) (hc0 : l0.length ≤ c0) (h : zY.f k l0 = some r) :
    Calls Try.prog 150 #[.slice A0 l0.length c0] w fun e w' => e = .returned (.int .i64 r) ∧ zam w w' := by
  have HR0 := zb.mk hr0; have HC0 := zb.mk hc0; clear hr0 hc0; have H : (zY.l0 k l0 0) = some r := h; clear h; have H' := zb.mk H; clear H
  go_enter Try.func150, Try.ntmps150
  go_wp2
  go_loopg [3] k (fun kq v3 w' => ∃ (x3_1 : Int), v3 = .int .i64 x3_1 ∧ zb (zY.l0 kq l0 x3_1 = some r) ∧ zb (kq ≤ k) ∧ zam w w')
  case atStart => exact ⟨(0), (by first | rfl | (simp; done) | (simp [*]; done)), H', ⟨Nat.le_refl _⟩, by repeat (first | exact zam.refl _ | apply zam.step)⟩
  case round =>
    clear H'
    try clear c1
    obtain ⟨x3_1, rfl, HA, HK1, ⟨m1, rfl⟩⟩ := hrel; cases gk with
    | zero => exact absurd HA.out (by simp [zY.l0])
    | succ k1 =>
      have H := HA.out; clear HA; simp only [zY.l0] at H
      by_cases c2 : x3_1 < (l0.length : Int)
      · rw [if_pos c2] at H; have c2b0 : decide (x3_1 < (l0.length : Int)) = true := decide_eq_true c2; clear c2
        by_cases c3 : 0 ≤ x3_1
        · rw [if_pos c3] at H; have c3b0 : decide (0 ≤ x3_1) = true := decide_eq_true c3; clear c3
          by_cases c4 : (rd l0 x3_1) = 0
          · rw [if_pos c4] at H; have c4b0 : ((rd l0 x3_1) == 0) = true := beq_iff_eq.mpr c4; have c4b1 : ((rd l0 x3_1) != 0) = false := bne_eq_false_iff_eq.mpr c4; clear c4; have H' := zb.mk H; clear H; have p101 : 0 ≤ (x3_1 : Int) := of_decide_eq_true (by first | (with_reducible assumption) | assumption); have q101 : x3_1 < (l0.length : Int) := of_decide_eq_true (by first | (with_reducible assumption) | assumption); obtain ⟨ad101, e101, hx101_0⟩ := Kd.zaR HR0.out x3_1 p101 q101; cases e101; replace p101 := eq_true p101; replace q101 := eq_true q101; go_wp2
            go_roundg k1
            case measure => have := HK1.out; omega
            case rel => exact ⟨(wrap64 (x3_1 + 1)), (by first | rfl | (simp; done) | (simp [*]; done)), H', ⟨by have := HK1.out; omega⟩, by repeat (first | exact zam.refl _ | apply zam.step)⟩
          · rw [if_neg c4] at H; have c4b0 : ((rd l0 x3_1) == 0) = false := beq_eq_false_iff_ne.mpr c4; have c4b1 : ((rd l0 x3_1) != 0) = true := bne_iff_ne.mpr c4; obtain rfl := Option.some.inj H; have p101 : 0 ≤ (x3_1 : Int) := of_decide_eq_true (by first | (with_reducible assumption) | assumption); have q101 : x3_1 < (l0.length : Int) := of_decide_eq_true (by first | (with_reducible assumption) | assumption); obtain ⟨ad101, e101, hx101_0⟩ := Kd.zaR HR0.out x3_1 p101 q101; cases e101; replace p101 := eq_true p101; replace q101 := eq_true q101; go_wp2; go_ret; exact ⟨by first | rfl | (simp; done) | (simp [*]; done), by repeat (first | exact zam.refl _ | apply zam.step)⟩
        · rw [if_neg c3] at H; exact absurd H (by simp)
      · rw [if_neg c2] at H; have c2b0 : decide (x3_1 < (l0.length : Int)) = false := decide_eq_false c2; clear c2; obtain rfl := Option.some.inj H; go_wp2; go_ret; exact ⟨by first | rfl | (simp; done) | (simp [*]; done), by repeat (first | exact zam.refl _ | apply zam.step)⟩
end Go.Proofs.Ytmipjlbkcfpkiaa.K

end
section
namespace Go.Proofs.Ytmipjlbkcfpkiaa.K
open Go.RowKit Go.Proofs.YtmipjlbkcfpkiaaW.PrintWords Go.Proofs.YtmipjlbkcfpkiaaW.PrintLast Go.Proofs.YtmipjlbkcfpkiaaW.PrintMore
attribute [local go_sem] zao zar zaE zaD zad zac zaq zan
set_option linter.unusedVariables false
set_option linter.unusedSimpArgs false
def zW.l0 : Nat → List Int → List Int → List Int → Int → Option (List Int)
  | 0, _, _, _, _ => none
  | k + 1, x0, x1, x5, x6 => if x6 < (x0.length : Int) then (if 0 ≤ x6 then (if x6 < (x1.length : Int) then (if x5.length < 17592186044416 then (zW.l0 k x0 x1 (x5 ++ [Int.tmod (wrap64 ((rd x0 x6) + (rd x1 x6))) 31]) (wrap64 (x6 + 1))) else (none)) else (none)) else (none)) else (some x5)
def zW.f (k : Nat) (l0 : List Int) (l1 : List Int) : Option (List Int) := zW.l0 k l0 l1 (([] : List Int)) 0
theorem zW.zbI : ∀ k, (∀ y0 y1 y2 y3, LeO (zW.l0 k y0 y1 y2 y3) (zW.l0 (k + 1) y0 y1 y2 y3))
  | 0 => fun _ _ _ _ r h => by simp [zW.l0] at h
  | k + 1 => by
    have ih0 := zW.zbI k
    · intro y0 y1 y2 y3; unfold zW.l0
      repeat' first
      | (with_reducible exact ih0 _ _ _ _)
      | (with_reducible exact LeO.refl _)
      | (with_reducible exact LeO.none _)
      | (with_reducible refine LeO.ite ?_ ?_)
      | (with_reducible refine LeO.bind ?_ (fun _ => ?_))
      | exact ih0 _ _ _ _
      | exact LeO.none _
      | refine LeO.ite ?_ ?_
      | refine LeO.bind ?_ (fun _ => ?_)
theorem zW.mono : ∀ a0 a1 k, LeO (zW.f k a0 a1) (zW.f (k + 1) a0 a1) := by
  intro a0 a1 k; have ih0 := zW.zbI k; unfold zW.f
  repeat' first
      | (with_reducible exact ih0 _ _ _ _)
      | (with_reducible exact LeO.refl _)
      | (with_reducible exact LeO.none _)
      | (with_reducible refine LeO.ite ?_ ?_)
      | (with_reducible refine LeO.bind ?_ (fun _ => ?_))
      | exact ih0 _ _ _ _
      | exact LeO.none _
      | refine LeO.ite ?_ ?_
      | refine LeO.bind ?_ (fun _ => ?_)
def zW.T5 : Bool × List (List Nat × List Nat) := (true, [([], []), ([], []), ([], []), ([1, 2], [1, 2]), ([3], [3]), ([], []), ([], []), ([5, 6], [5, 6]), ([7], [7]), ([4, 8], [4, 8]), ([9], [9]), ([10], [10]), ([0, 11], [0, 11]), ([12, 12, 0, 1, 2, 3, 4, 5, 6, 7, 8, 9, 10, 11, 12], [0, 12])])
def zW.B5 : List Nat := [0, 0, 0, 6, 14, 0, 0, 96, 224, 510, 1022, 2046, 4095, 8191]
theorem zW.tab5 : rtab .any (opsOf Try.f85 5) = zW.T5 := by kernel_rfl
theorem zW.bits5 : zcd zW.T5.2 zW.B5 = true := by kernel_rfl
set_option maxHeartbeats 8000000 in
set_option maxRecDepth 100000 in
theorem zW.calls (k : Nat) (A0 : Option Addr) (c0 : Nat) (l0 : List Int) (A1 : Option Addr) (c1 : Nat) (l1 : List Int) (r : List Int) (w : World) (hr0 : Kd.C (Kd.int .i64) w A0 l0.length l0) (hc0 : l0.length ≤ c0) (hr1 : Kd.C (Kd.int .i64) w A1 l1.length l1) (hc1 : l1.length ≤ c1) (h : zW.f k l0 l1 = some r) :
    Calls Try.prog 85 #[.slice A0 l0.length c0, .slice A1 l1.length c1] w fun e w' => ∃ v0_ : Value, e = .returned (v0_) ∧ Kd.R (Kd.int .i64) 3 w' w.heap.size (fun _ => True) v0_ r ∧ Below w.heap.size w w' := by
  have HR0 := zb.mk hr0; have HC0 := zb.mk hc0; clear hr0 hc0; have HR1 := zb.mk hr1; have HC1 := zb.mk hc1; clear hr1 hc1; have HB := zb.mk (Below.refl w.heap.size w); have H : (zW.l0 k l0 l1 (([] : List Int)) 0) = some r := h; clear h; obtain ⟨y101, hy101⟩ : ∃ y_ : List Int, y_ = (([] : List Int)) := ⟨_, rfl⟩
  replace H : (zW.l0 k l0 l1 y101 0) = some r := by first | (rw [hy101]; with_reducible exact H) | (have H2_ := (Option.bind_some _ _).symm.trans H; rw [hy101]; with_reducible exact H2_) | (have H2_ := (Option.bind_some _ _).symm.trans H; with_reducible exact H2_) | with_reducible exact H | (rw [hy101]; exact H) | exact H
  have Ny101 := zb.mk hy101; clear hy101; have H' := zb.mk H; clear H
  go_enter Try.func85, Try.ntmps85
  go_wp2_with (first | ((with_reducible refine zV (N := 7) rfl ?_); refine Kd.R_lit (Kd.int .i64) _ 3 ?hg (N := 7) ?hd (xs := ([] : List Int)) (inner := []) (ok := fun _ => True) (okp := fun _ => True) ?hr ?hp (fun _ hk => hk) trivial (Below.refl _ _) (Nat.le_refl _) (by simp) ?_; (case hd => rfl); (case hg => rfl); (case hr => first | (go_simp; done) | (go_simp; rfl)); (case hp => exact (Reps.none _ _)); intro v102 w3 ho4 hb hg_ hnew_; clear hg_ hnew_; (first | rw [← Ny101.out] at ho4 | (simp only [Int.reduceToNat] at ho4; rw [← Ny101.out] at ho4)); have n0_ := zb.mk (Kd.zaa ho4 (zo (by repeat (first | (with_reducible first | exact HB.out | apply zf | apply za | apply ze) | exact HB.out | exact Below.refl _ _)))); have n1_ := zb.mk (zw (by repeat (first | (with_reducible first | exact HB.out | apply zf | apply za | apply ze) | exact HB.out | exact Below.refl _ _)) hb); clear HB; have HO103 := n0_; have HB := n1_; clear n0_ n1_; clear hb ho4))
  go_loopg [5, 6] k (fun kq v5 v6 w' => ∃ (x5_1 : List Int) (x6_1 : Int), v6 = .int .i64 x6_1 ∧ zb (zW.l0 kq l0 l1 x5_1 x6_1 = some r) ∧ zb (kq ≤ k) ∧ zb (Kd.R (Kd.int .i64) 3 w' w.heap.size (fun _ => True) v5 x5_1) ∧ zb (Below w.heap.size w w'))
  case atStart => exact ⟨(y101), (0), (by first | rfl | (simp; done) | (simp [*]; done)), H', ⟨Nat.le_refl _⟩, ⟨by (with_reducible repeat (first | apply Kd.zt | apply Kd.zq | apply Kd.zy)); exact HO103.out⟩, ⟨by repeat (first | (with_reducible first | exact HB.out | apply zf | apply za | apply ze) | exact HB.out | exact Below.refl _ _)⟩⟩
  case round =>
    clear H'
    try clear c1
    try clear p2
    obtain ⟨x5_1, x6_1, rfl, HA, HK1, HO_5, HB⟩ := hrel; cases gk with
    | zero => exact absurd HA.out (by simp [zW.l0])
    | succ k1 =>
      have H := HA.out; clear HA; simp only [zW.l0] at H
      by_cases c5 : x6_1 < (l0.length : Int)
      · rw [if_pos c5] at H; have c5b0 : decide (x6_1 < (l0.length : Int)) = true := decide_eq_true c5; clear c5
        by_cases c6 : 0 ≤ x6_1
        · rw [if_pos c6] at H; have c6b0 : decide (0 ≤ x6_1) = true := decide_eq_true c6; clear c6
          by_cases c7 : x6_1 < (l1.length : Int)
          · rw [if_pos c7] at H; have c7b0 : decide (x6_1 < (l1.length : Int)) = true := decide_eq_true c7; clear c7
            by_cases c8 : x5_1.length < 17592186044416
            · rw [if_pos c8] at H; have LMc8 := zb.mk c8; clear c8; obtain ⟨y106, hy106⟩ : ∃ y_ : List Int, y_ = (x5_1 ++ [Int.tmod (wrap64 ((rd l0 x6_1) + (rd l1 x6_1))) 31]) := ⟨_, rfl⟩
              replace H : (zW.l0 k1 l0 l1 y106 (wrap64 (x6_1 + 1))) = some r := by first | (rw [hy106]; with_reducible exact H) | (have H2_ := (Option.bind_some _ _).symm.trans H; rw [hy106]; with_reducible exact H2_) | (have H2_ := (Option.bind_some _ _).symm.trans H; with_reducible exact H2_) | with_reducible exact H | (rw [hy106]; exact H) | exact H
              have Ny106 := zb.mk hy106; clear hy106; have H' := zb.mk H; clear H
              try go_wp2
              have n0_ := zb.mk (Kd.zy HO_5.out); have n1_ := zb.mk (ze HB.out); clear HO_5; clear HB; have HO_5 := n0_; have HB := n1_; clear n0_ n1_; have p104 : 0 ≤ (x6_1 : Int) := of_decide_eq_true (by first | (with_reducible assumption) | assumption); have q104 : x6_1 < (l0.length : Int) := of_decide_eq_true (by first | (with_reducible assumption) | assumption); obtain ⟨ad104, e104, hx104_0⟩ := Kd.zaR HR0.out x6_1 p104 q104; have hw104_0 := hx104_0; cases e104; replace hx104_0 := (HB.out.cell (World.block_lt_of_cell? w _ hx104_0)).trans hx104_0; replace p104 := eq_true p104; replace q104 := eq_true q104; have p105 : 0 ≤ (x6_1 : Int) := of_decide_eq_true (by first | (with_reducible assumption) | assumption); have q105 : x6_1 < (l1.length : Int) := of_decide_eq_true (by first | (with_reducible assumption) | assumption); obtain ⟨ad105, e105, hx105_0⟩ := Kd.zaR HR1.out x6_1 p105 q105; have hw105_0 := hx105_0; cases e105; replace hx105_0 := (HB.out.cell (World.block_lt_of_cell? w _ hx105_0)).trans hx105_0; replace p105 := eq_true p105; replace q105 := eq_true q105; refine zbG (n := 14) (S := fun w' => w'.cell? (ad104.add (x6_1).toNat) = some (.int .i64 (rd l0 x6_1)) ∧ w'.cell? (ad105.add (x6_1).toNat) = some (.int .i64 (rd l1 x6_1))) (ds := []) #[false, false, false, false, false, false, false, false, false, false, false, false, false, false] (by kernel_rfl) rfl rfl ⟨(by first | exact ((HB.out.cell (World.block_lt_of_cell? w _ hw104_0)).trans hw104_0) | exact hw104_0), (by first | exact ((HB.out.cell (World.block_lt_of_cell? w _ hw105_0)).trans hw105_0) | exact hw105_0)⟩ (fun hHeld => ?_); refine zbv zW.tab5 zW.bits5 (fun HT_ HW_ => ?_); generalize wr.drew = w9 at HO_5 HB hx104_0 hx105_0 hHeld ⊢; refine pure_ (i := 0) (N := some 14) (v := ?_) (a' := ?_) #[true, false, false, false, false, false, false, false, false, false, false, false, false, false] rfl rfl (zI HT_.out (by kernel_rfl)) (fun _ _ _ h => h) (Or.inl ⟨by rfl, ?_⟩) ?_ ?_; rotate_left
              · intro w'; go_simp; (with_reducible rfl)
              rotate_left
              · simp only [Act.put, List.setIfInBounds_toArray, List.set_cons_zero, List.set_cons_succ, i64_w, i32_w]; rfl
              refine pure_ (i := 1) (N := some 15) (v := ?_) (a' := ?_) #[true, true, false, false, false, false, false, false, false, false, false, false, false, false] rfl rfl (zI HT_.out (by kernel_rfl)) (fun _ _ _ h => h) (Or.inl ⟨by rfl, ?_⟩) ?_ ?_; rotate_left
              · intro w'; go_simp; (with_reducible rfl)
              rotate_left
              · simp only [Act.put, List.setIfInBounds_toArray, List.set_cons_zero, List.set_cons_succ, i64_w, i32_w]; rfl
              refine pure_ (i := 2) (N := some 16) (v := ?_) (a' := ?_) #[true, true, true, false, false, false, false, false, false, false, false, false, false, false] rfl rfl (zI HT_.out (by kernel_rfl)) (fun _ _ _ h => h) (Or.inl ⟨by rfl, ?_⟩) ?_ ?_; rotate_left
              · intro w'; go_simp; (with_reducible rfl)
              rotate_left
              · simp only [Act.put, List.setIfInBounds_toArray, List.set_cons_zero, List.set_cons_succ, i64_w, i32_w]; rfl
              refine pure_ (i := 3) (N := some 17) (v := ?_) (a' := ?_) #[true, true, true, true, false, false, false, false, false, false, false, false, false, false] rfl rfl (zI HT_.out (by kernel_rfl)) (fun _ _ _ h => h) (Or.inl ⟨by rfl, ?_⟩) ?_ ?_; rotate_left
              · intro w'; go_simp; (with_reducible rfl)
              rotate_left
              · simp only [Act.put, List.setIfInBounds_toArray, List.set_cons_zero, List.set_cons_succ, i64_w, i32_w]; rfl
              refine pure_ (i := 5) (N := some 19) (v := ?_) (a' := ?_) #[true, true, true, true, false, true, false, false, false, false, false, false, false, false] rfl rfl (zI HT_.out (by kernel_rfl)) (fun _ _ _ h => h) (Or.inl ⟨by rfl, ?_⟩) ?_ ?_; rotate_left
              · intro w'; go_simp; (with_reducible rfl)
              rotate_left
              · simp only [Act.put, List.setIfInBounds_toArray, List.set_cons_zero, List.set_cons_succ, i64_w, i32_w]; rfl
              refine pure_ (i := 6) (N := some 20) (v := ?_) (a' := ?_) #[true, true, true, true, false, true, true, false, false, false, false, false, false, false] rfl rfl (zI HT_.out (by kernel_rfl)) (fun _ _ _ h => h) (Or.inl ⟨by rfl, ?_⟩) ?_ ?_; rotate_left
              · intro w'; go_simp; (with_reducible rfl)
              rotate_left
              · simp only [Act.put, List.setIfInBounds_toArray, List.set_cons_zero, List.set_cons_succ, i64_w, i32_w]; rfl
              refine pure_ (i := 7) (N := some 21) (v := ?_) (a' := ?_) #[true, true, true, true, false, true, true, true, false, false, false, false, false, false] rfl rfl (zI HT_.out (by kernel_rfl)) (fun _ _ _ h => h) (Or.inl ⟨by rfl, ?_⟩) ?_ ?_; rotate_left
              · intro w'; go_simp; (with_reducible rfl)
              rotate_left
              · simp only [Act.put, List.setIfInBounds_toArray, List.set_cons_zero, List.set_cons_succ, i64_w, i32_w]; rfl
              refine take_ (i := 4) (N := some 18) (v := ?_) (a' := ?_) #[true, true, true, true, true, true, true, true, false, false, false, false, false, false] rfl rfl (zax HT_.out HW_.out (by kernel_rfl)) (fun _ _ _ h => h) (Or.inl ⟨by rfl, ?_⟩) hHeld ?_ ?_; rotate_left
              · rintro w' ⟨s0, s1⟩; go_simp; (with_reducible rfl)
              rotate_left
              · simp only [Act.put, List.setIfInBounds_toArray, List.set_cons_zero, List.set_cons_succ, i64_w, i32_w]; rfl
              refine take_ (i := 8) (N := some 22) (v := ?_) (a' := ?_) #[true, true, true, true, true, true, true, true, true, false, false, false, false, false] rfl rfl (zax HT_.out HW_.out (by kernel_rfl)) (fun _ _ _ h => h) (Or.inl ⟨by rfl, ?_⟩) hHeld ?_ ?_; rotate_left
              · rintro w' ⟨s0, s1⟩; go_simp; (with_reducible rfl)
              rotate_left
              · simp only [Act.put, List.setIfInBounds_toArray, List.set_cons_zero, List.set_cons_succ, i64_w, i32_w]; rfl
              refine pure_ (i := 9) (N := some 23) (v := ?_) (a' := ?_) #[true, true, true, true, true, true, true, true, true, true, false, false, false, false] rfl rfl (zI HT_.out (by kernel_rfl)) (fun _ _ _ h => h) (Or.inl ⟨by rfl, ?_⟩) ?_ ?_; rotate_left
              · intro w'; go_simp; (with_reducible rfl)
              rotate_left
              · simp only [Act.put, List.setIfInBounds_toArray, List.set_cons_zero, List.set_cons_succ, i64_w, i32_w]; rfl
              refine pure_ (i := 10) (N := some 24) (v := ?_) (a' := ?_) #[true, true, true, true, true, true, true, true, true, true, true, false, false, false] rfl rfl (zI HT_.out (by kernel_rfl)) (fun _ _ _ h => h) (Or.inl ⟨by rfl, ?_⟩) ?_ ?_; rotate_left
              · intro w'; go_simp; (with_reducible rfl)
              rotate_left
              · simp only [Act.put, List.setIfInBounds_toArray, List.set_cons_zero, List.set_cons_succ, i64_w, i32_w]; rfl
              refine one_ (i := 11) (N := some 25) #[true, true, true, true, true, true, true, true, true, true, true, true, false, false] rfl rfl (zbu HT_.out (by kernel_rfl)) (by decide) (fun K hK => ?_); refine zih (w1 := ?_) (v := ?_) (by rfl) rfl ?_ ?_; rotate_left 2
              · go_simp; constructor
                · rfl
                · rfl
              refine hK.out _ _ ⟨(World.cell?_alloc_lt _ _ _ (World.block_lt_of_cell? _ _ ((by first | exact ((HB.out.cell (World.block_lt_of_cell? w _ hw104_0)).trans hw104_0) | exact hw104_0)))).trans ((by first | exact ((HB.out.cell (World.block_lt_of_cell? w _ hw104_0)).trans hw104_0) | exact hw104_0)), (World.cell?_alloc_lt _ _ _ (World.block_lt_of_cell? _ _ ((by first | exact ((HB.out.cell (World.block_lt_of_cell? w _ hw105_0)).trans hw105_0) | exact hw105_0)))).trans ((by first | exact ((HB.out.cell (World.block_lt_of_cell? w _ hw105_0)).trans hw105_0) | exact hw105_0))⟩ (fun hHeld => ?_); clear hK K; refine norm_ (a' := ?_) ?_ ?_; rotate_left
              · show Act.put _ (some 25) _ = _; simp only [Act.put, List.setIfInBounds_toArray, List.set_cons_zero, List.set_cons_succ, i64_w, i32_w]; rfl
              refine one_ (i := 12) (N := some 26) #[true, true, true, true, true, true, true, true, true, true, true, true, true, false] rfl rfl (zbu HT_.out (by kernel_rfl)) (by decide) (fun K hK => ?_); refine Kd.zdi (Kd.int .i64) (w0 := w) w.heap.size (by rfl) (.tmp 14) (.tmp 25) 24 3 (.int .i64 0) 8 rfl Try.underlying24 info3 rfl (by decide) (by omega) u5 x5_1 (Int.tmod (wrap64 ((rd l0 x6_1) + (rd l1 x6_1))) 31) [.int .i64 (Int.tmod (wrap64 ((rd l0 x6_1) + (rd l1 x6_1))) 31)] (fun _ => True) (fun _ => False) rfl rfl ?aP (fun _ hk => hk.elim) ?aF ?aO ?aB ?aS ?aL ?_; (case aP => exact rfl); (case aB => exact (by repeat (first | (with_reducible first | exact HB.out | apply zf | apply za | apply ze) | exact HB.out | exact Below.refl _ _))); (case aF => exact (fun _ _ => trivial)); (case aO => exact (by (with_reducible repeat (first | apply Kd.zt | apply Kd.zq | apply Kd.zy)); exact HO_5.out)); (case aS => exact (zo (by repeat (first | (with_reducible first | exact HB.out | apply zf | apply za | apply ze) | exact HB.out | exact Below.refl _ _)))); (case aL => have := LMc8.out; omega); intro v107 w10 ho hb hg hat; rw [← Ny106.out] at ho; have n0_ := zb.mk (hb); have n1_ := zb.mk (ho); clear HB; clear HO_5; have HB := n0_; have HO108 := n1_; clear n0_ n1_; clear ho hb hg hat; refine hK.out _ _ ⟨(by first | exact ((HB.out.cell (World.block_lt_of_cell? w _ hw104_0)).trans hw104_0) | exact hw104_0), (by first | exact ((HB.out.cell (World.block_lt_of_cell? w _ hw105_0)).trans hw105_0) | exact hw105_0)⟩ (fun hHeld => ?_); clear hK K; refine norm_ (a' := ?_) ?_ ?_; rotate_left
              · show Act.put _ (some 26) _ = _; simp only [Act.put, List.setIfInBounds_toArray, List.set_cons_zero, List.set_cons_succ, i64_w, i32_w]; rfl
              refine pure_ (i := 13) (N := some 5) (v := ?_) (a' := ?_) #[true, true, true, true, true, true, true, true, true, true, true, true, true, true] rfl rfl (zI HT_.out (by kernel_rfl)) (fun _ _ _ h => h) (Or.inl ⟨by rfl, ?_⟩) ?_ ?_; rotate_left
              · intro w'; go_simp; (with_reducible rfl)
              rotate_left
              · simp only [Act.put, List.setIfInBounds_toArray, List.set_cons_zero, List.set_cons_succ, i64_w, i32_w]; rfl
              refine done_ (zca HT_.out (by kernel_rfl)) ?_
              try go_wp2
              go_roundg k1
              case measure => have := HK1.out; omega
              case rel => exact ⟨(y106), (wrap64 (x6_1 + 1)), (by first | rfl | (simp; done) | (simp [*]; done)), H', ⟨by have := HK1.out; omega⟩, ⟨by (with_reducible repeat (first | apply Kd.zt | apply Kd.zq | apply Kd.zy)); exact HO108.out⟩, ⟨by repeat (first | (with_reducible first | exact HB.out | apply zf | apply za | apply ze) | exact HB.out | exact Below.refl _ _)⟩⟩
            · rw [if_neg c8] at H; exact absurd H (by simp)
          · rw [if_neg c7] at H; exact absurd H (by simp)
        · rw [if_neg c6] at H; exact absurd H (by simp)
      · rw [if_neg c5] at H; have c5b0 : decide (x6_1 < (l0.length : Int)) = false := decide_eq_false c5; clear c5; obtain rfl := Option.some.inj H; go_wp2; go_ret; exact ⟨_, by first | rfl | (simp [zA, zB] <;> rfl) | (simp [*, zA, zB] <;> rfl), by (with_reducible repeat (first | apply Kd.zt | apply Kd.zq | apply Kd.zy)); exact HO_5.out, by repeat (first | (with_reducible first | exact HB.out | apply zf | apply za | apply ze) | exact HB.out | exact Below.refl _ _)⟩
end Go.Proofs.Ytmipjlbkcfpkiaa.K

end
section
namespace Go.Proofs.Ytmipjlbkcfpkiaa.K
open Go.RowKit Go.Proofs.YtmipjlbkcfpkiaaW.PrintWords Go.Proofs.YtmipjlbkcfpkiaaW.PrintLast Go.Proofs.YtmipjlbkcfpkiaaW.PrintMore
attribute [local go_sem] zao zar zaE zaD zad zac zaq zan
set_option linter.unusedVariables false
set_option linter.unusedSimpArgs false
def zaF.l0 : Nat → Int → Int → Option (Int)
  | 0, _, _ => none
  | k + 1, x0, x3 => if x3 < 31 then (if (Int.tmod (wrap64 (x0 * x3)) 31) = 1 then (some x3) else (zaF.l0 k x0 (wrap64 (x3 + 1)))) else (some 0)
def zaF.f (k : Nat) (a0 : Int) : Option (Int) := zaF.l0 k a0 1
theorem zaF.zbI : ∀ k, (∀ y0 y1, LeO (zaF.l0 k y0 y1) (zaF.l0 (k + 1) y0 y1))
  | 0 => fun _ _ r h => by simp [zaF.l0] at h
  | k + 1 => by
    have ih0 := zaF.zbI k
    · intro y0 y1; unfold zaF.l0
      repeat' first
      | (with_reducible exact ih0 _ _)
      | (with_reducible exact LeO.refl _)
      | (with_reducible exact LeO.none _)
      | (with_reducible refine LeO.ite ?_ ?_)
      | (with_reducible refine LeO.bind ?_ (fun _ => ?_))
      | exact ih0 _ _
      | exact LeO.none _
      | refine LeO.ite ?_ ?_
      | refine LeO.bind ?_ (fun _ => ?_)
theorem zaF.mono : ∀ a0 k, LeO (zaF.f k a0) (zaF.f (k + 1) a0) := by
  intro a0 k; have ih0 := zaF.zbI k; unfold zaF.f
  repeat' first
      | (with_reducible exact ih0 _ _)
      | (with_reducible exact LeO.refl _)
      | (with_reducible exact LeO.none _)
      | (with_reducible refine LeO.ite ?_ ?_)
      | (with_reducible refine LeO.bind ?_ (fun _ => ?_))
      | exact ih0 _ _
      | exact LeO.none _
      | refine LeO.ite ?_ ?_
      | refine LeO.bind ?_ (fun _ => ?_)
set_option maxHeartbeats 8000000 in
set_option maxRecDepth 100000 in
theorem zaF.calls (k : Nat) (a0 : Int) (r : Int) (w : World) (h : zaF.f k a0 = some r) :
    Calls Try.prog 154 #[.int .i64 a0] w fun e w' => e = .returned (.int .i64 r) ∧ zam w w' := by
  have H : (zaF.l0 k a0 1) = some r := h; clear h; have H' := zb.mk H; clear H
  go_enter Try.func154, Try.ntmps154
  go_wp2
  go_loopg [3] k (fun kq v3 w' => ∃ (x3_1 : Int), v3 = .int .i64 x3_1 ∧ zb (zaF.l0 kq a0 x3_1 = some r) ∧ zb (kq ≤ k) ∧ zam w w')
  case atStart => exact ⟨(1), (by first | rfl | (simp; done) | (simp [*]; done)), H', ⟨Nat.le_refl _⟩, by repeat (first | exact zam.refl _ | apply zam.step)⟩
  case round =>
    clear H'
    try clear c1
    obtain ⟨x3_1, rfl, HA, HK1, ⟨m1, rfl⟩⟩ := hrel; cases gk with
    | zero => exact absurd HA.out (by simp [zaF.l0])
    | succ k1 =>
      have H := HA.out; clear HA; simp only [zaF.l0] at H
      by_cases c2 : x3_1 < 31
      · rw [if_pos c2] at H; have c2b0 : decide (x3_1 < 31) = true := decide_eq_true c2; clear c2
        by_cases c3 : (Int.tmod (wrap64 (a0 * x3_1)) 31) = 1
        · rw [if_pos c3] at H; have c3b0 : ((Int.tmod (wrap64 (a0 * x3_1)) 31) == 1) = true := beq_iff_eq.mpr c3; have c3b1 : ((Int.tmod (wrap64 (a0 * x3_1)) 31) != 1) = false := bne_eq_false_iff_eq.mpr c3; clear c3; obtain rfl := Option.some.inj H; go_wp2; go_ret; exact ⟨by first | rfl | (simp; done) | (simp [*]; done), by repeat (first | exact zam.refl _ | apply zam.step)⟩
        · rw [if_neg c3] at H; have c3b0 : ((Int.tmod (wrap64 (a0 * x3_1)) 31) == 1) = false := beq_eq_false_iff_ne.mpr c3; have c3b1 : ((Int.tmod (wrap64 (a0 * x3_1)) 31) != 1) = true := bne_iff_ne.mpr c3; have H' := zb.mk H; clear H; go_wp2
          go_roundg k1
          case measure => have := HK1.out; omega
          case rel => exact ⟨(wrap64 (x3_1 + 1)), (by first | rfl | (simp; done) | (simp [*]; done)), H', ⟨by have := HK1.out; omega⟩, by repeat (first | exact zam.refl _ | apply zam.step)⟩
      · rw [if_neg c2] at H; have c2b0 : decide (x3_1 < 31) = false := decide_eq_false c2; clear c2; obtain rfl := Option.some.inj H; go_wp2; go_ret; exact ⟨by first | rfl | (simp; done) | (simp [*]; done), by repeat (first | exact zam.refl _ | apply zam.step)⟩
end Go.Proofs.Ytmipjlbkcfpkiaa.K

end
section
namespace Go.Proofs.Ytmipjlbkcfpkiaa.K
open Go.RowKit Go.Proofs.YtmipjlbkcfpkiaaW.PrintWords Go.Proofs.YtmipjlbkcfpkiaaW.PrintLast Go.Proofs.YtmipjlbkcfpkiaaW.PrintMore
attribute [local go_sem] zao zar zaE zaD zad zac zaq zan
set_option linter.unusedVariables false
set_option linter.unusedSimpArgs false
def zab.f (k : Nat) (l0 : List Int) (l1 : List Int) : Option (List Int) := (zY.f k l1).bind fun t101 => (if 0 ≤ t101 then (if t101 < (l0.length : Int) then (if t101 < (l1.length : Int) then ((zaF.f k (rd l1 t101)).bind fun t104 => ((zR.f k l1 (Int.tmod (wrap64 (31 - (Int.tmod (wrap64 ((rd l0 t101) * t104)) 31))) 31)).bind fun t105 => ((zW.f k l0 t105).bind fun t108 => (some t108)))) else (none)) else (none)) else (none))
theorem zab.mono : ∀ a0 a1 k, LeO (zab.f k a0 a1) (zab.f (k + 1) a0 a1) := by
  intro a0 a1 k; unfold zab.f
  repeat' first
      | (with_reducible exact zaF.mono _ _)
      | (with_reducible exact zY.mono _ _)
      | (with_reducible exact zR.mono _ _ _)
      | (with_reducible exact zW.mono _ _ _)
      | (with_reducible exact LeO.refl _)
      | (with_reducible exact LeO.none _)
      | (with_reducible refine LeO.ite ?_ ?_)
      | (with_reducible refine LeO.bind ?_ (fun _ => ?_))
      | exact zaF.mono _ _
      | exact zY.mono _ _
      | exact zR.mono _ _ _
      | exact zW.mono _ _ _
      | exact LeO.none _
      | refine LeO.ite ?_ ?_
      | refine LeO.bind ?_ (fun _ => ?_)
def zab.T2 : Bool × List (List Nat × List Nat) := (true, [([], []), ([], []), ([], []), ([], []), ([2, 3], [2, 3]), ([4], [4]), ([], []), ([], []), ([6, 7], [6, 7]), ([8], [8]), ([9], [9]), ([5, 10], [5, 10]), ([11], [11]), ([12], [12]), ([13], [13]), ([1, 14, 10], [1, 14]), ([0, 15, 15], [0, 15]), ([16, 16, 0, 1, 2, 3, 4, 5, 6, 7, 8, 9, 10, 11, 12, 13, 14, 15, 16], [16])])
def zab.B2 : List Nat := [0, 0, 0, 0, 12, 28, 0, 0, 192, 448, 960, 2044, 4092, 8188, 16380, 32766, 65535, 131071]
theorem zab.tab2 : rtab .any (opsOf Try.f151 2) = zab.T2 := by kernel_rfl
theorem zab.bits2 : zcd zab.T2.2 zab.B2 = true := by kernel_rfl
set_option maxHeartbeats 8000000 in
set_option maxRecDepth 100000 in
theorem zab.calls (k : Nat) (A0 : Option Addr) (c0 : Nat) (l0 : List Int) (A1 : Option Addr) (c1 : Nat) (l1 : List Int) (r : List Int) (w : World) (hr0 : Kd.C (Kd.int .i64) w A0 l0.length l0) (hc0 : l0.length ≤ c0) (hr1 : Kd.C (Kd.int .i64) w A1 l1.length l1) (hc1 : l1.length ≤ c1) (h : zab.f k l0 l1 = some r) :
    Calls Try.prog 151 #[.slice A0 l0.length c0, .slice A1 l1.length c1] w fun e w' => ∃ v0_ : Value, e = .returned (v0_) ∧ Kd.R (Kd.int .i64) 3 w' w.heap.size (fun _ => True) v0_ r ∧ Below w.heap.size w w' := by
  have HR0 := zb.mk hr0; have HC0 := zb.mk hc0; clear hr0 hc0; have HR1 := zb.mk hr1; have HC1 := zb.mk hc1; clear hr1 hc1; have HB := zb.mk (Below.refl w.heap.size w); have H : ((zY.f k l1).bind fun t101 => (if 0 ≤ t101 then (if t101 < (l0.length : Int) then (if t101 < (l1.length : Int) then ((zaF.f k (rd l1 t101)).bind fun t104 => ((zR.f k l1 (Int.tmod (wrap64 (31 - (Int.tmod (wrap64 ((rd l0 t101) * t104)) 31))) 31)).bind fun t105 => ((zW.f k l0 t105).bind fun t108 => (some t108)))) else (none)) else (none)) else (none))) = some r := h; clear h; replace H := Option.bind_eq_some_iff.mp H; obtain ⟨t101, A30, H⟩ := H; replace H : (if 0 ≤ t101 then (if t101 < (l0.length : Int) then (if t101 < (l1.length : Int) then ((zaF.f k (rd l1 t101)).bind fun t104 => ((zR.f k l1 (Int.tmod (wrap64 (31 - (Int.tmod (wrap64 ((rd l0 t101) * t104)) 31))) 31)).bind fun t105 => ((zW.f k l0 t105).bind fun t108 => (some t108)))) else (none)) else (none)) else (none)) = some r := H; have A3 := zb.mk A30; clear A30
  by_cases c4 : 0 ≤ t101
  · rw [if_pos c4] at H; have c4b0 : decide (0 ≤ t101) = true := decide_eq_true c4; clear c4
    by_cases c5 : t101 < (l0.length : Int)
    · rw [if_pos c5] at H; have c5b0 : decide (t101 < (l0.length : Int)) = true := decide_eq_true c5; clear c5
      by_cases c6 : t101 < (l1.length : Int)
      · rw [if_pos c6] at H; have c6b0 : decide (t101 < (l1.length : Int)) = true := decide_eq_true c6; clear c6; replace H := Option.bind_eq_some_iff.mp H; obtain ⟨t104, A70, H⟩ := H; replace H : ((zR.f k l1 (Int.tmod (wrap64 (31 - (Int.tmod (wrap64 ((rd l0 t101) * t104)) 31))) 31)).bind fun t105 => ((zW.f k l0 t105).bind fun t108 => (some t108))) = some r := H; have A7 := zb.mk A70; clear A70; replace H := Option.bind_eq_some_iff.mp H; obtain ⟨t105, A80, H⟩ := H; replace H : ((zW.f k l0 t105).bind fun t108 => (some t108)) = some r := H; have A8 := zb.mk A80; clear A80; replace H := Option.bind_eq_some_iff.mp H; obtain ⟨t108, A90, H⟩ := H; replace H : (some t108) = some r := H; have A9 := zb.mk A90; clear A90; obtain rfl := Option.some.inj H
        go_enter Try.func151, Try.ntmps151
        try go_wp2_with (first | ((with_reducible refine zz (f := 150) rfl ?_); refine zX (some 7) rfl rfl Try.func150 (by kernel_rfl) rfl #[.slice A1 l1.length c1] rfl (by (try simp only [List.map_toArray, List.map_cons, List.map_nil]); first | done | rfl | (simp only [List.length_drop, List.length_take]; rfl)) ?_; (with_reducible refine (zY.calls k _ _ l1 t101 _ ?side1 ?side2 A3.out).mono ?_); (case side1 => repeat (first | exact HR1.out | (with_reducible refine Kd.zS ?_ _) | (with_reducible refine Kd.zT ?_ _) | (with_reducible refine Kd.zah ?_))); (case side2 => exact HC1.out); rintro e w' ⟨rfl, ⟨nd, rfl⟩⟩; refine ⟨_, rfl, ?_⟩))
        have n0_ := zb.mk (ze HB.out); clear HB; have HB := n0_; clear n0_; have p102 : 0 ≤ (t101 : Int) := of_decide_eq_true (by first | (with_reducible assumption) | assumption); have q102 : t101 < (l0.length : Int) := of_decide_eq_true (by first | (with_reducible assumption) | assumption); obtain ⟨ad102, e102, hx102_0⟩ := Kd.zaR HR0.out t101 p102 q102; have hw102_0 := hx102_0; cases e102; replace hx102_0 := (HB.out.cell (World.block_lt_of_cell? w _ hx102_0)).trans hx102_0; replace p102 := eq_true p102; replace q102 := eq_true q102; have p103 : 0 ≤ (t101 : Int) := of_decide_eq_true (by first | (with_reducible assumption) | assumption); have q103 : t101 < (l1.length : Int) := of_decide_eq_true (by first | (with_reducible assumption) | assumption); obtain ⟨ad103, e103, hx103_0⟩ := Kd.zaR HR1.out t101 p103 q103; have hw103_0 := hx103_0; cases e103; replace hx103_0 := (HB.out.cell (World.block_lt_of_cell? w _ hx103_0)).trans hx103_0; replace p103 := eq_true p103; replace q103 := eq_true q103; refine zbG (n := 18) (S := fun w' => w'.cell? (ad102.add (t101).toNat) = some (.int .i64 (rd l0 t101)) ∧ w'.cell? (ad103.add (t101).toNat) = some (.int .i64 (rd l1 t101))) (ds := []) #[false, false, false, false, false, false, false, false, false, false, false, false, false, false, false, false, false, false] (by kernel_rfl) rfl rfl ⟨(by first | exact ((HB.out.cell (World.block_lt_of_cell? w _ hw102_0)).trans hw102_0) | exact hw102_0), (by first | exact ((HB.out.cell (World.block_lt_of_cell? w _ hw103_0)).trans hw103_0) | exact hw103_0)⟩ (fun hHeld => ?_); refine zbv zab.tab2 zab.bits2 (fun HT_ HW_ => ?_); generalize w.drew = w10 at HB hx102_0 hx103_0 hHeld ⊢; refine pure_ (i := 0) (N := some 8) (v := ?_) (a' := ?_) #[true, false, false, false, false, false, false, false, false, false, false, false, false, false, false, false, false, false] rfl rfl (zI HT_.out (by kernel_rfl)) (fun _ _ _ h => h) (Or.inl ⟨by rfl, ?_⟩) ?_ ?_; rotate_left
        · intro w'; go_simp; (with_reducible rfl)
        rotate_left
        · simp only [Act.put, List.setIfInBounds_toArray, List.set_cons_zero, List.set_cons_succ, i64_w, i32_w]; rfl
        refine pure_ (i := 1) (N := some 9) (v := ?_) (a' := ?_) #[true, true, false, false, false, false, false, false, false, false, false, false, false, false, false, false, false, false] rfl rfl (zI HT_.out (by kernel_rfl)) (fun _ _ _ h => h) (Or.inl ⟨by rfl, ?_⟩) ?_ ?_; rotate_left
        · intro w'; go_simp; (with_reducible rfl)
        rotate_left
        · simp only [Act.put, List.setIfInBounds_toArray, List.set_cons_zero, List.set_cons_succ, i64_w, i32_w]; rfl
        refine pure_ (i := 2) (N := some 10) (v := ?_) (a' := ?_) #[true, true, true, false, false, false, false, false, false, false, false, false, false, false, false, false, false, false] rfl rfl (zI HT_.out (by kernel_rfl)) (fun _ _ _ h => h) (Or.inl ⟨by rfl, ?_⟩) ?_ ?_; rotate_left
        · intro w'; go_simp; (with_reducible rfl)
        rotate_left
        · simp only [Act.put, List.setIfInBounds_toArray, List.set_cons_zero, List.set_cons_succ, i64_w, i32_w]; rfl
        refine pure_ (i := 3) (N := some 11) (v := ?_) (a' := ?_) #[true, true, true, true, false, false, false, false, false, false, false, false, false, false, false, false, false, false] rfl rfl (zI HT_.out (by kernel_rfl)) (fun _ _ _ h => h) (Or.inl ⟨by rfl, ?_⟩) ?_ ?_; rotate_left
        · intro w'; go_simp; (with_reducible rfl)
        rotate_left
        · simp only [Act.put, List.setIfInBounds_toArray, List.set_cons_zero, List.set_cons_succ, i64_w, i32_w]; rfl
        refine pure_ (i := 4) (N := some 12) (v := ?_) (a' := ?_) #[true, true, true, true, true, false, false, false, false, false, false, false, false, false, false, false, false, false] rfl rfl (zI HT_.out (by kernel_rfl)) (fun _ _ _ h => h) (Or.inl ⟨by rfl, ?_⟩) ?_ ?_; rotate_left
        · intro w'; go_simp; (with_reducible rfl)
        rotate_left
        · simp only [Act.put, List.setIfInBounds_toArray, List.set_cons_zero, List.set_cons_succ, i64_w, i32_w]; rfl
        refine pure_ (i := 6) (N := some 14) (v := ?_) (a' := ?_) #[true, true, true, true, true, false, true, false, false, false, false, false, false, false, false, false, false, false] rfl rfl (zI HT_.out (by kernel_rfl)) (fun _ _ _ h => h) (Or.inl ⟨by rfl, ?_⟩) ?_ ?_; rotate_left
        · intro w'; go_simp; (with_reducible rfl)
        rotate_left
        · simp only [Act.put, List.setIfInBounds_toArray, List.set_cons_zero, List.set_cons_succ, i64_w, i32_w]; rfl
        refine pure_ (i := 7) (N := some 15) (v := ?_) (a' := ?_) #[true, true, true, true, true, false, true, true, false, false, false, false, false, false, false, false, false, false] rfl rfl (zI HT_.out (by kernel_rfl)) (fun _ _ _ h => h) (Or.inl ⟨by rfl, ?_⟩) ?_ ?_; rotate_left
        · intro w'; go_simp; (with_reducible rfl)
        rotate_left
        · simp only [Act.put, List.setIfInBounds_toArray, List.set_cons_zero, List.set_cons_succ, i64_w, i32_w]; rfl
        refine pure_ (i := 8) (N := some 16) (v := ?_) (a' := ?_) #[true, true, true, true, true, false, true, true, true, false, false, false, false, false, false, false, false, false] rfl rfl (zI HT_.out (by kernel_rfl)) (fun _ _ _ h => h) (Or.inl ⟨by rfl, ?_⟩) ?_ ?_; rotate_left
        · intro w'; go_simp; (with_reducible rfl)
        rotate_left
        · simp only [Act.put, List.setIfInBounds_toArray, List.set_cons_zero, List.set_cons_succ, i64_w, i32_w]; rfl
        refine take_ (i := 5) (N := some 13) (v := ?_) (a' := ?_) #[true, true, true, true, true, true, true, true, true, false, false, false, false, false, false, false, false, false] rfl rfl (zax HT_.out HW_.out (by kernel_rfl)) (fun _ _ _ h => h) (Or.inl ⟨by rfl, ?_⟩) hHeld ?_ ?_; rotate_left
        · rintro w' ⟨s0, s1⟩; go_simp; (with_reducible rfl)
        rotate_left
        · simp only [Act.put, List.setIfInBounds_toArray, List.set_cons_zero, List.set_cons_succ, i64_w, i32_w]; rfl
        refine take_ (i := 9) (N := some 17) (v := ?_) (a' := ?_) #[true, true, true, true, true, true, true, true, true, true, false, false, false, false, false, false, false, false] rfl rfl (zax HT_.out HW_.out (by kernel_rfl)) (fun _ _ _ h => h) (Or.inl ⟨by rfl, ?_⟩) hHeld ?_ ?_; rotate_left
        · rintro w' ⟨s0, s1⟩; go_simp; (with_reducible rfl)
        rotate_left
        · simp only [Act.put, List.setIfInBounds_toArray, List.set_cons_zero, List.set_cons_succ, i64_w, i32_w]; rfl
        refine one_ (i := 10) (N := some 18) #[true, true, true, true, true, true, true, true, true, true, true, false, false, false, false, false, false, false] rfl rfl (zbu HT_.out (by kernel_rfl)) (by decide) (fun K hK => ?_); refine goes_ Try.func154 (by kernel_rfl) rfl #[.int .i64 (rd l1 t101)] (by rfl) rfl rfl (by (try simp only [List.map_toArray, List.map_cons, List.map_nil]); first | done | rfl | (simp only [List.length_drop, List.length_take]; rfl)) ?_; (with_reducible refine (zaF.calls k (rd l1 t101) t104 _ A7.out).mono ?_); rintro e w' ⟨rfl, ⟨nd, rfl⟩⟩; refine ⟨_, rfl, ?_⟩; refine hK.out _ _ ⟨(by first | exact ((HB.out.cell (World.block_lt_of_cell? w _ hw102_0)).trans hw102_0) | exact hw102_0), (by first | exact ((HB.out.cell (World.block_lt_of_cell? w _ hw103_0)).trans hw103_0) | exact hw103_0)⟩ (fun hHeld => ?_); clear hK K; refine norm_ (a' := ?_) ?_ ?_; rotate_left
        · show Act.put _ (some 18) _ = _; simp only [Act.put, List.setIfInBounds_toArray, List.set_cons_zero, List.set_cons_succ, i64_w, i32_w]; rfl
        refine pure_ (i := 11) (N := some 19) (v := ?_) (a' := ?_) #[true, true, true, true, true, true, true, true, true, true, true, true, false, false, false, false, false, false] rfl rfl (zI HT_.out (by kernel_rfl)) (fun _ _ _ h => h) (Or.inl ⟨by rfl, ?_⟩) ?_ ?_; rotate_left
        · intro w'; go_simp; (with_reducible rfl)
        rotate_left
        · simp only [Act.put, List.setIfInBounds_toArray, List.set_cons_zero, List.set_cons_succ, i64_w, i32_w]; rfl
        refine pure_ (i := 12) (N := some 20) (v := ?_) (a' := ?_) #[true, true, true, true, true, true, true, true, true, true, true, true, true, false, false, false, false, false] rfl rfl (zI HT_.out (by kernel_rfl)) (fun _ _ _ h => h) (Or.inl ⟨by rfl, ?_⟩) ?_ ?_; rotate_left
        · intro w'; go_simp; (with_reducible rfl)
        rotate_left
        · simp only [Act.put, List.setIfInBounds_toArray, List.set_cons_zero, List.set_cons_succ, i64_w, i32_w]; rfl
        refine pure_ (i := 13) (N := some 21) (v := ?_) (a' := ?_) #[true, true, true, true, true, true, true, true, true, true, true, true, true, true, false, false, false, false] rfl rfl (zI HT_.out (by kernel_rfl)) (fun _ _ _ h => h) (Or.inl ⟨by rfl, ?_⟩) ?_ ?_; rotate_left
        · intro w'; go_simp; (with_reducible rfl)
        rotate_left
        · simp only [Act.put, List.setIfInBounds_toArray, List.set_cons_zero, List.set_cons_succ, i64_w, i32_w]; rfl
        refine pure_ (i := 14) (N := some 22) (v := ?_) (a' := ?_) #[true, true, true, true, true, true, true, true, true, true, true, true, true, true, true, false, false, false] rfl rfl (zI HT_.out (by kernel_rfl)) (fun _ _ _ h => h) (Or.inl ⟨by rfl, ?_⟩) ?_ ?_; rotate_left
        · intro w'; go_simp; (with_reducible rfl)
        rotate_left
        · simp only [Act.put, List.setIfInBounds_toArray, List.set_cons_zero, List.set_cons_succ, i64_w, i32_w]; rfl
        refine one_ (i := 15) (N := some 23) #[true, true, true, true, true, true, true, true, true, true, true, true, true, true, true, true, false, false] rfl rfl (zbu HT_.out (by kernel_rfl)) (by decide) (fun K hK => ?_); refine goes_ Try.func86 (by kernel_rfl) rfl #[.slice (some ad103) l1.length c1, .int .i64 (Int.tmod (wrap64 (31 - (Int.tmod (wrap64 ((rd l0 t101) * t104)) 31))) 31)] (by rfl) rfl rfl (by (try simp only [List.map_toArray, List.map_cons, List.map_nil]); first | done | rfl | (simp only [List.length_drop, List.length_take]; rfl)) ?_; (with_reducible refine (zR.calls k _ _ l1 (Int.tmod (wrap64 (31 - (Int.tmod (wrap64 ((rd l0 t101) * t104)) 31))) 31) t105 _ ?side1 ?side2 A8.out).mono ?_); (case side1 => repeat (first | exact (Kd.zaL HR1.out (by repeat (first | (with_reducible first | exact HB.out | apply zf | apply za | apply ze) | exact HB.out | exact Below.refl _ _))) | (with_reducible refine Kd.zS ?_ _) | (with_reducible refine Kd.zT ?_ _) | (with_reducible refine Kd.zah ?_))); (case side2 => exact HC1.out); rintro e w11 ⟨v106, rfl, ho0, hb⟩; refine ⟨_, rfl, ?_⟩; have n0_ := zb.mk (Kd.zaa ho0 (zo (by repeat (first | (with_reducible first | exact HB.out | apply zf | apply za | apply ze) | exact HB.out | exact Below.refl _ _)))); have n1_ := zb.mk (zw (by repeat (first | (with_reducible first | exact HB.out | apply zf | apply za | apply ze) | exact HB.out | exact Below.refl _ _)) hb); clear HB; have HO107 := n0_; have HB := n1_; clear n0_ n1_; (try clear hb); (try clear hb2); (try clear hk); (try clear hi); (try clear ho0); obtain ⟨Ao12, co12, eo12⟩ := Kd.zae HO107.out; (first | subst eo12 | (injection eo12 with f1_ f2_ f3_; have f4_ := f1_.symm; have f5_ := f3_.symm; clear f1_ f2_ f3_; subst f4_; subst f5_)); refine hK.out _ _ ⟨(by first | exact ((HB.out.cell (World.block_lt_of_cell? w _ hw102_0)).trans hw102_0) | exact hw102_0), (by first | exact ((HB.out.cell (World.block_lt_of_cell? w _ hw103_0)).trans hw103_0) | exact hw103_0)⟩ (fun hHeld => ?_); clear hK K; refine norm_ (a' := ?_) ?_ ?_; rotate_left
        · show Act.put _ (some 23) _ = _; simp only [Act.put, List.setIfInBounds_toArray, List.set_cons_zero, List.set_cons_succ, i64_w, i32_w]; rfl
        refine one_ (i := 16) (N := some 24) #[true, true, true, true, true, true, true, true, true, true, true, true, true, true, true, true, true, false] rfl rfl (zbu HT_.out (by kernel_rfl)) (by decide) (fun K hK => ?_); refine goes_ Try.func85 (by kernel_rfl) rfl #[.slice (some ad102) l0.length c0, .slice Ao12 t105.length co12] (by rfl) rfl rfl (by (try simp only [List.map_toArray, List.map_cons, List.map_nil]); first | done | rfl | (simp only [List.length_drop, List.length_take]; rfl)) ?_; (with_reducible refine (zW.calls k _ _ l0 _ _ t105 t108 _ ?side1 ?side2 ?side3 ?side4 A9.out).mono ?_); (case side1 => repeat (first | exact (Kd.zaL HR0.out HB.out) | (with_reducible refine Kd.zS ?_ _) | (with_reducible refine Kd.zT ?_ _) | (with_reducible refine Kd.zah ?_))); (case side2 => exact HC0.out); (case side3 => repeat (first | exact (Kd.zO HO107.out).2.2 | (with_reducible refine Kd.zS ?_ _) | (with_reducible refine Kd.zT ?_ _) | (with_reducible refine Kd.zah ?_))); (case side4 => exact (Kd.zO HO107.out).2.1); rintro e w13 ⟨v109, rfl, ho0, hb⟩; refine ⟨_, rfl, ?_⟩; have n0_ := zb.mk (Kd.zat (by (with_reducible repeat (first | apply Kd.zt | apply Kd.zq | apply Kd.zy)); exact HO107.out) (Kd.zaw ho0) hb); have n1_ := zb.mk (Kd.zaa (Kd.zaQ ho0 (Kd.R_lt (by (with_reducible repeat (first | apply Kd.zt | apply Kd.zq | apply Kd.zy)); exact HO107.out))) (zo (by repeat (first | (with_reducible first | exact HB.out | apply zf | apply za | apply ze) | exact HB.out | exact Below.refl _ _)))); have n2_ := zb.mk (zw (by repeat (first | (with_reducible first | exact HB.out | apply zf | apply za | apply ze) | exact HB.out | exact Below.refl _ _)) hb); clear HO107; clear HB; have HO107 := n0_; have HO110 := n1_; have HB := n2_; clear n0_ n1_ n2_; (try clear hb); (try clear hb2); (try clear hk); (try clear hi); (try clear ho0); refine hK.out _ _ ⟨(by first | exact ((HB.out.cell (World.block_lt_of_cell? w _ hw102_0)).trans hw102_0) | exact hw102_0), (by first | exact ((HB.out.cell (World.block_lt_of_cell? w _ hw103_0)).trans hw103_0) | exact hw103_0)⟩ (fun hHeld => ?_); clear hK K; refine norm_ (a' := ?_) ?_ ?_; rotate_left
        · show Act.put _ (some 24) _ = _; simp only [Act.put, List.setIfInBounds_toArray, List.set_cons_zero, List.set_cons_succ, i64_w, i32_w]; rfl
        refine pure_ (i := 17) (N := some 4) (v := ?_) (a' := ?_) #[true, true, true, true, true, true, true, true, true, true, true, true, true, true, true, true, true, true] rfl rfl (zI HT_.out (by kernel_rfl)) (fun _ _ _ h => h) (Or.inl ⟨by rfl, ?_⟩) ?_ ?_; rotate_left
        · intro w'; go_simp; (with_reducible rfl)
        rotate_left
        · simp only [Act.put, List.setIfInBounds_toArray, List.set_cons_zero, List.set_cons_succ, i64_w, i32_w]; rfl
        refine done_ (zca HT_.out (by kernel_rfl)) ?_
        try go_wp2
        go_ret; exact ⟨_, by first | rfl | (simp [zA, zB] <;> rfl) | (simp [*, zA, zB] <;> rfl), by (with_reducible repeat (first | apply Kd.zt | apply Kd.zq | apply Kd.zy)); exact Kd.zZ HO110.out (fun _ hk => trivial), by repeat (first | (with_reducible first | exact HB.out | apply zf | apply za | apply ze) | exact HB.out | exact Below.refl _ _)⟩
      · rw [if_neg c6] at H; exact absurd H (by simp)
    · rw [if_neg c5] at H; exact absurd H (by simp)
  · rw [if_neg c4] at H; exact absurd H (by simp)
end Go.Proofs.Ytmipjlbkcfpkiaa.K

end
section
namespace Go.Proofs.Ytmipjlbkcfpkiaa.K
set_option linter.unusedVariables false
set_option linter.unusedSimpArgs false
open Go.RowKit Go.Proofs.YtmipjlbkcfpkiaaW.PrintWords Go.Proofs.YtmipjlbkcfpkiaaW.PrintLast Go.Proofs.YtmipjlbkcfpkiaaW.PrintMore
attribute [local go_sem] zao zar zaE zaD zad zac zaq zan
def zdN (k : Nat) : List (List Int) → List Int → Option (List Int)
  | [], x => some x
  | r :: t, x => (zab.f k x r).bind (zdN k t)
def zct (k : Nat) (lead : Int) (v : List Int) : List (List Int) → Bool → List (List Int) → Option (List (List Int))
  | [], put, out => some (if put = true then out else out ++ [v])
  | r :: t, put, out => if put = true then (zab.f k r v).bind fun x => zct k lead v t true (out ++ [x])
    else (zY.f k r).bind fun lr => if lead < lr then (zab.f k r v).bind fun x => zct k lead v t true (out ++ [v] ++ [x]) else (zab.f k r v).bind fun x => zct k lead v t false (out ++ [x])
def zaX.f (k : Nat) (t : List (List Int)) (v : List Int) : Option (List (List Int)) :=
  if t.length ≤ 1000000 then (zdN k t v).bind fun x => (zY.f k x).bind fun ld => if ld < 0 then some t else if ld < (x.length : Int) then (zaF.f k (rd x ld)).bind fun c => (zR.f k x c).bind fun y => zct k ld y t false [] else none else none
theorem zdX (k : Nat) : ∀ (t : List (List Int)) (x : List Int), LeO (zdN k t x) (zdN (k + 1) t x)
  | [], x => LeO.refl _
  | r :: t, x => LeO.bind (zab.mono _ _ _) (fun y => zdX k t y)
theorem zcD (k : Nat) (lead : Int) (v : List Int) : ∀ (t : List (List Int)) (put : Bool) (out : List (List Int)), LeO (zct k lead v t put out) (zct (k + 1) lead v t put out)
  | [], put, out => LeO.refl _
  | r :: t, put, out => by
    unfold zct; refine LeO.ite (LeO.bind (zab.mono _ _ _) (fun x => zcD k lead v t _ _)) (LeO.bind (zY.mono _ _) (fun lr => LeO.ite (LeO.bind (zab.mono _ _ _) (fun x => zcD k lead v t _ _)) (LeO.bind (zab.mono _ _ _) (fun x => zcD k lead v t _ _))))
theorem zaX.mono : ∀ a0 a1 k, LeO (zaX.f k a0 a1) (zaX.f (k + 1) a0 a1) := by
  intro a0 a1 k; unfold zaX.f; exact LeO.ite (LeO.bind (zdX _ _ _) fun _ => LeO.bind (zY.mono _ _) fun _ => LeO.ite (LeO.refl _) (LeO.ite (LeO.bind (zaF.mono _ _) fun _ => LeO.bind (zR.mono _ _ _) fun _ => zcD _ _ _ _ _ _) (LeO.refl _))) (LeO.refl _)
theorem zfh (k : Nat) (r : List Int) (t : List (List Int)) (x : List Int) : zdN k (r :: t) x = (zab.f k x r).bind (zdN k t) := rfl
theorem zfR (k : Nat) (lead : Int) (v : List Int) (put : Bool) (out : List (List Int)) : zct k lead v [] put out = some (if put = true then out else out ++ [v]) := rfl
theorem zfk (k : Nat) (lead : Int) (v r : List Int) (t : List (List Int)) (put : Bool) (out : List (List Int)) : zct k lead v (r :: t) put out = if put = true then (zab.f k r v).bind fun x => zct k lead v t true (out ++ [x])
    else (zY.f k r).bind fun lr => if lead < lr then (zab.f k r v).bind fun x => zct k lead v t true (out ++ [v] ++ [x]) else (zab.f k r v).bind fun x => zct k lead v t false (out ++ [x]) := rfl
theorem zfC (t : List (List Int)) (j : Nat) (h : j < t.length) : t.drop j = t.getD j [] :: t.drop (j + 1) := by
  rw [List.drop_eq_getElem_cons h, List.getD_eq_getElem?_getD, List.getElem?_eq_getElem h]; rfl
set_option maxHeartbeats 16000000 in
set_option maxRecDepth 100000 in
theorem zaX.calls (k : Nat) (P0_ : Nat → Prop) (A0 : Option Addr) (c0 : Nat) (l0 : List (List Int)) (A1 : Option Addr) (c1 : Nat) (l1 : List Int) (r : List (List Int)) (w : World) (hs0 : Kd.V (Kd.slice 3 (Kd.int .i64)) 24 w w.heap.size (fun k_ => P0_ k_) (.slice A0 l0.length c0) l0) (hr1 : Kd.C (Kd.int .i64) w A1 l1.length l1) (hc1 : l1.length ≤ c1) (h : zaX.f k l0 l1 = some r) :
    Calls Try.prog 153 #[.slice A0 l0.length c0, .slice A1 l1.length c1] w fun e w' => ∃ v0_ : Value, e = .returned (v0_) ∧ Kd.V (Kd.slice 3 (Kd.int .i64)) 24 w' w.heap.size (fun k_ => (P0_ k_ ∨ w.heap.size ≤ k_)) v0_ r ∧ Below w.heap.size w w' := by
  have hr0 : Kd.C kRow w A0 l0.length l0 := (Kd.zci hs0).2.2; have hc0 := (Kd.zci hs0).2.1; have HS0 := zb.mk hs0; clear hs0; unfold zaX.f at h
  by_cases hL : l0.length ≤ 1000000
  case neg => rw [if_neg hL] at h; cases h
  rw [if_pos hL] at h; have HL := zb.mk hL; clear hL; obtain ⟨y, hy, h⟩ := Option.bind_eq_some_iff.mp h; have HY := zb.mk hy; have H := zb.mk h; clear h hy; have HR0 := zb.mk hr0; have HC0 := zb.mk hc0; have HR1 : zb (Rd1 w (.slice A1 l1.length c1) l1) := ⟨⟨A1, c1, rfl, hc1, hr1⟩⟩
  clear hr0 hc0 hr1 hc1; have HB := zb.mk (Below.refl w.heap.size w)
  go_enter Try.func153, Try.ntmps153
  go_wp2
  go_loopg [1, 5] l0.length (fun kq v1 v5 w' => ∃ x : List Int, v5 = .int .i64 ((l0.length - kq : Nat) : Int) ∧ zb (kq ≤ l0.length) ∧ zb (zdN k (l0.drop (l0.length - kq)) x = some y) ∧ zb (Rd1 w' v1 x) ∧ zb (Below w.heap.size w w'))
  case atStart => exact ⟨l1, by simp, ⟨Nat.le_refl _⟩, ⟨by rw [Nat.sub_self]; exact HY.out⟩, HR1, HB⟩
  case round =>
    clear HY HR1 HB; obtain ⟨x, rfl, HQ, HA, HX, HB⟩ := hrel
    by_cases hz : gk = 0
    · subst hz; have c1 : decide (((l0.length - 0 : Nat) : Int) < (l0.length : Int)) = false := by simp
      have e : x = y := by
        have := HA.out; rw [Nat.sub_zero, List.drop_length] at this; exact Option.some.inj this
      subst e; clear HA HQ; obtain ⟨ld, A_, h⟩ := Option.bind_eq_some_iff.mp H.out; have AL := zb.mk A_; clear A_; obtain ⟨A1', c1', rfl, hl1, hC1⟩ := HX.out; have HL1 := zb.mk hl1; have HC1 := zb.mk hC1; clear hl1 hC1 HX H
      by_cases hneg : ld < 0
      · rw [if_pos hneg] at h; have e := Option.some.inj h; subst e; have cb : decide (ld < 0) = true := decide_eq_true hneg; clear h; go_wp2_with (go_at_call 150; refine (zY.calls k _ _ x ld _ HC1.out HL1.out AL.out).mono ?_; rintro e w' ⟨rfl, nd, rfl⟩); go_ret; exact ⟨_, rfl, Kd.zcb (Kd.zbZ (Kd.zfp HS0.out HB.out) _) (fun _ hk => Or.inl hk), za HB.out _⟩
      · rw [if_neg hneg] at h
        by_cases hlt : ld < (x.length : Int)
        case neg => rw [if_neg hlt] at h; cases h
        rw [if_pos hlt] at h; obtain ⟨ci, A_, h⟩ := Option.bind_eq_some_iff.mp h; have AI := zb.mk A_; clear A_; obtain ⟨y2, A_, h⟩ := Option.bind_eq_some_iff.mp h; have AS := zb.mk A_; have HP := zb.mk h; clear A_ h; have cb : decide (ld < 0) = false := decide_eq_false hneg; have hp0 : 0 ≤ ld := by omega
        obtain ⟨ad, cs, ea, hcs, hK, hcell⟩ := Kd.C_get HC1.out (0 : Int) ld hp0 hlt; subst ea; obtain rfl := hK; have hx := hcell 0 _ rfl; have ex : ld.toNat * (Kd.int .i64).sz + 0 = ld.toNat := by show ld.toNat * 1 + 0 = _; omega
        rw [ex] at hx; have hx2 : wr.cell? (ad.add ld.toNat) = some (.int .i64 (rd x ld)) := hx; clear hx ex hcell hcs; have HX2 := zb.mk hx2; replace hp0 := eq_true hp0; replace hlt := eq_true hlt; go_wp2_with (first | (go_at_call 150; refine (zY.calls k _ _ x ld _ HC1.out HL1.out AL.out).mono ?_; rintro e w' ⟨rfl, nd, rfl⟩) | (go_at_call 154; refine (zaF.calls k _ ci _ AI.out).mono ?_; rintro e w' ⟨rfl, nd2, rfl⟩) | (go_at_call 86; refine (zR.calls k _ _ x ci y2 _ (by (with_reducible repeat (apply Kd.zT)); exact HC1.out) HL1.out AS.out).mono ?_; rintro e w2 ⟨v2, rfl, ho, hb⟩; have HV := zb.mk (Kd.zaa ho (zo (by repeat (first | exact HB.out | apply za)))); have HB2 := zb.mk (zw (by repeat (first | exact HB.out | apply za)) hb); clear ho hb) | ((with_reducible refine zV (N := 34) rfl ?_); refine Kd.R_lit kV _ 24 ?hg (N := 34) ?hd (xs := ([] : List VC)) (inner := []) (ok := fun _ => True) (okp := fun _ => True) ?hr ?hp (fun _ hk => hk) trivial (Below.refl _ _) (Nat.le_refl _) (by simp) ?_; (case hd => rfl); (case hg => rfl); (case hr => first | (go_simp; done) | (go_simp; rfl)); (case hp => exact (Reps.none _ _)); intro v3 w3 ho hb hg_ hnew_; clear hg_ hnew_; have HV3 := zb.mk (Kd.zaj HV.out hb); have HO := zb.mk (Kd.zaa ho (zo HB2.out)); have HB3 := zb.mk (zw HB2.out hb); clear ho hb)); obtain ⟨Av, cv, ev⟩ := Kd.zae HV3.out; subst ev; clear HV HB HC1 HB2 HX2 hx2 hp0 hlt AI AS AL h hneg cb
        go_loopg [7, 8, 9] l0.length (fun kq v7 v8 v9 w' => ∃ (out : List (List Int)) (vs : List VC) (put : Bool), v8 = .bool put ∧ v9 = .int .i64 ((l0.length - kq : Nat) : Int) ∧ zb (kq ≤ l0.length) ∧ zb (zct k ld y2 (l0.drop (l0.length - kq)) put out = some r) ∧ zb (out.length ≤ 2 * (l0.length - kq)) ∧ zb (Kd.R kV 24 w' w.heap.size (fun _ => True) v7 vs) ∧ zb (RowsP w.heap.size w' v7 vs out) ∧ zb (Kd.R (Kd.int .i64) 3 w' w.heap.size (fun _ => True) (.slice Av y2.length cv) y2) ∧ zb (Below w.heap.size w w'))
        case atStart => exact ⟨[], [], false, rfl, by simp, ⟨Nat.le_refl _⟩, ⟨by rw [Nat.sub_self]; exact HP.out⟩, ⟨Nat.zero_le _⟩, HO, ⟨zeP _ _ _⟩, HV3, HB3⟩
        case round =>
          clear HP HO HV3 HB3; obtain ⟨out, vs, put, rfl, rfl, HQ, HA, HLO, HO, HP, HV, HB⟩ := hrel; obtain ⟨A7, c7, e7⟩ := Kd.zae HO.out; subst e7
          by_cases hz : gk = 0
          · subst hz; have c2 : decide (((l0.length - 0 : Nat) : Int) < (l0.length : Int)) = false := by simp
            have e : (if put = true then out else out ++ [y2]) = r := by
              have := HA.out; rw [Nat.sub_zero, List.drop_length, zfR] at this; exact Option.some.inj this
            clear HA HQ; cases put with
            | true =>
              rw [if_pos rfl] at e; subst e; go_wp2; go_ret; exact ⟨_, rfl, Kd.zcb (zil HO.out HP.out) (fun _ hk => Or.inr hk), HB.out⟩
            | false =>
              rw [if_neg (by decide)] at e; have HE := zb.mk e; clear e; go_wp2_with ((with_reducible refine zaH (b := .append) (xs := #[.tmp 67, .tmp 69]) rfl ?_); at_builtin; refine Kd.zbM kV (w0 := w) w.heap.size rfl (.tmp 67) (.tmp 69) 106 24 (.slice none 0 0) 24 rfl Try.underlying106 zdf rfl (by decide) (by omega) (.slice A7 vs.length c7) vs (vcS Av y2.length cv) [.slice Av y2.length cv] (fun _ => True) (fun _ => False) rfl (by first | (go_simp; done) | (go_simp; rfl)) ?aP (fun _ hk => hk.elim) ?aF ?aO ?aB ?aS ?aL ?_; (case aP => exact rfl); (case aF => exact (fun _ _ => trivial)); (case aO => exact (by (with_reducible repeat (first | apply Kd.zt | apply Kd.zq | apply Kd.zy)); exact HO.out)); (case aB => exact (by repeat (first | (with_reducible first | exact HB.out | apply zf | apply za | apply ze) | exact HB.out))); (case aS => exact (zo (by repeat (first | (with_reducible first | exact HB.out | apply zf | apply za | apply ze) | exact HB.out)))); (case aL => have := HLO.out; have := HL.out; have := HP.out.1; omega); intro v9 w9 ho hb hg hat; have HO9 := zb.mk ho; have HP9 := zb.mk (RowsP.snoc (u := vcS Av y2.length cv) (RowsP.below HP.out (by repeat (with_reducible first | exact Below.refl _ _ | apply zf | apply za | apply ze))) (zcl (by (with_reducible repeat (first | apply Kd.zt | apply Kd.zq | apply Kd.zy)); exact HV.out)) (zcV HV.out HO.out) (Kd.zaw HV.out) hg hat); have HB9 := zb.mk hb; clear ho hb hg hat); obtain ⟨A9, c9, e9⟩ := Kd.zae HO9.out; subst e9; go_ret; rw [← HE.out]; exact ⟨_, rfl, Kd.zcb (zil HO9.out HP9.out) (fun _ hk => Or.inr hk), HB9.out⟩
          · obtain ⟨j, hj⟩ : ∃ j : Nat, l0.length - gk = j := ⟨_, rfl⟩
            have hjl : j < l0.length := by have := HQ.out; omega
            have HJ : zb (gk = l0.length - j) := ⟨by have := HQ.out; omega⟩
            have c2 : decide ((j : Int) < (l0.length : Int)) = true := decide_eq_true (by omega); rw [hj] at HA HLO ⊢; have hA := HA.out; rw [zfC l0 j hjl, zfk] at hA; clear HA; have hp0 : 0 ≤ (j : Int) := by omega
            have hq0 : (j : Int) < (l0.length : Int) := by omega
            obtain ⟨ad, A', c', ea, hc0, hl', hC'⟩ := zhl HR0.out (j : Int) hp0 hq0; subst ea; rw [Int.toNat_natCast] at hc0 hl' hC'; have HL' := zb.mk hl'; have HC' := zb.mk hC'; clear hl' hC'; generalize l0.getD j [] = x at hc0 HL' HC' hA; have HJL := zb.mk hjl
            have hnext : wrap64 ((j : Int) + 1) = ((l0.length - (l0.length - (j + 1)) : Nat) : Int) := by
              have := HJL.out; have := HL.out; unfold wrap64
              omega
            have HN := zb.mk hnext; clear hnext hj hz hjl; have hcw : w.cell? (ad.add ((j : Int)).toNat) = some (.slice A' x.length c') := by rw [Int.toNat_natCast]; exact hc0
            have HCW := zb.mk hcw; have hc1 : wr.cell? (ad.add ((j : Int)).toNat) = some (.slice A' x.length c') := (HB.out.cell (World.block_lt_of_cell? w _ hcw)).trans hcw; clear hc0 hcw; generalize hji : (j : Int) = ji at c2 hp0 hq0 hc1 HN HCW ⊢; have HJI := zb.mk hji; clear hji; replace hp0 := eq_true hp0; replace hq0 := eq_true hq0; cases put with
            | true =>
              rw [if_pos rfl] at hA; obtain ⟨z, A_, hA⟩ := Option.bind_eq_some_iff.mp hA; have AZ := zb.mk A_; have HA := zb.mk hA; clear A_ hA; go_wp2_with (first | (go_at_call 151; refine (zab.calls k _ _ x _ _ y2 z _ (by (with_reducible repeat (first | apply Kd.zS | apply Kd.zT | apply Kd.zah)); exact (Kd.zaL HC'.out HB.out)) HL'.out (by (with_reducible repeat (first | apply Kd.zS | apply Kd.zT | apply Kd.zah)); exact (Kd.zO HV.out).2.2) (Kd.zO HV.out).2.1 AZ.out).mono ?_; rintro e w5 ⟨v5, rfl, ho, hb⟩; obtain ⟨A5, c5, e5⟩ := Kd.zae ho; subst e5; have HZ5 := zb.mk (Kd.zaa ho (zo (by repeat (first | (with_reducible first | exact HB.out | apply zf | apply za | apply ze) | exact HB.out)))); have HV5 := zb.mk (Kd.zaj (by (with_reducible repeat (first | apply Kd.zt | apply Kd.zq | apply Kd.zy)); exact HV.out) hb); have HO5 := zb.mk (Kd.zaj (by (with_reducible repeat (first | apply Kd.zt | apply Kd.zq | apply Kd.zy)); exact HO.out) hb); have HP5 := zb.mk (RowsP.below (RowsP.below HP.out (by repeat (with_reducible first | exact Below.refl _ _ | apply zf | apply za | apply ze))) hb); have HB5 := zb.mk (zw (by repeat (first | (with_reducible first | exact HB.out | apply zf | apply za | apply ze) | exact HB.out)) hb); clear ho hb) | ((with_reducible refine zaH (b := .append) (xs := #[.tmp 56, .tmp 63]) rfl ?_); at_builtin; refine Kd.zbM kV (w0 := w) w.heap.size rfl (.tmp 56) (.tmp 63) 106 24 (.slice none 0 0) 24 rfl Try.underlying106 zdf rfl (by decide) (by omega) (.slice A7 vs.length c7) vs (vcS A5 z.length c5) [.slice A5 z.length c5] (fun _ => True) (fun _ => False) rfl (by first | (go_simp; done) | (go_simp; rfl)) ?aP (fun _ hk => hk.elim) ?aF ?aO ?aB ?aS ?aL ?_; (case aP => exact rfl); (case aF => exact (fun _ _ => trivial)); (case aO => exact (by (with_reducible repeat (first | apply Kd.zt | apply Kd.zq | apply Kd.zy)); exact HO5.out)); (case aB => exact (by repeat (first | (with_reducible first | exact HB5.out | apply zf | apply za | apply ze) | exact HB5.out))); (case aS => exact (zo (by repeat (first | (with_reducible first | exact HB5.out | apply zf | apply za | apply ze) | exact HB5.out)))); (case aL => have := HLO.out; have := HL.out; have := HP.out.1; have := HJL.out; (try simp only [List.length_append, List.length_cons, List.length_nil]); omega); intro v6 w6 ho hb hg hat; have HO6 := zb.mk ho; have HP6 := zb.mk (RowsP.snoc (u := (vcS A5 z.length c5)) (RowsP.below HP5.out (by repeat (with_reducible first | exact Below.refl _ _ | apply zf | apply za | apply ze))) (zcl (by (with_reducible repeat (first | apply Kd.zt | apply Kd.zq | apply Kd.zy)); exact HZ5.out)) (zcV HZ5.out HO5.out) (Kd.zaw HZ5.out) hg hat); have HV6 := zb.mk (Kd.zdT (by (with_reducible repeat (first | apply Kd.zt | apply Kd.zq | apply Kd.zy)); exact HV5.out) (Kd.zcU (by (with_reducible repeat (first | apply Kd.zt | apply Kd.zq | apply Kd.zy)); exact HO5.out)) (by decide) hg); have HB6 := zb.mk hb; clear ho hb hg hat))
              go_roundg (l0.length - (j + 1))
              case measure => have := HJ.out; have := HJL.out; omega
              case rel => exact ⟨out ++ [z], vs ++ [vcS A5 z.length c5], true, rfl, by rw [← HN.out], ⟨by omega⟩, ⟨by have e : l0.length - (l0.length - (j + 1)) = j + 1 := by { have := HJL.out; omega }; rw [e]; exact HA.out⟩, ⟨by have e : l0.length - (l0.length - (j + 1)) = j + 1 := by { have := HJL.out; omega }; rw [e]; have := HLO.out; simp only [List.length_append, List.length_cons, List.length_nil]; omega⟩, HO6, HP6, HV6, HB6⟩
            | false =>
              rw [if_neg (by decide)] at hA; obtain ⟨lr, A_, hA⟩ := Option.bind_eq_some_iff.mp hA; have AR := zb.mk A_; clear A_
              by_cases hlr : ld < lr
              · rw [if_pos hlr] at hA; obtain ⟨z, A_, hA⟩ := Option.bind_eq_some_iff.mp hA; have AZ := zb.mk A_; have HA := zb.mk hA; clear A_ hA; have cl : decide (ld < lr) = true := decide_eq_true hlr; go_wp2_with (first | (go_at_call 150; refine (zY.calls k _ _ x lr _ (by (with_reducible repeat (first | apply Kd.zS | apply Kd.zT | apply Kd.zah)); exact (Kd.zaL HC'.out HB.out)) HL'.out AR.out).mono ?_; rintro e w' ⟨rfl, nd, rfl⟩) | ((with_reducible refine zaH (b := .append) (xs := #[.tmp 52, .tmp 54]) rfl ?_); at_builtin; refine Kd.zbM kV (w0 := w) w.heap.size rfl (.tmp 52) (.tmp 54) 106 24 (.slice none 0 0) 24 rfl Try.underlying106 zdf rfl (by decide) (by omega) (.slice A7 vs.length c7) vs (vcS Av y2.length cv) [.slice Av y2.length cv] (fun _ => True) (fun _ => False) rfl (by first | (go_simp; done) | (go_simp; rfl)) ?aP (fun _ hk => hk.elim) ?aF ?aO ?aB ?aS ?aL ?_; (case aP => exact rfl); (case aF => exact (fun _ _ => trivial)); (case aO => exact (by (with_reducible repeat (first | apply Kd.zt | apply Kd.zq | apply Kd.zy)); exact HO.out)); (case aB => exact (by repeat (first | (with_reducible first | exact HB.out | apply zf | apply za | apply ze) | exact HB.out))); (case aS => exact (zo (by repeat (first | (with_reducible first | exact HB.out | apply zf | apply za | apply ze) | exact HB.out)))); (case aL => have := HLO.out; have := HL.out; have := HP.out.1; have := HJL.out; (try simp only [List.length_append, List.length_cons, List.length_nil]); omega); intro v4 w4 ho hb hg hat; have HO4 := zb.mk ho; have HP4 := zb.mk (RowsP.snoc (u := (vcS Av y2.length cv)) (RowsP.below HP.out (by repeat (with_reducible first | exact Below.refl _ _ | apply zf | apply za | apply ze))) (zcl (by (with_reducible repeat (first | apply Kd.zt | apply Kd.zq | apply Kd.zy)); exact HV.out)) (zcV HV.out HO.out) (Kd.zaw HV.out) hg hat); have HV4 := zb.mk (Kd.zdT (by (with_reducible repeat (first | apply Kd.zt | apply Kd.zq | apply Kd.zy)); exact HV.out) (Kd.zcU (by (with_reducible repeat (first | apply Kd.zt | apply Kd.zq | apply Kd.zy)); exact HO.out)) (by decide) hg); have HB4 := zb.mk hb; clear ho hb hg hat; have hc4 := (HB4.out.cell (World.block_lt_of_cell? w _ HCW.out)).trans HCW.out; obtain ⟨A4, c4, e4⟩ := Kd.zae HO4.out; subst e4; generalize vs ++ [vcS Av y2.length cv] = vs2 at HO4 HP4 ⊢) | (go_at_call 151; refine (zab.calls k _ _ x _ _ y2 z _ (by (with_reducible repeat (first | apply Kd.zS | apply Kd.zT | apply Kd.zah)); exact (Kd.zaL HC'.out HB4.out)) HL'.out (by (with_reducible repeat (first | apply Kd.zS | apply Kd.zT | apply Kd.zah)); exact (Kd.zO HV4.out).2.2) (Kd.zO HV4.out).2.1 AZ.out).mono ?_; rintro e w5 ⟨v5, rfl, ho, hb⟩; obtain ⟨A5, c5, e5⟩ := Kd.zae ho; subst e5; have HZ5 := zb.mk (Kd.zaa ho (zo (by repeat (first | (with_reducible first | exact HB4.out | apply zf | apply za | apply ze) | exact HB4.out)))); have HV5 := zb.mk (Kd.zaj (by (with_reducible repeat (first | apply Kd.zt | apply Kd.zq | apply Kd.zy)); exact HV4.out) hb); have HO5 := zb.mk (Kd.zaj (by (with_reducible repeat (first | apply Kd.zt | apply Kd.zq | apply Kd.zy)); exact HO4.out) hb); have HP5 := zb.mk (RowsP.below (RowsP.below HP4.out (by repeat (with_reducible first | exact Below.refl _ _ | apply zf | apply za | apply ze))) hb); have HB5 := zb.mk (zw (by repeat (first | (with_reducible first | exact HB4.out | apply zf | apply za | apply ze) | exact HB4.out)) hb); clear ho hb) | ((with_reducible refine zaH (b := .append) (xs := #[.tmp 56, .tmp 63]) rfl ?_); at_builtin; refine Kd.zbM kV (w0 := w) w.heap.size rfl (.tmp 56) (.tmp 63) 106 24 (.slice none 0 0) 24 rfl Try.underlying106 zdf rfl (by decide) (by omega) (.slice A4 vs2.length c4) vs2 (vcS A5 z.length c5) [.slice A5 z.length c5] (fun _ => True) (fun _ => False) rfl (by first | (go_simp; done) | (go_simp; rfl)) ?aP (fun _ hk => hk.elim) ?aF ?aO ?aB ?aS ?aL ?_; (case aP => exact rfl); (case aF => exact (fun _ _ => trivial)); (case aO => exact (by (with_reducible repeat (first | apply Kd.zt | apply Kd.zq | apply Kd.zy)); exact HO5.out)); (case aB => exact (by repeat (first | (with_reducible first | exact HB5.out | apply zf | apply za | apply ze) | exact HB5.out))); (case aS => exact (zo (by repeat (first | (with_reducible first | exact HB5.out | apply zf | apply za | apply ze) | exact HB5.out)))); (case aL => have := HLO.out; have := HL.out; have h5 := HP5.out.1; have := HJL.out; simp only [List.length_append, List.length_cons, List.length_nil] at h5; omega); intro v6 w6 ho hb hg hat; have HO6 := zb.mk ho; have HP6 := zb.mk (RowsP.snoc (u := (vcS A5 z.length c5)) (RowsP.below HP5.out (by repeat (with_reducible first | exact Below.refl _ _ | apply zf | apply za | apply ze))) (zcl (by (with_reducible repeat (first | apply Kd.zt | apply Kd.zq | apply Kd.zy)); exact HZ5.out)) (zcV HZ5.out HO5.out) (Kd.zaw HZ5.out) hg hat); have HV6 := zb.mk (Kd.zdT (by (with_reducible repeat (first | apply Kd.zt | apply Kd.zq | apply Kd.zy)); exact HV5.out) (Kd.zcU (by (with_reducible repeat (first | apply Kd.zt | apply Kd.zq | apply Kd.zy)); exact HO5.out)) (by decide) hg); have HB6 := zb.mk hb; clear ho hb hg hat))
                go_roundg (l0.length - (j + 1))
                case measure => have := HJ.out; have := HJL.out; omega
                case rel => exact ⟨out ++ [y2] ++ [z], vs2 ++ [vcS A5 z.length c5], true, rfl, by rw [← HN.out], ⟨by omega⟩, ⟨by have e : l0.length - (l0.length - (j + 1)) = j + 1 := by { have := HJL.out; omega }; rw [e]; exact HA.out⟩, ⟨by have e : l0.length - (l0.length - (j + 1)) = j + 1 := by { have := HJL.out; omega }; rw [e]; have := HLO.out; simp only [List.length_append, List.length_cons, List.length_nil]; omega⟩, HO6, HP6, HV6, HB6⟩
              · rw [if_neg hlr] at hA; obtain ⟨z, A_, hA⟩ := Option.bind_eq_some_iff.mp hA; have AZ := zb.mk A_; have HA := zb.mk hA; clear A_ hA; have cl : decide (ld < lr) = false := decide_eq_false hlr; go_wp2_with (first | (go_at_call 150; refine (zY.calls k _ _ x lr _ (by (with_reducible repeat (first | apply Kd.zS | apply Kd.zT | apply Kd.zah)); exact (Kd.zaL HC'.out HB.out)) HL'.out AR.out).mono ?_; rintro e w' ⟨rfl, nd, rfl⟩) | (go_at_call 151; refine (zab.calls k _ _ x _ _ y2 z _ (by (with_reducible repeat (first | apply Kd.zS | apply Kd.zT | apply Kd.zah)); exact (Kd.zaL HC'.out HB.out)) HL'.out (by (with_reducible repeat (first | apply Kd.zS | apply Kd.zT | apply Kd.zah)); exact (Kd.zO HV.out).2.2) (Kd.zO HV.out).2.1 AZ.out).mono ?_; rintro e w5 ⟨v5, rfl, ho, hb⟩; obtain ⟨A5, c5, e5⟩ := Kd.zae ho; subst e5; have HZ5 := zb.mk (Kd.zaa ho (zo (by repeat (first | (with_reducible first | exact HB.out | apply zf | apply za | apply ze) | exact HB.out)))); have HV5 := zb.mk (Kd.zaj (by (with_reducible repeat (first | apply Kd.zt | apply Kd.zq | apply Kd.zy)); exact HV.out) hb); have HO5 := zb.mk (Kd.zaj (by (with_reducible repeat (first | apply Kd.zt | apply Kd.zq | apply Kd.zy)); exact HO.out) hb); have HP5 := zb.mk (RowsP.below (RowsP.below HP.out (by repeat (with_reducible first | exact Below.refl _ _ | apply zf | apply za | apply ze))) hb); have HB5 := zb.mk (zw (by repeat (first | (with_reducible first | exact HB.out | apply zf | apply za | apply ze) | exact HB.out)) hb); clear ho hb) | ((with_reducible refine zaH (b := .append) (xs := #[.tmp 56, .tmp 63]) rfl ?_); at_builtin; refine Kd.zbM kV (w0 := w) w.heap.size rfl (.tmp 56) (.tmp 63) 106 24 (.slice none 0 0) 24 rfl Try.underlying106 zdf rfl (by decide) (by omega) (.slice A7 vs.length c7) vs (vcS A5 z.length c5) [.slice A5 z.length c5] (fun _ => True) (fun _ => False) rfl (by first | (go_simp; done) | (go_simp; rfl)) ?aP (fun _ hk => hk.elim) ?aF ?aO ?aB ?aS ?aL ?_; (case aP => exact rfl); (case aF => exact (fun _ _ => trivial)); (case aO => exact (by (with_reducible repeat (first | apply Kd.zt | apply Kd.zq | apply Kd.zy)); exact HO5.out)); (case aB => exact (by repeat (first | (with_reducible first | exact HB5.out | apply zf | apply za | apply ze) | exact HB5.out))); (case aS => exact (zo (by repeat (first | (with_reducible first | exact HB5.out | apply zf | apply za | apply ze) | exact HB5.out)))); (case aL => have := HLO.out; have := HL.out; have := HP.out.1; have := HJL.out; (try simp only [List.length_append, List.length_cons, List.length_nil]); omega); intro v6 w6 ho hb hg hat; have HO6 := zb.mk ho; have HP6 := zb.mk (RowsP.snoc (u := (vcS A5 z.length c5)) (RowsP.below HP5.out (by repeat (with_reducible first | exact Below.refl _ _ | apply zf | apply za | apply ze))) (zcl (by (with_reducible repeat (first | apply Kd.zt | apply Kd.zq | apply Kd.zy)); exact HZ5.out)) (zcV HZ5.out HO5.out) (Kd.zaw HZ5.out) hg hat); have HV6 := zb.mk (Kd.zdT (by (with_reducible repeat (first | apply Kd.zt | apply Kd.zq | apply Kd.zy)); exact HV5.out) (Kd.zcU (by (with_reducible repeat (first | apply Kd.zt | apply Kd.zq | apply Kd.zy)); exact HO5.out)) (by decide) hg); have HB6 := zb.mk hb; clear ho hb hg hat))
                go_roundg (l0.length - (j + 1))
                case measure => have := HJ.out; have := HJL.out; omega
                case rel => exact ⟨out ++ [z], vs ++ [vcS A5 z.length c5], false, rfl, by rw [← HN.out], ⟨by omega⟩, ⟨by have e : l0.length - (l0.length - (j + 1)) = j + 1 := by { have := HJL.out; omega }; rw [e]; exact HA.out⟩, ⟨by have e : l0.length - (l0.length - (j + 1)) = j + 1 := by { have := HJL.out; omega }; rw [e]; have := HLO.out; simp only [List.length_append, List.length_cons, List.length_nil]; omega⟩, HO6, HP6, HV6, HB6⟩
    · obtain ⟨j, hj⟩ : ∃ j : Nat, l0.length - gk = j := ⟨_, rfl⟩
      have hjl : j < l0.length := by have := HQ.out; omega
      have HJ : zb (gk = l0.length - j) := ⟨by have := HQ.out; omega⟩
      have c2 : decide ((j : Int) < (l0.length : Int)) = true := decide_eq_true (by omega); rw [hj] at HA ⊢; have hA := HA.out; rw [zfC l0 j hjl, zfh] at hA; clear HA; have hp0 : 0 ≤ (j : Int) := by omega
      have hq0 : (j : Int) < (l0.length : Int) := by omega
      obtain ⟨ad, A', c', ea, hc0, hl', hC'⟩ := zhl HR0.out (j : Int) hp0 hq0; subst ea; rw [Int.toNat_natCast] at hc0 hl' hC'; have HL' := zb.mk hl'; have HC' := zb.mk hC'; clear hl' hC'; generalize l0.getD j [] = x2 at hc0 HL' HC' hA; have HJL := zb.mk hjl
      have hnext : wrap64 ((j : Int) + 1) = ((l0.length - (l0.length - (j + 1)) : Nat) : Int) := by
        have := HJL.out; have := HL.out; unfold wrap64
        omega
      have HN := zb.mk hnext; clear hnext hj hz hjl
      have hc1 : wr.cell? (ad.add ((j : Int)).toNat) = some (.slice A' x2.length c') := by
        rw [Int.toNat_natCast]; exact (HB.out.cell (World.block_lt_of_cell? w _ hc0)).trans hc0
      clear hc0; generalize hji : (j : Int) = ji at c2 hp0 hq0 hc1 HN ⊢; have HJI := zb.mk hji; clear hji; replace hp0 := eq_true hp0; replace hq0 := eq_true hq0; obtain ⟨z, A_, hA⟩ := Option.bind_eq_some_iff.mp hA; have AZ := zb.mk A_; have HA := zb.mk hA; clear A_ hA; obtain ⟨A1', c1', rfl, hl1, hC1⟩ := HX.out; have HL1 := zb.mk hl1; have HC1 := zb.mk hC1; clear hl1 hC1 HX; go_wp2_with (go_at_call 151; refine (zab.calls k _ _ x _ _ x2 z _ (by (with_reducible repeat (first | apply Kd.zS | apply Kd.zT | apply Kd.zah)); exact HC1.out) HL1.out (by (with_reducible repeat (first | apply Kd.zS | apply Kd.zT | apply Kd.zah)); exact (Kd.zaL HC'.out HB.out)) HL'.out AZ.out).mono ?_; rintro e w5 ⟨v5, rfl, ho, hb⟩; obtain ⟨A5, c5, e5⟩ := Kd.zae ho; subst e5; have HZ5 := zb.mk (Kd.zaa ho (zo (by repeat (first | (with_reducible first | exact HB.out | apply zf | apply za | apply ze) | exact HB.out)))); have HB5 := zb.mk (zw (by repeat (first | (with_reducible first | exact HB.out | apply zf | apply za | apply ze) | exact HB.out)) hb); clear ho hb)
      go_roundg (l0.length - (j + 1))
      case measure => have := HJ.out; have := HJL.out; omega
      case rel => exact ⟨z, by rw [← HN.out], ⟨by omega⟩, ⟨by have e : l0.length - (l0.length - (j + 1)) = j + 1 := by { have := HJL.out; omega }; rw [e]; exact HA.out⟩, ⟨zcl HZ5.out⟩, HB5⟩
end Go.Proofs.Ytmipjlbkcfpkiaa.K

end
section
namespace Go.Proofs.Ytmipjlbkcfpkiaa.K
open Go.RowKit Go.Proofs.YtmipjlbkcfpkiaaW.PrintWords Go.Proofs.YtmipjlbkcfpkiaaW.PrintLast Go.Proofs.YtmipjlbkcfpkiaaW.PrintMore
attribute [local go_sem] zao zar zaE zaD zad zac zaq zan
set_option linter.unusedVariables false
set_option linter.unusedSimpArgs false
def zaB.l0 : Nat → List (List Int) → List (List Int) → Int → Option ((List (List Int)))
  | 0, _, _, _ => none
  | k + 1, x0, x3, x4 => if x4 < (x0.length : Int) then (if 0 ≤ x4 then ((zaX.f k x3 (rd_L5 x0 x4)).bind fun t105 => (zaB.l0 k x0 t105 (wrap64 (x4 + 1)))) else (none)) else (some x3)
def zaB.f (k : Nat) (l0 : List (List Int)) : Option ((List (List Int))) := zaB.l0 k l0 (([] : List (List Int))) 0
theorem zaB.zbI : ∀ k, (∀ y0 y1 y2, LeO (zaB.l0 k y0 y1 y2) (zaB.l0 (k + 1) y0 y1 y2))
  | 0 => fun _ _ _ r h => by simp [zaB.l0] at h
  | k + 1 => by
    have ih0 := zaB.zbI k
    · intro y0 y1 y2; unfold zaB.l0
      repeat' first
      | (with_reducible exact ih0 _ _ _)
      | (with_reducible exact zaX.mono _ _ _)
      | (with_reducible exact LeO.refl _)
      | (with_reducible exact LeO.none _)
      | (with_reducible refine LeO.ite ?_ ?_)
      | (with_reducible refine LeO.bind ?_ (fun _ => ?_))
      | exact ih0 _ _ _
      | exact zaX.mono _ _ _
      | exact LeO.none _
      | refine LeO.ite ?_ ?_
      | refine LeO.bind ?_ (fun _ => ?_)
theorem zaB.mono : ∀ a0 k, LeO (zaB.f k a0) (zaB.f (k + 1) a0) := by
  intro a0 k; have ih0 := zaB.zbI k; unfold zaB.f
  repeat' first
      | (with_reducible exact ih0 _ _ _)
      | (with_reducible exact zaX.mono _ _ _)
      | (with_reducible exact LeO.refl _)
      | (with_reducible exact LeO.none _)
      | (with_reducible refine LeO.ite ?_ ?_)
      | (with_reducible refine LeO.bind ?_ (fun _ => ?_))
      | exact ih0 _ _ _
      | exact zaX.mono _ _ _
      | exact LeO.none _
      | refine LeO.ite ?_ ?_
      | refine LeO.bind ?_ (fun _ => ?_)
set_option maxHeartbeats 8000000 in
set_option maxRecDepth 100000 in
theorem zaB.calls (k : Nat) (A0 : Option Addr) (c0 : Nat) (l0 : List (List Int)) (r : List (List Int)) (w : World) (hr0 : Kd.C (Kd.slice 3 (Kd.int .i64)) w A0 l0.length l0) (hc0 : l0.length ≤ c0) (h : zaB.f k l0 = some r) :
    Calls Try.prog 152 #[.slice A0 l0.length c0] w fun e w' => ∃ v0_ : Value, e = .returned (v0_) ∧ Kd.V (Kd.slice 3 (Kd.int .i64)) 24 w' w.heap.size (fun k_ => (w.heap.size ≤ k_)) v0_ r ∧ Below w.heap.size w w' := by
  have HR0 := zb.mk hr0; have HC0 := zb.mk hc0; clear hr0 hc0; have HB := zb.mk (Below.refl w.heap.size w); have H : (zaB.l0 k l0 (([] : List (List Int))) 0) = some r := h; clear h; obtain ⟨y101, hy101⟩ : ∃ y_ : List (List Int), y_ = (([] : List (List Int))) := ⟨_, rfl⟩
  replace H : (zaB.l0 k l0 y101 0) = some r := by first | (rw [hy101]; with_reducible exact H) | (have H2_ := (Option.bind_some _ _).symm.trans H; rw [hy101]; with_reducible exact H2_) | (have H2_ := (Option.bind_some _ _).symm.trans H; with_reducible exact H2_) | with_reducible exact H | (rw [hy101]; exact H) | exact H
  have Ny101 := zb.mk hy101; clear hy101; have H' := zb.mk H; clear H
  go_enter Try.func152, Try.ntmps152
  go_wp2_with (first | ((with_reducible refine zV (N := 5) rfl ?_); refine Kd.S_lit (Kd.slice 3 (Kd.int .i64)) _ 24 ?hg (N := 5) ?hd (xs := ([] : List (List Int))) (inner := []) (ok := fun _ => True) (okp := fun _ => True) ?hr ?hp (fun _ hk => hk) trivial (Below.refl _ _) (Nat.le_refl _) (by simp) ?_; (case hd => rfl); (case hg => rfl); (case hr => first | (go_simp; done) | (go_simp; rfl)); (case hp => exact (Reps.none _ _)); intro v102 w2 ho3 hb hg_ hnew_; clear hg_ hnew_; (first | rw [← Ny101.out] at ho3 | (simp only [Int.reduceToNat] at ho3; rw [← Ny101.out] at ho3)); have n0_ := zb.mk (Kd.zjc (Kd.zjR (M := fun k_ => (w.heap.size ≤ k_)) ho3 (zo (by repeat (first | (with_reducible first | exact HB.out | apply zf | apply za | apply ze) | exact HB.out | exact Below.refl _ _))) (fun k_ h_ => h_)) (zo (by repeat (first | (with_reducible first | exact HB.out | apply zf | apply za | apply ze) | exact HB.out | exact Below.refl _ _)))); have n1_ := zb.mk (zw (by repeat (first | (with_reducible first | exact HB.out | apply zf | apply za | apply ze) | exact HB.out | exact Below.refl _ _)) hb); clear HB; have HO103 := n0_; have HB := n1_; clear n0_ n1_; clear hb ho3))
  go_loopg [3, 4] k (fun kq v3 v4 w' => ∃ (x3_1 : List (List Int)) (x4_1 : Int), v4 = .int .i64 x4_1 ∧ zb (zaB.l0 kq l0 x3_1 x4_1 = some r) ∧ zb (kq ≤ k) ∧ zb (Kd.V (Kd.slice 3 (Kd.int .i64)) 24 w' w.heap.size (fun k_ => (w.heap.size ≤ k_)) v3 x3_1) ∧ zb (Below w.heap.size w w'))
  case atStart => exact ⟨(y101), (0), (by first | rfl | (simp; done) | (simp [*]; done)), H', ⟨Nat.le_refl _⟩, ⟨Kd.S_V (by (with_reducible repeat (first | apply Kd.ziI | apply Kd.zjf | apply Kd.zjP)); exact Kd.zgS HO103.out (fun _ hk => hk.1))⟩, ⟨by repeat (first | (with_reducible first | exact HB.out | apply zf | apply za | apply ze) | exact HB.out | exact Below.refl _ _)⟩⟩
  case round =>
    clear H'
    try clear c1
    try clear p2
    obtain ⟨x3_1, x4_1, rfl, HA, HK1, HO_3, HB⟩ := hrel; cases gk with
    | zero => exact absurd HA.out (by simp [zaB.l0])
    | succ k1 =>
      have H := HA.out; clear HA; simp only [zaB.l0] at H
      by_cases c4 : x4_1 < (l0.length : Int)
      · rw [if_pos c4] at H; have c4b0 : decide (x4_1 < (l0.length : Int)) = true := decide_eq_true c4; clear c4
        by_cases c5 : 0 ≤ x4_1
        · rw [if_pos c5] at H; have c5b0 : decide (0 ≤ x4_1) = true := decide_eq_true c5; clear c5; replace H := Option.bind_eq_some_iff.mp H; obtain ⟨t105, A60, H⟩ := H; replace H : (zaB.l0 k1 l0 t105 (wrap64 (x4_1 + 1))) = some r := H; have A6 := zb.mk A60; clear A60; have H' := zb.mk H; clear H; have p104 : 0 ≤ (x4_1 : Int) := of_decide_eq_true (by first | (with_reducible assumption) | assumption); have q104 : x4_1 < (l0.length : Int) := of_decide_eq_true (by first | (with_reducible assumption) | assumption); obtain ⟨ad104, A104_0, c104_0, e104, hx104_0, hl104_0, hi104_0⟩ := at_L5 HR0.out x4_1 p104 q104; cases e104; replace hx104_0 := (HB.out.cell (World.block_lt_of_cell? w _ hx104_0)).trans hx104_0; have HR104_0 := zb.mk hi104_0; have HC104_0 := zb.mk hl104_0; clear hi104_0 hl104_0; replace p104 := eq_true p104; replace q104 := eq_true q104; obtain ⟨Ao7, co7, eo7⟩ := Kd.zcK HO_3.out; subst eo7; go_wp2_with (first | ((with_reducible refine zz (f := 153) rfl ?_); refine zX (some 17) rfl rfl Try.func153 (by kernel_rfl) rfl #[.slice Ao7 x3_1.length co7, .slice A104_0 (rd_L5 l0 x4_1).length c104_0] rfl (by (try simp only [List.map_toArray, List.map_cons, List.map_nil]); first | done | rfl | (simp only [List.length_drop, List.length_take]; rfl)) ?_; (with_reducible refine (zaX.calls k1 (fun k_ => (w.heap.size ≤ k_)) _ _ x3_1 _ _ (rd_L5 l0 x4_1) t105 _ ?side1 ?side2 ?side3 A6.out).mono ?_); (case side1 => exact HO_3.out); (case side2 => repeat (first | exact (Kd.zaL HR104_0.out HB.out) | (with_reducible refine Kd.zS ?_ _) | (with_reducible refine Kd.zT ?_ _) | (with_reducible refine Kd.zah ?_))); (case side3 => exact HC104_0.out); rintro e w8 ⟨v106, rfl, ho0, hb⟩; refine ⟨_, rfl, ?_⟩; have n0_ := zb.mk (Kd.zfp (by (with_reducible repeat (first | apply Kd.zce | apply Kd.zbZ | apply Kd.zcw)); exact HO_3.out) hb); have n1_ := zb.mk (Kd.zcG (Kd.zcb (ok' := fun k_ => (w.heap.size ≤ k_)) ho0 (fun k_ hk_ => Or.elim hk_ (fun hs_ => hs_) (fun hn_ => (Nat.le_trans (zo (by repeat (first | (with_reducible first | exact HB.out | apply zf | apply za | apply ze) | exact HB.out | exact Below.refl _ _))) hn_)))) (zo (by repeat (first | (with_reducible first | exact HB.out | apply zf | apply za | apply ze) | exact HB.out | exact Below.refl _ _)))); have n2_ := zb.mk (zw (by repeat (first | (with_reducible first | exact HB.out | apply zf | apply za | apply ze) | exact HB.out | exact Below.refl _ _)) hb); clear HO_3; clear HB; have HO_3 := n0_; have HO107 := n1_; have HB := n2_; clear n0_ n1_ n2_; (try clear hb); (try clear hb2); (try clear hk); (try clear hi); (try clear ho0)))
          go_roundg k1
          case measure => have := HK1.out; omega
          case rel => exact ⟨(t105), (wrap64 (x4_1 + 1)), (by first | rfl | (simp; done) | (simp [*]; done)), H', ⟨by have := HK1.out; omega⟩, ⟨by (with_reducible repeat (first | apply Kd.zce | apply Kd.zbZ | apply Kd.zcw)); exact HO107.out⟩, ⟨by repeat (first | (with_reducible first | exact HB.out | apply zf | apply za | apply ze) | exact HB.out | exact Below.refl _ _)⟩⟩
        · rw [if_neg c5] at H; exact absurd H (by simp)
      · rw [if_neg c4] at H; have c4b0 : decide (x4_1 < (l0.length : Int)) = false := decide_eq_false c4; clear c4; obtain rfl := Option.some.inj H; go_wp2; go_ret; exact ⟨_, by first | rfl | (simp [zA, zB] <;> rfl) | (simp [*, zA, zB] <;> rfl), by (with_reducible repeat (first | apply Kd.zce | apply Kd.zbZ | apply Kd.zcw)); exact HO_3.out, by repeat (first | (with_reducible first | exact HB.out | apply zf | apply za | apply ze) | exact HB.out | exact Below.refl _ _)⟩
end Go.Proofs.Ytmipjlbkcfpkiaa.K

end
section
namespace Go.Proofs.Ytmipjlbkcfpkiaa.K
open Go.RowKit Go.Proofs.YtmipjlbkcfpkiaaW.PrintWords Go.Proofs.YtmipjlbkcfpkiaaW.PrintLast Go.Proofs.YtmipjlbkcfpkiaaW.PrintMore
attribute [local go_sem] zao zar zaE zaD zad zac zaq zan
set_option linter.unusedVariables false
set_option linter.unusedSimpArgs false
def zbl.f (k : Nat) (l0 : List (List Int)) (l1 : List Int) : Option (Bool) := (zaB.f k l0).bind fun t101 => ((zaX.f k t101 l1).bind fun t104 => (some ((t104.length : Int) == (t101.length : Int))))
theorem zbl.mono : ∀ a0 a1 k, LeO (zbl.f k a0 a1) (zbl.f (k + 1) a0 a1) := by
  intro a0 a1 k; unfold zbl.f
  repeat' first
      | (with_reducible exact zaX.mono _ _ _)
      | (with_reducible exact zaB.mono _ _)
      | (with_reducible exact LeO.refl _)
      | (with_reducible exact LeO.none _)
      | (with_reducible refine LeO.ite ?_ ?_)
      | (with_reducible refine LeO.bind ?_ (fun _ => ?_))
      | exact zaX.mono _ _ _
      | exact zaB.mono _ _
      | exact LeO.none _
      | refine LeO.ite ?_ ?_
      | refine LeO.bind ?_ (fun _ => ?_)
set_option maxHeartbeats 8000000 in
set_option maxRecDepth 100000 in
theorem zbl.calls (k : Nat) (A0 : Option Addr) (c0 : Nat) (l0 : List (List Int)) (A1 : Option Addr) (c1 : Nat) (l1 : List Int) (r : Bool) (w : World) (hr0 : Kd.C (Kd.slice 3 (Kd.int .i64)) w A0 l0.length l0) (hc0 : l0.length ≤ c0) (hr1 : Kd.C (Kd.int .i64) w A1 l1.length l1) (hc1 : l1.length ≤ c1) (h : zbl.f k l0 l1 = some r) :
    Calls Try.prog 149 #[.slice A0 l0.length c0, .slice A1 l1.length c1] w fun e w' => e = .returned (.bool r) ∧ Below w.heap.size w w' := by
  have HR0 := zb.mk hr0; have HC0 := zb.mk hc0; clear hr0 hc0; have HR1 := zb.mk hr1; have HC1 := zb.mk hc1; clear hr1 hc1; have HB := zb.mk (Below.refl w.heap.size w); have H : ((zaB.f k l0).bind fun t101 => ((zaX.f k t101 l1).bind fun t104 => (some ((t104.length : Int) == (t101.length : Int))))) = some r := h; clear h; replace H := Option.bind_eq_some_iff.mp H; obtain ⟨t101, A30, H⟩ := H; replace H : ((zaX.f k t101 l1).bind fun t104 => (some ((t104.length : Int) == (t101.length : Int)))) = some r := H; have A3 := zb.mk A30; clear A30; replace H := Option.bind_eq_some_iff.mp H; obtain ⟨t104, A40, H⟩ := H; replace H : (some ((t104.length : Int) == (t101.length : Int))) = some r := H; have A4 := zb.mk A40; clear A40; obtain rfl := Option.some.inj H
  go_enter Try.func149, Try.ntmps149
  go_wp2_with (first | ((with_reducible refine zz (f := 152) rfl ?_); refine zX (some 7) rfl rfl Try.func152 (by kernel_rfl) rfl #[.slice A0 l0.length c0] rfl (by (try simp only [List.map_toArray, List.map_cons, List.map_nil]); first | done | rfl | (simp only [List.length_drop, List.length_take]; rfl)) ?_; (with_reducible refine (zaB.calls k _ _ l0 t101 _ ?side1 ?side2 A3.out).mono ?_); (case side1 => repeat (first | exact HR0.out | (with_reducible refine Kd.zS ?_ _) | (with_reducible refine Kd.zT ?_ _) | (with_reducible refine Kd.zah ?_))); (case side2 => exact HC0.out); rintro e w5 ⟨v102, rfl, ho0, hb⟩; refine ⟨_, rfl, ?_⟩; have n0_ := zb.mk (Kd.zcG (Kd.zcb (ok' := fun k_ => True) ho0 (fun k_ hk_ => trivial)) (zo (by repeat (first | (with_reducible first | exact HB.out | apply zf | apply za | apply ze) | exact HB.out | exact Below.refl _ _)))); have n1_ := zb.mk (zw (by repeat (first | (with_reducible first | exact HB.out | apply zf | apply za | apply ze) | exact HB.out | exact Below.refl _ _)) hb); clear HB; have HO103 := n0_; have HB := n1_; clear n0_ n1_; (try clear hb); (try clear hb2); (try clear hk); (try clear hi); (try clear ho0); obtain ⟨Ao6, co6, eo6⟩ := Kd.zcK HO103.out; subst eo6) | ((with_reducible refine zz (f := 153) rfl ?_); refine zX (some 10) rfl rfl Try.func153 (by kernel_rfl) rfl #[.slice Ao6 t101.length co6, .slice A1 l1.length c1] rfl (by (try simp only [List.map_toArray, List.map_cons, List.map_nil]); first | done | rfl | (simp only [List.length_drop, List.length_take]; rfl)) ?_; (with_reducible refine (zaX.calls k (fun k_ => True) _ _ t101 _ _ l1 t104 _ ?side1 ?side2 ?side3 A4.out).mono ?_); (case side1 => exact HO103.out); (case side2 => repeat (first | exact (Kd.zaL HR1.out HB.out) | (with_reducible refine Kd.zS ?_ _) | (with_reducible refine Kd.zT ?_ _) | (with_reducible refine Kd.zah ?_))); (case side3 => exact HC1.out); rintro e w7 ⟨v105, rfl, ho0, hb⟩; refine ⟨_, rfl, ?_⟩; have n0_ := zb.mk (Kd.zfp (by (with_reducible repeat (first | apply Kd.zce | apply Kd.zbZ | apply Kd.zcw)); exact HO103.out) hb); have n1_ := zb.mk (Kd.zcG (Kd.zcb (ok' := fun k_ => True) ho0 (fun k_ hk_ => trivial)) (zo (by repeat (first | (with_reducible first | exact HB.out | apply zf | apply za | apply ze) | exact HB.out | exact Below.refl _ _)))); have n2_ := zb.mk (zw (by repeat (first | (with_reducible first | exact HB.out | apply zf | apply za | apply ze) | exact HB.out | exact Below.refl _ _)) hb); clear HO103; clear HB; have HO103 := n0_; have HO106 := n1_; have HB := n2_; clear n0_ n1_ n2_; (try clear hb); (try clear hb2); (try clear hk); (try clear hi); (try clear ho0); obtain ⟨Ao8, co8, eo8⟩ := Kd.zcK HO106.out; subst eo8)); go_ret; exact ⟨by first | rfl | (simp [zA, zB] <;> rfl) | (simp [*, zA, zB] <;> rfl), by repeat (first | (with_reducible first | exact HB.out | apply zf | apply za | apply ze) | exact HB.out | exact Below.refl _ _)⟩
end Go.Proofs.Ytmipjlbkcfpkiaa.K

end
section
namespace Go.Proofs.Ytmipjlbkcfpkiaa.K
open Go.RowKit Go.Proofs.YtmipjlbkcfpkiaaW.PrintWords Go.Proofs.YtmipjlbkcfpkiaaW.PrintLast Go.Proofs.YtmipjlbkcfpkiaaW.PrintMore
attribute [local go_sem] zao zar zaE zaD zad zac zaq zan
set_option linter.unusedVariables false
set_option linter.unusedSimpArgs false
def zQ.l0 : Nat → List (List Int) → List Int → Int → Option (List Int)
  | 0, _, _, _ => none
  | k + 1, x0, x3, x4 => if x4 < (x0.length : Int) then (if 0 ≤ x4 then (if x4 ≤ (x0.length : Int) then ((zbl.f k (x0.take (x4 : Int).toNat) (rd_L5 x0 x4)).bind fun t109 => (if t109 = true then (zQ.l0 k x0 x3 (wrap64 (x4 + 1))) else (if x3.length < 17592186044416 then (zQ.l0 k x0 (x3 ++ [x4]) (wrap64 (x4 + 1))) else (none)))) else (none)) else (none)) else (some x3)
def zQ.f (k : Nat) (l0 : List (List Int)) : Option (List Int) := zQ.l0 k l0 (([] : List Int)) 0
theorem zQ.zbI : ∀ k, (∀ y0 y1 y2, LeO (zQ.l0 k y0 y1 y2) (zQ.l0 (k + 1) y0 y1 y2))
  | 0 => fun _ _ _ r h => by simp [zQ.l0] at h
  | k + 1 => by
    have ih0 := zQ.zbI k
    · intro y0 y1 y2; unfold zQ.l0
      repeat' first
      | (with_reducible exact ih0 _ _ _)
      | (with_reducible exact zbl.mono _ _ _)
      | (with_reducible exact LeO.refl _)
      | (with_reducible exact LeO.none _)
      | (with_reducible refine LeO.ite ?_ ?_)
      | (with_reducible refine LeO.bind ?_ (fun _ => ?_))
      | exact ih0 _ _ _
      | exact zbl.mono _ _ _
      | exact LeO.none _
      | refine LeO.ite ?_ ?_
      | refine LeO.bind ?_ (fun _ => ?_)
theorem zQ.mono : ∀ a0 k, LeO (zQ.f k a0) (zQ.f (k + 1) a0) := by
  intro a0 k; have ih0 := zQ.zbI k; unfold zQ.f
  repeat' first
      | (with_reducible exact ih0 _ _ _)
      | (with_reducible exact zbl.mono _ _ _)
      | (with_reducible exact LeO.refl _)
      | (with_reducible exact LeO.none _)
      | (with_reducible refine LeO.ite ?_ ?_)
      | (with_reducible refine LeO.bind ?_ (fun _ => ?_))
      | exact ih0 _ _ _
      | exact zbl.mono _ _ _
      | exact LeO.none _
      | refine LeO.ite ?_ ?_
      | refine LeO.bind ?_ (fun _ => ?_)
def zQ.T5 : Bool × List (List Nat × List Nat) := (true, [([], []), ([], []), ([0, 1], [0, 1]), ([], []), ([], []), ([3, 4], [3, 4]), ([5], [5]), ([2, 6], [2, 6]), ([7], [7])])
def zQ.B5 : List Nat := [0, 0, 3, 0, 0, 24, 56, 127, 255]
theorem zQ.tab5 : rtab .any (opsOf Try.f147 5) = zQ.T5 := by kernel_rfl
theorem zQ.bits5 : zcd zQ.T5.2 zQ.B5 = true := by kernel_rfl
set_option maxHeartbeats 8000000 in
set_option maxRecDepth 100000 in
theorem zQ.calls (k : Nat) (A0 : Option Addr) (c0 : Nat) (l0 : List (List Int)) (r : List Int) (w : World) (hr0 : Kd.C (Kd.slice 3 (Kd.int .i64)) w A0 l0.length l0) (hc0 : l0.length ≤ c0) (h : zQ.f k l0 = some r) :
    Calls Try.prog 147 #[.slice A0 l0.length c0] w fun e w' => ∃ v0_ : Value, e = .returned (v0_) ∧ Kd.R (Kd.int .i64) 3 w' w.heap.size (fun _ => True) v0_ r ∧ Below w.heap.size w w' := by
  have HR0 := zb.mk hr0; have HC0 := zb.mk hc0; clear hr0 hc0; have HB := zb.mk (Below.refl w.heap.size w); have H : (zQ.l0 k l0 (([] : List Int)) 0) = some r := h; clear h; obtain ⟨y101, hy101⟩ : ∃ y_ : List Int, y_ = (([] : List Int)) := ⟨_, rfl⟩
  replace H : (zQ.l0 k l0 y101 0) = some r := by first | (rw [hy101]; with_reducible exact H) | (have H2_ := (Option.bind_some _ _).symm.trans H; rw [hy101]; with_reducible exact H2_) | (have H2_ := (Option.bind_some _ _).symm.trans H; with_reducible exact H2_) | with_reducible exact H | (rw [hy101]; exact H) | exact H
  have Ny101 := zb.mk hy101; clear hy101; have H' := zb.mk H; clear H
  go_enter Try.func147, Try.ntmps147
  go_wp2_with (first | ((with_reducible refine zV (N := 5) rfl ?_); refine Kd.R_lit (Kd.int .i64) _ 3 ?hg (N := 5) ?hd (xs := ([] : List Int)) (inner := []) (ok := fun _ => True) (okp := fun _ => True) ?hr ?hp (fun _ hk => hk) trivial (Below.refl _ _) (Nat.le_refl _) (by simp) ?_; (case hd => rfl); (case hg => rfl); (case hr => first | (go_simp; done) | (go_simp; rfl)); (case hp => exact (Reps.none _ _)); intro v102 w2 ho3 hb hg_ hnew_; clear hg_ hnew_; (first | rw [← Ny101.out] at ho3 | (simp only [Int.reduceToNat] at ho3; rw [← Ny101.out] at ho3)); have n0_ := zb.mk (Kd.zaa ho3 (zo (by repeat (first | (with_reducible first | exact HB.out | apply zf | apply za | apply ze) | exact HB.out | exact Below.refl _ _)))); have n1_ := zb.mk (zw (by repeat (first | (with_reducible first | exact HB.out | apply zf | apply za | apply ze) | exact HB.out | exact Below.refl _ _)) hb); clear HB; have HO103 := n0_; have HB := n1_; clear n0_ n1_; clear hb ho3))
  go_loopg [3, 4] k (fun kq v3 v4 w' => ∃ (x3_1 : List Int) (x4_1 : Int), v4 = .int .i64 x4_1 ∧ zb (zQ.l0 kq l0 x3_1 x4_1 = some r) ∧ zb (kq ≤ k) ∧ zb (Kd.R (Kd.int .i64) 3 w' w.heap.size (fun _ => True) v3 x3_1) ∧ zb (Below w.heap.size w w'))
  case atStart => exact ⟨(y101), (0), (by first | rfl | (simp; done) | (simp [*]; done)), H', ⟨Nat.le_refl _⟩, ⟨by (with_reducible repeat (first | apply Kd.zt | apply Kd.zq | apply Kd.zy)); exact HO103.out⟩, ⟨by repeat (first | (with_reducible first | exact HB.out | apply zf | apply za | apply ze) | exact HB.out | exact Below.refl _ _)⟩⟩
  case round =>
    clear H'
    try clear c1
    try clear p2
    obtain ⟨x3_1, x4_1, rfl, HA, HK1, HO_3, HB⟩ := hrel; cases gk with
    | zero => exact absurd HA.out (by simp [zQ.l0])
    | succ k1 =>
      have H := HA.out; clear HA; simp only [zQ.l0] at H
      by_cases c4 : x4_1 < (l0.length : Int)
      · rw [if_pos c4] at H; have c4b0 : decide (x4_1 < (l0.length : Int)) = true := decide_eq_true c4; clear c4
        by_cases c5 : 0 ≤ x4_1
        · rw [if_pos c5] at H; have c5b0 := eq_true c5; have c5b1 : decide (0 ≤ x4_1) = true := decide_eq_true c5; clear c5
          by_cases c6 : x4_1 ≤ (l0.length : Int)
          · rw [if_pos c6] at H; have c6b0 := eq_true c6; have c6b1 : decide (x4_1 ≤ (l0.length : Int)) = true := decide_eq_true c6; clear c6; obtain ⟨y104, hy104⟩ : ∃ y_ : List (List Int), y_ = (l0.take (x4_1 : Int).toNat) := ⟨_, rfl⟩
            replace H : ((zbl.f k1 y104 (rd_L5 l0 x4_1)).bind fun t109 => (if t109 = true then (zQ.l0 k1 l0 x3_1 (wrap64 (x4_1 + 1))) else (if x3_1.length < 17592186044416 then (zQ.l0 k1 l0 (x3_1 ++ [x4_1]) (wrap64 (x4_1 + 1))) else (none)))) = some r := by first | (rw [hy104]; with_reducible exact H) | (have H2_ := (Option.bind_some _ _).symm.trans H; rw [hy104]; with_reducible exact H2_) | (have H2_ := (Option.bind_some _ _).symm.trans H; with_reducible exact H2_) | with_reducible exact H | (rw [hy104]; exact H) | exact H
            have Ny104 := zb.mk hy104; clear hy104; replace H := Option.bind_eq_some_iff.mp H; obtain ⟨t109, A70, H⟩ := H; replace H : (if t109 = true then (zQ.l0 k1 l0 x3_1 (wrap64 (x4_1 + 1))) else (if x3_1.length < 17592186044416 then (zQ.l0 k1 l0 (x3_1 ++ [x4_1]) (wrap64 (x4_1 + 1))) else (none))) = some r := H; have A7 := zb.mk A70; clear A70
            by_cases c8 : t109 = true
            · subst c8; have H1 : (zQ.l0 k1 l0 x3_1 (wrap64 (x4_1 + 1))) = some r := by rw [if_pos rfl] at H; exact H
              clear H; have H := H1; clear H1; have H' := zb.mk H; clear H
              try go_wp2
              have n0_ := zb.mk (Kd.zy HO_3.out); have n1_ := zb.mk (ze HB.out); clear HO_3; clear HB; have HO_3 := n0_; have HB := n1_; clear n0_ n1_; have q10 : (x4_1 : Int) ≤ ((l0.length : Int) : Int) := of_decide_eq_true (by first | (with_reducible assumption) | assumption); obtain ⟨i010, hi010, _, hsz10, _⟩ := info_parts zdf; have hroom10 : l0.length ≤ c0 := HC0.out; have hC10 : Kd.C (Kd.slice 3 (Kd.int .i64)) _ A0 l0.length l0 := HR0.out; have hcut10 := zir (P := Try.prog) 106 24 .i64 Try.underlying106 hi010 A0 l0.length c0 x4_1 (of_decide_eq_true (by first | (with_reducible assumption) | assumption)) q10 hroom10; have hr10 := Kd.zii (m := (x4_1 : Int).toNat) hC10 (by omega); have hy10 : y104.length = (x4_1 : Int).toNat := (by rw [Ny104.out, List.length_take]; omega)
              rw [← Ny104.out] at hr10; rw [← hy10] at hcut10; have HR107 := zb.mk hr10; have HC107 := zb.mk (show y104.length ≤ c0 from by omega); clear hr10 hC10 hroom10 hi010 hsz10; have KY10 := zb.mk hy10; clear hy10; replace q10 := eq_true q10; have p108 : 0 ≤ (x4_1 : Int) := of_decide_eq_true (by first | (with_reducible assumption) | assumption); have q108 : x4_1 < (l0.length : Int) := of_decide_eq_true (by first | (with_reducible assumption) | assumption); obtain ⟨ad108, A108_0, c108_0, e108, hx108_0, hl108_0, hi108_0⟩ := at_L5 HR0.out x4_1 p108 q108; have hw108_0 := hx108_0; cases e108; replace hx108_0 := (HB.out.cell (World.block_lt_of_cell? w _ hx108_0)).trans hx108_0; have HR108_0 := zb.mk hi108_0; have HC108_0 := zb.mk hl108_0; clear hi108_0 hl108_0; replace p108 := eq_true p108; replace q108 := eq_true q108; refine zbG (n := 9) (S := fun w' => w'.cell? (ad108.add (x4_1).toNat) = some (.slice A108_0 (rd_L5 l0 x4_1).length c108_0)) (ds := []) #[false, false, false, false, false, false, false, false, false] (by kernel_rfl) rfl rfl ((by first | exact ((HB.out.cell (World.block_lt_of_cell? w _ hw108_0)).trans hw108_0) | exact hw108_0)) (fun hHeld => ?_); refine zbv zQ.tab5 zQ.bits5 (fun HT_ HW_ => ?_); generalize wr.drew = w9 at HO_3 HB HR107 HR108_0 hx108_0 hHeld ⊢; refine pure_ (i := 0) (N := some 12) (v := ?_) (a' := ?_) #[true, false, false, false, false, false, false, false, false] rfl rfl (zI HT_.out (by kernel_rfl)) (fun _ _ _ h => h) (Or.inl ⟨by rfl, ?_⟩) ?_ ?_; rotate_left
              · intro w'; go_simp; (with_reducible rfl)
              rotate_left
              · simp only [Act.put, List.setIfInBounds_toArray, List.set_cons_zero, List.set_cons_succ, i64_w, i32_w]; rfl
              refine pure_ (i := 1) (N := some 13) (v := ?_) (a' := ?_) #[true, true, false, false, false, false, false, false, false] rfl rfl (zI HT_.out (by kernel_rfl)) (fun _ _ _ h => h) (Or.inl ⟨by rfl, ?_⟩) ?_ ?_; rotate_left
              · intro w'; go_simp; (with_reducible rfl)
              rotate_left
              · simp only [Act.put, List.setIfInBounds_toArray, List.set_cons_zero, List.set_cons_succ, i64_w, i32_w]; rfl
              refine pure_ (i := 2) (N := some 14) (v := ?_) (a' := ?_) #[true, true, true, false, false, false, false, false, false] rfl rfl (zI HT_.out (by kernel_rfl)) (fun _ _ _ h => h) (Or.inl ⟨by rfl, ?_⟩) ?_ ?_; rotate_left
              · intro w'; go_simp; (with_reducible rfl)
              rotate_left
              · simp only [Act.put, List.setIfInBounds_toArray, List.set_cons_zero, List.set_cons_succ, i64_w, i32_w]; rfl
              refine pure_ (i := 3) (N := some 15) (v := ?_) (a' := ?_) #[true, true, true, true, false, false, false, false, false] rfl rfl (zI HT_.out (by kernel_rfl)) (fun _ _ _ h => h) (Or.inl ⟨by rfl, ?_⟩) ?_ ?_; rotate_left
              · intro w'; go_simp; (with_reducible rfl)
              rotate_left
              · simp only [Act.put, List.setIfInBounds_toArray, List.set_cons_zero, List.set_cons_succ, i64_w, i32_w]; rfl
              refine pure_ (i := 4) (N := some 16) (v := ?_) (a' := ?_) #[true, true, true, true, true, false, false, false, false] rfl rfl (zI HT_.out (by kernel_rfl)) (fun _ _ _ h => h) (Or.inl ⟨by rfl, ?_⟩) ?_ ?_; rotate_left
              · intro w'; go_simp; (with_reducible rfl)
              rotate_left
              · simp only [Act.put, List.setIfInBounds_toArray, List.set_cons_zero, List.set_cons_succ, i64_w, i32_w]; rfl
              refine pure_ (i := 5) (N := some 17) (v := ?_) (a' := ?_) #[true, true, true, true, true, true, false, false, false] rfl rfl (zI HT_.out (by kernel_rfl)) (fun _ _ _ h => h) (Or.inl ⟨by rfl, ?_⟩) ?_ ?_; rotate_left
              · intro w'; go_simp; (with_reducible rfl)
              rotate_left
              · simp only [Act.put, List.setIfInBounds_toArray, List.set_cons_zero, List.set_cons_succ, i64_w, i32_w]; rfl
              refine take_ (i := 6) (N := some 18) (v := ?_) (a' := ?_) #[true, true, true, true, true, true, true, false, false] rfl rfl (zax HT_.out HW_.out (by kernel_rfl)) (fun _ _ _ h => h) (Or.inl ⟨by rfl, ?_⟩) hHeld ?_ ?_; rotate_left
              · intro w' s0; go_simp; (with_reducible rfl)
              rotate_left
              · simp only [Act.put, List.setIfInBounds_toArray, List.set_cons_zero, List.set_cons_succ, i64_w, i32_w]; rfl
              refine one_ (i := 7) (N := some 19) #[true, true, true, true, true, true, true, true, false] rfl rfl (zbu HT_.out (by kernel_rfl)) (by decide) (fun K hK => ?_); refine goes_ Try.func149 (by kernel_rfl) rfl #[.slice (some ad108) y104.length c0, .slice A108_0 (rd_L5 l0 x4_1).length c108_0] (by rfl) rfl rfl (by (try simp only [List.map_toArray, List.map_cons, List.map_nil]); first | done | rfl | (simp only [List.length_drop, List.length_take]; rfl)) ?_; (with_reducible refine (zbl.calls k1 _ _ y104 _ _ (rd_L5 l0 x4_1) true _ ?side1 ?side2 ?side3 ?side4 A7.out).mono ?_); (case side1 => repeat (first | exact (Kd.zaL HR107.out HB.out) | (with_reducible refine Kd.zS ?_ _) | (with_reducible refine Kd.zT ?_ _) | (with_reducible refine Kd.zah ?_))); (case side2 => exact HC107.out); (case side3 => repeat (first | exact (Kd.zaL HR108_0.out HB.out) | (with_reducible refine Kd.zS ?_ _) | (with_reducible refine Kd.zT ?_ _) | (with_reducible refine Kd.zah ?_))); (case side4 => exact HC108_0.out); rintro e w11 ⟨rfl, hb⟩; refine ⟨_, rfl, ?_⟩; have n0_ := zb.mk (Kd.zaj (by (with_reducible repeat (first | apply Kd.zt | apply Kd.zq | apply Kd.zy)); exact HO_3.out) hb); have n1_ := zb.mk (zw (by repeat (first | (with_reducible first | exact HB.out | apply zf | apply za | apply ze) | exact HB.out | exact Below.refl _ _)) hb); clear HO_3; clear HB; have HO_3 := n0_; have HB := n1_; clear n0_ n1_; (try clear hb); (try clear hb2); (try clear hk); (try clear hi); refine hK.out _ _ ((by first | exact ((HB.out.cell (World.block_lt_of_cell? w _ hw108_0)).trans hw108_0) | exact hw108_0)) (fun hHeld => ?_); clear hK K; refine norm_ (a' := ?_) ?_ ?_; rotate_left
              · show Act.put _ (some 19) _ = _; simp only [Act.put, List.setIfInBounds_toArray, List.set_cons_zero, List.set_cons_succ, i64_w, i32_w]; rfl
              refine pure_ (i := 8) (N := some 20) (v := ?_) (a' := ?_) #[true, true, true, true, true, true, true, true, true] rfl rfl (zI HT_.out (by kernel_rfl)) (fun _ _ _ h => h) (Or.inl ⟨by rfl, ?_⟩) ?_ ?_; rotate_left
              · intro w'; go_simp; (with_reducible rfl)
              rotate_left
              · simp only [Act.put, List.setIfInBounds_toArray, List.set_cons_zero, List.set_cons_succ, i64_w, i32_w]; rfl
              refine done_ (zca HT_.out (by kernel_rfl)) ?_
              try go_wp2
              go_roundg k1
              case measure => have := HK1.out; omega
              case rel => exact ⟨(x3_1), (wrap64 (x4_1 + 1)), (by first | rfl | (simp; done) | (simp [*]; done)), H', ⟨by have := HK1.out; omega⟩, ⟨by (with_reducible repeat (first | apply Kd.zt | apply Kd.zq | apply Kd.zy)); exact HO_3.out⟩, ⟨by repeat (first | (with_reducible first | exact HB.out | apply zf | apply za | apply ze) | exact HB.out | exact Below.refl _ _)⟩⟩
            · replace c8 := Bool.eq_false_iff.mpr c8; subst c8; have H1 : (if x3_1.length < 17592186044416 then (zQ.l0 k1 l0 (x3_1 ++ [x4_1]) (wrap64 (x4_1 + 1))) else (none)) = some r := by rw [if_neg (show ¬ (false = true) by decide)] at H; exact H
              clear H; have H := H1; clear H1
              by_cases c12 : x3_1.length < 17592186044416
              · rw [if_pos c12] at H; have LMc12 := zb.mk c12; clear c12; obtain ⟨y110, hy110⟩ : ∃ y_ : List Int, y_ = (x3_1 ++ [x4_1]) := ⟨_, rfl⟩
                replace H : (zQ.l0 k1 l0 y110 (wrap64 (x4_1 + 1))) = some r := by first | (rw [hy110]; with_reducible exact H) | (have H2_ := (Option.bind_some _ _).symm.trans H; rw [hy110]; with_reducible exact H2_) | (have H2_ := (Option.bind_some _ _).symm.trans H; with_reducible exact H2_) | with_reducible exact H | (rw [hy110]; exact H) | exact H
                have Ny110 := zb.mk hy110; clear hy110; have H' := zb.mk H; clear H
                try go_wp2
                have n0_ := zb.mk (Kd.zy HO_3.out); have n1_ := zb.mk (ze HB.out); clear HO_3; clear HB; have HO_3 := n0_; have HB := n1_; clear n0_ n1_; have q14 : (x4_1 : Int) ≤ ((l0.length : Int) : Int) := of_decide_eq_true (by first | (with_reducible assumption) | assumption); obtain ⟨i014, hi014, _, hsz14, _⟩ := info_parts zdf; have hroom14 : l0.length ≤ c0 := HC0.out; have hC14 : Kd.C (Kd.slice 3 (Kd.int .i64)) _ A0 l0.length l0 := HR0.out; have hcut14 := zir (P := Try.prog) 106 24 .i64 Try.underlying106 hi014 A0 l0.length c0 x4_1 (of_decide_eq_true (by first | (with_reducible assumption) | assumption)) q14 hroom14; have hr14 := Kd.zii (m := (x4_1 : Int).toNat) hC14 (by omega); have hy14 : y104.length = (x4_1 : Int).toNat := (by rw [Ny104.out, List.length_take]; omega)
                rw [← Ny104.out] at hr14; rw [← hy14] at hcut14; have HR107 := zb.mk hr14; have HC107 := zb.mk (show y104.length ≤ c0 from by omega); clear hr14 hC14 hroom14 hi014 hsz14; have KY14 := zb.mk hy14; clear hy14; replace q14 := eq_true q14; have p108 : 0 ≤ (x4_1 : Int) := of_decide_eq_true (by first | (with_reducible assumption) | assumption); have q108 : x4_1 < (l0.length : Int) := of_decide_eq_true (by first | (with_reducible assumption) | assumption); obtain ⟨ad108, A108_0, c108_0, e108, hx108_0, hl108_0, hi108_0⟩ := at_L5 HR0.out x4_1 p108 q108; have hw108_0 := hx108_0; cases e108; replace hx108_0 := (HB.out.cell (World.block_lt_of_cell? w _ hx108_0)).trans hx108_0; have HR108_0 := zb.mk hi108_0; have HC108_0 := zb.mk hl108_0; clear hi108_0 hl108_0; replace p108 := eq_true p108; replace q108 := eq_true q108; refine zbG (n := 9) (S := fun w' => w'.cell? (ad108.add (x4_1).toNat) = some (.slice A108_0 (rd_L5 l0 x4_1).length c108_0)) (ds := []) #[false, false, false, false, false, false, false, false, false] (by kernel_rfl) rfl rfl ((by first | exact ((HB.out.cell (World.block_lt_of_cell? w _ hw108_0)).trans hw108_0) | exact hw108_0)) (fun hHeld => ?_); refine zbv zQ.tab5 zQ.bits5 (fun HT_ HW_ => ?_); generalize wr.drew = w13 at HO_3 HB HR107 HR108_0 hx108_0 hHeld ⊢; refine pure_ (i := 0) (N := some 12) (v := ?_) (a' := ?_) #[true, false, false, false, false, false, false, false, false] rfl rfl (zI HT_.out (by kernel_rfl)) (fun _ _ _ h => h) (Or.inl ⟨by rfl, ?_⟩) ?_ ?_; rotate_left
                · intro w'; go_simp; (with_reducible rfl)
                rotate_left
                · simp only [Act.put, List.setIfInBounds_toArray, List.set_cons_zero, List.set_cons_succ, i64_w, i32_w]; rfl
                refine pure_ (i := 1) (N := some 13) (v := ?_) (a' := ?_) #[true, true, false, false, false, false, false, false, false] rfl rfl (zI HT_.out (by kernel_rfl)) (fun _ _ _ h => h) (Or.inl ⟨by rfl, ?_⟩) ?_ ?_; rotate_left
                · intro w'; go_simp; (with_reducible rfl)
                rotate_left
                · simp only [Act.put, List.setIfInBounds_toArray, List.set_cons_zero, List.set_cons_succ, i64_w, i32_w]; rfl
                refine pure_ (i := 2) (N := some 14) (v := ?_) (a' := ?_) #[true, true, true, false, false, false, false, false, false] rfl rfl (zI HT_.out (by kernel_rfl)) (fun _ _ _ h => h) (Or.inl ⟨by rfl, ?_⟩) ?_ ?_; rotate_left
                · intro w'; go_simp; (with_reducible rfl)
                rotate_left
                · simp only [Act.put, List.setIfInBounds_toArray, List.set_cons_zero, List.set_cons_succ, i64_w, i32_w]; rfl
                refine pure_ (i := 3) (N := some 15) (v := ?_) (a' := ?_) #[true, true, true, true, false, false, false, false, false] rfl rfl (zI HT_.out (by kernel_rfl)) (fun _ _ _ h => h) (Or.inl ⟨by rfl, ?_⟩) ?_ ?_; rotate_left
                · intro w'; go_simp; (with_reducible rfl)
                rotate_left
                · simp only [Act.put, List.setIfInBounds_toArray, List.set_cons_zero, List.set_cons_succ, i64_w, i32_w]; rfl
                refine pure_ (i := 4) (N := some 16) (v := ?_) (a' := ?_) #[true, true, true, true, true, false, false, false, false] rfl rfl (zI HT_.out (by kernel_rfl)) (fun _ _ _ h => h) (Or.inl ⟨by rfl, ?_⟩) ?_ ?_; rotate_left
                · intro w'; go_simp; (with_reducible rfl)
                rotate_left
                · simp only [Act.put, List.setIfInBounds_toArray, List.set_cons_zero, List.set_cons_succ, i64_w, i32_w]; rfl
                refine pure_ (i := 5) (N := some 17) (v := ?_) (a' := ?_) #[true, true, true, true, true, true, false, false, false] rfl rfl (zI HT_.out (by kernel_rfl)) (fun _ _ _ h => h) (Or.inl ⟨by rfl, ?_⟩) ?_ ?_; rotate_left
                · intro w'; go_simp; (with_reducible rfl)
                rotate_left
                · simp only [Act.put, List.setIfInBounds_toArray, List.set_cons_zero, List.set_cons_succ, i64_w, i32_w]; rfl
                refine take_ (i := 6) (N := some 18) (v := ?_) (a' := ?_) #[true, true, true, true, true, true, true, false, false] rfl rfl (zax HT_.out HW_.out (by kernel_rfl)) (fun _ _ _ h => h) (Or.inl ⟨by rfl, ?_⟩) hHeld ?_ ?_; rotate_left
                · intro w' s0; go_simp; (with_reducible rfl)
                rotate_left
                · simp only [Act.put, List.setIfInBounds_toArray, List.set_cons_zero, List.set_cons_succ, i64_w, i32_w]; rfl
                refine one_ (i := 7) (N := some 19) #[true, true, true, true, true, true, true, true, false] rfl rfl (zbu HT_.out (by kernel_rfl)) (by decide) (fun K hK => ?_); refine goes_ Try.func149 (by kernel_rfl) rfl #[.slice (some ad108) y104.length c0, .slice A108_0 (rd_L5 l0 x4_1).length c108_0] (by rfl) rfl rfl (by (try simp only [List.map_toArray, List.map_cons, List.map_nil]); first | done | rfl | (simp only [List.length_drop, List.length_take]; rfl)) ?_; (with_reducible refine (zbl.calls k1 _ _ y104 _ _ (rd_L5 l0 x4_1) false _ ?side1 ?side2 ?side3 ?side4 A7.out).mono ?_); (case side1 => repeat (first | exact (Kd.zaL HR107.out HB.out) | (with_reducible refine Kd.zS ?_ _) | (with_reducible refine Kd.zT ?_ _) | (with_reducible refine Kd.zah ?_))); (case side2 => exact HC107.out); (case side3 => repeat (first | exact (Kd.zaL HR108_0.out HB.out) | (with_reducible refine Kd.zS ?_ _) | (with_reducible refine Kd.zT ?_ _) | (with_reducible refine Kd.zah ?_))); (case side4 => exact HC108_0.out); rintro e w15 ⟨rfl, hb⟩; refine ⟨_, rfl, ?_⟩; have n0_ := zb.mk (Kd.zaj (by (with_reducible repeat (first | apply Kd.zt | apply Kd.zq | apply Kd.zy)); exact HO_3.out) hb); have n1_ := zb.mk (zw (by repeat (first | (with_reducible first | exact HB.out | apply zf | apply za | apply ze) | exact HB.out | exact Below.refl _ _)) hb); clear HO_3; clear HB; have HO_3 := n0_; have HB := n1_; clear n0_ n1_; (try clear hb); (try clear hb2); (try clear hk); (try clear hi); refine hK.out _ _ ((by first | exact ((HB.out.cell (World.block_lt_of_cell? w _ hw108_0)).trans hw108_0) | exact hw108_0)) (fun hHeld => ?_); clear hK K; refine norm_ (a' := ?_) ?_ ?_; rotate_left
                · show Act.put _ (some 19) _ = _; simp only [Act.put, List.setIfInBounds_toArray, List.set_cons_zero, List.set_cons_succ, i64_w, i32_w]; rfl
                refine pure_ (i := 8) (N := some 20) (v := ?_) (a' := ?_) #[true, true, true, true, true, true, true, true, true] rfl rfl (zI HT_.out (by kernel_rfl)) (fun _ _ _ h => h) (Or.inl ⟨by rfl, ?_⟩) ?_ ?_; rotate_left
                · intro w'; go_simp; (with_reducible rfl)
                rotate_left
                · simp only [Act.put, List.setIfInBounds_toArray, List.set_cons_zero, List.set_cons_succ, i64_w, i32_w]; rfl
                refine done_ (zca HT_.out (by kernel_rfl)) ?_
                try go_wp2_with (first | ((with_reducible refine zaH (b := .append) (xs := #[.tmp 21, .tmp 23]) rfl ?_); at_builtin; refine Kd.zbM (Kd.int .i64) (w0 := w) w.heap.size rfl (.tmp 21) (.tmp 23) 24 3 (.int .i64 0) 8 rfl Try.underlying24 info3 rfl (by decide) (by omega) u3 x3_1 x4_1 [.int .i64 x4_1] (fun _ => True) (fun _ => False) rfl rfl ?aP (fun _ hk => hk.elim) ?aF ?aO ?aB ?aS ?aL ?_; (case aP => exact rfl); (case aB => exact (by repeat (first | (with_reducible first | exact HB.out | apply zf | apply za | apply ze) | exact HB.out | exact Below.refl _ _))); (case aF => exact (fun _ _ => trivial)); (case aO => exact (by (with_reducible repeat (first | apply Kd.zt | apply Kd.zq | apply Kd.zy)); exact HO_3.out)); (case aS => exact (zo (by repeat (first | (with_reducible first | exact HB.out | apply zf | apply za | apply ze) | exact HB.out | exact Below.refl _ _)))); (case aL => have := LMc12.out; omega); intro v111 w16 ho hb hg hat; rw [← Ny110.out] at ho; have n0_ := zb.mk (hb); have n1_ := zb.mk (ho); clear HB; clear HO_3; have HB := n0_; have HO112 := n1_; clear n0_ n1_; clear ho hb hg hat))
                go_roundg k1
                case measure => have := HK1.out; omega
                case rel => exact ⟨(y110), (wrap64 (x4_1 + 1)), (by first | rfl | (simp; done) | (simp [*]; done)), H', ⟨by have := HK1.out; omega⟩, ⟨by (with_reducible repeat (first | apply Kd.zt | apply Kd.zq | apply Kd.zy)); exact HO112.out⟩, ⟨by repeat (first | (with_reducible first | exact HB.out | apply zf | apply za | apply ze) | exact HB.out | exact Below.refl _ _)⟩⟩
              · rw [if_neg c12] at H; exact absurd H (by simp)
          · rw [if_neg c6] at H; exact absurd H (by simp)
        · rw [if_neg c5] at H; exact absurd H (by simp)
      · rw [if_neg c4] at H; have c4b0 : decide (x4_1 < (l0.length : Int)) = false := decide_eq_false c4; clear c4; obtain rfl := Option.some.inj H; go_wp2; go_ret; exact ⟨_, by first | rfl | (simp [zA, zB] <;> rfl) | (simp [*, zA, zB] <;> rfl), by (with_reducible repeat (first | apply Kd.zt | apply Kd.zq | apply Kd.zy)); exact HO_3.out, by repeat (first | (with_reducible first | exact HB.out | apply zf | apply za | apply ze) | exact HB.out | exact Below.refl _ _)⟩
end Go.Proofs.Ytmipjlbkcfpkiaa.K

end
section
namespace Go.Proofs.Ytmipjlbkcfpkiaa.K
set_option linter.unusedVariables false
set_option linter.unusedSimpArgs false
open Go.RowKit Go.Proofs.YtmipjlbkcfpkiaaW.PrintWords Go.Proofs.YtmipjlbkcfpkiaaW.PrintLast Go.Proofs.YtmipjlbkcfpkiaaW.PrintMore
attribute [local go_sem] zao zar zaE zaD zad zac zaq zan
def zdI (n i : Nat) : List Int := (List.replicate n 0).set i 1
def zcz (n : Nat) : List (List Int) → Nat → List (List Int) → List (List Int)
  | [], _, out => out
  | x :: t, i, out => zcz n t (i + 1) (out ++ [x ++ zdI n i])
def zcu (k : Nat) (at_ : Int) (i : Nat) : Nat → List (List Int) → Option (List (List Int))
  | 0, rows => some rows
  | d + 1, rows => if rows.length - (d + 1) = i then zcu k at_ i d rows else
      if at_ < ((rows.getD (rows.length - (d + 1)) []).length : Int) then
        if rd (rows.getD (rows.length - (d + 1)) []) at_ = 0 then zcu k at_ i d rows else
          (zab.f k (rows.getD (rows.length - (d + 1)) []) (rows.getD i [])).bind fun z => zcu k at_ i d (rows.set (rows.length - (d + 1)) z)
      else none
def zdb (k : Nat) (at_ : Int) : Nat → List (List Int) → List Int → Option (List (List Int) × List Int)
  | 0, rows, rest => some (rows, rest)
  | d + 1, rows, rest => (zY.f k (rows.getD (rows.length - (d + 1)) [])).bind fun l => if l = at_ then
      (zcu k at_ (rows.length - (d + 1)) rows.length rows).bind fun rows' => (zab.f k rest (rows'.getD (rows.length - (d + 1)) [])).bind fun rest' => some (rows', rest')
    else zdb k at_ d rows rest
def byAll (k : Nat) : Nat → List (List Int) → List Int → Option (List (List Int) × List Int)
  | 0, rows, rest => some (rows, rest)
  | d + 1, rows, rest => (zdb k (4 - ((d : Int) + 1)) rows.length rows rest).bind fun p => byAll k d p.1 p.2
def byEnd (k : Nat) (rest : List Int) : Option (List Int × Bool) :=
  (zY.f k rest).bind fun l => (zay.f l 0 3).bind fun b => if b = true then some ([], false) else if 4 ≤ rest.length then (zR.f k (rest.drop 4) 30).bind fun r => some (r, true) else none
def zfv (t : List (List Int)) (v : List Int) : Bool := decide (t.length ≤ 1000) && decide (v.length ≤ 1000) && t.all fun x => decide (x.length ≤ 1000)
def zbm.f (k : Nat) (t : List (List Int)) (v : List Int) : Option (List Int × Bool) :=
  if zfv t v = true then (byAll k 4 (zcz t.length t 0 []) (v ++ List.replicate t.length 0)).bind fun p => byEnd k p.2 else none
theorem zcC (k : Nat) (at_ : Int) (i : Nat) : ∀ (d : Nat) (rows : List (List Int)), LeO (zcu k at_ i d rows) (zcu (k + 1) at_ i d rows)
  | 0, rows => LeO.refl _
  | d + 1, rows => by
    unfold zcu; exact LeO.ite (zcC k at_ i d _) (LeO.ite (LeO.ite (zcC k at_ i d _) (LeO.bind (zab.mono _ _ _) fun z => zcC k at_ i d _)) (LeO.refl _))
theorem zdH (k : Nat) (at_ : Int) : ∀ (d : Nat) (rows : List (List Int)) (rest : List Int), LeO (zdb k at_ d rows rest) (zdb (k + 1) at_ d rows rest)
  | 0, rows, rest => LeO.refl _
  | d + 1, rows, rest => by
    unfold zdb; exact LeO.bind (zY.mono _ _) fun l => LeO.ite (LeO.bind (zcC _ _ _ _ _) fun _ => LeO.bind (zab.mono _ _ _) fun _ => LeO.refl _) (zdH k at_ d _ _)
theorem zeg (k : Nat) : ∀ (d : Nat) (rows : List (List Int)) (rest : List Int), LeO (byAll k d rows rest) (byAll (k + 1) d rows rest)
  | 0, rows, rest => LeO.refl _
  | d + 1, rows, rest => by
    unfold byAll; exact LeO.bind (zdH _ _ _ _ _) fun p => zeg k d _ _
theorem zbm.mono : ∀ a0 a1 k, LeO (zbm.f k a0 a1) (zbm.f (k + 1) a0 a1) := by
  intro a0 a1 k; unfold zbm.f byEnd; exact LeO.ite (LeO.bind (zeg _ _ _ _) fun p => LeO.bind (zY.mono _ _) fun l => LeO.bind (LeO.refl _) fun b => LeO.ite (LeO.refl _) (LeO.ite (LeO.bind (zR.mono _ _ _) fun _ => LeO.refl _) (LeO.refl _))) (LeO.refl _)
theorem zfq (k : Nat) (at_ : Int) (i d : Nat) (rows : List (List Int)) : zcu k at_ i (d + 1) rows = if rows.length - (d + 1) = i then zcu k at_ i d rows else
      if at_ < ((rows.getD (rows.length - (d + 1)) []).length : Int) then
        if rd (rows.getD (rows.length - (d + 1)) []) at_ = 0 then zcu k at_ i d rows else
          (zab.f k (rows.getD (rows.length - (d + 1)) []) (rows.getD i [])).bind fun z => zcu k at_ i d (rows.set (rows.length - (d + 1)) z)
      else none := rfl
theorem zfc (k : Nat) (at_ : Int) (d : Nat) (rows : List (List Int)) (rest : List Int) : zdb k at_ (d + 1) rows rest = (zY.f k (rows.getD (rows.length - (d + 1)) [])).bind fun l => if l = at_ then
      (zcu k at_ (rows.length - (d + 1)) rows.length rows).bind fun rows' => (zab.f k rest (rows'.getD (rows.length - (d + 1)) [])).bind fun rest' => some (rows', rest')
    else zdb k at_ d rows rest := rfl
theorem zfQ (k d : Nat) (rows : List (List Int)) (rest : List Int) : byAll k (d + 1) rows rest = (zdb k (4 - ((d : Int) + 1)) rows.length rows rest).bind fun p => byAll k d p.1 p.2 := rfl
theorem zfb (n : Nat) (x : List Int) (t : List (List Int)) (i : Nat) (out : List (List Int)) : zcz n (x :: t) i out = zcz n t (i + 1) (out ++ [x ++ zdI n i]) := rfl
theorem zfZ (t : List (List Int)) (j : Nat) (h : j < t.length) : t.drop j = t.getD j [] :: t.drop (j + 1) := by
  rw [List.drop_eq_getElem_cons h, List.getD_eq_getElem?_getD, List.getElem?_eq_getElem h]; rfl
def ByW (w w' : World) (v6 v9 : Value) (rows : List (List Int)) (rest : List Int) : Prop := ∃ vs : List VC, Kd.R kV 24 w' w.heap.size (fun _ => True) v6 vs ∧ RowsP w.heap.size w' v6 vs rows ∧ Kd.R (Kd.int .i64) 3 w' w.heap.size (fun _ => True) v9 rest ∧ Below w.heap.size w w'
theorem ByW.own {w w' : World} {v6 v9 : Value} {rows : List (List Int)} {rest : List Int} (h : ByW w w' v6 v9 rows rest) : Kd.R (Kd.int .i64) 3 w' w.heap.size (fun _ => True) v9 rest := by
  obtain ⟨vs, h1, h2, h3, h4⟩ := h; exact h3
theorem ByW.bel {w w' : World} {v6 v9 : Value} {rows : List (List Int)} {rest : List Int} (h : ByW w w' v6 v9 rows rest) : Below w.heap.size w w' := by
  obtain ⟨vs, h1, h2, h3, h4⟩ := h; exact h4
theorem ByW.drewN {w w' : World} {v6 v9 : Value} {rows : List (List Int)} {rest : List Int} (h : ByW w w' v6 v9 rows rest) (n : Nat) : ByW w (w'.drewN n) v6 v9 rows rest := by
  obtain ⟨vs, h1, h2, h3, h4⟩ := h; exact ⟨vs, Kd.zq h1 n, h2.below (za (Below.refl _ _) n), Kd.zq h3 n, za h4 n⟩
theorem ByW.below {w w' w2 : World} {v6 v9 : Value} {rows : List (List Int)} {rest : List Int} (h : ByW w w' v6 v9 rows rest) (hb : Below w'.heap.size w' w2) : ByW w w2 v6 v9 rows rest := by
  obtain ⟨vs, h1, h2, h3, h4⟩ := h; exact ⟨vs, Kd.zaj h1 hb, h2.below hb, Kd.zaj h3 hb, zw h4 hb⟩
theorem ByW.rest {w w' : World} {v6 v9 v9' : Value} {rows : List (List Int)} {rest rest' : List Int} (h : ByW w w' v6 v9 rows rest) (h' : Kd.R (Kd.int .i64) 3 w' w.heap.size (fun _ => True) v9' rest') : ByW w w' v6 v9' rows rest' := by
  obtain ⟨vs, h1, h2, h3, h4⟩ := h; exact ⟨vs, h1, h2, h', h4⟩
theorem ByW.form {w w' : World} {v6 v9 : Value} {rows : List (List Int)} {rest : List Int} (h : ByW w w' v6 v9 rows rest) (hp : 0 < rows.length) : ∃ g c, v6 = .slice (some ⟨g, 0, none⟩) rows.length c ∧ w.heap.size ≤ g := by
  obtain ⟨vs, h1, h2, h3, h4⟩ := h; obtain ⟨g, c, e, hb, _⟩ := Kd.zem h1 (by rw [h2.1]; exact hp); exact ⟨g, c, by rw [e, h2.1], hb⟩
theorem ByW.at {w w' : World} {v9 : Value} {g n c : Nat} {rows : List (List Int)} {rest : List Int} (h : ByW w w' (.slice (some ⟨g, 0, none⟩) n c) v9 rows rest) (i : Int) (j : Nat) (hi : i.toNat = j) (h0 : 0 ≤ i) (hj : i < (rows.length : Int)) : ∃ A' c', w'.cell? ⟨g, i.toNat, none⟩ = some (.slice A' (rows.getD j []).length c') ∧ (rows.getD j []).length ≤ c' ∧ Kd.C (Kd.int .i64) w' A' (rows.getD j []).length (rows.getD j []) ∧ w'.frozen? ⟨g, i.toNat, none⟩ = false := by
  obtain ⟨vs, h1, h2, h3, h4⟩ := h; obtain ⟨A', c', k1, k2, k3, k4, _⟩ := ziV h1 h2 i h0 hj; rw [← hi]; exact ⟨A', c', k1, k2, k3, k4⟩
theorem ByW.set {w w' : World} {v9 : Value} {g n c j cz : Nat} {Az : Option Addr} {rows : List (List Int)} {rest z : List Int} (h : ByW w w' (.slice (some ⟨g, 0, none⟩) n c) v9 rows rest) (hz : Kd.R (Kd.int .i64) 3 w' w.heap.size (fun _ => True) (.slice Az z.length cz) z) (hg : w.heap.size ≤ g) : ByW w (w'.setCell ⟨g, j, none⟩ (.slice Az z.length cz)) (.slice (some ⟨g, 0, none⟩) n c) v9 (rows.set j z) rest := by
  obtain ⟨vs, h1, h2, h3, h4⟩ := h
  have hn : n = vs.length := by
    obtain ⟨A, c', e⟩ := Kd.zae h1; injection e
  subst hn; obtain ⟨q1, q2⟩ := Kd.zfD h1 ((j : Nat) : Int) (vcS Az z.length cz); have q1' : Kd.R kV 24 (w'.setCell ⟨g, j, none⟩ (.slice Az z.length cz)) w.heap.size (fun _ => True) (.slice (some ⟨g, 0, none⟩) vs.length c) (vs.set j (vcS Az z.length cz)) := q1; have q2' : w'.grownBy (w'.setCell ⟨g, j, none⟩ (.slice Az z.length cz)) (some g) := q2; have hty : ∀ k, (Value.slice (some ⟨g, 0, none⟩) vs.length c).ownBlock = some k → ∃ cells, w'.heap[k]? = some (.cells cells 24 (0, 0)) := Kd.zcU h1; refine ⟨_, q1', ?_, Kd.zdT h3 hty (by decide) q2', zh h4 hg⟩; have hne : 0 < z.length → (Value.slice Az z.length cz).ownBlock ≠ some g := fun hp => zcV (v := .slice (some ⟨g, 0, none⟩) vs.length c) hz h1 hp
  exact h2.set (u := vcS Az z.length cz) (zcl hz) hne (Kd.zaw hz) q2' j
set_option maxHeartbeats 16000000 in
set_option maxRecDepth 100000 in
theorem zbm.calls (k : Nat) (A0 : Option Addr) (c0 : Nat) (l0 : List (List Int)) (A1 : Option Addr) (c1 : Nat) (l1 : List Int) (r1 : List Int) (r2 : Bool) (w : World) (hr0 : Kd.C (Kd.slice 3 (Kd.int .i64)) w A0 l0.length l0) (hc0 : l0.length ≤ c0) (hr1 : Kd.C (Kd.int .i64) w A1 l1.length l1) (hc1 : l1.length ≤ c1) (h : zbm.f k l0 l1 = some (r1, r2)) :
    Calls Try.prog 148 #[.slice A0 l0.length c0, .slice A1 l1.length c1] w fun e w' => ∃ v0_ : Value, e = .returned (.tuple #[v0_, .bool r2]) ∧ Kd.R (Kd.int .i64) 3 w' w.heap.size (fun _ => True) v0_ r1 ∧ Below w.heap.size w w' := by
  unfold zbm.f at h
  by_cases hs : zfv l0 l1 = true
  case neg => rw [if_neg hs] at h; cases h
  rw [if_pos hs] at h; obtain ⟨pE, hA, hE⟩ := Option.bind_eq_some_iff.mp h; clear h; have HA0 := zb.mk hA; have HE0 := zb.mk hE; unfold zfv at hs; simp only [Bool.and_eq_true, decide_eq_true_eq, List.all_eq_true] at hs; have HN : zb (l0.length ≤ 1000) := ⟨hs.1.1⟩
  have HN1 : zb (l1.length ≤ 1000) := ⟨hs.1.2⟩
  have HNs : zb (∀ x ∈ l0, x.length ≤ 1000) := ⟨hs.2⟩
  have HR0 : zb (Kd.C kRow w A0 l0.length l0) := ⟨hr0⟩
  have HR1 := zb.mk hr1; have HC1 := zb.mk hc1; have HB := zb.mk (Below.refl w.heap.size w); clear hs hA hE hr0 hr1 hc1
  go_enter Try.func148, Try.ntmps148
  go_wp2_with ((with_reducible refine zV (N := 13) rfl ?_); refine Kd.R_lit kV _ 24 ?hg (N := 13) ?hd (xs := ([] : List VC)) (inner := []) (ok := fun _ => True) (okp := fun _ => True) ?hr ?hp (fun _ hk => hk) trivial (Below.refl _ _) (Nat.le_refl _) (by simp) ?_; (case hd => rfl); (case hg => rfl); (case hr => first | (go_simp; done) | (go_simp; rfl)); (case hp => exact (Reps.none _ _)); intro v3 w3 ho hb hg_ hnew_; clear hg_ hnew_; have HO := zb.mk ho; have HB3 := zb.mk (zw HB.out hb); clear ho hb)
  go_loopg [6, 7, 8] l0.length (fun kq v6 v7 v8 w' => ∃ (out : List (List Int)) (vs : List VC), v7 = .int .i64 ((l0.length - kq : Nat) : Int) ∧ zb (kq ≤ l0.length) ∧ zb (zcz l0.length (l0.drop (l0.length - kq)) (l0.length - kq) out = zcz l0.length l0 0 []) ∧ zb (out.length = l0.length - kq) ∧ zb (Kd.R kV 24 w' w.heap.size (fun _ => True) v6 vs) ∧ zb (RowsP w.heap.size w' v6 vs out) ∧ zb (Below w.heap.size w w'))
  case atStart => exact ⟨[], [], by simp, ⟨Nat.le_refl _⟩, ⟨by rw [Nat.sub_self]; rfl⟩, ⟨by simp⟩, HO, ⟨zeP _ _ _⟩, HB3⟩
  case round =>
    clear HO HB3 HB; obtain ⟨out, vs, rfl, HQ, HA, HLO, HO, HP, HB⟩ := hrel; obtain ⟨A6, c6, e6⟩ := Kd.zae HO.out; subst e6; have HBr := zb.mk (Below.refl wr.heap.size wr)
    by_cases hz : gk = 0
    · subst hz; have c1b : decide (((l0.length - 0 : Nat) : Int) < (l0.length : Int)) = false := by simp
      have HAE : zb (out = zcz l0.length l0 0 []) := ⟨by have := HA.out; rw [Nat.sub_zero, List.drop_length] at this; exact this⟩
      have HLE : zb (out.length = l0.length) := ⟨by have := HLO.out; omega⟩
      clear HA HQ HLO; have HVL : zb (vs.length = l0.length) := ⟨HP.out.1.trans HLE.out⟩
      have hv := HVL.out; rw [hv] at HO HP ⊢; clear hv; go_wp2_with (first | ((with_reducible refine zV (N := 37) rfl ?_); refine Kd.R_lit (Kd.int .i64) _ 3 ?hg (N := 37) ?hd (xs := ([] : List Int)) (inner := []) (ok := fun _ => True) (okp := fun _ => True) ?hr ?hp (fun _ hk => hk) trivial (Below.refl _ _) (Nat.le_refl _) (by simp) ?_; (case hd => rfl); (case hg => rfl); (case hr => first | (go_simp; done) | (go_simp; rfl)); (case hp => exact (Reps.none _ _)); intro v5 w5 ho hb hg_ hnew_; clear hg_ hnew_; have HV5 := zb.mk ho; have HB5 := zb.mk (zw (by repeat (first | (with_reducible first | exact HBr.out | apply zf | apply za | apply ze) | exact HBr.out)) hb); clear ho hb) | ((with_reducible refine zaH (b := .append) (xs := #[.tmp 37, .tmp 38]) rfl ?_); at_builtin; refine Kd.zbS (Kd.int .i64) (w0 := wr) wr.heap.size rfl (.tmp 37) (.tmp 38) 24 3 (.int .i64 0) 8 rfl Try.underlying24 info3 rfl (by decide) (by omega) _ ([] : List Int) l1 _ _ _ (fun _ => True) (fun _ => False) rfl rfl ?aO ?aR (fun _ _ h => h) (fun _ h => h.elim) ?aF ?aB ?aS ?aL ?_; (case aF => exact (fun _ _ => trivial)); (case aO => exact (by (with_reducible repeat (first | apply Kd.zt | apply Kd.zq | apply Kd.zy)); exact HV5.out)); (case aR => exact (by (with_reducible repeat (first | apply Kd.zS | apply Kd.zT | apply Kd.zah)); exact (Kd.zaL HR1.out (zw HB.out HB5.out)))); (case aB => exact (by repeat (first | (with_reducible first | exact HB5.out | apply zf | apply za | apply ze) | exact HB5.out))); (case aS => exact (zo (by repeat (first | (with_reducible first | exact HB5.out | apply zf | apply za | apply ze) | exact HB5.out)))); (case aL => have := HN1.out; simp only [List.length_nil]; omega); intro v6 w6 ho hb hg hat; have HV6 := zb.mk ho; have HB6 := zb.mk hb; clear HV5 HB5; clear ho hb hg hat) | ((with_reducible refine zaH (b := .append) (xs := #[.tmp 39, .tmp 41]) rfl ?_); at_builtin; refine Kd.zeb (Kd.int .i64) (w0 := wr) wr.heap.size rfl (.tmp 39) (.tmp 41) 24 3 3 (.int .i64 0) 8 rfl Try.underlying24 Try.underlying3 info3 rfl (by decide) (by omega) _ ([] ++ l1) (0 : Int) (l0.length : Int) (fun _ => True) rfl rfl rfl ?aF ?aO ?aN ?aB ?aS ?aL ?_; (case aF => exact (fun _ _ => trivial)); (case aO => exact (by (with_reducible repeat (first | apply Kd.zt | apply Kd.zq | apply Kd.zy)); exact HV6.out)); (case aN => exact Int.natCast_nonneg _); (case aB => exact (by repeat (first | (with_reducible first | exact HB6.out | apply zf | apply za | apply ze) | exact HB6.out))); (case aS => exact (zo (by repeat (first | (with_reducible first | exact HB6.out | apply zf | apply za | apply ze) | exact HB6.out)))); (case aL => have := HN1.out; have := HN.out; simp only [List.nil_append, Int.toNat_natCast]; omega); intro v7 w7 ho hb hg hat; have HV7 := zb.mk (Kd.zaa ho (zo HB.out)); have HW := zb.mk ((⟨vs, Kd.zaj HO.out hb, RowsP.below HP.out hb, HV7.out, zw HB.out hb⟩ : ByW w w7 (.slice A6 l0.length c6) v7 out ([] ++ l1 ++ List.replicate (l0.length : Int).toNat 0))); clear HV6 HB6 HV7; clear ho hb hg hat)); have hout := HAE.out; rw [hout, List.nil_append, Int.toNat_natCast] at HW; have HL0 : zb ((zcz l0.length l0 0 []).length = l0.length) := ⟨by rw [← hout]; exact HLE.out⟩
      generalize zcz l0.length l0 0 [] = rows0 at HW HA0 HL0; generalize l1 ++ List.replicate l0.length 0 = rest0 at HW HA0; clear hout HAE HLE HO HP HB HBr c1b HVL
      go_loopg [9, 10, 11, 12] 4 (fun kq v9 v10 v11 v12 w' => ∃ (rows : List (List Int)) (rest : List Int), v10 = .int .i64 (4 - (kq : Int)) ∧ zb (kq ≤ 4) ∧ zb (byAll k kq rows rest = some pE) ∧ zb (rows.length = l0.length) ∧ zb (ByW w w' (.slice A6 l0.length c6) v9 rows rest))
      case atStart => exact ⟨rows0, rest0, rfl, ⟨Nat.le_refl _⟩, HA0, HL0, HW⟩
      case round =>
        clear HA0 HL0 HW; obtain ⟨rows, rest, rfl, HQ, HA, HL, HW⟩ := hrel
        by_cases hz : gk = 0
        · subst hz; have e4 : (4 - ((0 : Nat) : Int)) = 4 := rfl; rw [e4]; have hpe : pE = (rows, rest) := (Option.some.inj HA.out).symm; have hE := HE0.out; rw [hpe] at hE; unfold byEnd at hE; clear HA HE0 HQ hpe e4; obtain ⟨l, A_, hE⟩ := Option.bind_eq_some_iff.mp hE; have AL := zb.mk A_; clear A_; obtain ⟨b, A_, hE⟩ := Option.bind_eq_some_iff.mp hE; have AI := zb.mk A_; clear A_; have HV9 := zb.mk HW.out.own; have HB9 := zb.mk HW.out.bel; obtain ⟨A9, c9, e9⟩ := Kd.zae HV9.out; subst e9; cases b with
          | true =>
            rw [if_pos rfl] at hE; cases Option.some.inj hE; clear hE; go_wp2_with (first | (go_at_call 150; refine (zY.calls k _ _ rest l _ (by (with_reducible repeat (first | apply Kd.zS | apply Kd.zT | apply Kd.zah)); exact (Kd.zO HV9.out).2.2) (Kd.zO HV9.out).2.1 AL.out).mono ?_; rintro e w' ⟨rfl, nd, rfl⟩) | (go_at_call 44; refine (zay.calls l 0 3 _ _ AI.out).mono ?_; rintro e w' ⟨rfl, nd2, rfl⟩) | ((with_reducible refine zV (N := 100) rfl ?_); refine Kd.R_lit (Kd.int .i64) _ 3 ?hg (N := 100) ?hd (xs := ([] : List Int)) (inner := []) (ok := fun _ => True) (okp := fun _ => True) ?hr ?hp (fun _ hk => hk) trivial (Below.refl _ _) (Nat.le_refl _) (by simp) ?_; (case hd => rfl); (case hg => rfl); (case hr => first | (go_simp; done) | (go_simp; rfl)); (case hp => exact (Reps.none _ _)); intro v10 w10 ho hb hg_ hnew_; clear hg_ hnew_; have HZ := zb.mk (Kd.zaa ho (zo (by repeat (first | (with_reducible first | exact HB9.out | apply zf | apply za | apply ze) | exact HB9.out)))); have HBZ := zb.mk (zw (by repeat (first | (with_reducible first | exact HB9.out | apply zf | apply za | apply ze) | exact HB9.out)) hb); clear ho hb)); go_ret2; exact ⟨_, rfl, HZ.out, HBZ.out⟩
          | false =>
            rw [if_neg (by decide)] at hE
            by_cases h4 : 4 ≤ rest.length
            case neg => rw [if_neg h4] at hE; cases hE
            rw [if_pos h4] at hE; obtain ⟨rr, A_, hE⟩ := Option.bind_eq_some_iff.mp hE; have AS := zb.mk A_; cases Option.some.inj hE; have h4b : (4 ≤ rest.length) = True := eq_true h4; have h4c : ((4 : Int) ≤ (rest.length : Int)) = True := eq_true (by omega); have h4d : decide ((4 : Int) ≤ (rest.length : Int)) = true := decide_eq_true (by omega); have HCq := zb.mk (Kd.zO HV9.out); have HL9 : zb (rest.length ≤ c9) := ⟨HCq.out.2.1⟩
            have HCD := zb.mk (Kd.zjz (m := 4) HCq.out.2.2 h4 HL9.out); have H4 := zb.mk h4; clear A_ hE h4
            by_cases hc9 : c9 = 4
            · subst hc9; rw [if_pos rfl] at HCD; go_wp2_with (first | (go_at_call 150; refine (zY.calls k _ _ rest l _ (by (with_reducible repeat (first | apply Kd.zS | apply Kd.zT | apply Kd.zah)); exact (Kd.zO HV9.out).2.2) (Kd.zO HV9.out).2.1 AL.out).mono ?_; rintro e w' ⟨rfl, nd, rfl⟩) | (go_at_call 44; refine (zay.calls l 0 3 _ _ AI.out).mono ?_; rintro e w' ⟨rfl, nd2, rfl⟩)); rw [show rest.length - 4 = (rest.drop 4).length from List.length_drop.symm]; refine (zR.calls k A9 0 (rest.drop 4) 30 r1 _ (Kd.zT HCD.out _) (by rw [List.length_drop]; have := HL9.out; omega) AS.out).mono ?_; rintro e w5 ⟨v5, rfl, ho, hb⟩; have HZ := zb.mk (Kd.zaa ho (zo (by repeat (first | (with_reducible first | exact HB9.out | apply zf | apply za | apply ze) | exact HB9.out)))); have HBZ := zb.mk (zw (by repeat (first | (with_reducible first | exact HB9.out | apply zf | apply za | apply ze) | exact HB9.out)) hb); clear ho hb; go_wp2; go_ret2; exact ⟨_, rfl, HZ.out, HBZ.out⟩
            · rw [if_neg hc9] at HCD; go_wp2_with (first | (go_at_call 150; refine (zY.calls k _ _ rest l _ (by (with_reducible repeat (first | apply Kd.zS | apply Kd.zT | apply Kd.zah)); exact (Kd.zO HV9.out).2.2) (Kd.zO HV9.out).2.1 AL.out).mono ?_; rintro e w' ⟨rfl, nd, rfl⟩) | (go_at_call 44; refine (zay.calls l 0 3 _ _ AI.out).mono ?_; rintro e w' ⟨rfl, nd2, rfl⟩)); rw [show rest.length - 4 = (rest.drop 4).length from List.length_drop.symm]; refine (zR.calls k (Option.map (fun x => x.add 4) A9) (c9 - 4) (rest.drop 4) 30 r1 _ (Kd.zT HCD.out _) (by rw [List.length_drop]; have := HL9.out; omega) AS.out).mono ?_; rintro e w5 ⟨v5, rfl, ho, hb⟩; have HZ := zb.mk (Kd.zaa ho (zo (by repeat (first | (with_reducible first | exact HB9.out | apply zf | apply za | apply ze) | exact HB9.out)))); have HBZ := zb.mk (zw (by repeat (first | (with_reducible first | exact HB9.out | apply zf | apply za | apply ze) | exact HB9.out)) hb); clear ho hb; go_wp2; go_ret2; exact ⟨_, rfl, HZ.out, HBZ.out⟩
        · obtain ⟨m, rfl⟩ : ∃ m, gk = m + 1 := ⟨gk - 1, by omega⟩
          have hA := HA.out; rw [zfQ] at hA; obtain ⟨p2, A_, hA⟩ := Option.bind_eq_some_iff.mp hA; have hF := A_; rw [HL.out] at hF; have HF := zb.mk hF; have HAn := zb.mk hA; clear hF A_ hA HA hz; have hea : (4 - ((m + 1 : Nat) : Int)) = 4 - ((m : Int) + 1) := rfl; rw [hea]; have HA4 : zb (wrap64 (4 - ((m : Int) + 1) + 1) = 4 - (m : Int)) := ⟨by have := HQ.out; unfold wrap64; omega⟩
          have ha0 : 0 ≤ 4 - ((m : Int) + 1) := by have := HQ.out; omega
          have ha4 : decide (4 - ((m : Int) + 1) < 4) = true := decide_eq_true (by omega); generalize 4 - ((m : Int) + 1) = a at HA4 HF ha0 ha4 ⊢; have HAP := zb.mk ha0; clear hea ha0; go_wp2
          go_loopg [9, 11, 12] l0.length (fun kq v9 v11 v12 w' => v11 = .int .i64 ((l0.length - kq : Nat) : Int) ∧ zb (kq ≤ l0.length) ∧ zb (zdb k a kq rows rest = some p2) ∧ zb (ByW w w' (.slice A6 l0.length c6) v9 rows rest))
          case atStart => exact ⟨by simp, ⟨Nat.le_refl _⟩, HF, HW⟩
          case round =>
            clear HF HW; obtain ⟨rfl, HQ3, HF, HW⟩ := hrel
            by_cases hz : gk = 0
            · subst hz; have c1b : decide (((l0.length - 0 : Nat) : Int) < (l0.length : Int)) = false := by simp
              have hp2 : p2 = (rows, rest) := (Option.some.inj HF.out).symm; subst hp2; go_wp2
              go_roundg m
              case measure => omega
              case rel => exact ⟨rows, rest, by rw [← HA4.out], ⟨by have := HQ.out; omega⟩, HAn, HL, HW⟩
            · obtain ⟨q, rfl⟩ : ∃ q, gk = q + 1 := ⟨gk - 1, by omega⟩
              obtain ⟨j, hj⟩ : ∃ j : Nat, l0.length - (q + 1) = j := ⟨_, rfl⟩
              have hjl : j < l0.length := by have := HQ3.out; omega
              have hF := HF.out; rw [zfc, HL.out, hj] at hF; rw [hj]; obtain ⟨g, c6', e6, hg6⟩ := ByW.form HW.out (by rw [HL.out]; omega); rw [HL.out] at e6; injection e6 with e6 _ e7
              subst e6; subst e7; have HG6 := zb.mk hg6; clear hg6; have c2 : decide ((j : Int) < (l0.length : Int)) = true := decide_eq_true (by omega); have hp0 : 0 ≤ (j : Int) := by omega
              have hq0 : (j : Int) < (l0.length : Int) := by omega
              have HTO : zb (((j : Nat) : Int).toNat = j) := ⟨Int.toNat_natCast j⟩
              have HNX : zb (wrap64 ((j : Int) + 1) = ((l0.length - q : Nat) : Int)) := ⟨by have := HN.out; have := HQ3.out; unfold wrap64; omega⟩
              have HJL := zb.mk hjl; clear HF hz hjl; obtain ⟨Aj, cj, hcj, hlj, hCj, hfj⟩ := ByW.at HW.out (j : Int) j HTO.out hp0 (by rw [HL.out]; exact hq0); have HLJ := zb.mk hlj; have HCJ := zb.mk hCj; clear hlj hCj hfj; obtain ⟨l, A_, hF⟩ := Option.bind_eq_some_iff.mp hF; have AL := zb.mk A_; clear A_; have HJQ := zb.mk hj; clear hj; generalize hji : (j : Int) = ji at c2 hp0 hq0 HNX HTO hcj ⊢; have HJI := zb.mk hji; clear hji; replace hp0 := eq_true hp0; replace hq0 := eq_true hq0
              by_cases hla : l = a
              · subst hla; rw [if_pos rfl] at hF; obtain ⟨rowsF, A_, hF⟩ := Option.bind_eq_some_iff.mp hF; have hEl := A_; have HEl := zb.mk hEl; clear A_ hEl; obtain ⟨restF, A_, hF⟩ := Option.bind_eq_some_iff.mp hF; have ALF := zb.mk A_; have HP2 := zb.mk (Option.some.inj hF); clear A_ hF; go_wp2_with (go_at_call 150; refine (zY.calls k _ _ _ l _ (by (with_reducible repeat (first | apply Kd.zS | apply Kd.zT | apply Kd.zah)); exact HCJ.out) HLJ.out AL.out).mono ?_; rintro e w' ⟨rfl, nd, rfl⟩); have hw2 := HW.out.drewN nd; have HW2 := zb.mk hw2; clear hw2 HW HCJ HLJ hcj; generalize wr.drewN nd = wq at HW2 ⊢; obtain ⟨A9, c9, e9⟩ := Kd.zae HW2.out.own; subst e9
                go_loopg [12] l0.length (fun kq v12 w' => ∃ rows4 : List (List Int), v12 = .int .i64 ((l0.length - kq : Nat) : Int) ∧ zb (kq ≤ l0.length) ∧ zb (zcu k l j kq rows4 = some rowsF) ∧ zb (rows4.length = l0.length) ∧ zb (ByW w w' (.slice (some ⟨g, 0, none⟩) l0.length c6) (.slice A9 rest.length c9) rows4 rest))
                case atStart => exact ⟨rows, by simp, ⟨Nat.le_refl _⟩, HEl, HL, HW2⟩
                case round =>
                  clear HEl HW2 HL c2; obtain ⟨rows4, rfl, HQ4, HE4, HL4, HW4⟩ := hrel
                  by_cases hz : gk = 0
                  · subst hz; have c1b : decide (((l0.length - 0 : Nat) : Int) < (l0.length : Int)) = false := by simp
                    have hrf : rows4 = rowsF := Option.some.inj HE4.out; subst hrf; obtain ⟨Ai, ci, hci, hli, hCi, _⟩ := ByW.at HW4.out ji j HTO.out (of_eq_true hp0) (by rw [HL4.out]; exact of_eq_true hq0); have hlf := ALF.out; generalize rows4.getD j [] = xi at hci hli hCi hlf; have HLF := zb.mk hlf; have HLI := zb.mk hli; have HCI := zb.mk hCi; have HV9 := zb.mk HW4.out.own; clear hli hCi hlf; go_wp2_with (go_at_call 151; refine (zab.calls k _ _ rest _ _ xi restF _ (by (with_reducible repeat (first | apply Kd.zS | apply Kd.zT | apply Kd.zah)); exact (Kd.zO HV9.out).2.2) (Kd.zO HV9.out).2.1 (by (with_reducible repeat (first | apply Kd.zS | apply Kd.zT | apply Kd.zah)); exact HCI.out) HLI.out HLF.out).mono ?_; rintro e w5 ⟨v5, rfl, ho, hb⟩; have HZ5 := zb.mk (Kd.zaa ho (zo HW4.out.bel)); have HW5 := zb.mk ((HW4.out.below hb).rest HZ5.out); clear ho hb)
                    go_roundg m
                    case measure => omega
                    case rel => exact ⟨rows4, restF, by rw [← HA4.out], ⟨by have := HQ.out; omega⟩, ⟨by rw [← HP2.out] at HAn; exact HAn.out⟩, HL4, HW5⟩
                  · obtain ⟨q4, rfl⟩ : ∃ q4, gk = q4 + 1 := ⟨gk - 1, by omega⟩
                    obtain ⟨jk, hjk⟩ : ∃ jk : Nat, l0.length - (q4 + 1) = jk := ⟨_, rfl⟩
                    have hjkl : jk < l0.length := by have := HQ4.out; omega
                    have hE := HE4.out; rw [zfq, HL4.out, hjk] at hE; rw [hjk]; have c3 : decide ((jk : Int) < (l0.length : Int)) = true := decide_eq_true (by omega); have hu0 : 0 ≤ (jk : Int) := by omega
                    have hv0 : (jk : Int) < (l0.length : Int) := by omega
                    have HTK : zb (((jk : Nat) : Int).toNat = jk) := ⟨Int.toNat_natCast jk⟩
                    have HNK : zb (wrap64 ((jk : Int) + 1) = ((l0.length - q4 : Nat) : Int)) := ⟨by have := HN.out; have := HQ4.out; unfold wrap64; omega⟩
                    have HJK := zb.mk hjkl; have HE5 := zb.mk hE; have HEQ : zb ((jk : Int) = ji ↔ jk = j) := ⟨by rw [← HJI.out]; omega⟩
                    clear HE4 hz hjkl hjk hE; generalize hji2 : (jk : Int) = jki at c3 hu0 hv0 HNK HTK HEQ ⊢; have HJI2 := zb.mk hji2; clear hji2
                    by_cases hij : jk = j
                    · have hE := HE5.out; rw [if_pos hij] at hE; have HE6 := zb.mk hE; have cn : (jki != ji) = false := by rw [bne_eq_false_iff_eq]; exact HEQ.out.mpr hij
                      clear hE HE5 hij; replace hu0 := eq_true hu0; replace hv0 := eq_true hv0; go_wp2
                      go_roundg q4
                      case measure => omega
                      case rel => exact ⟨rows4, by rw [← HNK.out], ⟨by have := HQ4.out; omega⟩, HE6, HL4, HW4⟩
                    · have hE := HE5.out; rw [if_neg hij] at hE; have cn : (jki != ji) = true := by rw [bne_iff_ne]; exact fun e => hij (HEQ.out.mp e)
                      obtain ⟨Ak, ck, hck, hlk, hCk, hfk⟩ := ByW.at HW4.out jki jk HTK.out hu0 (by rw [HL4.out]; exact hv0); generalize rows4.getD jk [] = xk at hE hck hlk hCk
                      by_cases hlt : l < ((xk).length : Int)
                      case neg => rw [if_neg hlt] at hE; cases hE
                      rw [if_pos hlt] at hE; obtain ⟨adk, eAk, hxk⟩ := Kd.zaR hCk l HAP.out hlt; subst eAk; have ha0 := eq_true HAP.out; have HLT := zb.mk hlt; replace hlt := eq_true hlt; have HLK := zb.mk hlk; have HCK := zb.mk hCk; have HFK := zb.mk hfk; have HU0 := zb.mk hu0; have HV0 := zb.mk hv0; replace hu0 := eq_true hu0; replace hv0 := eq_true hv0; clear hlk hCk hfk HE5 hij
                      by_cases hx0 : rd (xk) l = 0
                      · rw [if_pos hx0] at hE; have HE6 := zb.mk hE; have cz : (rd (xk) l != 0) = false := by rw [bne_eq_false_iff_eq]; exact hx0
                        clear hE; have HX0 := zb.mk hx0; clear hx0; go_wp2
                        go_roundg q4
                        case measure => omega
                        case rel => exact ⟨rows4, by rw [← HNK.out], ⟨by have := HQ4.out; omega⟩, HE6, HL4, HW4⟩
                      · rw [if_neg hx0] at hE; obtain ⟨z, A_, hE⟩ := Option.bind_eq_some_iff.mp hE; have AZ := zb.mk A_; have HE6 := zb.mk hE; have cz : (rd (xk) l != 0) = true := by rw [bne_iff_ne]; exact hx0
                        have HX0 := zb.mk hx0; clear A_ hE hx0; obtain ⟨Ai, ci, hci, hli, hCi, _⟩ := ByW.at HW4.out ji j HTO.out (of_eq_true hp0) (by rw [HL4.out]; exact of_eq_true hq0); have hz3 := AZ.out; generalize rows4.getD j [] = xi at hci hli hCi hz3; have HZ3 := zb.mk hz3; have HLI := zb.mk hli; have HCI := zb.mk hCi; clear hli hCi hz3 AZ; have HWd := zb.mk (HW4.out.below (ze (Below.refl wr.heap.size wr))); have hkd : wr.drew.cell? ⟨g, jki.toNat, none⟩ = some (.slice (some adk) xk.length ck) := (Below.cell (ze (Below.refl wr.heap.size wr)) (World.block_lt_of_cell? wr _ hck)).trans hck; have hid : wr.drew.cell? ⟨g, ji.toNat, none⟩ = some (.slice Ai xi.length ci) := (Below.cell (ze (Below.refl wr.heap.size wr)) (World.block_lt_of_cell? wr _ hci)).trans hci; have HFd : zb (wr.drew.frozen? ⟨g, jki.toNat, none⟩ = false) := ⟨(Below.frozen (ze (Below.refl wr.heap.size wr)) (p := ⟨g, jki.toNat, none⟩) (World.block_lt_of_cell? wr _ hck)).trans HFK.out⟩
                        have HCKd := zb.mk (Kd.zah HCK.out); have HCId := zb.mk (Kd.zah HCI.out); have HKD := zb.mk hkd; have HID := zb.mk hid; go_wp2; clear hck hci hxk HW4 HFK HCK HCI hkd hid; refine zbG (n := 13) (S := fun w' => w'.cell? ⟨g, jki.toNat, none⟩ = some (.slice (some adk) xk.length ck) ∧ w'.cell? ⟨g, ji.toNat, none⟩ = some (.slice Ai xi.length ci)) (ds := [12]) #[false, false, false, false, false, false, false, false, false, false, false, false, false] (by kernel_rfl) rfl rfl ⟨HKD.out, HID.out⟩ (fun hHeld => ?_); generalize wr.drew = wd at HWd HCKd HCId HFd HKD HID hHeld ⊢; refine pure_ (i := 0) (N := some 79) (v := ?_) (a' := ?_) #[true, false, false, false, false, false, false, false, false, false, false, false, false] rfl rfl (by kernel_rfl) (fun _ _ _ h => h) (Or.inl ⟨by rfl, ?_⟩) ?_ ?_; rotate_left
                        · intro w'; go_simp; (with_reducible rfl)
                        rotate_left
                        · simp only [Act.put, List.setIfInBounds_toArray, List.set_cons_zero, List.set_cons_succ, i64_w, i32_w]; rfl
                        refine pure_ (i := 1) (N := some 80) (v := ?_) (a' := ?_) #[true, true, false, false, false, false, false, false, false, false, false, false, false] rfl rfl (by kernel_rfl) (fun _ _ _ h => h) (Or.inl ⟨by rfl, ?_⟩) ?_ ?_; rotate_left
                        · intro w'; go_simp; (with_reducible rfl)
                        rotate_left
                        · simp only [Act.put, List.setIfInBounds_toArray, List.set_cons_zero, List.set_cons_succ, i64_w, i32_w]; rfl
                        refine pure_ (i := 2) (N := some 81) (v := ?_) (a' := ?_) #[true, true, true, false, false, false, false, false, false, false, false, false, false] rfl rfl (by kernel_rfl) (fun _ _ _ h => h) (Or.inl ⟨by rfl, ?_⟩) ?_ ?_; rotate_left
                        · intro w'; go_simp; (with_reducible rfl)
                        rotate_left
                        · simp only [Act.put, List.setIfInBounds_toArray, List.set_cons_zero, List.set_cons_succ, i64_w, i32_w]; rfl
                        refine pure_ (i := 3) (N := some 82) (v := ?_) (a' := ?_) #[true, true, true, true, false, false, false, false, false, false, false, false, false] rfl rfl (by kernel_rfl) (fun _ _ _ h => h) (Or.inl ⟨by rfl, ?_⟩) ?_ ?_; rotate_left
                        · intro w'; go_simp; (with_reducible rfl)
                        rotate_left
                        · simp only [Act.put, List.setIfInBounds_toArray, List.set_cons_zero, List.set_cons_succ, i64_w, i32_w]; rfl
                        refine pure_ (i := 4) (N := some 83) (v := ?_) (a' := ?_) #[true, true, true, true, true, false, false, false, false, false, false, false, false] rfl rfl (by kernel_rfl) (fun _ _ _ h => h) (Or.inl ⟨by rfl, ?_⟩) ?_ ?_; rotate_left
                        · intro w'; go_simp; (with_reducible rfl)
                        rotate_left
                        · simp only [Act.put, List.setIfInBounds_toArray, List.set_cons_zero, List.set_cons_succ, i64_w, i32_w]; rfl
                        refine pure_ (i := 6) (N := some 85) (v := ?_) (a' := ?_) #[true, true, true, true, true, false, true, false, false, false, false, false, false] rfl rfl (by kernel_rfl) (fun _ _ _ h => h) (Or.inl ⟨by rfl, ?_⟩) ?_ ?_; rotate_left
                        · intro w'; go_simp; (with_reducible rfl)
                        rotate_left
                        · simp only [Act.put, List.setIfInBounds_toArray, List.set_cons_zero, List.set_cons_succ, i64_w, i32_w]; rfl
                        refine pure_ (i := 7) (N := some 86) (v := ?_) (a' := ?_) #[true, true, true, true, true, false, true, true, false, false, false, false, false] rfl rfl (by kernel_rfl) (fun _ _ _ h => h) (Or.inl ⟨by rfl, ?_⟩) ?_ ?_; rotate_left
                        · intro w'; go_simp; (with_reducible rfl)
                        rotate_left
                        · simp only [Act.put, List.setIfInBounds_toArray, List.set_cons_zero, List.set_cons_succ, i64_w, i32_w]; rfl
                        refine pure_ (i := 8) (N := some 87) (v := ?_) (a' := ?_) #[true, true, true, true, true, false, true, true, true, false, false, false, false] rfl rfl (by kernel_rfl) (fun _ _ _ h => h) (Or.inl ⟨by rfl, ?_⟩) ?_ ?_; rotate_left
                        · intro w'; go_simp; (with_reducible rfl)
                        rotate_left
                        · simp only [Act.put, List.setIfInBounds_toArray, List.set_cons_zero, List.set_cons_succ, i64_w, i32_w]; rfl
                        refine take_ (i := 5) (N := some 84) (v := ?_) (a' := ?_) #[true, true, true, true, true, true, true, true, true, false, false, false, false] rfl rfl (by kernel_rfl) (fun _ _ _ h => h) (Or.inl ⟨by rfl, ?_⟩) hHeld ?_ ?_; rotate_left
                        · rintro w' ⟨s0, s1⟩; go_simp; (with_reducible rfl)
                        rotate_left
                        · simp only [Act.put, List.setIfInBounds_toArray, List.set_cons_zero, List.set_cons_succ, i64_w, i32_w]; rfl
                        refine take_ (i := 9) (N := some 88) (v := ?_) (a' := ?_) #[true, true, true, true, true, true, true, true, true, true, false, false, false] rfl rfl (by kernel_rfl) (fun _ _ _ h => h) (Or.inl ⟨by rfl, ?_⟩) hHeld ?_ ?_; rotate_left
                        · rintro w' ⟨s0, s1⟩; go_simp; (with_reducible rfl)
                        rotate_left
                        · simp only [Act.put, List.setIfInBounds_toArray, List.set_cons_zero, List.set_cons_succ, i64_w, i32_w]; rfl
                        refine one_ (i := 10) (N := some 89) #[true, true, true, true, true, true, true, true, true, true, true, false, false] rfl rfl (by kernel_rfl) (by decide) (fun K hK => ?_); refine goes_ Try.func151 (by kernel_rfl) rfl #[.slice (some adk) xk.length ck, .slice Ai xi.length ci] (by rfl) rfl rfl (by simp only [List.map_toArray, List.map_cons, List.map_nil]; rfl) ?_; (with_reducible refine (zab.calls k _ _ xk _ _ xi z _ HCKd.out HLK.out HCId.out HLI.out HZ3.out).mono ?_); rintro e w11 ⟨v11, rfl, ho, hb⟩; refine ⟨_, rfl, ?_⟩; have HZ := zb.mk (Kd.zaa ho (zo HWd.out.bel)); have HWe := zb.mk (HWd.out.below hb); have hfz : w11.frozen? ⟨g, jki.toNat, none⟩ = false := (hb.frozen (p := ⟨g, jki.toNat, none⟩) (World.block_lt_of_cell? _ _ hHeld.1)).trans HFd.out; have hkz := (hb.cell (World.block_lt_of_cell? _ _ hHeld.1)).trans hHeld.1; obtain ⟨Az, cz_, ez⟩ := Kd.zae HZ.out; subst ez; refine hK.out _ _ ⟨hkz, (hb.cell (World.block_lt_of_cell? _ _ hHeld.2)).trans hHeld.2⟩ (fun hHeld => ?_); clear hK K; refine norm_ (a' := ?_) ?_ ?_; rotate_left
                        · show Act.put _ (some 89) _ = _; simp only [Act.put, List.setIfInBounds_toArray, List.set_cons_zero, List.set_cons_succ, i64_w, i32_w]; rfl
                        refine pure_ (i := 11) (N := some 90) (v := ?_) (a' := ?_) #[true, true, true, true, true, true, true, true, true, true, true, true, false] rfl rfl (by kernel_rfl) (fun _ _ _ h => h) (Or.inl ⟨by rfl, ?_⟩) ?_ ?_; rotate_left
                        · intro w'; go_simp; (with_reducible rfl)
                        rotate_left
                        · simp only [Act.put, List.setIfInBounds_toArray, List.set_cons_zero, List.set_cons_succ, i64_w, i32_w]; rfl
                        refine last_ (i := 12) (N := none) #[true, true, true, true, true, true, true, true, true, true, true, true, true] rfl rfl (by kernel_rfl) (by decide) (fun K hK => ?_); refine skip_ (w1 := ?_) (by rfl) rfl ?_ ?_; rotate_left
                        · go_simp; rfl
                        refine hK.out _ _ ?_; clear hK K; refine done_ (by kernel_rfl) ?_; have HW6 : zb (ByW w (w11.setCell ⟨g, jki.toNat, none⟩ (.slice Az z.length cz_)) (.slice (some ⟨g, 0, none⟩) l0.length c6) (.slice A9 rest.length c9) (rows4.set jk z) rest) := ⟨by have := HWe.out.set (j := jki.toNat) HZ.out HG6.out; rw [show rows4.set jki.toNat z = rows4.set jk z from by rw [HTK.out]] at this; exact this⟩
                        try go_wp2
                        go_roundg q4
                        case measure => omega
                        case rel => exact ⟨rows4.set jk z, by rw [← HNK.out], ⟨by have := HQ4.out; omega⟩, HE6, ⟨by rw [List.length_set]; exact HL4.out⟩, HW6⟩
              · rw [if_neg hla] at hF; have HF := zb.mk hF; have cl : (l == a) = false := by rw [beq_eq_false_iff_ne]; exact hla
                have cl2 : decide (l = a) = false := decide_eq_false hla; clear hF hla; go_wp2_with (go_at_call 150; refine (zY.calls k _ _ _ l _ (by (with_reducible repeat (first | apply Kd.zS | apply Kd.zT | apply Kd.zah)); exact HCJ.out) HLJ.out AL.out).mono ?_; rintro e w' ⟨rfl, nd, rfl⟩)
                go_roundg q
                case measure => omega
                case rel => exact ⟨by rw [← HNX.out], ⟨by have := HQ3.out; omega⟩, HF, ⟨HW.out.drewN _⟩⟩
    · obtain ⟨j, hj⟩ : ∃ j : Nat, l0.length - gk = j := ⟨_, rfl⟩
      have hjl : j < l0.length := by have := HQ.out; omega
      have HJ : zb (gk = l0.length - j) := ⟨by have := HQ.out; omega⟩
      have c2 : decide ((j : Int) < (l0.length : Int)) = true := decide_eq_true (by omega); rw [hj] at HA HLO ⊢; have hA := HA.out; rw [zfZ l0 j hjl, zfb] at hA; clear HA; have hp0 : 0 ≤ (j : Int) := by omega
      have hq0 : (j : Int) < (l0.length : Int) := by omega
      obtain ⟨ad, A', c', ea, hc0', hl', hC'⟩ := zhl HR0.out (j : Int) hp0 hq0; subst ea; rw [Int.toNat_natCast] at hc0' hl' hC'; have hxl : (l0.getD j []).length ≤ 1000 := HNs.out _ (by rw [List.getD_eq_getElem?_getD, List.getElem?_eq_getElem hjl]; exact List.getElem_mem _); have HXL := zb.mk hxl; have HL' := zb.mk hl'; have HC' := zb.mk hC'; clear hl' hC' hxl; generalize l0.getD j [] = x at hc0' HL' HC' hA HXL; have HAn := zb.mk hA; clear hA; have HJL := zb.mk hjl
      have hnext : wrap64 ((j : Int) + 1) = ((l0.length - (l0.length - (j + 1)) : Nat) : Int) := by
        have := HJL.out; have := HN.out; unfold wrap64
        omega
      have HNX := zb.mk hnext; clear hnext hj hz hjl; have hcw : w.cell? (ad.add ((j : Int)).toNat) = some (.slice A' x.length c') := by rw [Int.toNat_natCast]; exact hc0'
      have HCW := zb.mk hcw; clear hc0' hcw; have HTO : zb (((j : Nat) : Int).toNat = j) := ⟨Int.toNat_natCast j⟩
      generalize hji : (j : Int) = ji at c2 hp0 hq0 HNX HCW HTO ⊢; have HJI := zb.mk hji; clear hji; replace hp0 := eq_true hp0; replace hq0 := eq_true hq0; go_wp2_with (first | ((with_reducible refine zV (N := 22) rfl ?_); refine Kd.zgh (Kd.int .i64) _ 3 rfl (N := 22) rfl 24 _ _ rfl (l0.length : Int) rfl rfl Try.underlying24 (.int .i64 0) 8 info3 rfl (by decide) (by omega) (0 : Int) (ok := fun _ => True) (okp := fun _ => True) rfl (fun _ hk => hk) trivial (by omega) (by have := HN.out; omega) (Below.refl _ _) (Nat.le_refl _) ?_; intro v5 w5 ho hb hg_ hnew_; clear hg_ hnew_; have HT := zb.mk ho; have HB5 := zb.mk (zw (by repeat (first | (with_reducible first | exact HBr.out | apply zf | apply za | apply ze) | exact HBr.out)) hb); rw [Int.toNat_natCast] at HT; obtain ⟨g8, c8, e8, gb8, gl8, cl8, HG8⟩ := Kd.zem HT.out (by rw [List.length_replicate]; have := HJL.out; omega); subst e8; rw [List.length_replicate] at HT ⊢; have GB8 := zb.mk (Nat.le_trans (zo HBr.out) gb8); obtain ⟨hx8, hf8⟩ := Kd.zcT 0 HT.out ji (of_eq_true hp0) (of_eq_true hq0); have HP8 := zb.mk (Kd.zfD HT.out ji 1); clear gb8 gl8 cl8 HG8; clear ho hb) | ((with_reducible refine zdv (t := 3) (p := 25) rfl ?_); refine zcX (t := 3) (p := 25) (v := ?vo) (w1 := (w5.setCell ⟨g8, ji.toNat, none⟩ (.int .i64 1))) ?hg ?ho ?hn ?hr ?_; (case ho => rfl); (case hg => rfl); (case hn => rfl); (case hr => first | (go_simp; done) | (go_simp; rfl)); intro w6 hw; have HT6 : zb (Kd.R (Kd.int .i64) 3 w6 wr.heap.size (fun _ => True) (.slice (some ⟨g8, 0, none⟩) l0.length c8) (zdI l0.length j)) := ⟨by rw [hw]; have := HP8.out.1; rw [HTO.out] at this ⊢; exact Kd.zaa this (zo HBr.out)⟩; have HB6 := zb.mk ((by rw [hw]; exact zh HB5.out GB8.out) : Below wr.heap.size wr w6); clear hx8 hf8 HP8 HT HB5; clear hw) | ((with_reducible refine zV (N := 27) rfl ?_); refine Kd.R_lit (Kd.int .i64) _ 3 ?hg (N := 27) ?hd (xs := ([] : List Int)) (inner := []) (ok := fun _ => True) (okp := fun _ => True) ?hr ?hp (fun _ hk => hk) trivial (Below.refl _ _) (Nat.le_refl _) (by simp) ?_; (case hd => rfl); (case hg => rfl); (case hr => first | (go_simp; done) | (go_simp; rfl)); (case hp => exact (Reps.none _ _)); intro v7 w7 ho hb hg_ hnew_; clear hg_ hnew_; have HV7 := zb.mk (Kd.zaa ho (zo HB6.out)); have HN7 := zb.mk (zjG HT6.out ho); have HT7 := zb.mk (Kd.zaj HT6.out hb); have HB7 := zb.mk (zw HB6.out hb); have hc7 := ((zw HB.out HB7.out).cell (World.block_lt_of_cell? w _ HCW.out)).trans HCW.out; clear HT6 HB6; clear ho hb) | ((with_reducible refine zaH (b := .append) (xs := #[.tmp 27, .tmp 31]) rfl ?_); at_builtin; refine Kd.zbS (Kd.int .i64) (w0 := wr) wr.heap.size rfl (.tmp 27) (.tmp 31) 24 3 (.int .i64 0) 8 rfl Try.underlying24 info3 rfl (by decide) (by omega) _ ([] : List Int) x _ _ _ (fun _ => True) (fun _ => False) rfl rfl ?aO ?aR (fun _ _ h => h) (fun _ h => h.elim) ?aF ?aB ?aS ?aL ?_; (case aF => exact (fun _ _ => trivial)); (case aO => exact (by (with_reducible repeat (first | apply Kd.zt | apply Kd.zq | apply Kd.zy)); exact HV7.out)); (case aR => exact (by (with_reducible repeat (first | apply Kd.zS | apply Kd.zT | apply Kd.zah)); exact (Kd.zaL HC'.out (zw HB.out HB7.out)))); (case aB => exact (by repeat (first | (with_reducible first | exact HB7.out | apply zf | apply za | apply ze) | exact HB7.out))); (case aS => exact (zo (by repeat (first | (with_reducible first | exact HB7.out | apply zf | apply za | apply ze) | exact HB7.out)))); (case aL => have := HXL.out; simp only [List.length_nil]; omega); intro v8 w8 ho hb hg hat; have HV8 := zb.mk ho; have HT8 := zb.mk (Kd.zhD HT7.out rfl hg HN7.out); have HB8 := zb.mk hb; clear HV7 HT7 HB7; clear ho hb hg hat) | ((with_reducible refine zaH (b := .append) (xs := #[.tmp 32, .tmp 33]) rfl ?_); at_builtin; refine Kd.zbS (Kd.int .i64) (w0 := wr) wr.heap.size rfl (.tmp 32) (.tmp 33) 24 3 (.int .i64 0) 8 rfl Try.underlying24 info3 rfl (by decide) (by omega) _ ([] ++ x) (zdI l0.length j) _ _ _ (fun _ => True) (fun _ => False) rfl rfl ?aO ?aR (fun _ _ h => h) (fun _ h => h.elim) ?aF ?aB ?aS ?aL ?_; (case aF => exact (fun _ _ => trivial)); (case aO => exact (by (with_reducible repeat (first | apply Kd.zt | apply Kd.zq | apply Kd.zy)); exact HV8.out)); (case aR => exact (by have q := Kd.zO HT8.out; have q2 := q.2.2; rw [← q.1] at q2; exact q2)); (case aB => exact (by repeat (first | (with_reducible first | exact HB8.out | apply zf | apply za | apply ze) | exact HB8.out))); (case aS => exact (zo (by repeat (first | (with_reducible first | exact HB8.out | apply zf | apply za | apply ze) | exact HB8.out)))); (case aL => have := HXL.out; have := HN.out; simp only [List.nil_append, List.length_nil, List.length_append]; omega); intro v9 w9 ho hb hg hat; have HV9 := zb.mk (Kd.zaa ho (zo HB.out)); have HO9 := zb.mk (Kd.zaj HO.out hb); have HP9 := zb.mk (RowsP.below HP.out hb); have HB9 := zb.mk (zw HB.out hb); obtain ⟨A9, c9, e9⟩ := Kd.zae HV9.out; subst e9; have HY : zb ([] ++ x ++ zdI l0.length j = x ++ zdI l0.length j) := ⟨rfl⟩; rw [HY.out] at HV9 ⊢; generalize x ++ zdI l0.length j = y9 at HV9 HAn ⊢; clear HV8 HT8 HB8; clear ho hb hg hat) | ((with_reducible refine zaH (b := .append) (xs := #[.tmp 26, .tmp 35]) rfl ?_); at_builtin; refine Kd.zbM kV (w0 := w) w.heap.size rfl (.tmp 26) (.tmp 35) 106 24 (.slice none 0 0) 24 rfl Try.underlying106 zdf rfl (by decide) (by omega) (.slice A6 vs.length c6) vs (vcS A9 y9.length c9) [.slice A9 y9.length c9] (fun _ => True) (fun _ => False) rfl (by first | (go_simp; done) | (go_simp; rfl)) ?aP (fun _ hk => hk.elim) ?aF ?aO ?aB ?aS ?aL ?_; (case aP => exact rfl); (case aF => exact (fun _ _ => trivial)); (case aO => exact (by (with_reducible repeat (first | apply Kd.zt | apply Kd.zq | apply Kd.zy)); exact HO9.out)); (case aB => exact (by repeat (first | (with_reducible first | exact HB9.out | apply zf | apply za | apply ze) | exact HB9.out))); (case aS => exact (zo (by repeat (first | (with_reducible first | exact HB9.out | apply zf | apply za | apply ze) | exact HB9.out)))); (case aL => have := HLO.out; have := HN.out; have := HP.out.1; have := HJL.out; omega); intro v10 w10 ho hb hg hat; have HO10 := zb.mk ho; have HP10 := zb.mk (RowsP.snoc (u := (vcS A9 y9.length c9)) (RowsP.below HP9.out (by repeat (with_reducible first | exact Below.refl _ _ | apply zf | apply za | apply ze))) (zcl (by (with_reducible repeat (first | apply Kd.zt | apply Kd.zq | apply Kd.zy)); exact HV9.out)) (zcV HV9.out HO9.out) (Kd.zaw HV9.out) hg hat); have HB10 := zb.mk hb; clear ho hb hg hat))
      go_roundg (l0.length - (j + 1))
      case measure => have := HJ.out; have := HJL.out; omega
      case rel => exact ⟨out ++ [y9], vs ++ [vcS A9 y9.length c9], by rw [← HNX.out], ⟨by omega⟩, ⟨by have e : l0.length - (l0.length - (j + 1)) = j + 1 := by { have := HJL.out; omega }; rw [e]; exact HAn.out⟩, ⟨by have := HLO.out; have := HJL.out; simp only [List.length_append, List.length_cons, List.length_nil]; omega⟩, HO10, HP10, HB10⟩
end Go.Proofs.Ytmipjlbkcfpkiaa.K

end
