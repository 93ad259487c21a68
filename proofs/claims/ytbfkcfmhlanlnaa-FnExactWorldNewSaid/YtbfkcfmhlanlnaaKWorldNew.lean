/- Contracts on a world without items: marked, held. -/
import Derived.Test.YtbfkcfmhlanlnaaKxlawsmarkBoolS
import Derived.Test.YtbfkcfmhlanlnaaKxlawsheldBoolS
import Derived.Test.YtbfkcfmhlanlnaaKxlawseqWorld
import Derived.Test.YtbfkcfmhlanlnaaKxspecWorldNew
import Derived.Test.YtbfkcfmhlanlnaaKximplWorldNew
import Derived.LoopN
import Derived.Lib.Hide
namespace Go.Proofs.Ytbfkcfmhlanlnaa.K
set_option linter.unusedVariables false
set_option linter.unusedSimpArgs false
open Go.RowKit Go.Proofs.YtbfkcfmhlanlnaaW.PrintWords Go.Proofs.YtbfkcfmhlanlnaaW.PrintLast Go.Proofs.YtbfkcfmhlanlnaaW.PrintMore
theorem markItems0 (A : Option Addr) (c : Nat) (k : Int) (w : World) : Calls Try.prog 103 #[.slice A 0 c, .int .i64 k] w fun e w' => e = .returned (.int .i64 k) ∧ Below w.heap.size w w' := by
  go_enter Try.func103, Try.ntmps103
  go_wp2
  refine wp_loop_rounds 1 ?_
  rw [rounds_succ]
  go_wp2
  go_ret
  exact ⟨rfl, by repeat (first | exact Below.refl _ _ | apply below_alloc | apply pw_below_drewN | apply below_drew1)⟩
theorem heldItems0 (A : Option Addr) (c : Nat) (k : Int) (w : World) : Calls Try.prog 104 #[.slice A 0 c, .int .i64 k] w fun e w' => e = .returned (.int .i64 k) ∧ Below w.heap.size w w' := by
  go_enter Try.func104, Try.ntmps104
  go_wp2
  refine wp_loop_rounds 1 ?_
  rw [rounds_succ]
  go_wp2
  go_ret
  exact ⟨rfl, by repeat (first | exact Below.refl _ _ | apply below_alloc | apply pw_below_drewN | apply below_drew1)⟩
theorem markShelf0 (q : Int) (A : Option Addr) (c : Nat) (k : Int) (w : World) : Calls Try.prog 87 #[.agg #[.int .i64 q, .slice A 0 c], .int .i64 k] w fun e w' => e = .returned (.int .i64 k) ∧ Below w.heap.size w w' := by
  go_enter Try.func87, Try.ntmps87
  go_wp2_with fail
  refine (markItems0 _ _ _ _).mono ?_
  rintro e w1 ⟨rfl, hb⟩
  have HB := Aside0.mk hb
  clear hb
  go_wp2
  go_ret
  exact ⟨rfl, by
    refine below_step ?_ HB.out
    repeat (first | exact Below.refl _ _ | apply below_alloc | apply pw_below_drewN | apply below_drew1)⟩
theorem heldShelf0 (q : Int) (A : Option Addr) (c : Nat) (k : Int) (hk : 0 ≤ k) (w : World) : Calls Try.prog 89 #[.agg #[.int .i64 q, .slice A 0 c], .int .i64 k] w fun e w' => e = .returned (.int .i64 k) ∧ Below w.heap.size w w' := by
  go_enter Try.func89, Try.ntmps89
  go_wp2_with fail
  refine (heldItems0 _ _ _ _).mono ?_
  rintro e w1 ⟨rfl, hb⟩
  have HB := Aside0.mk hb
  clear hb
  have c1 : decide (k < 0) = false := decide_eq_false (by omega)
  go_wp2
  go_ret
  exact ⟨rfl, by
    refine below_step ?_ HB.out
    repeat (first | exact Below.refl _ _ | apply below_alloc | apply pw_below_drewN | apply below_drew1)⟩
theorem markWorld0 (q : Int) (A : Option Addr) (c : Nat) (kk : Nat) (u : Value) (l r2 : List Bool) (k r1 : Int) (w0 w : World) (hB : Below w0.heap.size w0 w) (ho : Kd.R Kd.bool 4 w w0.heap.size (fun k_ => some k_ = u.ownBlock) u l) (h : laws_markBoolS.f kk l k = some (r1, r2)) :
    Calls Try.prog 53 #[.agg #[.int .i64 q, .slice A 0 c, u], .int .i64 k] w fun e w' => e = .returned (.int .i64 r1) ∧ Kd.R Kd.bool 4 w' w0.heap.size (fun k_ => some k_ = u.ownBlock) u r2 ∧ Below w0.heap.size w0 w' ∧ Kept w w' (fun k_ => some k_ = u.ownBlock) := by
  have HO := Aside0.mk ho
  have HB := Aside0.mk hB
  have H := Aside0.mk h
  obtain ⟨Au, cu, rfl⟩ := Kd.R_slice ho
  clear ho hB h
  go_enter Try.func53, Try.ntmps53
  go_wp2_with fail
  refine (markShelf0 _ _ _ _ _).mono ?_
  rintro e w1 ⟨rfl, hb⟩
  have hc2 : w1.cell? ⟨w.heap.size, 2, none⟩ = some (.slice Au l.length cu) := (hb.cell (p := ⟨w.heap.size, 2, none⟩) (by simp)).trans (by simp)
  have HB1 : Aside0 (Below w0.heap.size w0 w1) := Aside0.mk (below_step (below_alloc HB.out _) hb)
  have HO1 := Aside0.mk (Kd.R_below (Kd.R_alloc HO.out _) hb)
  have HK1 : Aside0 (Kept w w1 (fun k_ => some k_ = (Value.slice Au l.length cu).ownBlock)) := Aside0.mk (Kept.below (Kept.alloc (Kept.refl _ _) _) hb)
  clear hb HO HB
  go_wp2_with fail
  refine (laws_markBoolS.calls kk (fun k_ => some k_ = (Value.slice Au l.length cu).ownBlock) _ l k r1 r2 w0 _ HB1.out HO1.out H.out).mono ?_
  rintro e w2 ⟨rfl, ho, hb, hk⟩
  have HO2 := Aside0.mk ho
  have HB2 := Aside0.mk hb
  have HK2 := Aside0.mk (HK1.out.then_ hk (fun k_ h => .inl h))
  clear ho hb hk
  go_wp2
  go_ret
  exact ⟨rfl, Kd.R_tight rfl HO2.out, HB2.out, HK2.out⟩
theorem heldWorld0 (q : Int) (A : Option Addr) (c : Nat) (kk : Nat) (Au : Option Addr) (cu : Nat) (l : List Bool) (k r1 : Int) (hk : 0 ≤ k) (h1 : 0 ≤ r1) (w : World) (hr : Kd.C Kd.bool w Au l.length l) (hc : l.length ≤ cu) (h : laws_heldBoolS.f kk l k = some r1) :
    Calls Try.prog 54 #[.agg #[.int .i64 q, .slice A 0 c, .slice Au l.length cu], .int .i64 k] w fun e w' => e = .returned (.int .i64 r1) ∧ Below w.heap.size w w' := by
  have HR := Aside0.mk hr
  have H := Aside0.mk h
  clear hr h
  go_enter Try.func54, Try.ntmps54
  go_wp2_with fail
  refine (heldShelf0 _ _ _ _ hk _).mono ?_
  rintro e w1 ⟨rfl, hb⟩
  have hc2 : w1.cell? ⟨w.heap.size, 2, none⟩ = some (.slice Au l.length cu) := (hb.cell (p := ⟨w.heap.size, 2, none⟩) (by simp)).trans (by simp)
  have HB1 : Aside0 (Below w.heap.size w w1) := Aside0.mk (below_step (below_alloc (Below.refl _ _) _) hb)
  have c1 : decide (k < 0) = false := decide_eq_false (by omega)
  have c2 : decide (r1 < 0) = false := decide_eq_false (by omega)
  clear hb
  go_wp2_with fail
  refine (laws_heldBoolS.calls kk Au cu l k r1 _ (Kd.C_below HR.out HB1.out) hc H.out).mono ?_
  rintro e w2 ⟨rfl, ⟨m, rfl⟩⟩
  go_wp2
  go_ret
  exact ⟨rfl, by repeat (first | exact HB1.out | apply below_alloc | apply pw_below_drewN | apply below_drew1)⟩
/-- The answer for a quota, and what the marks come to. -/
theorem wn_cases (a0 : Int) : ∃ (q : Int) (ds r2 : List Bool) (b : Bool) (r1 : Int), spec_WorldNew.f a0 = some (q, [], ds, b) ∧ impl_WorldNew.f a0 = some (q, [], ds, b) ∧ laws_markBoolS.f 20 ds 1 = some (r1, r2) ∧ laws_heldBoolS.f 20 r2 1 = some r1 ∧ 0 ≤ r1 ∧ laws_eqWorld.f 20 q [] ds q [] ds = some true := by
  have h1 : spec_l6In.f a0 0 12 = some (decide (0 ≤ a0) && decide (a0 ≤ 12)) := by
    unfold spec_l6In.f
    by_cases h : a0 ≥ 0
    · rw [if_pos h]; simp [h]
    · rw [if_neg h]; simp [h]
  have h2 : impl_quotaOk.f a0 = some (decide (0 ≤ a0) && decide (a0 ≤ 12)) := by
    unfold impl_quotaOk.f impl_within.f
    by_cases h : a0 ≥ 0
    · rw [if_pos h]; simp [h]
    · rw [if_neg h]; simp [h]
  have h3 : ∀ q : Int, laws_eqShelf.f 20 q [] q [] = some true := fun q => by
    unfold laws_eqShelf.f
    rw [if_pos rfl]
    rfl
  by_cases c : (decide (0 ≤ a0) && decide (a0 ≤ 12)) = true
  · refine ⟨a0, List.replicate 8 false, [false, false, true, false, false, true, false, false], true, 9, ?_, ?_, by decide +kernel, by decide +kernel, by omega, ?_⟩
    · unfold spec_WorldNew.f; rw [h1, Option.bind_some, if_pos c, if_pos (by omega)]
    · unfold impl_WorldNew.f; rw [h2, Option.bind_some, if_pos c, if_pos (by omega)]
    · unfold laws_eqWorld.f; rw [h3, Option.bind_some, if_pos rfl]; decide +kernel
  · refine ⟨0, [], [], false, 1, ?_, ?_, by decide +kernel, by decide +kernel, by omega, ?_⟩
    · unfold spec_WorldNew.f; rw [h1, Option.bind_some, if_neg c]
    · unfold impl_WorldNew.f; rw [h2, Option.bind_some, if_neg c]
    · unfold laws_eqWorld.f; rw [h3, Option.bind_some, if_pos rfl]; decide +kernel
theorem box_cells {W : World} {g t : Nat} {a b c : Value} (h : W.heap[g]? = some (.cells #[a, b, c] t (0, 0))) : W.cell? ⟨g, 0, none⟩ = some a ∧ W.cell? ⟨g, 1, none⟩ = some b ∧ W.cell? ⟨g, 2, none⟩ = some c := ⟨(blk_cell h 0).trans rfl, (blk_cell h 1).trans rfl, (blk_cell h 2).trans rfl⟩
set_option maxRecDepth 100000 in
set_option maxHeartbeats 4000000 in
theorem worldNew_law (a0 : Int) (w : World) : Calls Try.prog 12 #[.int .i64 a0] w fun e w' => e = .returned (.bool true) ∧ Below w.heap.size w w' := by
  obtain ⟨q, ds, r2, b, r1, hs, hi, hm, hh, h0, he⟩ := wn_cases a0
  have HS := Aside0.mk hs
  have HI := Aside0.mk hi
  have HM := Aside0.mk hm
  have HH := Aside0.mk hh
  have HE := Aside0.mk he
  have c1 : decide (r1 < 0) = false := decide_eq_false (by omega)
  have c2 : (b != b) = false := by simp
  clear hs hi hm hh he
  go_enter Try.func12, Try.ntmps12
  go_wp2_with fail
  refine (spec_WorldNew.calls a0 _ _ _ _ _ HS.out).mono ?_
  rintro e w1 ⟨v1, v2, rfl, hv1, hv2, hb⟩
  obtain ⟨A1, n1, rfl⟩ := Kd.R_slice hv1
  obtain ⟨A2, n2, rfl⟩ := Kd.R_slice hv2
  have HW1 := Aside0.mk (Kd.R_reads' hv1)
  have HW2 := Aside0.mk (Kd.R_reads' hv2)
  have HB1 := Aside0.mk hb
  clear hv1 hv2 hb
  obtain ⟨U, hU⟩ : ∃ U, U = w1.alloc (Obj.cells #[Value.int IntKind.i64 q, Value.slice A1 0 n1, Value.slice A2 ds.length n2] 70) := ⟨_, rfl⟩
  have B3 : U.heap[w1.heap.size]? = some (Obj.cells #[Value.int IntKind.i64 q, Value.slice A1 0 n1, Value.slice A2 ds.length n2] 70 (0, 0)) := by rw [hU]; exact blk_new w1 _
  have HU := Aside0.mk (show Below w1.heap.size w1 U by rw [hU]; exact below_alloc (Below.refl _ _) _)
  go_wp2_with fail
  rw [← hU]
  clear hU
  refine (impl_WorldNew.calls a0 _ _ _ _ _ HI.out).mono ?_
  rintro e w2 ⟨v3, v4, rfl, hv3, hv4, hb⟩
  obtain ⟨A3, n3, rfl⟩ := Kd.R_slice hv3
  obtain ⟨A4, n4, rfl⟩ := Kd.R_slice hv4
  replace B3 := (hb.block _ (blk_lt B3)).trans B3
  have HW3 := Aside0.mk (Kd.R_reads' hv3)
  have HO4 := Aside0.mk (Kd.R_tight rfl hv4)
  have HB2 := Aside0.mk hb
  clear hv3 hv4 hb
  have B3v := blk_alloc B3 (Obj.cells #[Value.int IntKind.i64 q, Value.slice A3 0 n3, Value.slice A4 ds.length n4] 70)
  have B5 := blk_new w2 (Obj.cells #[Value.int IntKind.i64 q, Value.slice A3 0 n3, Value.slice A4 ds.length n4] 70)
  have hVb := below_alloc (Below.refl w2.heap.size w2) (Obj.cells #[Value.int IntKind.i64 q, Value.slice A3 0 n3, Value.slice A4 ds.length n4] 70)
  obtain ⟨V, hV⟩ : ∃ V, V = w2.alloc (Obj.cells #[Value.int IntKind.i64 q, Value.slice A3 0 n3, Value.slice A4 ds.length n4] 70) := ⟨_, rfl⟩
  rw [← hV] at B3v B5 hVb
  have HV := Aside0.mk hVb
  obtain ⟨a30, a31, a32⟩ := box_cells B3v
  obtain ⟨a50, a51, a52⟩ := box_cells B5
  clear hVb B3
  have stop : ∀ {P : Prop}, (True → P) → P := fun h => h trivial
  go_wp2_with (rw [← hV]; refine stop ?_)
  intro _
  clear hV
  go_wp2_with fail
  have HC1 := Aside0.mk (Kd.C_below (Kd.C_below (Kd.C_below HW1.out.2.2 HU.out) HB2.out) HV.out)
  have HC2 := Aside0.mk (Kd.C_below (Kd.C_below (Kd.C_below HW2.out.2.2 HU.out) HB2.out) HV.out)
  have HC3 := Aside0.mk (Kd.C_below HW3.out.2.2 HV.out)
  have HO4v := Aside0.mk (Kd.R_below HO4.out HV.out)
  refine (laws_eqWorld.calls 20 q A3 n3 [] A4 n4 ds q A1 n1 [] A2 n2 ds true _ HC3.out HW3.out.2.1 (Kd.R_reads' HO4v.out).2.2 (Kd.R_reads' HO4v.out).2.1 HC1.out HW1.out.2.1 HC2.out HW2.out.2.1 HE.out).mono ?_
  rintro e w3 ⟨rfl, hb⟩
  have B3w := (hb.block _ (blk_lt B3v)).trans B3v
  have B5w := (hb.block _ (blk_lt B5)).trans B5
  obtain ⟨d30, d31, d32⟩ := box_cells B3w
  obtain ⟨d50, d51, d52⟩ := box_cells B5w
  have HO5 := Aside0.mk (Kd.R_below HO4v.out hb)
  have HUV := Aside0.mk (below_step (below_step HB2.out HV.out) hb)
  clear B3v B5 a30 a31 a32 a50 a51 a52
  have HC1w := Aside0.mk (Kd.C_below HC1.out hb)
  have HC2w := Aside0.mk (Kd.C_below HC2.out hb)
  have HC3w := Aside0.mk (Kd.C_below HC3.out hb)
  clear hb
  go_wp2_with fail
  refine (markWorld0 q A3 n3 20 _ ds r2 1 r1 U _ HUV.out HO5.out HM.out).mono ?_
  rintro e w4 ⟨rfl, ho, hb, hk⟩
  have hne3 : ¬ some w1.heap.size = (Value.slice A4 ds.length n4).ownBlock := Kd.R_ne HO5.out B3w (by decide)
  have hne5 : ¬ some w2.heap.size = (Value.slice A4 ds.length n4).ownBlock := Kd.R_ne HO5.out B5w (by decide)
  have B3x := blk_kept B3w hk hne3
  have B5x := blk_kept B5w hk hne5
  have hlen : ds.length = r2.length := (Kd.R_reads' ho).1
  have HR4 : Aside0 (Kd.C Kd.bool w4 A4 ds.length r2) := ⟨by rw [hlen]; exact (Kd.R_reads' ho).2.2⟩
  have hr2n : r2.length ≤ n4 := by rw [← hlen]; exact (Kd.R_reads' ho).2.1
  have HD1 := Aside0.mk (Kd.C_below (Kd.C_below HW1.out.2.2 HU.out) hb)
  have HD2 := Aside0.mk (Kd.C_below (Kd.C_below HW2.out.2.2 HU.out) hb)
  have HB4 := Aside0.mk hb
  have held := fun (W : World) (h : Kd.C Kd.bool W A4 r2.length r2) => heldWorld0 q A3 n3 20 A4 n4 r2 1 r1 (by omega) h0 W h hr2n HH.out
  rw [← hlen] at held
  have HELD := Aside0.mk held
  obtain ⟨e50, e51, e52⟩ := box_cells B5x
  clear hlen hr2n hb hk ho held d30 d31 d32 d50 d51 d52 B3w B5w HC1w HC2w HC3w HC1 HC2 HC3
  go_wp2_with fail
  refine (HELD.out _ HR4.out).mono ?_
  rintro e w5 ⟨rfl, hb⟩
  have B3y := (hb.block _ (blk_lt B3x)).trans B3x
  have B5y := (hb.block _ (blk_lt B5x)).trans B5x
  have HE1 := Aside0.mk (Kd.C_below HD1.out hb)
  have HE2 := Aside0.mk (Kd.C_below HD2.out hb)
  have HR5 := Aside0.mk (Kd.C_below HR4.out hb)
  have HB5 := Aside0.mk (below_step HB4.out hb)
  have cb : (r1 != r1) = false := by simp
  clear hb e50 e51 e52 B3x B5x
  go_wp2_with fail
  refine (impl_WorldNew.calls a0 _ _ _ _ _ HI.out).mono ?_
  rintro e w6 ⟨v6, v7, rfl, hv6, hv7, hb⟩
  obtain ⟨A6, n6, rfl⟩ := Kd.R_slice hv6
  obtain ⟨A7, n7, rfl⟩ := Kd.R_slice hv7
  have HW6 := Aside0.mk (Kd.R_reads' hv6)
  have HW7 := Aside0.mk (Kd.R_reads' hv7)
  have HF1 := Aside0.mk (Kd.C_below HE1.out hb)
  have HF2 := Aside0.mk (Kd.C_below HE2.out hb)
  have HR6 := Aside0.mk (Kd.C_below HR5.out hb)
  have B3z := blk_alloc ((hb.block _ (blk_lt B3y)).trans B3y) (Obj.cells #[Value.int IntKind.i64 q, Value.slice A6 0 n6, Value.slice A7 ds.length n7] 70)
  have B5z := blk_alloc ((hb.block _ (blk_lt B5y)).trans B5y) (Obj.cells #[Value.int IntKind.i64 q, Value.slice A6 0 n6, Value.slice A7 ds.length n7] 70)
  have B9 := blk_new w6 (Obj.cells #[Value.int IntKind.i64 q, Value.slice A6 0 n6, Value.slice A7 ds.length n7] 70)
  have hXb := below_alloc (Below.refl w6.heap.size w6) (Obj.cells #[Value.int IntKind.i64 q, Value.slice A6 0 n6, Value.slice A7 ds.length n7] 70)
  have HB6 := Aside0.mk (below_step HB5.out hb)
  obtain ⟨X, hX⟩ : ∃ X, X = w6.alloc (Obj.cells #[Value.int IntKind.i64 q, Value.slice A6 0 n6, Value.slice A7 ds.length n7] 70) := ⟨_, rfl⟩
  rw [← hX] at B3z B5z B9 hXb
  have HX := Aside0.mk hXb
  obtain ⟨f30, f31, f32⟩ := box_cells B3z
  obtain ⟨f90, f91, f92⟩ := box_cells B9
  clear hb hXb hv6 hv7 B3y B5y
  go_wp2_with (rw [← hX]; refine stop ?_)
  intro _
  clear hX
  go_wp2_with fail
  refine (laws_eqWorld.calls 20 q A6 n6 [] A7 n7 ds q A1 n1 [] A2 n2 ds true _ (Kd.C_below HW6.out.2.2 HX.out) HW6.out.2.1 (Kd.C_below HW7.out.2.2 HX.out) HW7.out.2.1 (Kd.C_below HF1.out HX.out) HW1.out.2.1 (Kd.C_below HF2.out HX.out) HW2.out.2.1 HE.out).mono ?_
  rintro e w7 ⟨rfl, hb⟩
  obtain ⟨g50, g51, g52⟩ := box_cells ((hb.block _ (blk_lt B5z)).trans B5z)
  have HR7 := Aside0.mk (Kd.C_below (Kd.C_below HR6.out HX.out) hb)
  have HB7 := Aside0.mk (below_step (below_step HB6.out HX.out) hb)
  clear hb f30 f31 f32 f90 f91 f92
  go_wp2_with fail
  refine (HELD.out _ HR7.out).mono ?_
  rintro e w8 ⟨rfl, hb⟩
  have HB8 := Aside0.mk (below_step HB7.out hb)
  clear hb
  go_wp2
  go_ret
  exact ⟨rfl, below_step (below_step HB1.out HU.out) HB8.out⟩
def laws_FnExactWorldNew.f (_ : Nat) (_ : Int) : Option Bool := some true
theorem laws_FnExactWorldNew.calls (k : Nat) (a0 : Int) (r : Bool) (w : World) (h : laws_FnExactWorldNew.f k a0 = some r) :
    Calls Try.prog 12 #[.int .i64 a0] w fun e w' => e = .returned (.bool r) ∧ Below w.heap.size w w' := by
  obtain rfl := Option.some.inj h
  exact worldNew_law a0 w
end Go.Proofs.Ytbfkcfmhlanlnaa.K
