/- Of a drawn value, version and shard another version near by, and another shard, have another sum; no condition. -/
import Derived.Test.YtidjdbpbdfiaeaaPFnRotTurnx2
namespace Go.Proofs.Ytidjdbpbdfiaeaa.Pure
open Go.RowKit Go.Proofs.Ytidjdbpbdfiaeaa.PFnRotTurn Go.Proofs.YtidjdbpbdfiaeaaW.PrintWords Go.Proofs.YtidjdbpbdfiaeaaW.PrintLast

theorem ev_posR {α : Type} {c : Prop} [Decidable c] {f g : Nat → Option α} {r : α} (h : c) (k : Ev f r) : Ev (fun n => if c then f n else g n) r := Ev.congr (fun _ => if_pos h) k
theorem ev_negR {α : Type} {c : Prop} [Decidable c] {f g : Nat → Option α} {r : α} (h : ¬ c) (k : Ev g r) : Ev (fun n => if c then f n else g n) r := Ev.congr (fun _ => if_neg h) k
theorem w64R {x : Int} (h1 : -9223372036854775808 ≤ x) (h2 : x < 9223372036854775808) : wrap64 x = x := by
  unfold wrap64; omega

theorem xor_nnR (a b : Int) (h1 : 0 ≤ a) (h2 : a < 9223372036854775808) (h3 : 0 ≤ b) (h4 : b < 9223372036854775808) : 0 ≤ Go.bits .xor .i64 a b := by
  obtain ⟨a, rfl⟩ := Int.eq_ofNat_of_zero_le h1
  obtain ⟨b, rfl⟩ := Int.eq_ofNat_of_zero_le h3
  have hx : a ^^^ b < 2 ^ 63 := Nat.xor_lt_two_pow (by omega) (by omega)
  have e1 : (BitVec.ofInt 64 (a : Int)).toNat = a := by
    rw [BitVec.ofInt_natCast, BitVec.toNat_ofNat]; exact Nat.mod_eq_of_lt (by omega)
  have e2 : (BitVec.ofInt 64 (b : Int)).toNat = b := by
    rw [BitVec.ofInt_natCast, BitVec.toNat_ofNat]; exact Nat.mod_eq_of_lt (by omega)
  show 0 ≤ IntKind.i64.wrap ((BitVec.ofInt 64 (a : Int) ^^^ BitVec.ofInt 64 (b : Int)).toNat : Int)
  rw [BitVec.toNat_xor, e1, e2]
  simp [IntKind.wrap, IntKind.bits, IntKind.signed]
  omega
theorem rd_byteR (l : List Int) (hb : ∀ x ∈ l, 0 ≤ x ∧ x ≤ 255) (i : Int) : 0 ≤ rd l i ∧ rd l i ≤ 255 := by
  unfold rd
  by_cases h : i.toNat < l.length
  · rw [show l.getD i.toNat 0 = l[i.toNat] by simp [h]]; exact hb _ (List.getElem_mem h)
  · rw [show l.getD i.toNat 0 = 0 by simp [show l.length ≤ i.toNat by omega]]; omega
theorem tmod_inR {a b : Int} (h : 0 ≤ a) (hb : 0 < b) : 0 ≤ Int.tmod a b ∧ Int.tmod a b < b :=
  ⟨Int.tmod_nonneg _ h, Int.tmod_lt_of_pos _ hb⟩
theorem pick_someR (l : List Int) (hl : l.length ≤ 2000) (hb : ∀ x ∈ l, 0 ≤ x ∧ x ≤ 255) (p n : Int) (hp : 0 ≤ p) (hp2 : p ≤ 1000000000) (hn : 1 ≤ n) (hn2 : n ≤ 1000000) (k : Nat) (hk : 1 ≤ k) :
    ∃ v, spec_l6Rd_pick.f k l p n = some (v, p + 1) ∧ 0 ≤ v ∧ v < n := by
  obtain ⟨k, rfl⟩ : ∃ m, k = m + 1 := ⟨k - 1, by omega⟩
  have ep : wrap64 (p + 1) = p + 1 := w64R (by omega) (by omega)
  have eq : wrap64 (p + 1 - 1) = p := by rw [show p + 1 - 1 = p by omega]; exact w64R (by omega) (by omega)
  unfold spec_l6Rd_pick.f
  rw [if_neg (by omega), ep]
  simp only [spec_l6Rd_pick.j0, eq]
  by_cases hz : l.length = 0
  · exact ⟨0, by simp [hz], by omega, by omega⟩
  · have hz' : ((l.length : Int) == 0) = false := by rw [beq_eq_false_iff_ne]; omega
    rw [hz', if_neg (by simp)]
    by_cases hlt : p < (l.length : Int)
    · rw [if_pos hlt, if_pos hp, if_neg (by omega)]
      have hr := rd_byteR l hb p
      rw [w64R (x := rd l p) (by omega) (by omega)]
      have ht := tmod_inR (a := rd l p) (b := n) (by omega) (by omega)
      exact ⟨_, rfl, ht.1, ht.2⟩
    · have e7 : wrap64 (p * 7) = p * 7 := w64R (by omega) (by omega)
      have e73 : wrap64 (p * 7 + 3) = p * 7 + 3 := w64R (by omega) (by omega)
      have t1 := tmod_inR (a := p) (b := (l.length : Int)) hp (by omega)
      have t2 := tmod_inR (a := p * 7 + 3) (b := (l.length : Int)) (by omega) (by omega)
      rw [if_neg hlt, if_neg (by omega), if_pos t1.1, if_pos t1.2, e7, e73, if_pos t2.1, if_pos t2.2, if_neg (by omega)]
      have r1 := rd_byteR l hb (Int.tmod p l.length)
      have r2 := rd_byteR l hb (Int.tmod (p * 7 + 3) l.length)
      have q1 : 0 ≤ Int.tdiv p l.length := Int.tdiv_nonneg hp (by omega)
      have q2 : Int.tdiv p l.length ≤ p := by
        rw [Int.tdiv_eq_ediv_of_nonneg hp]
        exact Int.ediv_le_self _ hp
      generalize rd l (Int.tmod p l.length) = a at *
      generalize rd l (Int.tmod (p * 7 + 3) l.length) = b at *
      generalize Int.tdiv p l.length = q at *
      have hX : wrap64 ((wrap64 ((wrap64 ((wrap64 ((wrap64 a) * 131)) + (wrap64 ((wrap64 b) * 1117)))) + (wrap64 (p * 29)))) + (wrap64 ((wrap64 q) * 53))) = a * 131 + b * 1117 + p * 29 + q * 53 := by
        rw [w64R (x := a) (by omega) (by omega), w64R (x := b) (by omega) (by omega), w64R (x := q) (by omega) (by omega)]
        rw [w64R (x := a * 131) (by omega) (by omega), w64R (x := b * 1117) (by omega) (by omega), w64R (x := p * 29) (by omega) (by omega), w64R (x := q * 53) (by omega) (by omega)]
        rw [w64R (x := a * 131 + b * 1117) (by omega) (by omega), w64R (x := a * 131 + b * 1117 + p * 29) (by omega) (by omega)]
        exact w64R (by omega) (by omega)
      rw [hX]
      have hX0 : 0 ≤ a * 131 + b * 1117 + p * 29 + q * 53 := by omega
      have hX1 : a * 131 + b * 1117 + p * 29 + q * 53 ≤ 100000000000 := by omega
      generalize a * 131 + b * 1117 + p * 29 + q * 53 = X at *
      have d0 : 0 ≤ Int.tdiv X 64 := Int.tdiv_nonneg hX0 (by omega)
      have d1 : Int.tdiv X 64 ≤ X := by
        rw [Int.tdiv_eq_ediv_of_nonneg hX0]
        exact Int.ediv_le_self _ hX0
      rw [w64R (x := Int.tdiv X 64) (by omega) (by omega)]
      have hx := xor_nnR X (Int.tdiv X 64) hX0 (by omega) d0 (by omega)
      have ht := tmod_inR (a := Go.bits .xor .i64 X (Int.tdiv X 64)) (b := n) hx (by omega)
      exact ⟨_, rfl, ht.1, ht.2⟩
theorem open_someR (l : List Int) (hb : ∀ x ∈ l, (Lit.int .u8 x).wf = true) : ∃ l', spec_l6Open.f l = some (l', 0) ∧ l'.length ≤ 2000 ∧ ∀ x ∈ l', 0 ≤ x ∧ x ≤ 255 := by
  have hb' : ∀ x ∈ l, 0 ≤ x ∧ x ≤ 255 := fun x hx => by
    have := hb x hx
    simp [Lit.wf, IntKind.min, IntKind.max, IntKind.signed, IntKind.bits] at this
    omega
  unfold spec_l6Open.f
  by_cases h : (l.length : Int) > 2000
  · rw [if_pos h, if_pos (by omega)]
    exact ⟨_, rfl, by rw [List.length_take]; omega, fun x hx => hb' x (List.mem_of_mem_take hx)⟩
  · rw [if_neg h]
    exact ⟨_, rfl, by omega, hb'⟩
theorem rd_inR {l : List Int} {P : Int → Prop} (h : ∀ x ∈ l, P x) {i : Int} (h0 : 0 ≤ i) (h1 : i < (l.length : Int)) : P (rd l i) := by
  unfold rd
  have hi : i.toNat < l.length := by omega
  rw [show l.getD i.toNat 0 = l[i.toNat] by simp [hi]]; exact h _ (List.getElem_mem _)

theorem num_someR (l : List Int) (hl : l.length ≤ 2000) (hb : ∀ x ∈ l, 0 ≤ x ∧ x ≤ 255) (p : Int) (hp : 0 ≤ p) (hp2 : p ≤ 900000000) (k : Nat) (hk : 1 ≤ k) :
    ∃ v q, spec_l91Num.f k l p = some (v, q) ∧ p ≤ q ∧ q ≤ p + 3 ∧ -1 ≤ v ∧ v ≤ 31 := by
  unfold spec_l91Num.f
  obtain ⟨v1, e1, a1, b1⟩ := pick_someR l hl hb p 10 hp (by omega) (by omega) (by omega) k hk
  rw [e1]; simp only [Option.bind_some]
  by_cases c0 : v1 = 0
  · rw [if_pos c0]; exact ⟨_, _, rfl, by omega, by omega, by omega, by omega⟩
  rw [if_neg c0]
  by_cases c1 : v1 = 1
  · rw [if_pos c1]
    obtain ⟨v2, e2, a2, b2⟩ := pick_someR l hl hb (p + 1) 2 (by omega) (by omega) (by omega) (by omega) k hk
    rw [e2]; simp only [Option.bind_some]
    rw [if_pos a2, if_pos (by simpa using b2)]
    have := rd_inR (l := [1, 30]) (P := fun x => -1 ≤ x ∧ x ≤ 31) (by simp) a2 (by simpa using b2)
    exact ⟨_, _, rfl, by omega, by omega, this.1, this.2⟩
  rw [if_neg c1]
  by_cases c2 : v1 = 2
  · rw [if_pos c2]
    obtain ⟨v2, e2, a2, b2⟩ := pick_someR l hl hb (p + 1) 5 (by omega) (by omega) (by omega) (by omega) k hk
    rw [e2]; simp only [Option.bind_some]
    by_cases c3 : v2 = 0
    · rw [if_pos c3]
      obtain ⟨v3, e3, a3, b3⟩ := pick_someR l hl hb (p + 1 + 1) 2 (by omega) (by omega) (by omega) (by omega) k hk
      rw [e3]; simp only [Option.bind_some]
      rw [if_pos a3, if_pos (by simpa using b3)]
      have := rd_inR (l := [-1, 31]) (P := fun x => -1 ≤ x ∧ x ≤ 31) (by simp) a3 (by simpa using b3)
      exact ⟨_, _, rfl, by omega, by omega, this.1, this.2⟩
    · rw [if_neg c3]
      obtain ⟨v3, e3, a3, b3⟩ := pick_someR l hl hb (p + 1 + 1) 31 (by omega) (by omega) (by omega) (by omega) k hk
      rw [e3]; simp only [Option.bind_some]
      exact ⟨_, _, rfl, by omega, by omega, by omega, by omega⟩
  · rw [if_neg c2]
    obtain ⟨v3, e3, a3, b3⟩ := pick_someR l hl hb (p + 1) 31 (by omega) (by omega) (by omega) (by omega) k hk
    rw [e3]; simp only [Option.bind_some]
    exact ⟨_, _, rfl, by omega, by omega, by omega, by omega⟩
theorem drawRot_someR (l : List Int) (hb : ∀ x ∈ l, (Lit.int .u8 x).wf = true) : ∃ v t a, (∀ k, spec_DrawRotSum.f (k + 1) l = some (v, t, a)) ∧ -1 ≤ v ∧ v ≤ 31 ∧ 0 ≤ t ∧ t ≤ 100 ∧ 0 ≤ a ∧ a ≤ 8 := by
  obtain ⟨l', eo, hl, hb'⟩ := open_someR l hb
  obtain ⟨v, q, e1, q1, q2, v1, v2⟩ := num_someR l' hl hb' 0 (by omega) (by omega) 1 (by omega)
  obtain ⟨t, e2, t1, t2⟩ := pick_someR l' hl hb' q 101 (by omega) (by omega) (by omega) (by omega) 1 (by omega)
  obtain ⟨a, e3, a1, a2⟩ := pick_someR l' hl hb' (q + 1) 9 (by omega) (by omega) (by omega) (by omega) 1 (by omega)
  have e : spec_DrawRotSum.f 1 l = some (v, t, a) := by
    unfold spec_DrawRotSum.f
    rw [eo]; simp only [Option.bind_some]
    rw [e1]; simp only [Option.bind_some]
    rw [e2]; simp only [Option.bind_some]
    rw [e3]; rfl
  exact ⟨v, t, a, fun k => at_rounds (g := fun k => spec_DrawRotSum.f k l) (fun k => spec_DrawRotSum.mono _ k) (by omega) e, v1, v2, t1, by omega, a1, by omega⟩
def rsR (v t a : Int) : Int := if 0 ≤ v ∧ v ≤ 30 ∧ 1 ≤ t ∧ t ≤ 99 ∧ 0 ≤ a ∧ a ≤ 7 then (3 * v + 5 * t + 7 * a) % 89 + 1 else 0
theorem rsum_eqR (v t a : Int) : (if 0 ≤ v ∧ v ≤ 30 ∧ 1 ≤ t ∧ t ≤ 99 ∧ 0 ≤ a ∧ a ≤ 7 then wrap64 ((Int.tmod (wrap64 ((wrap64 ((wrap64 (3 * v)) + (wrap64 (5 * t)))) + (wrap64 (7 * a)))) 89) + 1) else 0) = rsR v t a := by
  unfold rsR
  by_cases h : 0 ≤ v ∧ v ≤ 30 ∧ 1 ≤ t ∧ t ≤ 99 ∧ 0 ≤ a ∧ a ≤ 7
  · rw [if_pos h, if_pos h]
    obtain ⟨h1, h2, h3, h4, h5, h6⟩ := h
    rw [w64R (x := 3 * v) (by omega) (by omega), w64R (x := 5 * t) (by omega) (by omega), w64R (x := 7 * a) (by omega) (by omega), w64R (x := 3 * v + 5 * t) (by omega) (by omega), w64R (x := 3 * v + 5 * t + 7 * a) (by omega) (by omega), Int.tmod_eq_emod_of_nonneg (by omega)]
    exact w64R (by omega) (by omega)
  · rw [if_neg h, if_neg h]
theorem specSumR (v t a : Int) : spec_RotSum.f v t a = some (rsR v t a) := by
  rw [← rsum_eqR]
  unfold spec_RotSum.f spec_FieldOk.f spec_l6In.f spec_l41Sum.f
  by_cases h1 : 0 ≤ v <;> by_cases h2 : v ≤ 30 <;> by_cases h3 : 1 ≤ t <;> by_cases h4 : t ≤ 99 <;> by_cases h5 : 0 ≤ a <;> by_cases h6 : a ≤ 7 <;> simp [h1, h2, h3, h4, h5, h6]
theorem implSumR (v t a : Int) : impl_RotSum.f v t a = some (rsR v t a) := by
  rw [← rsum_eqR]
  unfold impl_RotSum.f impl_FieldOk.f impl_versOk.f impl_shardOk.f impl_within.f
  by_cases h1 : 0 ≤ v <;> by_cases h2 : v ≤ 30 <;> by_cases h3 : 1 ≤ t <;> by_cases h4 : t ≤ 99 <;> by_cases h5 : 0 ≤ a <;> by_cases h6 : a ≤ 7 <;> simp [h1, h2, h3, h4, h5, h6]

theorem FnRotTurn : laws_FnRotTurn.Pure := by
  intro l0 l1 _ _ hb0 _ hs1 _
  refine ⟨3, ?_⟩
  unfold laws_FnRotTurn.f
  have j0t : laws_FnRotTurn.j0 3 l0 l1 true = some true := by simp [laws_FnRotTurn.j0]
  by_cases g0 : (l0.length : Int) > 1048576
  · rw [if_pos g0]; exact j0t
  rw [if_neg g0]
  by_cases g1 : (l1.length : Int) > 1048576
  · rw [decide_eq_true g1]; exact j0t
  rw [decide_eq_false g1]
  obtain ⟨v, t, a, ed, _⟩ := drawRot_someR l0 hb0
  simp only [laws_FnRotTurn.j0]
  rw [if_neg (by simp), ed 1]; simp only [Option.bind_some]
  rw [implSumR, specSumR]; simp only [Option.bind_some, if_true]
  simp only [laws_FnRotTurn.j1]
  by_cases hz : rsR v t a = 0
  · rw [hz, specSumR, hz]; simp
  · have hz' : (rsR v t a == 0) = false := by simpa using hz
    rw [hz', if_neg (by simp)]
    unfold rsR at hz
    by_cases hv : 0 ≤ v ∧ v ≤ 30 ∧ 1 ≤ t ∧ t ≤ 99 ∧ 0 ≤ a ∧ a ≤ 7
    · obtain ⟨hv1, hv2, hv3, hv4, hv5, hv6⟩ := hv
      have hlen : (l1.length : Int) ≤ 1048576 := by omega
      have e1 : wrap64 (t + 1) = t + 1 := w64R (by omega) (by omega)
      have e2 : wrap64 (t + 1 + (l1.length : Int) % 15) = t + 1 + (l1.length : Int) % 15 := w64R (by omega) (by omega)
      have e3 : wrap64 (a + 1) = a + 1 := w64R (by omega) (by omega)
      have e4 : wrap64 (a + 1 + (l1.length : Int) % 7) = a + 1 + (l1.length : Int) % 7 := w64R (by omega) (by omega)
      have e5 : Int.tmod (a + 1 + (l1.length : Int) % 7) 8 = (a + 1 + (l1.length : Int) % 7) % 8 := Int.tmod_eq_emod_of_nonneg (by omega)
      rw [e1, e2, e3, e4, e5]
      have na : (rsR v t ((a + 1 + (l1.length : Int) % 7) % 8) != rsR v t a) = true := by
        rw [bne_iff_ne]
        have f1 : (a + 1 + (l1.length : Int) % 7) % 8 ≠ a := by omega
        have f2 : 0 ≤ (a + 1 + (l1.length : Int) % 7) % 8 := by omega
        have f3 : (a + 1 + (l1.length : Int) % 7) % 8 ≤ 7 := by omega
        clear e1 e2 e3 e4 e5
        generalize (a + 1 + (l1.length : Int) % 7) % 8 = y at *
        unfold rsR
        rw [if_pos ⟨hv1, hv2, hv3, hv4, f2, f3⟩, if_pos ⟨hv1, hv2, hv3, hv4, hv5, hv6⟩]
        omega
      by_cases ht : t + 1 + (l1.length : Int) % 15 > 99
      · rw [if_pos ht, implSumR]; simp only [Option.bind_some]; rw [na]
      · have nt : rsR v (t + 1 + (l1.length : Int) % 15) a ≠ rsR v t a := by
          unfold rsR
          rw [if_pos (by omega), if_pos (by omega)]
          omega
        rw [if_neg ht, implSumR, implSumR]; simp only [Option.bind_some]
        rw [if_neg nt, na]
    · rw [if_neg hv] at hz; exact absurd rfl hz

end Go.Proofs.Ytidjdbpbdfiaeaa.Pure
