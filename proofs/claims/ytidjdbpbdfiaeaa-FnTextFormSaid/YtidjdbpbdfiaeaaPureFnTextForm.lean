/- Of a drawn text: a text has letters alone; no condition. -/
import Derived.Test.YtidjdbpbdfiaeaaPFnTextFormx2
namespace Go.Proofs.Ytidjdbpbdfiaeaa.Pure
open Go.RowKit Go.Proofs.Ytidjdbpbdfiaeaa.PFnTextForm Go.Proofs.YtidjdbpbdfiaeaaW.PrintWords Go.Proofs.YtidjdbpbdfiaeaaW.PrintLast

theorem ev_posF {α : Type} {c : Prop} [Decidable c] {f g : Nat → Option α} {r : α} (h : c) (k : Ev f r) : Ev (fun n => if c then f n else g n) r := Ev.congr (fun _ => if_pos h) k
theorem ev_negF {α : Type} {c : Prop} [Decidable c] {f g : Nat → Option α} {r : α} (h : ¬ c) (k : Ev g r) : Ev (fun n => if c then f n else g n) r := Ev.congr (fun _ => if_neg h) k
theorem w64F {x : Int} (h1 : -9223372036854775808 ≤ x) (h2 : x < 9223372036854775808) : wrap64 x = x := by
  unfold wrap64; omega

def letsF (s : ByteArray) : Nat → Int → Bool
  | 0, _ => true
  | d + 1, i => (decide (97 ≤ bt s i) && decide (bt s i ≤ 122)) && letsF s d (i + 1)
def tokF (s : ByteArray) : Bool := letsF s s.size 0 && (decide (1 ≤ s.size) && decide (s.size ≤ 14))
theorem specOk_lF (s : ByteArray) (hs : s.size ≤ 140737488351232) (d : Nat) : ∀ (k : Nat) (i : Int), 0 ≤ i → i ≤ s.size → (s.size : Int) - i = d → d < k →
    spec_TextOk.l0 k s i = some (letsF s d i && (decide (1 ≤ s.size) && decide (s.size ≤ 14))) := by
  induction d with
  | zero =>
    intro k i h0 h1 hd hk
    obtain ⟨k, rfl⟩ : ∃ m, k = m + 1 := ⟨k - 1, by omega⟩
    simp only [spec_TextOk.l0, letsF, spec_l6In.f]
    rw [if_neg (by omega)]
    by_cases h : 1 ≤ s.size
    · rw [if_pos (by omega)]; simp [h]; omega
    · rw [if_neg (by omega)]; simp [h]
  | succ d ih =>
    intro k i h0 h1 hd hk
    obtain ⟨k, rfl⟩ : ∃ m, k = m + 1 := ⟨k - 1, by omega⟩
    have hb := bt_range s i
    simp only [spec_TextOk.l0, letsF, spec_l6In.f]
    rw [if_pos (by omega), if_pos h0, w64F (x := bt s i) (by omega) (by omega)]
    by_cases c1 : 97 ≤ bt s i
    · rw [if_pos c1]
      by_cases c2 : bt s i ≤ 122
      · simp only [Option.bind_some, c1, c2, decide_true, if_true, Bool.true_and]
        rw [w64F (by omega) (by omega)]
        exact ih k (i + 1) (by omega) (by omega) (by omega) (by omega)
      · simp [c2]
    · rw [if_neg c1]; simp [c1]
theorem implOk_lF (s : ByteArray) (hs : s.size ≤ 140737488351232) (d : Nat) : ∀ (k : Nat) (i : Int), 0 ≤ i → i ≤ s.size → (s.size : Int) - i = d → d < k →
    impl_TextOk.l0 k s (s.size : Int) i = some (letsF s d i && (decide (1 ≤ s.size) && decide (s.size ≤ 14))) := by
  induction d with
  | zero =>
    intro k i h0 h1 hd hk
    obtain ⟨k, rfl⟩ : ∃ m, k = m + 1 := ⟨k - 1, by omega⟩
    simp only [impl_TextOk.l0, letsF, impl_within.f]
    rw [if_neg (by omega)]
    by_cases h : 1 ≤ s.size
    · rw [if_pos (by omega)]; simp [h]; omega
    · rw [if_neg (by omega)]; simp [h]
  | succ d ih =>
    intro k i h0 h1 hd hk
    obtain ⟨k, rfl⟩ : ∃ m, k = m + 1 := ⟨k - 1, by omega⟩
    simp only [impl_TextOk.l0, letsF, impl_within.f]
    rw [if_pos (by omega), if_pos h0, if_pos (by omega)]
    by_cases c1 : bt s i < 97
    · rw [if_pos c1]
      have : ¬ (97 ≤ bt s i) := by omega
      simp [this]
    · rw [if_neg c1]
      have c1' : 97 ≤ bt s i := by omega
      by_cases c2 : bt s i > 122
      · rw [if_pos c2]
        have : ¬ (bt s i ≤ 122) := by omega
        simp [this]
      · rw [if_neg c2]
        have c2' : bt s i ≤ 122 := by omega
        simp only [c1', c2', decide_true, Bool.true_and]
        rw [w64F (by omega) (by omega)]
        exact ih k (i + 1) (by omega) (by omega) (by omega) (by omega)
theorem specOk_evF (s : ByteArray) (hs : s.size ≤ 140737488351232) : Ev (fun k => spec_TextOk.f k s) (tokF s) :=
  ⟨s.size + 1, fun k hk => by unfold spec_TextOk.f tokF; exact specOk_lF s hs s.size k 0 (by omega) (by omega) (by omega) (by omega)⟩
theorem implOk_evF (s : ByteArray) (hs : s.size ≤ 140737488351232) : Ev (fun k => impl_TextOk.f k s) (tokF s) :=
  ⟨s.size + 1, fun k hk => by unfold impl_TextOk.f tokF; exact implOk_lF s hs s.size k 0 (by omega) (by omega) (by omega) (by omega)⟩

theorem xor_nnF (a b : Int) (h1 : 0 ≤ a) (h2 : a < 9223372036854775808) (h3 : 0 ≤ b) (h4 : b < 9223372036854775808) : 0 ≤ Go.bits .xor .i64 a b := by
  obtain ⟨a, rfl⟩ := Int.eq_ofNat_of_zero_le h1
  obtain ⟨b, rfl⟩ := Int.eq_ofNat_of_zero_le h3
  have hx : a ^^^ b < 2 ^ 63 := Nat.xor_lt_two_pow (by omega) (by omega)
  have e1 : (BitVec.ofInt 64 (a : Int)).toNat = a := by
    rw [BitVec.ofInt_natCast, BitVec.toNat_ofNat]; exact Nat.mod_eq_of_lt (by omega)
  have e2 : (BitVec.ofInt 64 (b : Int)).toNat = b := by
    rw [BitVec.ofInt_natCast, BitVec.toNat_ofNat]; exact Nat.mod_eq_of_lt (by omega)
  show 0 ≤ IntKind.i64.wrap ((BitVec.ofInt 64 (a : Int) ^^^ BitVec.ofInt 64 (b : Int)).toNat : Int)
  rw [BitVec.toNat_xor, e1, e2]
  simp [IntKind.wrap, IntKind.bits, IntKind.signed]
  omega
theorem rd_byteF (l : List Int) (hb : ∀ x ∈ l, 0 ≤ x ∧ x ≤ 255) (i : Int) : 0 ≤ rd l i ∧ rd l i ≤ 255 := by
  unfold rd
  by_cases h : i.toNat < l.length
  · rw [show l.getD i.toNat 0 = l[i.toNat] by simp [h]]; exact hb _ (List.getElem_mem h)
  · rw [show l.getD i.toNat 0 = 0 by simp [show l.length ≤ i.toNat by omega]]; omega
theorem tmod_inF {a b : Int} (h : 0 ≤ a) (hb : 0 < b) : 0 ≤ Int.tmod a b ∧ Int.tmod a b < b :=
  ⟨Int.tmod_nonneg _ h, Int.tmod_lt_of_pos _ hb⟩
theorem pick_someF (l : List Int) (hl : l.length ≤ 2000) (hb : ∀ x ∈ l, 0 ≤ x ∧ x ≤ 255) (p n : Int) (hp : 0 ≤ p) (hp2 : p ≤ 1000000000) (hn : 1 ≤ n) (hn2 : n ≤ 1000000) (k : Nat) (hk : 1 ≤ k) :
    ∃ v, spec_l6Rd_pick.f k l p n = some (v, p + 1) ∧ 0 ≤ v ∧ v < n := by
  obtain ⟨k, rfl⟩ : ∃ m, k = m + 1 := ⟨k - 1, by omega⟩
  have ep : wrap64 (p + 1) = p + 1 := w64F (by omega) (by omega)
  have eq : wrap64 (p + 1 - 1) = p := by rw [show p + 1 - 1 = p by omega]; exact w64F (by omega) (by omega)
  unfold spec_l6Rd_pick.f
  rw [if_neg (by omega), ep]
  simp only [spec_l6Rd_pick.j0, eq]
  by_cases hz : l.length = 0
  · exact ⟨0, by simp [hz], by omega, by omega⟩
  · have hz' : ((l.length : Int) == 0) = false := by rw [beq_eq_false_iff_ne]; omega
    rw [hz', if_neg (by simp)]
    by_cases hlt : p < (l.length : Int)
    · rw [if_pos hlt, if_pos hp, if_neg (by omega)]
      have hr := rd_byteF l hb p
      rw [w64F (x := rd l p) (by omega) (by omega)]
      have ht := tmod_inF (a := rd l p) (b := n) (by omega) (by omega)
      exact ⟨_, rfl, ht.1, ht.2⟩
    · have e7 : wrap64 (p * 7) = p * 7 := w64F (by omega) (by omega)
      have e73 : wrap64 (p * 7 + 3) = p * 7 + 3 := w64F (by omega) (by omega)
      have t1 := tmod_inF (a := p) (b := (l.length : Int)) hp (by omega)
      have t2 := tmod_inF (a := p * 7 + 3) (b := (l.length : Int)) (by omega) (by omega)
      rw [if_neg hlt, if_neg (by omega), if_pos t1.1, if_pos t1.2, e7, e73, if_pos t2.1, if_pos t2.2, if_neg (by omega)]
      have r1 := rd_byteF l hb (Int.tmod p l.length)
      have r2 := rd_byteF l hb (Int.tmod (p * 7 + 3) l.length)
      have q1 : 0 ≤ Int.tdiv p l.length := Int.tdiv_nonneg hp (by omega)
      have q2 : Int.tdiv p l.length ≤ p := by
        rw [Int.tdiv_eq_ediv_of_nonneg hp]
        exact Int.ediv_le_self _ hp
      generalize rd l (Int.tmod p l.length) = a at *
      generalize rd l (Int.tmod (p * 7 + 3) l.length) = b at *
      generalize Int.tdiv p l.length = q at *
      have hX : wrap64 ((wrap64 ((wrap64 ((wrap64 ((wrap64 a) * 131)) + (wrap64 ((wrap64 b) * 1117)))) + (wrap64 (p * 29)))) + (wrap64 ((wrap64 q) * 53))) = a * 131 + b * 1117 + p * 29 + q * 53 := by
        rw [w64F (x := a) (by omega) (by omega), w64F (x := b) (by omega) (by omega), w64F (x := q) (by omega) (by omega)]
        rw [w64F (x := a * 131) (by omega) (by omega), w64F (x := b * 1117) (by omega) (by omega), w64F (x := p * 29) (by omega) (by omega), w64F (x := q * 53) (by omega) (by omega)]
        rw [w64F (x := a * 131 + b * 1117) (by omega) (by omega), w64F (x := a * 131 + b * 1117 + p * 29) (by omega) (by omega)]
        exact w64F (by omega) (by omega)
      rw [hX]
      have hX0 : 0 ≤ a * 131 + b * 1117 + p * 29 + q * 53 := by omega
      have hX1 : a * 131 + b * 1117 + p * 29 + q * 53 ≤ 100000000000 := by omega
      generalize a * 131 + b * 1117 + p * 29 + q * 53 = X at *
      have d0 : 0 ≤ Int.tdiv X 64 := Int.tdiv_nonneg hX0 (by omega)
      have d1 : Int.tdiv X 64 ≤ X := by
        rw [Int.tdiv_eq_ediv_of_nonneg hX0]
        exact Int.ediv_le_self _ hX0
      rw [w64F (x := Int.tdiv X 64) (by omega) (by omega)]
      have hx := xor_nnF X (Int.tdiv X 64) hX0 (by omega) d0 (by omega)
      have ht := tmod_inF (a := Go.bits .xor .i64 X (Int.tdiv X 64)) (b := n) hx (by omega)
      exact ⟨_, rfl, ht.1, ht.2⟩
theorem open_someF (l : List Int) (hb : ∀ x ∈ l, (Lit.int .u8 x).wf = true) : ∃ l', spec_l6Open.f l = some (l', 0) ∧ l'.length ≤ 2000 ∧ ∀ x ∈ l', 0 ≤ x ∧ x ≤ 255 := by
  have hb' : ∀ x ∈ l, 0 ≤ x ∧ x ≤ 255 := fun x hx => by
    have := hb x hx
    simp [Lit.wf, IntKind.min, IntKind.max, IntKind.signed, IntKind.bits] at this
    omega
  unfold spec_l6Open.f
  by_cases h : (l.length : Int) > 2000
  · rw [if_pos h, if_pos (by omega)]
    exact ⟨_, rfl, by rw [List.length_take]; omega, fun x hx => hb' x (List.mem_of_mem_take hx)⟩
  · rw [if_neg h]
    exact ⟨_, rfl, by omega, hb'⟩
theorem rd_inF {l : List Int} {P : Int → Prop} (h : ∀ x ∈ l, P x) {i : Int} (h0 : 0 ≤ i) (h1 : i < (l.length : Int)) : P (rd l i) := by
  unfold rd
  have hi : i.toNat < l.length := by omega
  rw [show l.getD i.toNat 0 = l[i.toNat] by simp [hi]]; exact h _ (List.getElem_mem _)

theorem of_someF (l : List Int) (hl : l.length ≤ 2000) (hb : ∀ x ∈ l, 0 ≤ x ∧ x ≤ 255) (p : Int) (hp : 0 ≤ p) (hp2 : p ≤ 900000000) (xs : List ByteArray) (hx : 1 ≤ xs.length) (hx2 : xs.length ≤ 1000) (B : Nat) (hB : ∀ x ∈ xs, x.size ≤ B) (k : Nat) (hk : 1 ≤ k) :
    ∃ v, spec_l6Rd_of.f k l p xs = some (v, p + 1) ∧ v.size ≤ B := by
  unfold spec_l6Rd_of.f
  obtain ⟨v1, e1, a1, b1⟩ := pick_someF l hl hb p (xs.length : Int) hp (by omega) (by omega) (by omega) k hk
  rw [e1]; simp only [Option.bind_some]
  rw [if_pos a1, if_pos b1]
  refine ⟨_, rfl, ?_⟩
  unfold rdOf
  have hi : v1.toNat < xs.length := by omega
  rw [show xs.getD v1.toNat ByteArray.empty = xs[v1.toNat] by simp [hi]]
  exact hB _ (List.getElem_mem _)
theorem size_strOfNumsF (l : List Int) : (strOfNums l).size = l.length := by
  simp [strOfNums, ByteArray.size]
theorem text_lF (l : List Int) (hl : l.length ≤ 2000) (hb : ∀ x ∈ l, 0 ≤ x ∧ x ≤ 255) (d : Nat) : ∀ (k : Nat) (s : ByteArray) (p : Int), s.size + d ≤ 1000 → 0 ≤ p → p + d ≤ 100000000 → d + 1 < k →
    ∃ r q, spec_l93Text.l0 k s (d : Int) l p = some (r, q) ∧ r.size ≤ 1001 ∧ p ≤ q ∧ q ≤ p + d + 2 := by
  induction d with
  | zero =>
    intro k s p hs hp hp2 hk
    obtain ⟨k, rfl⟩ : ∃ m, k = m + 1 := ⟨k - 1, by omega⟩
    have hk1 : 1 ≤ k := by omega
    simp only [spec_l93Text.l0]
    rw [if_neg (by omega)]
    obtain ⟨v1, e1, a1, b1⟩ := pick_someF l hl hb p 30 hp (by omega) (by omega) (by omega) k hk1
    rw [e1]; simp only [Option.bind_some]
    by_cases c : v1 = 0
    · rw [if_pos c, if_pos (by omega)]
      obtain ⟨v, e2, hv⟩ := of_someF l hl hb (p + 1) (by omega) (by omega) [(⟨#[]⟩ : ByteArray), s ++ (⟨#[65]⟩ : ByteArray), (⟨#[97, 98, 99, 100, 101, 102, 103, 104, 105, 106, 107, 108, 109, 110, 111]⟩ : ByteArray), (⟨#[97, 32, 98]⟩ : ByteArray)] (by simp) (by simp) 1001 (by
        intro x hx
        simp only [List.mem_cons, List.not_mem_nil, or_false] at hx
        rcases hx with rfl | rfl | rfl | rfl
        · simp [ByteArray.size]
        · have : (⟨#[65]⟩ : ByteArray).size = 1 := rfl
          rw [ByteArray.size_append, this]; omega
        · simp [ByteArray.size]
        · simp [ByteArray.size]) k hk1
      rw [e2]; simp only [Option.bind_some]
      exact ⟨_, _, rfl, hv, by omega, by omega⟩
    · rw [if_neg c]; exact ⟨_, _, rfl, by omega, by omega, by omega⟩
  | succ d ih =>
    intro k s p hs hp hp2 hk
    obtain ⟨k, rfl⟩ : ∃ m, k = m + 1 := ⟨k - 1, by omega⟩
    have hk1 : 1 ≤ k := by omega
    simp only [spec_l93Text.l0]
    rw [if_pos (by omega)]
    obtain ⟨v1, e1, a1, b1⟩ := pick_someF l hl hb p 26 hp (by omega) (by omega) (by omega) k hk1
    rw [e1]; simp only [Option.bind_some]
    have h1 : (strOfNums ([(wrap64 (97 + v1)) % 256] : List Int)).size = 1 := by rw [size_strOfNumsF]; rfl
    rw [if_pos (by omega), w64F (x := ((d + 1 : Nat) : Int) - 1) (by omega) (by omega), show ((d + 1 : Nat) : Int) - 1 = (d : Int) by omega]
    obtain ⟨r, q, e, h, q1, q2⟩ := ih k (s ++ strOfNums [(wrap64 (97 + v1)) % 256]) (p + 1) (by rw [ByteArray.size_append]; omega) (by omega) (by omega) (by omega)
    exact ⟨r, q, e, h, by omega, by omega⟩

theorem drawText_some (l : List Int) (hb : ∀ x ∈ l, (Lit.int .u8 x).wf = true) : ∃ s K, (∀ k, K ≤ k → spec_DrawTextOk.f k l = some s) ∧ s.size ≤ 1100 := by
  obtain ⟨l', eo, hl, hb'⟩ := open_someF l hb
  obtain ⟨K, hK⟩ : ∃ K : Nat, 50 ≤ K := ⟨50, by omega⟩
  obtain ⟨n, e1, n1, n2⟩ := pick_someF l' hl hb' 0 9 (by omega) (by omega) (by omega) (by omega) (K + 1) (by omega)
  obtain ⟨n, rfl⟩ := Int.eq_ofNat_of_zero_le n1
  obtain ⟨r, q, e2, hr, q1, q2⟩ := text_lF l' hl hb' (n + 1) (K + 1) ⟨#[]⟩ (0 + 1) (by simp [ByteArray.size]; omega) (by omega) (by omega) (by omega)
  obtain ⟨v, e3, v1, v2⟩ := pick_someF l' hl hb' q 5 (by omega) (by omega) (by omega) (by omega) (K + 1) (by omega)
  have et : spec_l93Text.f (K + 1) l' 0 = some (r, q) := by
    unfold spec_l93Text.f
    rw [e1, Option.bind_some]
    show spec_l93Text.l0 (K + 1) ⟨#[]⟩ (wrap64 (1 + (n : Int))) l' (0 + 1) = _
    have w := w64F (x := 1 + (n : Int)) (by omega) (by omega)
    have w2 : (1 : Int) + (n : Int) = ((n + 1 : Nat) : Int) := by omega
    rw [w, w2, e2]
  have key : ∃ s, spec_DrawTextOk.f (K + 1) l = some s ∧ s.size ≤ 1100 := by
    unfold spec_DrawTextOk.f
    rw [eo]; simp only [Option.bind_some]
    rw [et]; simp only [Option.bind_some]
    rw [e3]; simp only [Option.bind_some]
    by_cases c : v = 0
    · rw [if_pos c]
      obtain ⟨u, e4, hu⟩ := of_someF l' hl hb' (q + 1) (by omega) (by omega) [(⟨#[122]⟩ : ByteArray), (⟨#[123]⟩ : ByteArray), (⟨#[97, 98, 99, 100, 101, 102]⟩ : ByteArray)] (by simp) (by simp) 6 (by
        intro x hx
        simp only [List.mem_cons, List.not_mem_nil, or_false] at hx
        rcases hx with rfl | rfl | rfl <;> simp [ByteArray.size]) (K + 1) (by omega)
      rw [e4]; simp only [Option.bind_some]
      rw [if_pos (by omega)]
      exact ⟨_, rfl, by rw [ByteArray.size_append]; omega⟩
    · rw [if_neg c]; exact ⟨_, rfl, by omega⟩
  obtain ⟨s, e, hs⟩ := key
  exact ⟨s, K + 1, fun k hk => at_rounds (g := fun k => spec_DrawTextOk.f k l) (fun k => spec_DrawTextOk.mono _ k) hk e, hs⟩
theorem lets_iff (s : ByteArray) (d : Nat) : ∀ i, letsF s d i = true ↔ ∀ j : Nat, j < d → 97 ≤ bt s (i + j) ∧ bt s (i + j) ≤ 122 := by
  induction d with
  | zero => intro i; simp [letsF]
  | succ d ih =>
    intro i
    simp only [letsF, Bool.and_eq_true, decide_eq_true_eq, ih]
    constructor
    · rintro ⟨h1, h2⟩ j hj
      cases j with
      | zero => simpa using h1
      | succ j =>
        have := h2 j (by omega)
        rwa [show i + 1 + (j : Int) = i + ((j + 1 : Nat) : Int) by omega] at this
    · intro h
      refine ⟨by simpa using h 0 (by omega), fun j hj => ?_⟩
      have := h (j + 1) (by omega)
      rwa [show i + ((j + 1 : Nat) : Int) = i + 1 + (j : Int) by omega] at this
theorem bt_nat (s : ByteArray) (j : Nat) (h : j < s.size) : bt s (j : Int) = ((s.data[j]'h).toNat : Int) := by
  unfold bt
  have e : ((j : Int).toNat) = j := Int.toNat_natCast j
  have h' : ((j : Int).toNat) < s.size := by omega
  rw [dif_pos h']
  show ((s.data[(j : Int).toNat]'h').toNat : Int) = _
  congr 2
theorem bt_cut (s : ByteArray) (j : Nat) (h : j + 1 < s.size) : bt (s.extract 1 s.size) (j : Int) = bt s ((j + 1 : Nat) : Int) := by
  have hs : (s.extract 1 s.size).size = s.size - 1 := by rw [ByteArray.size_extract, Nat.min_self]
  rw [bt_nat _ _ (by omega), bt_nat _ _ h]
  congr 2
  simp only [ByteArray.data_extract]
  rw [Array.getElem_extract]
  congr 1
  omega
theorem bt_app_l (s t : ByteArray) (j : Nat) (h : j < s.size) : bt (s ++ t) (j : Int) = bt s (j : Int) := by
  rw [bt_nat _ _ (by rw [ByteArray.size_append]; omega), bt_nat _ _ h]
  congr 2
  simp only [ByteArray.data_append]
  rw [Array.getElem_append_left]
theorem bt_app_r (s t : ByteArray) (j : Nat) (h : j < t.size) : bt (s ++ t) ((s.size + j : Nat) : Int) = bt t (j : Int) := by
  rw [bt_nat _ _ (by rw [ByteArray.size_append]; omega), bt_nat _ _ h]
  congr 2
  simp only [ByteArray.data_append]
  have z : s.data.size = s.size := rfl
  rw [Array.getElem_append_right (by omega)]
  congr 1
  omega
theorem tok_cut (s : ByteArray) (h : tokF s = true) : tokF (s.extract 1 s.size) = decide ((s.size : Int) > 1) := by
  unfold tokF at h ⊢
  simp only [Bool.and_eq_true, decide_eq_true_eq] at h
  obtain ⟨h1, h2, h3⟩ := h
  have hs : (s.extract 1 s.size).size = s.size - 1 := by rw [ByteArray.size_extract, Nat.min_self]
  rw [hs]
  rw [lets_iff] at h1
  by_cases c : s.size > 1
  · have : letsF (s.extract 1 s.size) (s.size - 1) 0 = true := by
      rw [lets_iff]
      intro j hj
      have := h1 (j + 1) (by omega)
      rw [Int.zero_add] at this ⊢
      rw [bt_cut s j (by omega)]; exact this
    rw [this]
    have e1 : decide (1 ≤ s.size - 1) = true := by rw [decide_eq_true_eq]; omega
    have e2 : decide (s.size - 1 ≤ 14) = true := by rw [decide_eq_true_eq]; omega
    have e3 : decide ((s.size : Int) > 1) = true := by rw [decide_eq_true_eq]; omega
    rw [e1, e2, e3]; rfl
  · have e1 : decide (1 ≤ s.size - 1) = false := by rw [decide_eq_false_iff_not]; omega
    have e3 : decide ((s.size : Int) > 1) = false := by rw [decide_eq_false_iff_not]; omega
    rw [e1, e3]; simp
theorem tok_A (s : ByteArray) : tokF (s ++ (⟨#[65]⟩ : ByteArray)) = false := by
  have h1 : (⟨#[65]⟩ : ByteArray).size = 1 := rfl
  have : letsF (s ++ (⟨#[65]⟩ : ByteArray)) (s ++ (⟨#[65]⟩ : ByteArray)).size 0 = false := by
    rw [← Bool.not_eq_true, lets_iff]
    intro h
    have := h s.size (by rw [ByteArray.size_append]; omega)
    rw [Int.zero_add, show ((s.size : Nat) : Int) = ((s.size + 0 : Nat) : Int) by omega, bt_app_r _ _ 0 (by omega)] at this
    have e : bt (⟨#[65]⟩ : ByteArray) ((0 : Nat) : Int) = 65 := rfl
    omega
  unfold tokF; rw [this]; rfl
theorem tok_long (s t : ByteArray) (h : 14 < s.size + t.size) : tokF (s ++ t) = false := by
  unfold tokF
  have e1 : decide ((s ++ t).size ≤ 14) = false := by rw [decide_eq_false_iff_not, ByteArray.size_append]; omega
  rw [e1]; simp
theorem FnTextForm : laws_FnTextForm.Pure := by
  intro l _ _ hb
  refine Ev.rounds (g := fun k => laws_FnTextForm.f k l) (r := true) ?_
  unfold laws_FnTextForm.f
  by_cases h : (l.length : Int) > 1048576
  · simp only [if_pos h]; exact Ev.now true
  simp only [if_neg h]
  obtain ⟨s, K, hd, hs⟩ := drawText_some l hb
  refine Ev.bind (g := fun k => spec_DrawTextOk.f k l) ⟨K, hd⟩ ?_
  refine (implOk_evF s (by omega)).bind ((specOk_evF s (by omega)).bind ?_)
  refine Ev.congr (f := fun n => laws_FnTextForm.j0 n s (tokF s) (!tokF s)) (fun n => by simp) ?_
  refine Ev.step (fun k => rfl) ?_
  cases ht : tokF s with
  | false =>
    simp only [Bool.not_false]
    refine Ev.congr (f := fun k => ((spec_TextOk.f k s).bind fun t142 => (some (false == t142)))) (fun k => by simp [laws_FnTextForm.j0]) ?_
    have := specOk_evF s (by omega)
    rw [ht] at this
    exact this.bind (Ev.now true)
  | true =>
    have h14 : 1 ≤ s.size ∧ s.size ≤ 14 := by
      unfold tokF at ht
      simp only [Bool.and_eq_true, decide_eq_true_eq] at ht
      exact ht.2
    have z1 : (⟨#[65]⟩ : ByteArray).size = 1 := rfl
    have z2 : (⟨#[97, 98, 99, 100, 101, 102, 103, 104, 105, 106, 107, 108, 109, 110]⟩ : ByteArray).size = 14 := rfl
    simp only [Bool.not_true]
    refine Ev.congr (fun k => by rw [laws_FnTextForm.j0, if_neg (by simp), if_pos (by omega)]) ?_
    refine (implOk_evF (s.extract 1 s.size) (by rw [ByteArray.size_extract]; omega)).bind ?_
    rw [tok_cut s ht]
    refine ev_posF (by simp) (ev_posF (by omega) ?_)
    refine (implOk_evF (s ++ ⟨#[65]⟩) (by rw [ByteArray.size_append]; omega)).bind ?_
    rw [tok_A]
    refine ev_negF (by simp) (ev_posF (by omega) ?_)
    refine (implOk_evF (s ++ ⟨#[97, 98, 99, 100, 101, 102, 103, 104, 105, 106, 107, 108, 109, 110]⟩) (by rw [ByteArray.size_append]; omega)).bind ?_
    rw [tok_long _ _ (by omega)]
    refine ev_negF (by simp) ?_
    have : decide ((s.size : Int) ≤ 14) = true := by rw [decide_eq_true_eq]; omega
    rw [this]; exact Ev.now true

end Go.Proofs.Ytidjdbpbdfiaeaa.Pure
