/- Plain laws on drawn texts and on the reference's TextOk, TextRows. -/
import Derived.Test.YtbfkcfmhlanlnaaKText
import Derived.Test.YtbfkcfmhlanlnaaKxspecTextRows
import Derived.Test.YtbfkcfmhlanlnaaKxspecl93Text
import Derived.Test.YtbfkcfmhlanlnaaKxspecl6Open
namespace Go.Proofs.Ytbfkcfmhlanlnaa.K
set_option linter.unusedVariables false
set_option linter.unusedSimpArgs false
open Go.RowKit Go.Proofs.YtbfkcfmhlanlnaaW.PrintWords Go.Proofs.YtbfkcfmhlanlnaaW.PrintLast Go.Proofs.YtbfkcfmhlanlnaaW.PrintMore
theorem tv_pos {α : Type} {c : Prop} [Decidable c] {f g : Nat → Option α} {r : α} (h : c) (k : Ev f r) : Ev (fun n => if c then f n else g n) r := Ev.congr (fun _ => if_pos h) k
theorem tv_neg {α : Type} {c : Prop} [Decidable c] {f g : Nat → Option α} {r : α} (h : ¬ c) (k : Ev g r) : Ev (fun n => if c then f n else g n) r := Ev.congr (fun _ => if_neg h) k
/-- A call that has no rounds. -/
theorem tv_call {α β : Type} {g : Option α} {f : Nat → α → Option β} {a : α} {r : β} (h : g = some a) (k : Ev (fun n => f n a) r) : Ev (fun n => g.bind (f n)) r := Ev.congr (fun n => by rw [h]; rfl) k
theorem tv_eq {α : Type} {g : Nat → Option α} {r r' : α} (h : Ev g r) (e : r = r') : Ev g r' := e ▸ h
theorem specOk_l_t (s : ByteArray) (hs : s.size ≤ 140737488351232) (d : Nat) : ∀ (k : Nat) (i : Int), 0 ≤ i → i ≤ s.size → (s.size : Int) - i = d → d < k →
    spec_TextOk.l0 k s i = some (lets s d i && (decide (1 ≤ s.size) && decide (s.size ≤ 14))) := by
  induction d with
  | zero =>
    intro k i h0 h1 hd hk
    obtain ⟨k, rfl⟩ : ∃ m, k = m + 1 := ⟨k - 1, by omega⟩
    simp only [spec_TextOk.l0, lets, spec_l6In.f]
    rw [if_neg (by omega)]
    by_cases h : 1 ≤ s.size
    · rw [if_pos (by omega)]; simp [h]; omega
    · rw [if_neg (by omega)]; simp [h]
  | succ d ih =>
    intro k i h0 h1 hd hk
    obtain ⟨k, rfl⟩ : ∃ m, k = m + 1 := ⟨k - 1, by omega⟩
    have hb := bt_range s i
    simp only [spec_TextOk.l0, lets, spec_l6In.f]
    rw [if_pos (by omega), if_pos h0, w64t (x := bt s i) (by omega) (by omega)]
    by_cases c1 : 97 ≤ bt s i
    · rw [if_pos c1]
      by_cases c2 : bt s i ≤ 122
      · simp only [Option.bind_some, c1, c2, decide_true, if_true, Bool.true_and]
        rw [w64t (by omega) (by omega)]
        exact ih k (i + 1) (by omega) (by omega) (by omega) (by omega)
      · simp [c2]
    · rw [if_neg c1]; simp [c1]
theorem xor_nn_t (a b : Int) (h1 : 0 ≤ a) (h2 : a < 9223372036854775808) (h3 : 0 ≤ b) (h4 : b < 9223372036854775808) : 0 ≤ Go.bits .xor .i64 a b := by
  obtain ⟨a, rfl⟩ := Int.eq_ofNat_of_zero_le h1
  obtain ⟨b, rfl⟩ := Int.eq_ofNat_of_zero_le h3
  have hx : a ^^^ b < 2 ^ 63 := Nat.xor_lt_two_pow (by omega) (by omega)
  have e1 : (BitVec.ofInt 64 (a : Int)).toNat = a := by
    rw [BitVec.ofInt_natCast, BitVec.toNat_ofNat]; exact Nat.mod_eq_of_lt (by omega)
  have e2 : (BitVec.ofInt 64 (b : Int)).toNat = b := by
    rw [BitVec.ofInt_natCast, BitVec.toNat_ofNat]; exact Nat.mod_eq_of_lt (by omega)
  show 0 ≤ IntKind.i64.wrap ((BitVec.ofInt 64 (a : Int) ^^^ BitVec.ofInt 64 (b : Int)).toNat : Int)
  rw [BitVec.toNat_xor, e1, e2]
  simp [IntKind.wrap, IntKind.bits, IntKind.signed]
  omega
theorem rd_byte_t (l : List Int) (hb : ∀ x ∈ l, 0 ≤ x ∧ x ≤ 255) (i : Int) : 0 ≤ rd l i ∧ rd l i ≤ 255 := by
  unfold rd
  by_cases h : i.toNat < l.length
  · rw [show l.getD i.toNat 0 = l[i.toNat] by simp [h]]; exact hb _ (List.getElem_mem h)
  · rw [show l.getD i.toNat 0 = 0 by simp [show l.length ≤ i.toNat by omega]]; omega
theorem tmod_in_t {a b : Int} (h : 0 ≤ a) (hb : 0 < b) : 0 ≤ Int.tmod a b ∧ Int.tmod a b < b :=
  ⟨Int.tmod_nonneg _ h, Int.tmod_lt_of_pos _ hb⟩
theorem pick_some_t (l : List Int) (hl : l.length ≤ 2000) (hb : ∀ x ∈ l, 0 ≤ x ∧ x ≤ 255) (p n : Int) (hp : 0 ≤ p) (hp2 : p ≤ 1000000000) (hn : 1 ≤ n) (hn2 : n ≤ 1000000) (k : Nat) (hk : 1 ≤ k) :
    ∃ v, spec_l6Rd_pick.f k l p n = some (v, p + 1) ∧ 0 ≤ v ∧ v < n := by
  obtain ⟨k, rfl⟩ : ∃ m, k = m + 1 := ⟨k - 1, by omega⟩
  have ep : wrap64 (p + 1) = p + 1 := w64t (by omega) (by omega)
  have eq : wrap64 (p + 1 - 1) = p := by rw [show p + 1 - 1 = p by omega]; exact w64t (by omega) (by omega)
  unfold spec_l6Rd_pick.f
  rw [if_neg (by omega), ep]
  simp only [spec_l6Rd_pick.j0, eq]
  by_cases hz : l.length = 0
  · exact ⟨0, by simp [hz], by omega, by omega⟩
  · have hz' : ((l.length : Int) == 0) = false := by rw [beq_eq_false_iff_ne]; omega
    rw [hz', if_neg (by simp)]
    by_cases hlt : p < (l.length : Int)
    · rw [if_pos hlt, if_pos hp, if_neg (by omega)]
      have hr := rd_byte_t l hb p
      rw [w64t (x := rd l p) (by omega) (by omega)]
      have ht := tmod_in_t (a := rd l p) (b := n) (by omega) (by omega)
      exact ⟨_, rfl, ht.1, ht.2⟩
    · have e7 : wrap64 (p * 7) = p * 7 := w64t (by omega) (by omega)
      have e73 : wrap64 (p * 7 + 3) = p * 7 + 3 := w64t (by omega) (by omega)
      have t1 := tmod_in_t (a := p) (b := (l.length : Int)) hp (by omega)
      have t2 := tmod_in_t (a := p * 7 + 3) (b := (l.length : Int)) (by omega) (by omega)
      rw [if_neg hlt, if_neg (by omega), if_pos t1.1, if_pos t1.2, e7, e73, if_pos t2.1, if_pos t2.2, if_neg (by omega)]
      have r1 := rd_byte_t l hb (Int.tmod p l.length)
      have r2 := rd_byte_t l hb (Int.tmod (p * 7 + 3) l.length)
      have q1 : 0 ≤ Int.tdiv p l.length := Int.tdiv_nonneg hp (by omega)
      have q2 : Int.tdiv p l.length ≤ p := by
        rw [Int.tdiv_eq_ediv_of_nonneg hp]
        exact Int.ediv_le_self _ hp
      generalize rd l (Int.tmod p l.length) = a at *
      generalize rd l (Int.tmod (p * 7 + 3) l.length) = b at *
      generalize Int.tdiv p l.length = q at *
      have hX : wrap64 ((wrap64 ((wrap64 ((wrap64 ((wrap64 a) * 131)) + (wrap64 ((wrap64 b) * 1117)))) + (wrap64 (p * 29)))) + (wrap64 ((wrap64 q) * 53))) = a * 131 + b * 1117 + p * 29 + q * 53 := by
        rw [w64t (x := a) (by omega) (by omega), w64t (x := b) (by omega) (by omega), w64t (x := q) (by omega) (by omega)]
        rw [w64t (x := a * 131) (by omega) (by omega), w64t (x := b * 1117) (by omega) (by omega), w64t (x := p * 29) (by omega) (by omega), w64t (x := q * 53) (by omega) (by omega)]
        rw [w64t (x := a * 131 + b * 1117) (by omega) (by omega), w64t (x := a * 131 + b * 1117 + p * 29) (by omega) (by omega)]
        exact w64t (by omega) (by omega)
      rw [hX]
      have hX0 : 0 ≤ a * 131 + b * 1117 + p * 29 + q * 53 := by omega
      have hX1 : a * 131 + b * 1117 + p * 29 + q * 53 ≤ 100000000000 := by omega
      generalize a * 131 + b * 1117 + p * 29 + q * 53 = X at *
      have d0 : 0 ≤ Int.tdiv X 64 := Int.tdiv_nonneg hX0 (by omega)
      have d1 : Int.tdiv X 64 ≤ X := by
        rw [Int.tdiv_eq_ediv_of_nonneg hX0]
        exact Int.ediv_le_self _ hX0
      rw [w64t (x := Int.tdiv X 64) (by omega) (by omega)]
      have hx := xor_nn_t X (Int.tdiv X 64) hX0 (by omega) d0 (by omega)
      have ht := tmod_in_t (a := Go.bits .xor .i64 X (Int.tdiv X 64)) (b := n) hx (by omega)
      exact ⟨_, rfl, ht.1, ht.2⟩
theorem open_some_t (l : List Int) (hb : ∀ x ∈ l, (Lit.int .u8 x).wf = true) : ∃ l', spec_l6Open.f l = some (l', 0) ∧ l'.length ≤ 2000 ∧ ∀ x ∈ l', 0 ≤ x ∧ x ≤ 255 := by
  have hb' : ∀ x ∈ l, 0 ≤ x ∧ x ≤ 255 := fun x hx => by
    have := hb x hx
    simp [Lit.wf, IntKind.min, IntKind.max, IntKind.signed, IntKind.bits] at this
    omega
  unfold spec_l6Open.f
  by_cases h : (l.length : Int) > 2000
  · rw [if_pos h, if_pos (by omega)]
    exact ⟨_, rfl, by rw [List.length_take]; omega, fun x hx => hb' x (List.mem_of_mem_take hx)⟩
  · rw [if_neg h]
    exact ⟨_, rfl, by omega, hb'⟩
theorem rd_in_t {l : List Int} {P : Int → Prop} (h : ∀ x ∈ l, P x) {i : Int} (h0 : 0 ≤ i) (h1 : i < (l.length : Int)) : P (rd l i) := by
  unfold rd
  have hi : i.toNat < l.length := by omega
  rw [show l.getD i.toNat 0 = l[i.toNat] by simp [hi]]; exact h _ (List.getElem_mem _)

theorem of_some_t (l : List Int) (hl : l.length ≤ 2000) (hb : ∀ x ∈ l, 0 ≤ x ∧ x ≤ 255) (p : Int) (hp : 0 ≤ p) (hp2 : p ≤ 900000000) (xs : List ByteArray) (hx : 1 ≤ xs.length) (hx2 : xs.length ≤ 1000) (B : Nat) (hB : ∀ x ∈ xs, x.size ≤ B) (k : Nat) (hk : 1 ≤ k) :
    ∃ v, spec_l6Rd_of.f k l p xs = some (v, p + 1) ∧ v.size ≤ B := by
  unfold spec_l6Rd_of.f
  obtain ⟨v1, e1, a1, b1⟩ := pick_some_t l hl hb p (xs.length : Int) hp (by omega) (by omega) (by omega) k hk
  rw [e1]; simp only [Option.bind_some]
  rw [if_pos a1, if_pos b1]
  refine ⟨_, rfl, ?_⟩
  unfold rdOf
  have hi : v1.toNat < xs.length := by omega
  rw [show xs.getD v1.toNat ByteArray.empty = xs[v1.toNat] by simp [hi]]
  exact hB _ (List.getElem_mem _)
theorem size_strOfNums_t (l : List Int) : (strOfNums l).size = l.length := by
  simp [strOfNums, ByteArray.size]
theorem text_l_t (l : List Int) (hl : l.length ≤ 2000) (hb : ∀ x ∈ l, 0 ≤ x ∧ x ≤ 255) (d : Nat) : ∀ (k : Nat) (s : ByteArray) (p : Int), s.size + d ≤ 1000 → 0 ≤ p → p + d ≤ 100000000 → d + 1 < k →
    ∃ r q, spec_l93Text.l0 k s (d : Int) l p = some (r, q) ∧ r.size ≤ 1001 ∧ p ≤ q ∧ q ≤ p + d + 2 := by
  induction d with
  | zero =>
    intro k s p hs hp hp2 hk
    obtain ⟨k, rfl⟩ : ∃ m, k = m + 1 := ⟨k - 1, by omega⟩
    have hk1 : 1 ≤ k := by omega
    simp only [spec_l93Text.l0]
    rw [if_neg (by omega)]
    obtain ⟨v1, e1, a1, b1⟩ := pick_some_t l hl hb p 30 hp (by omega) (by omega) (by omega) k hk1
    rw [e1]; simp only [Option.bind_some]
    by_cases c : v1 = 0
    · rw [if_pos c, if_pos (by omega)]
      obtain ⟨v, e2, hv⟩ := of_some_t l hl hb (p + 1) (by omega) (by omega) [(⟨#[]⟩ : ByteArray), s ++ (⟨#[65]⟩ : ByteArray), (⟨#[97, 98, 99, 100, 101, 102, 103, 104, 105, 106, 107, 108, 109, 110, 111]⟩ : ByteArray), (⟨#[97, 32, 98]⟩ : ByteArray)] (by simp) (by simp) 1001 (by
        intro x hx
        simp only [List.mem_cons, List.not_mem_nil, or_false] at hx
        rcases hx with rfl | rfl | rfl | rfl
        · simp [ByteArray.size]
        · have : (⟨#[65]⟩ : ByteArray).size = 1 := rfl
          rw [ByteArray.size_append, this]; omega
        · simp [ByteArray.size]
        · simp [ByteArray.size]) k hk1
      rw [e2]; simp only [Option.bind_some]
      exact ⟨_, _, rfl, hv, by omega, by omega⟩
    · rw [if_neg c]; exact ⟨_, _, rfl, by omega, by omega, by omega⟩
  | succ d ih =>
    intro k s p hs hp hp2 hk
    obtain ⟨k, rfl⟩ : ∃ m, k = m + 1 := ⟨k - 1, by omega⟩
    have hk1 : 1 ≤ k := by omega
    simp only [spec_l93Text.l0]
    rw [if_pos (by omega)]
    obtain ⟨v1, e1, a1, b1⟩ := pick_some_t l hl hb p 26 hp (by omega) (by omega) (by omega) k hk1
    rw [e1]; simp only [Option.bind_some]
    have h1 : (strOfNums ([(wrap64 (97 + v1)) % 256] : List Int)).size = 1 := by rw [size_strOfNums_t]; rfl
    rw [if_pos (by omega), w64t (x := ((d + 1 : Nat) : Int) - 1) (by omega) (by omega), show ((d + 1 : Nat) : Int) - 1 = (d : Int) by omega]
    obtain ⟨r, q, e, h, q1, q2⟩ := ih k (s ++ strOfNums [(wrap64 (97 + v1)) % 256]) (p + 1) (by rw [ByteArray.size_append]; omega) (by omega) (by omega) (by omega)
    exact ⟨r, q, e, h, by omega, by omega⟩

theorem specOk_t (s : ByteArray) (hs : s.size ≤ 140737488351232) : Ev (fun k => spec_TextOk.f k s) (tok s) :=
  ⟨s.size + 1, fun k hk => by unfold spec_TextOk.f tok; exact specOk_l_t s hs s.size k 0 (by omega) (by omega) (by omega) (by omega)⟩
theorem specl51Rows_t (s : ByteArray) (hs : s.size ≤ 140737488351232) : spec_l51Rows.f s = some ((chunks s.size : Nat) : Int) := by
  unfold spec_l51Rows.f chunks
  rw [w64t (x := (s.size : Int) + 4) (by omega) (by omega), w64t (x := (s.size : Int) + 4 - 1) (by omega) (by omega), Int.tdiv_eq_ediv_of_nonneg (by omega), w64t (by omega) (by omega)]
  congr 1
  omega
theorem specRows_t (s : ByteArray) (hs : s.size ≤ 140737488351232) : Ev (fun k => spec_TextRows.f k s) (rowsT s) := by
  refine (specOk_t s hs).bind ?_
  by_cases c : tok s = true
  · rw [c]
    refine tv_pos rfl (tv_call (specl51Rows_t s hs) (tv_eq (Ev.now _) ?_))
    unfold rowsT; rw [if_pos c]
  · have c' := c
    rw [Bool.not_eq_true] at c'
    rw [c']
    refine tv_neg (by simp) (tv_eq (Ev.now _) ?_)
    unfold rowsT; rw [if_neg c]
theorem implRows_f (s : ByteArray) (hs : s.size ≤ 140737488351232) : impl_TextRows.f s = some (rowsT s) := by unfold impl_TextRows.f; rw [if_pos hs]
theorem implCut_f (s : ByteArray) (hs : s.size ≤ 140737488351232) : impl_TextCut.f s = some (cutT s) := by unfold impl_TextCut.f; rw [if_pos hs]
theorem text_ev (l : List Int) (hl : l.length ≤ 2000) (hb : ∀ x ∈ l, 0 ≤ x ∧ x ≤ 255) (p : Int) (hp : 0 ≤ p) (hp2 : p ≤ 10000000) : ∃ r q, Ev (fun k => spec_l93Text.f k l p) (r, q) ∧ r.size ≤ 1001 ∧ p ≤ q ∧ q ≤ p + 100 := by
  obtain ⟨n, e1, n1, n2⟩ := pick_some_t l hl hb p 9 hp (by omega) (by omega) (by omega) 50 (by omega)
  obtain ⟨n, rfl⟩ := Int.eq_ofNat_of_zero_le n1
  obtain ⟨r, q, e2, hr, q1, q2⟩ := text_l_t l hl hb (n + 1) 50 ⟨#[]⟩ (p + 1) (by simp [ByteArray.size]; omega) (by omega) (by omega) (by omega)
  have et : spec_l93Text.f 50 l p = some (r, q) := by
    unfold spec_l93Text.f
    rw [e1, Option.bind_some]
    show spec_l93Text.l0 50 ⟨#[]⟩ (wrap64 (1 + (n : Int))) l (p + 1) = _
    have w := w64t (x := 1 + (n : Int)) (by omega) (by omega)
    have w2 : (1 : Int) + (n : Int) = ((n + 1 : Nat) : Int) := by omega
    rw [w, w2, e2]
  exact ⟨r, q, ⟨50, fun k hk => at_rounds (g := fun k => spec_l93Text.f k l p) (fun k => spec_l93Text.mono _ _ k) hk et⟩, hr, by omega, by omega⟩
end Go.Proofs.Ytbfkcfmhlanlnaa.K
