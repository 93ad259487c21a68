/- Contract of TextCut: the rows of a text, a slice cut to its length; nil where there is no text. -/
import Derived.Test.YtbfkcfmhlanlnaaKChunk
import Derived.Test.YtbfkcfmhlanlnaaKximplTextOk
namespace Go.Proofs.Ytbfkcfmhlanlnaa.K
set_option linter.unusedVariables false
set_option linter.unusedSimpArgs false
open Go.RowKit Go.Shelf Go.Proofs.YtbfkcfmhlanlnaaW.PrintWords Go.Proofs.YtbfkcfmhlanlnaaW.PrintLast Go.Proofs.YtbfkcfmhlanlnaaW.PrintMore
attribute [local go_sem] Oper.semAt_some
variable {α : Type}
/-- The number of the letter at a place; 0 behind the last. -/
def letter (s : ByteArray) (i : Nat) : Int := if i < s.size then bt s i - 96 else 0
def row4 (s : ByteArray) (k : Nat) : List Int := [letter s (4 * k), letter s (4 * k + 1), letter s (4 * k + 2), letter s (4 * k + 3)]
def cutOf (s : ByteArray) : List (List Int) := (List.range (chunks s.size)).map (row4 s)
def allLow (s : ByteArray) : Prop := ∀ i : Nat, i < s.size → 97 ≤ bt s i ∧ bt s i ≤ 122
theorem upto_map {β : Type} (n : Nat) (f : Nat → β) : ∀ k, 4 * k < n + 4 → ((upto n k).map fun x => f x.val) = (List.range k).map f
  | 0, _ => rfl
  | k + 1, h => by rw [upto_succ (by omega), List.map_append, upto_map n f k (by omega), List.range_succ, List.map_append]; rfl
theorem clip_in (n : Nat) (A : Option Addr) (m c : Nat) (hm : m ≤ c) (hl : m ≤ 100000) (w : World) :
    CallsIn Fence.wide n Try.prog 60 #[.slice A m c] w fun e w' => e = .returned (.slice A m m) ∧ w' = w := by
  refine callsIn_of_wp Try.func60 rfl trivial ?_ rfl
  simp only [Try.ntmps60, List.size_toArray, List.length_cons, List.length_nil, Nat.reduceAdd, Nat.reduceSub, Array.replicate_succ, Array.replicate_zero, List.push_toArray, List.append_toArray, List.nil_append, List.cons_append]
  gi_wp2
  go_ret
  exact ⟨rfl, rfl⟩
set_option maxRecDepth 100000 in
set_option maxHeartbeats 4000000 in
theorem TextCut_nil (s : ByteArray) (k : Nat) (w : World) (h : impl_TextOk.f k s = some false) :
    Calls Try.prog 17 #[.string s] w fun e w' => e = .returned (.slice none 0 0) ∧ Below w.heap.size w w' := by
  refine (callsIn_wide (n := 5)).1 ?_
  refine callsIn_of_wp_marks Try.func17 rfl trivial ?_ rfl
  simp only [Try.ntmps17, List.size_toArray, List.length_cons, List.length_nil, Nat.reduceAdd, Nat.reduceSub, Array.replicate_succ, Array.replicate_zero, List.push_toArray, List.append_toArray, List.nil_append, List.cons_append]
  have hfT : Fence.wide.fn 39 := trivial
  have hfC : Fence.wide.fn 59 := trivial
  have hfI : Fence.wide.fn 92 := trivial
  have hfL : Fence.wide.fn 60 := trivial
  gi_wp2_with (gi_at_call 39; refine (callsIn_wide.2 (impl_TextOk.calls k s false _ h)).mono ?_; rintro e w' ⟨rfl, ⟨m1, rfl⟩⟩)
  exact ⟨_, results_tmp rfl _ _ _, rfl, by repeat (first | exact Below.refl _ _ | apply below_alloc | apply pw_below_drewN | apply below_drew1)⟩
/-- The rows of one's own stay where what is no cells turns. -/
theorem S_row_own {d : Kd α} {e base : Nat} {ok : Nat → Prop} {v : Value} {xs : List α} {A B : World} {row : Option Nat} (h : Kd.S d e A base ok v xs) (hg : A.grownBy B row) (hr : ∀ r, row = some r → ∃ o : Obj, A.heap[r]? = some o ∧ o.isCells = false) : Kd.S d e B base ok v xs :=
  Kd.S_mono (Kd.S_grown (Kd.S_bound h) hg (fun k hk he => by
    obtain ⟨_, _, _, q, _, cells, hc⟩ := hk
    obtain ⟨o, ho, hn⟩ := hr k he.symm
    rw [hc] at ho; cases ho; cases hn)) (fun _ hk => hk.1)
theorem block_row_own {A B : World} {row : Option Nat} {g t : Nat} {cells : Array Value} {fr : Nat × Nat} (h : A.heap[g]? = some (.cells cells t fr)) (hg : A.grownBy B row) (hr : ∀ r, row = some r → ∃ o : Obj, A.heap[r]? = some o ∧ o.isCells = false) : B.heap[g]? = some (.cells cells t fr) :=
  (hg.block g (Array.getElem?_eq_some_iff.1 h).1 (fun he => by
    obtain ⟨o, ho, hn⟩ := hr g he.symm
    rw [h] at ho; cases ho; cases hn)).trans h
/-- append(v, x) within a fence: S_append's word. -/
theorem S_append_in {F : Fence} {nF : Nat} {P : Program} {ops : Array Oper} {rest : List Oper} {o : Oper} {a : Act} {Q : Exit → Act → World → Prop} (d : Kd α) {w0 W : World} (base : Nat) (hgd : o.guard = none) (s x : Operand) (t e : TypeId) (z : Value) (bytes : Nat)
    (ho : o.op = .call { callee := .builtin .append, args := #[s, x], argTypes := #[t, t] })
    (ht : P.underlying t = some (.slice e)) (hinfo : (P.info? e).map (fun i => (i.zero, i.size, i.bytes)) = some (some z, d.sz, bytes)) (hz : z.cells.size = d.sz) (hs0 : 0 < d.sz) (hb0 : 0 < bytes)
    (v : Value) (xs : List α) (p : α) (cs : List Value) (ok okp : Nat → Prop) (hs : a.eval s = v) (hx : a.eval x = .slice (some ⟨W.heap.size, 0, none⟩) 1 1) (hp : d.M W base okp p cs) (hokp : ∀ k, okp k → ok k ∧ some k ≠ v.ownBlock) (hfresh : ∀ k, W.heap.size ≤ k → ok k)
    (HO : Kd.S d e W base (fun k => ok k ∧ ¬ okp k) v xs) (HB : Below base w0 W) (hbase : base ≤ W.heap.size) (hl : (xs.length + 1) * bytes ≤ 140737488355328)
    (h : ∀ v1 w1, Kd.S d e w1 base ok v1 (xs ++ [p]) → Below base w0 w1 → (W.alloc (.cells cs.toArray e)).grownBy w1 v.ownBlock → (v1.ownBlock = v.ownBlock ∨ ∃ b, v1.ownBlock = some b ∧ W.heap.size ≤ b) → wpListIn F nF P ops Q rest (a.put o.dst v1) w1) :
    wpListIn F nF P ops Q (o :: rest) a (W.alloc (.cells cs.toArray e)) := by
  obtain ⟨f, hf, hR⟩ := Kd.S_tag HO xs.length okp (fun _ hk h2 => h2.2 hk)
  have hR' : (Kd.tag f d).R e W base ok v xs.zipIdx := Kd.R_mono hR (fun _ hk => hk.1)
  have hp' : (Kd.tag f d).M W base okp (p, xs.length) cs := d.M_mono (fun k hk => ⟨hk, hf k hk⟩) hp
  obtain ⟨h0, inner, hown, hr⟩ := hR'
  rw [List.length_zipIdx] at hown
  obtain ⟨i0, hi, hzz⟩ := Option.map_eq_some_iff.1 hinfo
  simp only [Prod.mk.injEq] at hzz
  obtain ⟨hz0, hz1, hz2⟩ := hzz
  have hcl : cs.length = d.sz := d.K_len (d.K_of_M hp)
  have hlen : xs.length + 1 ≤ 140737488355328 := Nat.le_trans (Nat.le_mul_of_pos_right _ hb0) hl
  refine wpListIn_append_own_at (w := W.alloc (.cells cs.toArray e)) hgd s x t ho base e i0 z d.sz bytes ht hi hz0 hz1 hz2 hz hs0 v xs.length inner hs (hown.alloc _) ⟨W.heap.size, 0, none⟩ 1 1 cs hx (by rw [hcl]; simp)
    (by simpa using World.news_of_block (cs := cs.toArray) (t := e) (fr := (0, 0)) (heap_alloc_new W (.cells cs.toArray e))) (d.K_one (d.K_of_M hp)) (by simp only [maxLen]; omega) hl (by simp; omega) ?_
  intro v1 w1 hown1 hg _ hat
  have hat' : v1.ownBlock = v.ownBlock ∨ ∃ b, v1.ownBlock = some b ∧ W.heap.size ≤ b := by
    rcases hat with hat | hat
    · exact .inl hat
    · exact .inr ⟨_, hat, by simp⟩
  have hg2 := World.grownBy.trans (World.grownBy_alloc W (.cells cs.toArray e) _) hg
  refine h v1 w1 ⟨f, ?_⟩ ((HB.alloc hbase _).grown hg (by simp; omega) (own_base hown)) hg hat'
  rw [Kd.zip_snoc]
  exact Kd.R_appended h0 hr hp' hokp hfresh (by rw [List.length_zipIdx]; exact hown1) hg2 hat'
theorem make4 (W : World) : Sem.run Try.prog (Instr.makeSlice 34 (Value.int IntKind.i64 4) (Value.int IntKind.i64 4)) W = Result.ok (.slice (some ⟨W.heap.size, 0, none⟩) 4 4) (W.alloc (.cells #[.int .i64 0, .int .i64 0, .int .i64 0, .int .i64 0] 3)) := by
  obtain ⟨i0, hi, hz0, hz1, hz2⟩ := info_parts info3
  have hr := run_make (P := Try.prog) W 34 3 i0 (.int .i64 0) Try.underlying34 hi hz0 .i64 .i64 4 4 (by omega) (by omega) (by rw [hz2]; omega) (by omega)
  have e : madeCells (Value.int IntKind.i64 0).cells (Int.toNat 4 * 1) = #[.int .i64 0, .int .i64 0, .int .i64 0, .int .i64 0] := by kernel_rfl
  rw [hz1, e] at hr
  exact hr
/-- The row when i letters are in. -/
def rowAt (s : ByteArray) (k i : Nat) : Array Value := #[.int .i64 (if 0 < i then letter s (4 * k) else 0), .int .i64 (if 1 < i then letter s (4 * k + 1) else 0), .int .i64 (if 2 < i then letter s (4 * k + 2) else 0), .int .i64 (if 3 < i then letter s (4 * k + 3) else 0)]
theorem rowAt_set (s : ByteArray) (k i : Nat) (hi : i < 4) : (rowAt s k i).setIfInBounds i (.int .i64 (letter s (4 * k + i))) = rowAt s k (i + 1) := by
  match i, hi with
  | 0, _ => simp [rowAt]
  | 1, _ => simp [rowAt]
  | 2, _ => simp [rowAt]
  | 3, _ => simp [rowAt]
theorem rowAt_all (s : ByteArray) (k m : Nat) (hm : m = min 4 (s.size - 4 * k)) : rowAt s k m = (nums .i64 (row4 s k)).toArray := by
  have h : ∀ j, j < 4 → (if j < m then letter s (4 * k + j) else 0) = letter s (4 * k + j) := fun j hj => by
    by_cases c : j < m
    · rw [if_pos c]
    · rw [if_neg c]; unfold letter; rw [if_neg (by omega)]
  have h0 := h 0 (by omega)
  have h1 := h 1 (by omega)
  have h2 := h 2 (by omega)
  have h3 := h 3 (by omega)
  simp only [Nat.add_zero] at h0
  unfold rowAt
  rw [h0, h1, h2, h3]
  rfl
theorem Boxed_any {W : World} {g t : Nat} {cells : Array Value} {fr : Nat × Nat} (h : W.heap[g]? = some (.cells cells t fr)) (o : Obj) : (W.alloc o).heap[g]? = some (.cells cells t fr) :=
  (Below.heap_alloc W o g (Array.getElem?_eq_some_iff.1 h).1).trans h
theorem blk_cell_any {W : World} {g t : Nat} {cells : Array Value} {fr : Nat × Nat} (h : W.heap[g]? = some (.cells cells t fr)) (j : Nat) : W.cell? ⟨g, j, none⟩ = cells[j]? := by
  simp [World.cell?, h]
theorem keeps_of_below {W W' : World} (h : Below W.heap.size W W') : KeepsOthers W W' := ⟨h.size, fun k o hk _ => (h.block k (Array.getElem?_eq_some_iff.1 hk).1).trans hk⟩
/-- What the loop keeps, between two rounds. -/
def CutI (s : ByteArray) (n0 : Nat) (C : Array Value) (fr : Nat × Nat) (sv : Value) (w : World) (pre : List (Ck s.size)) (W : World) : Prop :=
  ((∃ A c, Boxed W (n0 + 1) 28 (.slice A pre.length c) ∧ Kd.S (Kd.slice 3 (Kd.int .i64)) 34 W n0 (fun _ => True) (.slice A pre.length c) (pre.map fun x => row4 s x.val)) ∧ W.heap[n0 + 1 + 1]? = some (.cells C 5 fr) ∧ Boxed W (n0 + 1 + 1 + 1) 24 sv ∧ Boxed W (n0 + 1 + 1 + 1 + 1) 3 (.int .i64 4)) ∧ Below n0 w W
theorem CutI_own (s : ByteArray) (n0 : Nat) (C : Array Value) (fr : Nat × Nat) (sv : Value) (w : World) (B : Nat) (hn : n0 ≤ w.heap.size) (hB : n0 ≤ B) : OwnFrom B (CutI s n0 C fr sv w) := by
  refine OwnFrom.and (Own.from ?_ _) (ownFrom_below hn hB)
  rintro pre X Y row ⟨⟨A, c, hb, hs⟩, hc, hb3, hb4⟩ hg hr
  exact ⟨⟨A, c, block_row_own hb hg hr, S_row_own hs hg hr⟩, block_row_own hc hg hr, block_row_own hb3 hg hr, block_row_own hb4 hg hr⟩
set_option maxRecDepth 100000 in
set_option maxHeartbeats 4000000 in
theorem TextCut_yes (s : ByteArray) (k : Nat) (w : World) (h : impl_TextOk.f k s = some true) (hs1 : 0 < s.size) (hs2 : s.size ≤ 14) (hlow : allLow s) :
    Calls Try.prog 17 #[.string s] w fun e w' => ∃ g c, e = .returned (.slice (some ⟨g, 0, none⟩) (chunks s.size) (chunks s.size)) ∧
      Kd.S (Kd.slice 3 (Kd.int .i64)) 34 w' w.heap.size (fun _ => True) (.slice (some ⟨g, 0, none⟩) (chunks s.size) c) (cutOf s) ∧ Below w.heap.size w w' := by
  refine (callsIn_wide (n := 5)).1 ?_
  refine callsIn_of_wp_marks Try.func17 rfl trivial ?_ rfl
  simp only [Try.ntmps17, List.size_toArray, List.length_cons, List.length_nil, Nat.reduceAdd, Nat.reduceSub, Array.replicate_succ, Array.replicate_zero, List.push_toArray, List.append_toArray, List.nil_append, List.cons_append]
  have hfT : Fence.wide.fn 39 := trivial
  have hfC : Fence.wide.fn 59 := trivial
  have hfI : Fence.wide.fn 92 := trivial
  have hfL : Fence.wide.fn 60 := trivial
  gi_wp2_with (gi_at_call 39; refine (callsIn_wide.2 (impl_TextOk.calls k s true _ h)).mono ?_; rintro e w' ⟨rfl, ⟨m1, rfl⟩⟩)
  have kb := fun W => print_bytes (P := Try.prog) 9 24 5 Try.underlying9 Try.underlying24 Try.underlying5 s W
  rw [kb]
  gi_wp2_with (gi_at_call 59; refine (chunk_in _ _ _ _ _).mono ?_; rintro e w' ⟨rfl, rfl⟩)
  obtain ⟨W, hW⟩ : ∃ W, W = ((w.drewN m1).alloc (Obj.cells #[] 34)).alloc (Obj.cells #[Value.slice (some { block := w.heap.size, off := 0 }) 0 0] 28) := ⟨_, rfl⟩
  have hWs : W.heap.size = w.heap.size + 1 + 1 := by rw [hW]; simp
  have hcap := grownCap_ge W s.size 0 5
  have hb0 : Boxed W (w.heap.size + 1) 28 (Value.slice (some { block := w.heap.size, off := 0 }) 0 0) := by
    have := Boxed.new ((w.drewN m1).alloc (Obj.cells #[] 34)) 28 (Value.slice (some { block := w.heap.size, off := 0 }) 0 0)
    rw [World.size_alloc] at this; rw [hW]; exact this
  have he0 : W.heap[w.heap.size]? = some (.cells #[] 34 (0, 0)) := by
    rw [hW]; exact blk_alloc (by simpa using blk_new (w.drewN m1) (Obj.cells #[] 34)) _
  have hB0 : Below w.heap.size w W := by rw [hW]; repeat (first | exact Below.refl _ _ | apply below_alloc | apply pw_below_drewN)
  rw [← hW]
  clear hW
  obtain ⟨C, fr, hC⟩ : ∃ (C : Array Value) (fr : Nat × Nat), (Lib.bytesWorld W 5 s).heap[W.heap.size]? = some (.cells C 5 fr) := ⟨_, _, Lib.bytesWorld_at_new W 5 s⟩
  have hCs : ∀ j, j < s.size → (Lib.bytesWorld W 5 s).cell? ⟨W.heap.size, j, none⟩ = some (.int .u8 (bt s j)) := fun j hj => by
    have := (bytes_reads W 5 s (by omega)).2.2 hs1
    obtain ⟨ad, e, h⟩ := this
    cases e
    have h2 := h j hj
    rw [chunk_add] at h2
    rw [h2]
    congr 2
    rw [← rd_bytesOf]
    rfl
  have hsz := Lib.bytesWorld_size W 5 s
  have hb1 : Boxed (Lib.bytesWorld W 5 s) (w.heap.size + 1) 28 (Value.slice (some { block := w.heap.size, off := 0 }) 0 0) := (Lib.bytesWorld_at_old W 5 s _ (by omega)).trans hb0
  have he1 : (Lib.bytesWorld W 5 s).heap[w.heap.size]? = some (.cells #[] 34 (0, 0)) := (Lib.bytesWorld_at_old W 5 s _ (by omega)).trans he0
  have hB1 : Below w.heap.size w (Lib.bytesWorld W 5 s) := bytes_below hB0 (by omega) _ s
  obtain ⟨V, hV⟩ : ∃ V, V = Lib.bytesWorld W 5 s := ⟨_, rfl⟩
  rw [← hV] at hC hCs hsz hb1 he1 hB1 ⊢
  obtain ⟨cp, hcp⟩ : ∃ cp, cp = grownCap W s.size 0 5 := ⟨_, rfl⟩
  rw [← hcp] at hcap ⊢
  rw [hsz, hWs]
  clear hV hcp hb0 he0 hB0
  obtain ⟨U, hU⟩ : ∃ U, U = (V.alloc (Obj.cells #[Value.slice (some { block := w.heap.size + 1 + 1, off := 0 }) s.size cp] 24)).alloc (Obj.cells #[Value.int IntKind.i64 4] 3) := ⟨_, rfl⟩
  rw [hWs] at hC hCs
  have hUs : U.heap.size = w.heap.size + 1 + 1 + 1 + 1 + 1 := by rw [hU]; simp; omega
  have hB2 : Below w.heap.size w U := by rw [hU]; exact below_alloc (below_alloc hB1 _) _
  have hb2 : Boxed U (w.heap.size + 1) 28 (Value.slice (some { block := w.heap.size, off := 0 }) 0 0) := by rw [hU]; exact (hb1.alloc _).alloc _
  have he2 : U.heap[w.heap.size]? = some (.cells #[] 34 (0, 0)) := by rw [hU]; exact blk_alloc (blk_alloc he1 _) _
  have hC2 : U.heap[w.heap.size + 1 + 1]? = some (.cells C 5 fr) := by rw [hU]; exact (Boxed_any (Boxed_any hC _) _)
  have hS3 : Boxed U (w.heap.size + 1 + 1 + 1) 24 (Value.slice (some { block := w.heap.size + 1 + 1, off := 0 }) s.size cp) := by
    have h1 := Boxed.new V 24 (Value.slice (some { block := w.heap.size + 1 + 1, off := 0 }) s.size cp)
    rw [hsz, hWs] at h1
    rw [hU]; exact h1.alloc _
  have hN3 : Boxed U (w.heap.size + 1 + 1 + 1 + 1) 3 (Value.int IntKind.i64 4) := by
    have h1 := Boxed.new (V.alloc (Obj.cells #[Value.slice (some { block := w.heap.size + 1 + 1, off := 0 }) s.size cp] 24)) 3 (Value.int IntKind.i64 4)
    rw [World.size_alloc, hsz, hWs] at h1
    rw [hU]; exact h1
  have hCc : ∀ j, j < s.size → ∃ u, C[j]? = some u ∧ u = .int .u8 (bt s j) := fun j hj => by
    have := hCs j hj
    rw [blk_cell_any hC] at this
    exact ⟨_, this, rfl⟩
  rw [← hU]
  clear hU hb1 he1 hB1 hC hCs hsz hWs
  refine wpIn_rangeFunc_ownG (n := 5) rfl (by omega) (gf := 92) (lb := #[.pointer (some ⟨w.heap.size + 1 + 1 + 1, 0, none⟩), .pointer (some ⟨w.heap.size + 1 + 1 + 1 + 1, 0, none⟩)]) rfl trivial (enters_of Try.func92 (by kernel_rfl) rfl)
    (chunk_stops 4 (by omega) (w.heap.size + 1 + 1 + 1) (w.heap.size + 1 + 1 + 1 + 1) (w.heap.size + 1 + 1) s.size cp (by omega) hs1 hcap U (by omega) (by omega) hS3.cell hN3.cell)
    KeepTwo.trans (fun W l o o' hl ho hn _ => ⟨World.putObj_heap_other (by omega), World.putObj_heap_other (by omega)⟩) (Below.refl _ _) (fun _ => rfl)
    (CutI s w.heap.size C fr (.slice (some ⟨w.heap.size + 1 + 1, 0, none⟩) s.size cp) w) (fun _ _ _ => False) (CutI_own s w.heap.size C fr (.slice (some ⟨w.heap.size + 1 + 1, 0, none⟩) s.size cp) w _ (Nat.le_refl _) (by omega)) (fun _ _ _ _ _ hs _ _ => hs)
    ⟨⟨⟨_, _, hb2, ?start⟩, hC2, hS3, hN3⟩, hB2⟩
    (fun x => { tmps := #[.string s, undef, .slice none 0 0, .pointer (some ⟨w.heap.size + 1, 0, none⟩), part (w.heap.size + 1 + 1) s.size x.val, undef, undef, undef, .string s, .bool true, .bool false, .slice (some ⟨w.heap.size, 0, none⟩) 0 0, .string s, .slice (some ⟨w.heap.size + 1 + 1, 0, none⟩) s.size cp, .func (.func 92) #[] #[.pointer (some ⟨w.heap.size + 1 + 1 + 1, 0, none⟩), .pointer (some ⟨w.heap.size + 1 + 1 + 1 + 1, 0, none⟩)], part (w.heap.size + 1 + 1) s.size x.val, undef, undef, undef, undef, undef, undef, undef, undef, undef, undef, undef, undef, undef, undef, undef, undef, undef, undef, undef, undef, undef, undef], defers := [] }) ?assign ?body ?done ?stop
  case start =>
    refine ⟨fun _ => 0, fun _ _ => trivial, [], ⟨rfl, .inr ⟨_, 0, #[], rfl, Nat.le_refl _, he2, Nat.le_refl _, by unfold maxLen; omega, rfl, rfl⟩⟩, ?_⟩
    exact Reps.none _ _
  case assign =>
    intro l x W K hK
    gi_wp2
    exact hK
  case body =>
    rintro l pre ⟨x, hx⟩ W ⟨⟨⟨A, c, hb, hs⟩, hc, hb3, hb4⟩, hB⟩ hlt
    obtain ⟨m, hm⟩ : ∃ m, m = min 4 (s.size - 4 * x) := ⟨_, rfl⟩
    have hm1 : 1 ≤ m := by omega
    have hm4 : m ≤ 4 := by omega
    have hmx : 4 * x + m ≤ s.size := by omega
    dsimp only [part]
    rw [← hm]
    have HM := Aside0.mk hm
    clear hm
    gi_wp2
    rw [make4]
    gi_wp2
    gi_loopw [19] (fun i wr => ∃ j : Nat, j ≤ m ∧ i = .int .i64 (j : Int) ∧ wr.heap[W.heap.size]? = some (.cells (rowAt s x j) 3 (0, 0)) ∧ Below W.heap.size W wr)
      (fun i _ => m - (intOf i).toNat)
    case atStart => exact ⟨0, by omega, rfl, by simpa [rowAt] using blk_new W _, below_alloc (Below.refl _ _) _⟩
    case round =>
      obtain ⟨j, hj, rfl, hrow, hWr⟩ := hrel
      by_cases hjm : j < m
      · have hsx : 4 * x + j < s.size := by omega
        obtain ⟨b, hbv⟩ : ∃ b, b = bt s ((4 * x + j : Nat) : Int) := ⟨_, rfl⟩
        have hlet : letter s (4 * x + j) = b - 96 := by unfold letter; rw [if_pos hsx, hbv]
        have hbr : 97 ≤ b ∧ b ≤ 122 := by rw [hbv]; exact hlow _ hsx
        have hbc : wr.cell? ⟨w.heap.size + 1 + 1, 4 * x + j, none⟩ = some (.int .u8 b) := by
          have h1 : wr.heap[w.heap.size + 1 + 1]? = some (.cells C 5 fr) := (hWr.block _ (Array.getElem?_eq_some_iff.1 hc).1).trans hc
          rw [blk_cell_any h1]
          obtain ⟨u, hu, he⟩ := hCc _ hsx
          rw [hu, he, hbv]
        have hrc : wr.cell? ⟨W.heap.size, j, none⟩ = (rowAt s x j)[j]? := blk_cell hrow j
        have hrc2 : ∃ u, (rowAt s x j)[j]? = some u := ⟨_, Array.getElem?_eq_getElem (by simp [rowAt]; omega)⟩
        obtain ⟨u, hu⟩ := hrc2
        rw [hu] at hrc
        have hrf : wr.frozen? ⟨W.heap.size, j, none⟩ = false := blk_frozen hrow j
        have hj4 : j < 4 := by omega
        clear hbv hlow hCc
        gi_wp2
        go_roundw
        case rel => exact ⟨j + 1, by omega, by simp, by
          rw [show (b - 97 + 1 : Int) = letter s (4 * x + j) by omega, ← rowAt_set s x j hj4]
          exact blk_put hrow j _ rfl, below_set hWr (Nat.le_refl _)⟩
        case measure => simp [intOf]; omega
      · obtain rfl : j = m := by omega
        have hbw : Boxed wr (w.heap.size + 1) 28 (.slice A pre.length c) := (hWr.block _ (Array.getElem?_eq_some_iff.1 hb).1).trans hb
        have hbc := hbw.cell
        have hsw := Kd.S_below hs hWr
        have hBw := below_step hB hWr
        have hlt4 : pre.length ≤ 4 := by unfold chunks at hlt; omega
        rw [rowAt_all s x j HM.out] at hrow
        have hown : wr.ownsRow w.heap.size 3 1 (.slice (some ⟨W.heap.size, 0, none⟩) 4 4) (row4 s x).length (encs (Value.int .i64) (row4 s x)) :=
          ⟨rfl, .inr ⟨_, 4, _, rfl, hB.size, hrow, Nat.le_refl _, by unfold maxLen; omega, rfl, rfl⟩⟩
        have hM : (Kd.slice 3 (Kd.int .i64)).M wr w.heap.size (fun k_ => k_ = W.heap.size) (row4 s x) [.slice (some ⟨W.heap.size, 0, none⟩) 4 4] :=
          Kd.M_row (Kd.R_of_own hown (fun k hk => by simpa [Value.ownBlock, eq_comm] using hk))
        have hSn : Kd.S (Kd.slice 3 (Kd.int .i64)) 34 wr w.heap.size (fun k_ => True ∧ ¬ k_ = W.heap.size) (.slice A pre.length c) (pre.map fun x => row4 s x.val) := by
          have h1 : Kd.S (Kd.slice 3 (Kd.int .i64)) 34 wr w.heap.size (fun k_ => k_ < W.heap.size) (.slice A pre.length c) (pre.map fun x => row4 s x.val) := Kd.S_below (Kd.S_mono (Kd.S_bound hs) (fun k hk => hk.2.2.1)) hWr
          exact Kd.S_mono h1 (fun k hk => ⟨trivial, by omega⟩)
        have hne : ∀ k, k = W.heap.size → True ∧ some k ≠ (Value.slice A pre.length c).ownBlock := fun k hk => ⟨trivial, fun he => by
          have := Kd.S_lt hs k he.symm
          omega⟩
        have hnb : ∀ g t cells fr', W.heap[g]? = some (.cells cells t fr') → t ≠ 34 → some g ≠ (Value.slice A pre.length c).ownBlock := fun g t cells fr' h ht he => by
          obtain ⟨cells', hc'⟩ := Kd.S_typed hs g he.symm
          rw [h] at hc'
          simp at hc'
          exact ht hc'.2.1
        gi_wp2_with (gi_at_builtin; refine S_append_in (Kd.slice 3 (Kd.int .i64)) (w0 := w) w.heap.size rfl (.tmp 32) (.tmp 34) 28 34 (.slice none 0 0) 24 rfl Try.underlying28 info34 rfl (by decide) (by omega) (.slice A pre.length c) (pre.map fun x => row4 s x.val) (row4 s x) [.slice (some ⟨W.heap.size, 0, none⟩) 4 4] (fun _ => True) (fun k_ => k_ = W.heap.size) rfl rfl hM hne (fun _ _ => trivial) hSn hBw hBw.size (by rw [List.length_map]; omega) ?_; intro v1 w1 ho1 hb1 hg1 hat1; obtain ⟨A1, c1, hv1⟩ := Kd.S_slice ho1; rw [List.length_append, List.length_map, List.length_singleton] at hv1; subst hv1; have hbx1 : Boxed w1 (w.heap.size + 1) 28 (.slice A pre.length c) := (hbw.alloc _).kept hg1 (hnb _ _ _ _ hb (by decide)); have hbc1 := hbx1.cell; have hbf1 := hbx1.frozen)
        have hrow_ : ∀ k, (Value.slice A pre.length c).ownBlock = some k → w.heap.size ≤ k := fun k hk => Kd.S_base hs k hk
        have hfar : ∀ g t cells fr', W.heap[g]? = some (.cells cells t fr') → t ≠ 34 → g ≠ w.heap.size + 1 → (w1.setCell { block := w.heap.size + 1, off := 0 } (Value.slice A1 (pre.length + 1) c1)).heap[g]? = some (.cells cells t fr') := fun g t cells fr' h ht hg => by
          have hlt' := (Array.getElem?_eq_some_iff.1 h).1
          rw [Below.heap_setCell _ _ _ _ hg, hg1.block g (by simp; have := hWr.size; omega) (hnb _ _ _ _ h ht), Below.heap_alloc _ _ _ (by have := hWr.size; omega), hWr.block g hlt']
          exact h
        have hko : KeepsOthers wr w1 := (KeepsOthers.alloc wr _).trans (KeepsOthers.of_grownBy hg1 (fun r o hr ho => by
          obtain ⟨cells', hc'⟩ := Kd.S_typed hsw r hr
          have hlt' := (Array.getElem?_eq_some_iff.1 hc').1
          rw [Below.heap_alloc _ _ _ hlt', hc'] at ho
          cases ho; rfl))
        refine ⟨(((keeps_of_below hWr).trans hko).trans (KeepsOthers.setCell _ _ _)).from _, ⟨?_, ?_⟩, ⟨⟨A1, c1, ?_, ?_⟩, ?_, ?_, ?_⟩, ?_⟩
        · rw [show W.heap[w.heap.size + 1 + 1 + 1]? = _ from hb3]; exact hfar _ _ _ _ hb3 (by decide) (by omega)
        · rw [show W.heap[w.heap.size + 1 + 1 + 1 + 1]? = _ from hb4]; exact hfar _ _ _ _ hb4 (by decide) (by omega)
        · rw [List.length_append]; exact hbx1.set _
        · rw [List.length_append, List.map_append]
          exact Kd.S_set ho1 hbx1 (by decide) _ _
        · exact hfar _ _ _ _ hc (by decide) (by omega)
        · exact hfar _ _ _ _ hb3 (by decide) (by omega)
        · exact hfar _ _ _ _ hb4 (by decide) (by omega)
        · exact below_set hb1 (by show _ ≤ w.heap.size + 1; omega)
  case done =>
    rintro D ys W hD rfl ⟨⟨⟨A, c, hb, hs⟩, hc, hb3, hb4⟩, hB⟩ hK
    have hbc := hb.cell
    have hlen := upto_length (n := s.size) (chunks s.size) (by unfold chunks; omega)
    rw [hlen] at hbc hs
    obtain ⟨g0, c0, hA, _⟩ := Kd.S_form hs (by rw [List.length_map, hlen]; unfold chunks; omega)
    simp only [Value.slice.injEq] at hA
    obtain ⟨rfl, -, rfl⟩ := hA
    obtain ⟨nc, hnc⟩ : ∃ nc, nc = chunks s.size := ⟨_, rfl⟩
    have hcap0 := (Kd.S_reads' hs).2.1
    rw [← hnc] at hbc hs hcap0
    have hnc4 : nc ≤ 4 := by rw [hnc]; unfold chunks; omega
    have HN := Aside0.mk hnc
    have HS := Aside0.mk hs
    clear hlen hnc hs
    gi_wp2_with (gi_at_call 60; refine (clip_in _ _ _ _ hcap0 (by omega) _).mono ?_; rintro e w' ⟨rfl, rfl⟩)
    refine ⟨by simp, .inl ⟨_, _, rfl, run_takeDeferred hK, ?_⟩⟩
    refine ⟨_, results_tmp rfl _ _ _, g0, c, by rw [HN.out]; rfl, ?_, ?_⟩
    · rw [← HN.out]
      have h1 := HS.out
      rw [upto_map _ (row4 s) _ (by rw [HN.out]; unfold chunks; omega)] at h1
      rw [show cutOf s = (List.range nc).map (row4 s) by rw [HN.out]; rfl]
      exact S_row_own h1 (grownBy_putObj' _ D (.deferred none)) (fun r e => by cases e; exact ⟨_, hK, rfl⟩)
    · exact hB.trans (belowK_b (w := w) (Nat.le_refl _) _ D _ _ (by omega) hK rfl rfl)
  case stop =>
    rintro D c pre W _ _ h _
    exact h.elim
end Go.Proofs.Ytbfkcfmhlanlnaa.K
