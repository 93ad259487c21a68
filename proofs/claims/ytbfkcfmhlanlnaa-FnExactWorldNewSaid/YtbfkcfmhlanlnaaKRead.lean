/- Arguments of any type, read: numbers, strings, bools, slices and structs of them, nested. -/
import Derived.Test.YtbfkcfmhlanlnaaKx0
import Derived.Deep.Slices
import Derived.OpenShut
import Derived.WideShapes
namespace Go.Proofs.Ytbfkcfmhlanlnaa.K
set_option linter.unusedVariables false
open Go.RowKit Go.ChangeShapes Go.WideShapes Go.Proofs.YtbfkcfmhlanlnaaW.PrintWords Go.Proofs.YtbfkcfmhlanlnaaW.PrintLast Go.Proofs.YtbfkcfmhlanlnaaW.PrintMore
section
variable {H : Type} {enc : TypeId × Value → H} {P : Program} {w : World} {spare : Nat → Bool} {held : Bool} {α β : Type}
/-- Cells of the type t are read as one of d's, of which Q holds. -/
def Rd (enc : TypeId × Value → H) (P : Program) (w : World) (spare : Nat → Bool) (held : Bool) (d : Kd α) (Q : α → Prop) (t : TypeId) : Prop :=
  P.cellsOf t = d.sz ∧ ∀ n cs x, DataW.trod enc P w 0 spare held n t cs = some x → ∃ a, d.K w a cs ∧ Q a
theorem Rd_int {t : TypeId} {k : IntKind} (ht : P.underlying t = some (.int k)) (hc : P.cellsOf t = 1) : Rd enc P w spare held (Kd.int k) (fun n => (Lit.int k n).wf = true) t :=
  ⟨hc, fun n cs x h => by
    obtain ⟨m, rfl, _, hw⟩ := DataW.trod_int ht h
    exact ⟨m, rfl, hw⟩⟩
theorem Rd_bool {t : TypeId} (ht : P.underlying t = some .bool) (hc : P.cellsOf t = 1) : Rd enc P w spare held Kd.bool (fun _ => True) t :=
  ⟨hc, fun n cs x h => by
    obtain ⟨m, rfl, _⟩ := DataW.trod_bool ht h
    exact ⟨m, rfl, trivial⟩⟩
theorem Rd_string {t : TypeId} (ht : P.underlying t = some .string) (hc : P.cellsOf t = 1) : Rd enc P w spare held Kd.string (fun s => s.size ≤ maxLen) t :=
  ⟨hc, fun n cs x h => by
    obtain ⟨m, rfl, _, hw⟩ := DataW.trod_string ht h
    exact ⟨m, rfl, hw⟩⟩
theorem list_of {p : Nat → α → Prop} : ∀ n, (∀ i, i < n → ∃ x, p i x) → ∃ xs : List α, xs.length = n ∧ ∀ i x, xs[i]? = some x → p i x
  | 0, _ => ⟨[], rfl, fun i x h => by simp at h⟩
  | n + 1, h => by
    obtain ⟨xs, hl, hx⟩ := list_of n (fun i hi => h i (by omega))
    obtain ⟨y, hy⟩ := h n (by omega)
    refine ⟨xs ++ [y], by rw [List.length_append, hl]; rfl, fun i x hi => ?_⟩
    by_cases c : i < n
    · rw [List.getElem?_append_left (by omega)] at hi
      exact hx i x hi
    · have hlt := (List.getElem?_eq_some_iff.1 hi).1
      rw [List.length_append, hl, List.length_singleton] at hlt
      have e : i = n := by omega
      subst e
      rw [List.getElem?_append_right (by omega), hl, Nat.sub_self] at hi
      simp at hi
      exact hi ▸ hy
theorem Rd_slice {t e : TypeId} {d : Kd α} {Q : α → Prop} (ht : P.underlying t = some (.slice e)) (hc : P.cellsOf t = 1) (h : Rd enc P w spare held d Q e) : Rd enc P w spare held (Kd.slice e d) (fun xs => xs.length ≤ maxLen ∧ ∀ x ∈ xs, Q x) t :=
  ⟨hc, fun n cs x hx => by
    rcases Deep.open_slice ht hx with ⟨rfl, _⟩ | ⟨a, len, cap, m, n', D, Pl, rfl, _, hl, hm, hmm, _, hel⟩
    · exact ⟨[], ⟨none, 0, rfl, Nat.le_refl _, rfl, by simp, fun h0 => absurd h0 (by simp)⟩, by simp, fun x hx => by simp at hx⟩
    · have hml : len ≤ m := by rw [hmm]; split <;> omega
      obtain ⟨xs, hxl, hxs⟩ := list_of (p := fun i (y : α) => ∃ cs', d.K w y cs' ∧ Q y ∧ cs'.length = d.sz ∧ ∀ j u, cs'[j]? = some u → w.cell? (a.add (i * d.sz + j)) = some u) len (fun i hi => by
        obtain ⟨cs', h1, h2⟩ := hel i (by omega)
        obtain ⟨y, hy, hq⟩ := h.2 _ _ _ h2
        obtain ⟨_, h4, h5⟩ := World.cells?_some h1
        refine ⟨y, cs', hy, hq, by rw [h4, h.1], fun j u hj => ?_⟩
        have hlt := (List.getElem?_eq_some_iff.1 hj).1
        have := h5 j (by omega)
        rw [Deep.add_add, h.1] at this
        rw [this, hj])
      refine ⟨xs, ⟨some a, cap, by rw [hxl], by omega, rfl, by rw [hxl]; unfold maxLen at hm; omega, fun _ => ⟨a, rfl, fun j p hj => ?_⟩⟩, by omega, fun x hx => ?_⟩
      · obtain ⟨cs', h1, _, h3, h4⟩ := hxs j p hj
        exact ⟨cs', h3, h1, h4⟩
      · obtain ⟨i, hi⟩ := List.getElem?_of_mem hx
        obtain ⟨_, _, hq, _⟩ := hxs i x hi
        exact hq⟩
theorem Rd_imp {t : TypeId} {d : Kd α} {Q Q' : α → Prop} (h : Rd enc P w spare held d Q t) (hq : ∀ a, Q a → Q' a) : Rd enc P w spare held d Q' t :=
  ⟨h.1, fun n cs x hx => by
    obtain ⟨a, ha, hb⟩ := h.2 n cs x hx
    exact ⟨a, ha, hq a hb⟩⟩
/-- The fields from a cell on. -/
def RdF (enc : TypeId × Value → H) (P : Program) (w : World) (spare : Nat → Bool) (held : Bool) (d : Kd α) (Q : α → Prop) (fs : List Field) (off : Nat) : Prop :=
  ∀ cs : List Value, cs.length = off + d.sz → (∀ (i : Nat) (f : Field), fs[i]? = some f → ∃ (n : Nat) (y : DataW H × List MemPlace), DataW.trod enc P w 0 spare held n f.type ((cs.drop f.offset).take (P.cellsOf f.type)) = some y) → ∃ a, d.K w a (cs.drop off) ∧ Q a
theorem RdF_one {d : Kd α} {Q : α → Prop} {f : Field} {off : Nat} (ho : f.offset = off) (h : Rd enc P w spare held d Q f.type) : RdF enc P w spare held d Q [f] off := fun cs hl hf => by
  obtain ⟨n, y, hy⟩ := hf 0 f rfl
  rw [ho, h.1, List.take_of_length_le (by rw [List.length_drop]; omega)] at hy
  exact h.2 _ _ _ hy
theorem RdF_cons {d : Kd α} {d' : Kd β} {Q : α → Prop} {Q' : β → Prop} {f : Field} {fs : List Field} {off : Nat} (ho : f.offset = off) (h : Rd enc P w spare held d Q f.type) (h' : RdF enc P w spare held d' Q' fs (off + d.sz)) :
    RdF enc P w spare held (Kd.pair d d') (fun x => Q x.1 ∧ Q' x.2) (f :: fs) off := fun cs hl hf => by
  have hs : (Kd.pair d d').sz = d.sz + d'.sz := rfl
  obtain ⟨n, y, hy⟩ := hf 0 f rfl
  rw [ho, h.1] at hy
  obtain ⟨a, ha, hq⟩ := h.2 _ _ _ hy
  obtain ⟨b, hb, hq'⟩ := h' cs (by omega) (fun i g hg => hf (i + 1) g hg)
  exact ⟨(a, b), ⟨_, _, by rw [← List.drop_drop, List.take_append_drop], ha, hb⟩, hq, hq'⟩
theorem Rd_struct {t : TypeId} {d : Kd α} {Q : α → Prop} {fs : Array Field} {F : β → α} {G : α → β} (ht : P.underlying t = some (.struct fs)) (hc : P.cellsOf t = d.sz) (hG : ∀ a, F (G a) = a) (h : RdF enc P w spare held d Q fs.toList 0) : Rd enc P w spare held (Kd.iso d F) (fun x => Q (F x)) t :=
  ⟨hc, fun n cs x hx => by
    obtain ⟨xs, n', _, _, hl, hlen, hf⟩ := DataW.trod_struct ht hx
    obtain ⟨a, ha, hq⟩ := h cs (by rw [hl, hc]; omega) (fun i f hi => by
      rw [Array.getElem?_toList] at hi
      have h1 := hf i f hi
      have hlt : i < xs.length := by rw [hlen]; exact (Array.getElem?_eq_some_iff.1 hi).1
      rw [List.getElem?_eq_getElem hlt] at h1
      exact ⟨_, _, h1⟩)
    exact ⟨G a, by show d.K w (F (G a)) cs; rw [hG]; exact ha, by show Q (F (G a)); rw [hG]; exact hq⟩⟩
theorem read_slice {r : Reach} {b0 : Nat} {t e : TypeId} {d : Kd α} {Q : List α → Prop} {v : Value} {D : DataW H} {p : List MemPlace} (ht : P.underlying t = some (.slice e)) (hv : Value.okWide P w r b0 t v) (h : DataW.Trod enc P w 0 spare held t v D p) (R : Rd enc P w spare held (Kd.slice e d) Q t) :
    ∃ (A : Option Addr) (c : Nat) (xs : List α), v = .slice A xs.length c ∧ xs.length ≤ c ∧ d.C w A xs.length xs ∧ Q xs := by
  obtain ⟨a, len, cap, rfl⟩ := okWide_slice ht hv
  obtain ⟨fuel, hf⟩ := h
  obtain ⟨xs, ⟨A, c, he, hl, hC⟩, hq⟩ := R.2 _ _ _ hf
  simp only [Value.cells, List.cons.injEq, and_true] at he
  exact ⟨A, c, xs, he, hl, hC, hq⟩
theorem read_struct {r : Reach} {b0 : Nat} {t : TypeId} {d : Kd α} {Q : α → Prop} {fs : Array Field} {v : Value} {D : DataW H} {p : List MemPlace} (ht : P.underlying t = some (.struct fs)) (hv : Value.okWide P w r b0 t v) (h : DataW.Trod enc P w 0 spare held t v D p) (R : Rd enc P w spare held d Q t) :
    ∃ (cs : List Value) (x : α), v = .agg cs.toArray ∧ d.K w x cs ∧ Q x := by
  obtain ⟨cs, rfl, _⟩ := okWide_struct ht hv
  obtain ⟨fuel, hf⟩ := h
  obtain ⟨x, hx, hq⟩ := R.2 _ _ _ hf
  exact ⟨cs.toList, x, rfl, hx, hq⟩
end
end Go.Proofs.Ytbfkcfmhlanlnaa.K
