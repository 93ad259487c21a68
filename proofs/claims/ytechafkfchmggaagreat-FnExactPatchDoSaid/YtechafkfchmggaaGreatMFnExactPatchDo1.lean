/- Part 1 of the proof of the statement FnExactPatchDo; the last part states it. No condition. -/
import Derived.Deep.Slices
import Derived.OpenShut
import Derived.WideShapes
import Derived.Test.YtechafkfchmggaaGreatRows
import Derived.WalkKit
import Derived.ProofKit
import Derived.ShutString
import Derived.ChangeOld
import Derived.Below
import Derived.SizedLaws
import Derived.Test.YtechafkfchmggaaGreatMGC2
import Derived.Test.YtechafkfchmggaaGreatMGC3
import Derived.Test.YtechafkfchmggaaGreatMGC4
import Derived.Test.YtechafkfchmggaaGreatMGC20
section
set_option linter.unusedVariables false
set_option linter.unusedSimpArgs false
namespace Go.Proofs.YtechafkfchmggaaGreat.E
open Go Go.RowKit Go.ChangeShapes Go.WideShapes
set_option linter.unusedVariables false
section
variable {H : Type} {enc : TypeId × Value → H} {P : Program} {w : World} {spare : Nat → Bool} {held : Bool}
abbrev V0 (w : World) : View := viewOf ⟨w, fun _ => True, 0, fun _ => none⟩ w (fun _ => none) (fun _ => none)
theorem V0_m (w : World) : ∀ b c, cellsAt w b c → (V0 w).m b c := mem_start (h := fun _ => none) fun _ => rfl
def Rd (enc : TypeId × Value → H) (P : Program) (w : World) (spare : Nat → Bool) (held : Bool) (T : Ty) (Q : T.den → Prop) (t : TypeId) : Prop :=
  P.cellsOf t = T.size ∧ ∀ n cs x, DataW.trod enc P w 0 spare held n t cs = some x → ∃ a : T.den, Has (V0 w).m T a cs ∧ Q a
theorem Rd_int {t : TypeId} {k : IntKind} (ht : P.underlying t = some (.int k)) (hc : P.cellsOf t = 1) : Rd enc P w spare held (.int k) (fun n => (Lit.int k n).wf = true) t :=
  ⟨hc, fun n cs x h => by
    obtain ⟨m, rfl, _, hw⟩ := DataW.trod_int ht h
    exact ⟨m, rfl, hw⟩⟩
theorem Rd_bool {t : TypeId} (ht : P.underlying t = some .bool) (hc : P.cellsOf t = 1) : Rd enc P w spare held .bool (fun _ => True) t :=
  ⟨hc, fun n cs x h => by
    obtain ⟨m, rfl, _⟩ := DataW.trod_bool ht h
    exact ⟨m, rfl, trivial⟩⟩
theorem list_of {α : Type} {p : Nat → α → Prop} : ∀ n, (∀ i, i < n → ∃ x, p i x) → ∃ xs : List α, xs.length = n ∧ ∀ i x, xs[i]? = some x → p i x
  | 0, _ => ⟨[], rfl, fun i x h => by simp at h⟩
  | n + 1, h => by
    obtain ⟨xs, hl, hx⟩ := list_of n (fun i hi => h i (by omega))
    obtain ⟨y, hy⟩ := h n (by omega)
    refine ⟨xs ++ [y], by rw [List.length_append, hl]; rfl, fun i x hi => ?_⟩
    by_cases c : i < n
    · rw [List.getElem?_append_left (by omega)] at hi
      exact hx i x hi
    · have hlt := (List.getElem?_eq_some_iff.1 hi).1
      rw [List.length_append, hl, List.length_singleton] at hlt
      have e : i = n := by omega
      subst e
      rw [List.getElem?_append_right (by omega), hl, Nat.sub_self] at hi
      simp at hi
      exact hi ▸ hy
theorem block_take {c : Array Value} {o n : Nat} {cs : List Value} (hl : cs.length = n) (h : ∀ j, j < n → c[o + j]? = cs[j]?) : (c.toList.drop o).take n = cs := by
  refine List.ext_getElem? fun j => ?_
  by_cases hj : j < n
  · rw [List.getElem?_take_of_lt hj, List.getElem?_drop, Array.getElem?_toList, h j hj]
  · rw [List.getElem?_eq_none (by rw [List.length_take]; omega), List.getElem?_eq_none (by omega)]
theorem Rd_slice {t e : TypeId} {T : Ty} {Q : T.den → Prop} (ht : P.underlying t = some (.slice e)) (hc : P.cellsOf t = 1) (hz : 0 < T.size) (h : Rd enc P w spare held T Q e) : Rd enc P w spare held (.sl T) (fun xs : List T.den => List.length xs ≤ maxLen ∧ ∀ x ∈ xs, Q x) t :=
  ⟨hc, fun n cs x hx => by
    rcases Deep.open_slice ht hx with ⟨rfl, _⟩ | ⟨a, len, cap, m, n', D, Pl, rfl, _, hl, hm, hmm, _, hel⟩
    · exact ⟨[], ⟨none, 0, rfl, Nat.le_refl _, .inl rfl⟩, by simp, fun x hx => by simp at hx⟩
    · have hml : len ≤ m := by rw [hmm]; split <;> omega
      obtain ⟨xs, hxl, hxs⟩ := list_of (p := fun i (y : T.den) => ∃ cs', Has (V0 w).m T y cs' ∧ Q y ∧ cs'.length = T.size ∧ ∀ j, j < T.size → w.cell? (a.add (i * T.size + j)) = cs'[j]?) len (fun i hi => by
        obtain ⟨cs', h1, h2⟩ := hel i (by omega)
        obtain ⟨y, hy, hq⟩ := h.2 _ _ _ h2
        obtain ⟨_, h4, h5⟩ := World.cells?_some h1
        refine ⟨y, cs', hy, hq, by rw [h4, h.1], fun j hj => ?_⟩
        have := h5 j (by rw [h.1]; exact hj)
        rw [Deep.add_add, h.1] at this
        exact this)
      refine ⟨xs, ⟨some a, cap, ?_, ?_, ?_⟩, by omega, fun x hx => ?_⟩
      · show _ = [Value.slice (some a) xs.length cap]
        rw [hxl]
      · show xs.length ≤ cap
        omega
      · rcases Nat.eq_zero_or_pos len with h0 | h0
        · left; show xs.length = 0; omega
        · right
          have x0 : xs[0]? = some xs[0] := List.getElem?_eq_getElem (by omega)
          obtain ⟨cs', _, _, k3, k4⟩ := hxs 0 _ x0
          have k5 := k4 0 hz
          rw [Nat.zero_mul, Nat.zero_add, List.getElem?_eq_getElem (by omega)] at k5
          have ha0 : a.add 0 = a := by simp [Addr.add]
          obtain ⟨c, e', fz, hcb, hsp, _⟩ := cell_block k5
          rw [ha0] at hcb hsp
          refine ⟨a.block, a.off, c, by rw [← hsp], V0_m w _ _ ⟨e', fz, hcb⟩, fun i y hy => ?_⟩
          obtain ⟨cs', q1, _, q3, q4⟩ := hxs i y hy
          rw [block_take (cs := cs') q3 fun j hj => ?_]
          · exact q1
          · have q5 := q4 j hj
            rw [List.getElem?_eq_getElem (by omega)] at q5 ⊢
            obtain ⟨c2, e2, fz2, hc2, _, hv⟩ := cell_block q5
            have hb : (a.add (i * T.size + j)).block = a.block ∧ (a.add (i * T.size + j)).off = a.off + (i * T.size + j) := by unfold Addr.add; split <;> simp_all
            rw [hb.1, hcb] at hc2
            obtain ⟨rfl, _, _⟩ := by simpa using hc2
            rw [hb.2, ← Nat.add_assoc] at hv
            exact hv
      · obtain ⟨i, hi⟩ := List.getElem?_of_mem hx
        obtain ⟨_, _, hq, _⟩ := hxs i x hi
        exact hq⟩
def RdF (enc : TypeId × Value → H) (P : Program) (w : World) (spare : Nat → Bool) (held : Bool) (T : Ty) (Q : T.den → Prop) (fs : List Field) (off : Nat) : Prop :=
  ∀ cs : List Value, cs.length = off + T.size → (∀ (i : Nat) (f : Field), fs[i]? = some f → ∃ (n : Nat) (y : DataW H × List MemPlace), DataW.trod enc P w 0 spare held n f.type ((cs.drop f.offset).take (P.cellsOf f.type)) = some y) → ∃ a : T.den, Has (V0 w).m T a (cs.drop off) ∧ Q a
theorem RdF_nil {off : Nat} : RdF enc P w spare held .unit (fun _ => True) [] off := fun cs hl _ => ⟨(), List.drop_of_length_le (by rw [hl]; exact Nat.le_refl _), trivial⟩
theorem RdF_cons {A B : Ty} {Q : A.den → Prop} {Q' : B.den → Prop} {f : Field} {fs : List Field} {off : Nat} (ho : f.offset = off) (h : Rd enc P w spare held A Q f.type) (h' : RdF enc P w spare held B Q' fs (off + A.size)) :
    RdF enc P w spare held (.pair A B) (fun x : A.den × B.den => Q x.1 ∧ Q' x.2) (f :: fs) off := fun cs hl hf => by
  have hs : (Ty.pair A B).size = A.size + B.size := rfl
  obtain ⟨n, y, hy⟩ := hf 0 f rfl
  rw [ho, h.1] at hy
  obtain ⟨a, ha, hq⟩ := h.2 _ _ _ hy
  obtain ⟨b, hb, hq'⟩ := h' cs (by omega) (fun i g hg => hf (i + 1) g hg)
  exact ⟨(a, b), ⟨_, _, by rw [← List.drop_drop, List.take_append_drop], ha, hb⟩, hq, hq'⟩
theorem fields {t : TypeId} {fs : Array Field} {n : Nat} {cs : List Value} {x : DataW H × List MemPlace} (ht : P.underlying t = some (.struct fs)) (hx : DataW.trod enc P w 0 spare held n t cs = some x) :
    cs.length = P.cellsOf t ∧ ∀ (i : Nat) (f : Field), fs.toList[i]? = some f → ∃ (n : Nat) (y : DataW H × List MemPlace), DataW.trod enc P w 0 spare held n f.type ((cs.drop f.offset).take (P.cellsOf f.type)) = some y := by
  obtain ⟨xs, n', _, _, hl, hlen, hf⟩ := DataW.trod_struct ht hx
  refine ⟨hl, fun i f hi => ?_⟩
  rw [Array.getElem?_toList] at hi
  have h1 := hf i f hi
  have hlt : i < xs.length := by rw [hlen]; exact (Array.getElem?_eq_some_iff.1 hi).1
  rw [List.getElem?_eq_getElem hlt] at h1
  exact ⟨_, _, h1⟩
theorem Rd_struct {t : TypeId} {T : Ty} {Q : T.den → Prop} {fs : Array Field} (ht : P.underlying t = some (.struct fs)) (hc : P.cellsOf t = T.size) (h : RdF enc P w spare held T Q fs.toList 0) : Rd enc P w spare held T Q t :=
  ⟨hc, fun n cs x hx => by
    obtain ⟨hl, hf⟩ := fields ht hx
    exact h cs (by rw [hl, hc]; omega) hf⟩
def RdG (enc : TypeId × Value → H) (P : Program) (w : World) (spare : Nat → Bool) (held : Bool) (as_ : List AS) (Q : denA as_ → Prop) (fs : List Field) (off n : Nat) : Prop :=
  ∀ cs : List Value, cs.length = n → (∀ (i : Nat) (f : Field), fs[i]? = some f → ∃ (n : Nat) (y : DataW H × List MemPlace), DataW.trod enc P w 0 spare held n f.type ((cs.drop f.offset).take (P.cellsOf f.type)) = some y) → ∃ a : denA as_, AtomsR (V0 w) (mkA id as_ a) (cs.drop off) ∧ Q a
theorem RdG_nil {off n : Nat} (h : n ≤ off) : RdG enc P w spare held [] (fun _ => True) [] off n := fun cs hl _ => ⟨(), List.drop_of_length_le (by omega), trivial⟩
theorem RdG_cons {A : Ty} {as_ : List AS} {Q : A.den → Prop} {Q' : denA as_ → Prop} {f : Field} {fs : List Field} {off n : Nat} (ho : f.offset = off) (h : Rd enc P w spare held A Q f.type) (h' : RdG enc P w spare held as_ Q' fs (off + A.size) n) :
    RdG enc P w spare held (.val A false :: as_) (fun x : A.den × denA as_ => Q x.1 ∧ Q' x.2) (f :: fs) off n := fun cs hl hf => by
  obtain ⟨n', y, hy⟩ := hf 0 f rfl
  rw [ho, h.1] at hy
  obtain ⟨a, ha, hq⟩ := h.2 _ _ _ hy
  obtain ⟨b, hb, hq'⟩ := h' cs hl (fun i g hg => hf (i + 1) g hg)
  refine ⟨(a, b), ?_, hq, hq'⟩
  have := AtomsR.append (atomsOf_R (V0 w) false A a _ ha) hb
  rw [← List.drop_drop, List.take_append_drop] at this
  exact this
theorem arg_struct {r : Reach} {b0 : Nat} {t : TypeId} {as_ : List AS} {Q : denA as_ → Prop} {fs : Array Field} {v : Value} {D : DataW H} {p : List MemPlace} (ht : P.underlying t = some (.struct fs)) (hv : Value.okWide P w r b0 t v) (h : DataW.Trod enc P w 0 spare held t v D p) (R : RdG enc P w spare held as_ Q fs.toList 0 (P.cellsOf t)) :
    ∃ x : denA as_, V1R (V0 w) (.agg (mkA id as_ x)) v ∧ Q x := by
  obtain ⟨cs, rfl, _⟩ := okWide_struct ht hv
  obtain ⟨fuel, hf⟩ := h
  obtain ⟨hl, hf⟩ := fields ht hf
  obtain ⟨x, h1, h2⟩ := R _ hl hf
  exact ⟨x, ⟨cs.toList, rfl, h1⟩, h2⟩
theorem arg_slice {r : Reach} {b0 : Nat} {t e : TypeId} {T : Ty} {Q : List T.den → Prop} {v : Value} {D : DataW H} {p : List MemPlace} (ht : P.underlying t = some (.slice e)) (hv : Value.okWide P w r b0 t v) (h : DataW.Trod enc P w 0 spare held t v D p) (R : Rd enc P w spare held (.sl T) Q t) :
    ∃ xs : List T.den, V1R (V0 w) (.one (.ro T false xs)) v ∧ Q xs := by
  obtain ⟨a, len, cap, rfl⟩ := okWide_slice ht hv
  obtain ⟨fuel, hf⟩ := h
  obtain ⟨xs, h1, h2⟩ := R.2 _ _ _ hf
  exact ⟨xs, ⟨rfl, h1, trivial⟩, h2⟩
theorem arg_int {r : Reach} {b0 : Nat} {t : TypeId} {k : IntKind} {v : Value} {D : DataW H} {p : List MemPlace} (ht : P.underlying t = some (.int k)) (hv : Value.okWide P w r b0 t v) (h : DataW.Trod enc P w 0 spare held t v D p) :
    ∃ n : Int, V1R (V0 w) (.one (.int k n)) v ∧ (Lit.int k n).wf = true := by
  obtain ⟨n, rfl⟩ := okWide_int ht hv
  obtain ⟨fuel, hf⟩ := h
  obtain ⟨m, e, _, hw⟩ := DataW.trod_int ht hf
  simp only [Value.cells, List.cons.injEq, and_true, Value.int.injEq, true_and] at e
  subst e
  exact ⟨n, ⟨rfl, rfl, trivial⟩, hw⟩
theorem arg_bool {r : Reach} {b0 : Nat} {t : TypeId} {v : Value} {D : DataW H} {p : List MemPlace} (ht : P.underlying t = some .bool) (hv : Value.okWide P w r b0 t v) (h : DataW.Trod enc P w 0 spare held t v D p) :
    ∃ b : Bool, V1R (V0 w) (.one (.bool b)) v := by
  obtain ⟨b, rfl⟩ := okWide_bool ht hv
  exact ⟨b, ⟨rfl, rfl, trivial⟩⟩
theorem law_any {f : Nat} {vals : List VS} {F : {β : Type} → (Sig.mk [] vals).den → ((Sig.mk [] [.one (.val .bool false)]).den → Option β) → Option β} (hO : OracOk P ⟨f, ⟨[], vals⟩, ⟨[], [.one (.val .bool false)]⟩, F⟩) {s : denV vals}
    (h : F ((), s) some = some ((), (true, ()))) {args : List Value} (hv : V1sR (V0 w) (mkV id vals s) args) : Calls P f args.toArray w fun e w' => e = .returned (.bool true) ∧ Below w.heap.size w w' := by
  refine law_of hO rfl h ?_ (fun V v => res_bool V v)
  have hh : hOf (Sig.mk [] vals) ((), s) = fun _ => none := funext fun j => by rw [hOf_eq]; rfl
  rw [hh]
  exact hv
end
end Go.Proofs.YtechafkfchmggaaGreat.E
end
section
set_option linter.unusedVariables false
set_option linter.unusedSimpArgs false
namespace Go.Proofs.YtechafkfchmggaaGreat.E
open Go Go.RowKit
set_option linter.unusedVariables false
set_option maxRecDepth 100000
namespace laws_eqBoolS
def sin : Sig := ⟨[], [.one (.val (.sl .bool) false), .one (.val (.sl .bool) false)]⟩
def sout : Sig := ⟨[], [.one (.val .bool false)]⟩
def h4 : SS := ⟨[0, 1, 5], ⟨[], [.one (.val (.sl .bool) false), .one (.val (.sl .bool) false), .one (.val I false)]⟩⟩
def x4 : SS := ⟨[], ⟨[], []⟩⟩
def y4 : SS := ⟨[4], ⟨[], [.one (.val .bool false)]⟩⟩
noncomputable def b4 {β : Type} (S : Sl) (L : (List Bool) → (List Bool) → Int → Option β) (kx : Option β) (kr : Bool → Option β) (s0 : (List Bool)) (s1 : (List Bool)) (s2 : Int) : Option β := bif (S.lt s2 (s0.length : Int)) then (bif (S.ir s2 s0.length) then (bif (S.ir s2 s1.length) then (bif ((List.getD s0 (Int.toNat s2) false) != (List.getD s1 (Int.toNat s2) false)) then (kr false) else (L s0 s1 (S.w (s2 + 1)))) else (none)) else (none)) else (kx)
noncomputable def r4 {β : Type} (S : Sl) (n : Nat) (kx : x4.sig.den → Option β) (kr : y4.sig.den → Option β) (s : h4.sig.den) : Option β := rounds (fun L kx kr s => b4 S (fun x0 x1 x2 => L ((), (x0, (x1, (x2, ()))))) (kx ((), ())) (fun x0 => kr ((), (x0, ()))) s.2.1 s.2.2.1 s.2.2.2.1) kx kr n s
noncomputable def l4 {β : Type} (S : Sl) (n : Nat) (kx : Option β) (kr : Bool → Option β) (s0 : (List Bool)) (s1 : (List Bool)) (s2 : Int) : Option β := r4 S n (fun s => kx) (fun s => kr s.2.1) ((), (s0, (s1, (s2, ()))))
theorem t4 {β : Type} (S : Sl) (n : Nat) (kx : Option β) (kr : Bool → Option β) (s0 : (List Bool)) (s1 : (List Bool)) (s2 : Int) : l4 S (n + 1) kx kr s0 s1 s2 = b4 S (l4 S n kx kr) kx kr s0 s1 s2 := by kernel_rfl
noncomputable def G {β : Type} (S : Sl) (a0 : (List Bool)) (a1 : (List Bool)) (K : Bool → Option β) : Option β := bif (!S.eq (a0.length : Int) (a1.length : Int)) then (K false) else (l4 S S.n (K true) (fun y1 => K y1) a0 a1 0)
noncomputable def o : Orac := ⟨28, sin, sout, fun s K => G sl0 s.2.1 s.2.2.1 (fun x0 => K ((), (x0, ())))⟩
noncomputable def C : Ctx := ⟨tyT, [], [⟨4, 0, h4, x4, y4, fun s kx kr => r4 sl0 sl0.n kx kr s⟩], 26, 0⟩
theorem ctx : CtxOk Tryz.prog C := ⟨tyOk, all0⟩
theorem e4 (β : Type) (L : h4.sig.den → Option β) (kx : x4.sig.den → Option β) (kr : y4.sig.den → Option β) (s : h4.sig.den) : evalBody C (nthC (loopsOf (bodyC Tryz.f28)) 0) 0 h4 x4 y4 L kx kr s = b4 sl0 (fun x0 x1 x2 => L ((), (x0, (x1, (x2, ()))))) (kx ((), ())) (fun x0 => kr ((), (x0, ()))) s.2.1 s.2.2.1 s.2.2.2.1 := by kernel_rfl
theorem g4 : LS Tryz.prog C ⟨4, 0, h4, x4, y4, fun s kx kr => r4 sl0 sl0.n kx kr s⟩ (loopsOf (bodyC Tryz.f28)) := LS.at (i := 0) (by kernel_rfl) (loop_good mixed ctx (ctx_nat ctx) (N := sl0.n) (fun _ _ _ _ => rfl) e4 (all1 (LS.none (by kernel_rfl)) (all0)))
theorem eG (β : Type) (s : sin.den) (K : sout.den → Option β) : evalFn C Tryz.f28 sin sout s K = o.F s K := by kernel_rfl
theorem ok : OracOk Tryz.prog o := fn_ok mixed Tryz.func28 (by kernel_rfl) ctx (c := bodyC Tryz.f28) (by kernel_rfl) (all1 g4 (all0)) (by kernel_rfl) (by kernel_rfl) (by kernel_rfl) (Nat.le_of_ble_eq_true (by kernel_rfl)) eG (by kernel_rfl) (Nat.le_of_ble_eq_true (by kernel_rfl))
end laws_eqBoolS
end Go.Proofs.YtechafkfchmggaaGreat.E
end
section
set_option linter.unusedVariables false
set_option linter.unusedSimpArgs false
namespace Go.Proofs.YtechafkfchmggaaGreat.E
open Go Go.RowKit
set_option linter.unusedVariables false
set_option maxRecDepth 100000
namespace laws_eqIntS
def sin : Sig := ⟨[], [.one (.val (.sl I) false), .one (.val (.sl I) false)]⟩
def sout : Sig := ⟨[], [.one (.val .bool false)]⟩
def h4 : SS := ⟨[0, 1, 5], ⟨[], [.one (.val (.sl I) false), .one (.val (.sl I) false), .one (.val I false)]⟩⟩
def x4 : SS := ⟨[], ⟨[], []⟩⟩
def y4 : SS := ⟨[4], ⟨[], [.one (.val .bool false)]⟩⟩
noncomputable def b4 {β : Type} (S : Sl) (L : (List Int) → (List Int) → Int → Option β) (kx : Option β) (kr : Bool → Option β) (s0 : (List Int)) (s1 : (List Int)) (s2 : Int) : Option β := bif (S.lt s2 (s0.length : Int)) then (bif (S.ir s2 s0.length) then (bif (S.ir s2 s1.length) then (bif (!S.eq (List.getD s0 (Int.toNat s2) 0) (List.getD s1 (Int.toNat s2) 0)) then (kr false) else (L s0 s1 (S.w (s2 + 1)))) else (none)) else (none)) else (kx)
noncomputable def r4 {β : Type} (S : Sl) (n : Nat) (kx : x4.sig.den → Option β) (kr : y4.sig.den → Option β) (s : h4.sig.den) : Option β := rounds (fun L kx kr s => b4 S (fun x0 x1 x2 => L ((), (x0, (x1, (x2, ()))))) (kx ((), ())) (fun x0 => kr ((), (x0, ()))) s.2.1 s.2.2.1 s.2.2.2.1) kx kr n s
noncomputable def l4 {β : Type} (S : Sl) (n : Nat) (kx : Option β) (kr : Bool → Option β) (s0 : (List Int)) (s1 : (List Int)) (s2 : Int) : Option β := r4 S n (fun s => kx) (fun s => kr s.2.1) ((), (s0, (s1, (s2, ()))))
theorem t4 {β : Type} (S : Sl) (n : Nat) (kx : Option β) (kr : Bool → Option β) (s0 : (List Int)) (s1 : (List Int)) (s2 : Int) : l4 S (n + 1) kx kr s0 s1 s2 = b4 S (l4 S n kx kr) kx kr s0 s1 s2 := by kernel_rfl
noncomputable def G {β : Type} (S : Sl) (a0 : (List Int)) (a1 : (List Int)) (K : Bool → Option β) : Option β := bif (!S.eq (a0.length : Int) (a1.length : Int)) then (K false) else (l4 S S.n (K true) (fun y1 => K y1) a0 a1 0)
noncomputable def o : Orac := ⟨27, sin, sout, fun s K => G sl0 s.2.1 s.2.2.1 (fun x0 => K ((), (x0, ())))⟩
noncomputable def C : Ctx := ⟨tyT, [], [⟨4, 0, h4, x4, y4, fun s kx kr => r4 sl0 sl0.n kx kr s⟩], 26, 0⟩
theorem ctx : CtxOk Tryz.prog C := ⟨tyOk, all0⟩
theorem e4 (β : Type) (L : h4.sig.den → Option β) (kx : x4.sig.den → Option β) (kr : y4.sig.den → Option β) (s : h4.sig.den) : evalBody C (nthC (loopsOf (bodyC Tryz.f27)) 0) 0 h4 x4 y4 L kx kr s = b4 sl0 (fun x0 x1 x2 => L ((), (x0, (x1, (x2, ()))))) (kx ((), ())) (fun x0 => kr ((), (x0, ()))) s.2.1 s.2.2.1 s.2.2.2.1 := by kernel_rfl
theorem g4 : LS Tryz.prog C ⟨4, 0, h4, x4, y4, fun s kx kr => r4 sl0 sl0.n kx kr s⟩ (loopsOf (bodyC Tryz.f27)) := LS.at (i := 0) (by kernel_rfl) (loop_good mixed ctx (ctx_nat ctx) (N := sl0.n) (fun _ _ _ _ => rfl) e4 (all1 (LS.none (by kernel_rfl)) (all0)))
theorem eG (β : Type) (s : sin.den) (K : sout.den → Option β) : evalFn C Tryz.f27 sin sout s K = o.F s K := by kernel_rfl
theorem ok : OracOk Tryz.prog o := fn_ok mixed Tryz.func27 (by kernel_rfl) ctx (c := bodyC Tryz.f27) (by kernel_rfl) (all1 g4 (all0)) (by kernel_rfl) (by kernel_rfl) (by kernel_rfl) (Nat.le_of_ble_eq_true (by kernel_rfl)) eG (by kernel_rfl) (Nat.le_of_ble_eq_true (by kernel_rfl))
end laws_eqIntS
end Go.Proofs.YtechafkfchmggaaGreat.E
end
section
set_option linter.unusedVariables false
set_option linter.unusedSimpArgs false
namespace Go.Proofs.YtechafkfchmggaaGreat.E
open Go Go.RowKit
set_option linter.unusedVariables false
set_option maxRecDepth 100000
namespace laws_eqStripe
def sin : Sig := ⟨[], [.agg [.val I false, .val (.sl I) false, .val (.sl I) false, .val (.sl .bool) false], .agg [.val I false, .val (.sl I) false, .val (.sl I) false, .val (.sl .bool) false]]⟩
def sout : Sig := ⟨[], [.one (.val .bool false)]⟩
noncomputable def G {β : Type} (S : Sl) (a0 : Int) (a1 : (List Int)) (a2 : (List Int)) (a3 : (List Bool)) (a4 : Int) (a5 : (List Int)) (a6 : (List Int)) (a7 : (List Bool)) (K : Bool → Option β) : Option β := bif (!S.eq a0 a4) then (K false) else (laws_eqIntS.G S a1 a5 (fun y1 => bif (!y1) then (K false) else (laws_eqIntS.G S a2 a6 (fun y2 => bif (!y2) then (K false) else (laws_eqBoolS.G S a3 a7 (fun y3 => bif (!y3) then (K false) else (K true)))))))
noncomputable def o : Orac := ⟨26, sin, sout, fun s K => G sl0 s.2.1.1 s.2.1.2.1 s.2.1.2.2.1 s.2.1.2.2.2.1 s.2.2.1.1 s.2.2.1.2.1 s.2.2.1.2.2.1 s.2.2.1.2.2.2.1 (fun x0 => K ((), (x0, ())))⟩
noncomputable def C : Ctx := ⟨tyT, [laws_eqBoolS.o, laws_eqIntS.o], [], 28, 0⟩
theorem ctx : CtxOk Tryz.prog C := ⟨tyOk, all1 laws_eqBoolS.ok (all1 laws_eqIntS.ok (all0))⟩
theorem eG (β : Type) (s : sin.den) (K : sout.den → Option β) : evalFn C Tryz.f26 sin sout s K = o.F s K := by kernel_rfl
theorem ok : OracOk Tryz.prog o := fn_ok mixed Tryz.func26 (by kernel_rfl) ctx (c := bodyC Tryz.f26) (by kernel_rfl) (all0) (by kernel_rfl) (by kernel_rfl) (by kernel_rfl) (Nat.le_of_ble_eq_true (by kernel_rfl)) eG (by kernel_rfl) (Nat.le_of_ble_eq_true (by kernel_rfl))
end laws_eqStripe
end Go.Proofs.YtechafkfchmggaaGreat.E
end
section
set_option linter.unusedVariables false
set_option linter.unusedSimpArgs false
namespace Go.Proofs.YtechafkfchmggaaGreat.E
open Go Go.RowKit
set_option linter.unusedVariables false
set_option maxRecDepth 100000
namespace laws_heldBoolS
def sin : Sig := ⟨[], [.one (.val (.sl .bool) false), .one (.val I false)]⟩
def sout : Sig := ⟨[], [.one (.val I false)]⟩
def h2 : SS := ⟨[0, 1, 5], ⟨[], [.one (.val (.sl .bool) false), .one (.val I false), .one (.val I false)]⟩⟩
def x2 : SS := ⟨[1], ⟨[], [.one (.val I false)]⟩⟩
def y2 : SS := ⟨[4], ⟨[], [.one (.val I false)]⟩⟩
noncomputable def b2 {β : Type} (S : Sl) (L : (List Bool) → Int → Int → Option β) (kx : Int → Option β) (kr : Int → Option β) (s0 : (List Bool)) (s1 : Int) (s2 : Int) : Option β := bif (S.lt s2 (s0.length : Int)) then (bif (S.ir s2 s0.length) then (bif ((List.getD s0 (Int.toNat s2) false) != (S.eq (Int.tmod s1 3) 0)) then (kr (-1)) else (L s0 (S.w (s1 + 1)) (S.w (s2 + 1)))) else (none)) else (kx s1)
noncomputable def r2 {β : Type} (S : Sl) (n : Nat) (kx : x2.sig.den → Option β) (kr : y2.sig.den → Option β) (s : h2.sig.den) : Option β := rounds (fun L kx kr s => b2 S (fun x0 x1 x2 => L ((), (x0, (x1, (x2, ()))))) (fun x0 => kx ((), (x0, ()))) (fun x0 => kr ((), (x0, ()))) s.2.1 s.2.2.1 s.2.2.2.1) kx kr n s
noncomputable def l2 {β : Type} (S : Sl) (n : Nat) (kx : Int → Option β) (kr : Int → Option β) (s0 : (List Bool)) (s1 : Int) (s2 : Int) : Option β := r2 S n (fun s => kx s.2.1) (fun s => kr s.2.1) ((), (s0, (s1, (s2, ()))))
theorem t2 {β : Type} (S : Sl) (n : Nat) (kx : Int → Option β) (kr : Int → Option β) (s0 : (List Bool)) (s1 : Int) (s2 : Int) : l2 S (n + 1) kx kr s0 s1 s2 = b2 S (l2 S n kx kr) kx kr s0 s1 s2 := by kernel_rfl
noncomputable def G {β : Type} (S : Sl) (a0 : (List Bool)) (a1 : Int) (K : Int → Option β) : Option β := l2 S S.n (fun y1 => K y1) (fun y2 => K y2) a0 a1 0
noncomputable def o : Orac := ⟨93, sin, sout, fun s K => G sl0 s.2.1 s.2.2.1 (fun x0 => K ((), (x0, ())))⟩
noncomputable def C : Ctx := ⟨tyT, [], [⟨2, 0, h2, x2, y2, fun s kx kr => r2 sl0 sl0.n kx kr s⟩], 23, 0⟩
theorem ctx : CtxOk Tryz.prog C := ⟨tyOk, all0⟩
theorem e2 (β : Type) (L : h2.sig.den → Option β) (kx : x2.sig.den → Option β) (kr : y2.sig.den → Option β) (s : h2.sig.den) : evalBody C (nthC (loopsOf (bodyC Tryz.f93)) 0) 0 h2 x2 y2 L kx kr s = b2 sl0 (fun x0 x1 x2 => L ((), (x0, (x1, (x2, ()))))) (fun x0 => kx ((), (x0, ()))) (fun x0 => kr ((), (x0, ()))) s.2.1 s.2.2.1 s.2.2.2.1 := by kernel_rfl
theorem g2 : LS Tryz.prog C ⟨2, 0, h2, x2, y2, fun s kx kr => r2 sl0 sl0.n kx kr s⟩ (loopsOf (bodyC Tryz.f93)) := LS.at (i := 0) (by kernel_rfl) (loop_good mixed ctx (ctx_nat ctx) (N := sl0.n) (fun _ _ _ _ => rfl) e2 (all1 (LS.none (by kernel_rfl)) (all0)))
theorem eG (β : Type) (s : sin.den) (K : sout.den → Option β) : evalFn C Tryz.f93 sin sout s K = o.F s K := by kernel_rfl
theorem ok : OracOk Tryz.prog o := fn_ok mixed Tryz.func93 (by kernel_rfl) ctx (c := bodyC Tryz.f93) (by kernel_rfl) (all1 g2 (all0)) (by kernel_rfl) (by kernel_rfl) (by kernel_rfl) (Nat.le_of_ble_eq_true (by kernel_rfl)) eG (by kernel_rfl) (Nat.le_of_ble_eq_true (by kernel_rfl))
end laws_heldBoolS
end Go.Proofs.YtechafkfchmggaaGreat.E
end
section
set_option linter.unusedVariables false
set_option linter.unusedSimpArgs false
namespace Go.Proofs.YtechafkfchmggaaGreat.E
open Go Go.RowKit
set_option linter.unusedVariables false
set_option maxRecDepth 100000
namespace laws_heldIntS
def sin : Sig := ⟨[], [.one (.val (.sl I) false), .one (.val I false)]⟩
def sout : Sig := ⟨[], [.one (.val I false)]⟩
def h2 : SS := ⟨[0, 1, 5], ⟨[], [.one (.val (.sl I) false), .one (.val I false), .one (.val I false)]⟩⟩
def x2 : SS := ⟨[1], ⟨[], [.one (.val I false)]⟩⟩
def y2 : SS := ⟨[4], ⟨[], [.one (.val I false)]⟩⟩
noncomputable def b2 {β : Type} (S : Sl) (L : (List Int) → Int → Int → Option β) (kx : Int → Option β) (kr : Int → Option β) (s0 : (List Int)) (s1 : Int) (s2 : Int) : Option β := bif (S.lt s2 (s0.length : Int)) then (bif (S.ir s2 s0.length) then (bif (!S.eq (List.getD s0 (Int.toNat s2) 0) s1) then (kr (-1)) else (L s0 (S.w (s1 + 1)) (S.w (s2 + 1)))) else (none)) else (kx s1)
noncomputable def r2 {β : Type} (S : Sl) (n : Nat) (kx : x2.sig.den → Option β) (kr : y2.sig.den → Option β) (s : h2.sig.den) : Option β := rounds (fun L kx kr s => b2 S (fun x0 x1 x2 => L ((), (x0, (x1, (x2, ()))))) (fun x0 => kx ((), (x0, ()))) (fun x0 => kr ((), (x0, ()))) s.2.1 s.2.2.1 s.2.2.2.1) kx kr n s
noncomputable def l2 {β : Type} (S : Sl) (n : Nat) (kx : Int → Option β) (kr : Int → Option β) (s0 : (List Int)) (s1 : Int) (s2 : Int) : Option β := r2 S n (fun s => kx s.2.1) (fun s => kr s.2.1) ((), (s0, (s1, (s2, ()))))
theorem t2 {β : Type} (S : Sl) (n : Nat) (kx : Int → Option β) (kr : Int → Option β) (s0 : (List Int)) (s1 : Int) (s2 : Int) : l2 S (n + 1) kx kr s0 s1 s2 = b2 S (l2 S n kx kr) kx kr s0 s1 s2 := by kernel_rfl
noncomputable def G {β : Type} (S : Sl) (a0 : (List Int)) (a1 : Int) (K : Int → Option β) : Option β := l2 S S.n (fun y1 => K y1) (fun y2 => K y2) a0 a1 0
noncomputable def o : Orac := ⟨78, sin, sout, fun s K => G sl0 s.2.1 s.2.2.1 (fun x0 => K ((), (x0, ())))⟩
noncomputable def C : Ctx := ⟨tyT, [], [⟨2, 0, h2, x2, y2, fun s kx kr => r2 sl0 sl0.n kx kr s⟩], 21, 0⟩
theorem ctx : CtxOk Tryz.prog C := ⟨tyOk, all0⟩
theorem e2 (β : Type) (L : h2.sig.den → Option β) (kx : x2.sig.den → Option β) (kr : y2.sig.den → Option β) (s : h2.sig.den) : evalBody C (nthC (loopsOf (bodyC Tryz.f78)) 0) 0 h2 x2 y2 L kx kr s = b2 sl0 (fun x0 x1 x2 => L ((), (x0, (x1, (x2, ()))))) (fun x0 => kx ((), (x0, ()))) (fun x0 => kr ((), (x0, ()))) s.2.1 s.2.2.1 s.2.2.2.1 := by kernel_rfl
theorem g2 : LS Tryz.prog C ⟨2, 0, h2, x2, y2, fun s kx kr => r2 sl0 sl0.n kx kr s⟩ (loopsOf (bodyC Tryz.f78)) := LS.at (i := 0) (by kernel_rfl) (loop_good mixed ctx (ctx_nat ctx) (N := sl0.n) (fun _ _ _ _ => rfl) e2 (all1 (LS.none (by kernel_rfl)) (all0)))
theorem eG (β : Type) (s : sin.den) (K : sout.den → Option β) : evalFn C Tryz.f78 sin sout s K = o.F s K := by kernel_rfl
theorem ok : OracOk Tryz.prog o := fn_ok mixed Tryz.func78 (by kernel_rfl) ctx (c := bodyC Tryz.f78) (by kernel_rfl) (all1 g2 (all0)) (by kernel_rfl) (by kernel_rfl) (by kernel_rfl) (Nat.le_of_ble_eq_true (by kernel_rfl)) eG (by kernel_rfl) (Nat.le_of_ble_eq_true (by kernel_rfl))
end laws_heldIntS
end Go.Proofs.YtechafkfchmggaaGreat.E
end
section
set_option linter.unusedVariables false
set_option linter.unusedSimpArgs false
namespace Go.Proofs.YtechafkfchmggaaGreat.E
open Go Go.RowKit
set_option linter.unusedVariables false
set_option maxRecDepth 100000
namespace laws_heldStripe
def sin : Sig := ⟨[], [.agg [.val I false, .val (.sl I) false, .val (.sl I) false, .val (.sl .bool) false], .one (.val I false)]⟩
def sout : Sig := ⟨[], [.one (.val I false)]⟩
noncomputable def G {β : Type} (S : Sl) (a0 : Int) (a1 : (List Int)) (a2 : (List Int)) (a3 : (List Bool)) (a4 : Int) (K : Int → Option β) : Option β := laws_heldIntS.G S a1 a4 (fun y1 => bif (S.lt y1 0) then (K (-1)) else (laws_heldIntS.G S a2 y1 (fun y2 => bif (S.lt y2 0) then (K (-1)) else (laws_heldBoolS.G S a3 y2 (fun y3 => bif (S.lt y3 0) then (K (-1)) else (K y3))))))
noncomputable def o : Orac := ⟨32, sin, sout, fun s K => G sl0 s.2.1.1 s.2.1.2.1 s.2.1.2.2.1 s.2.1.2.2.2.1 s.2.2.1 (fun x0 => K ((), (x0, ())))⟩
noncomputable def C : Ctx := ⟨tyT, [laws_heldBoolS.o, laws_heldIntS.o], [], 24, 0⟩
theorem ctx : CtxOk Tryz.prog C := ⟨tyOk, all1 laws_heldBoolS.ok (all1 laws_heldIntS.ok (all0))⟩
theorem eG (β : Type) (s : sin.den) (K : sout.den → Option β) : evalFn C Tryz.f32 sin sout s K = o.F s K := by kernel_rfl
theorem ok : OracOk Tryz.prog o := fn_ok mixed Tryz.func32 (by kernel_rfl) ctx (c := bodyC Tryz.f32) (by kernel_rfl) (all0) (by kernel_rfl) (by kernel_rfl) (by kernel_rfl) (Nat.le_of_ble_eq_true (by kernel_rfl)) eG (by kernel_rfl) (Nat.le_of_ble_eq_true (by kernel_rfl))
end laws_heldStripe
end Go.Proofs.YtechafkfchmggaaGreat.E
end
section
set_option linter.unusedVariables false
set_option linter.unusedSimpArgs false
namespace Go.Proofs.YtechafkfchmggaaGreat.E
open Go Go.RowKit
set_option linter.unusedVariables false
set_option maxRecDepth 100000
namespace laws_markBoolS_
def sin : Sig := ⟨[.buf .bool false], [.one (.ref (.own 0)), .one (.val I false)]⟩
def sout : Sig := ⟨[.buf .bool false], [.one (.val I false)]⟩
def h2 : SS := ⟨[0, 1, 5], ⟨[.buf .bool false], [.one (.ref (.own 0)), .one (.val I false), .one (.val I false)]⟩⟩
def x2 : SS := ⟨[1], ⟨[.buf .bool false], [.one (.val I false)]⟩⟩
def y2 : SS := ⟨[], ⟨[], []⟩⟩
noncomputable def b2 {β : Type} (S : Sl) (L : (List Bool) → Int → Int → Option β) (kx : (List Bool) → Int → Option β) (kr : Option β) (s0 : (List Bool)) (s1 : Int) (s2 : Int) : Option β := bif (S.lt s2 (s0.length : Int)) then (bif (S.ir s2 s0.length) then (L (List.set s0 (Int.toNat s2) (S.eq (Int.tmod s1 3) 0)) (S.w (s1 + 1)) (S.w (s2 + 1))) else (none)) else (kx s0 s1)
noncomputable def r2 {β : Type} (S : Sl) (n : Nat) (kx : x2.sig.den → Option β) (kr : y2.sig.den → Option β) (s : h2.sig.den) : Option β := rounds (fun L kx kr s => b2 S (fun x0 x1 x2 => L ((x0, ()), (x1, (x2, ())))) (fun x0 x1 => kx ((x0, ()), (x1, ()))) (kr ((), ())) s.1.1 s.2.1 s.2.2.1) kx kr n s
noncomputable def l2 {β : Type} (S : Sl) (n : Nat) (kx : (List Bool) → Int → Option β) (kr : Option β) (s0 : (List Bool)) (s1 : Int) (s2 : Int) : Option β := r2 S n (fun s => kx s.1.1 s.2.1) (fun s => kr) ((s0, ()), (s1, (s2, ())))
theorem t2 {β : Type} (S : Sl) (n : Nat) (kx : (List Bool) → Int → Option β) (kr : Option β) (s0 : (List Bool)) (s1 : Int) (s2 : Int) : l2 S (n + 1) kx kr s0 s1 s2 = b2 S (l2 S n kx kr) kx kr s0 s1 s2 := by kernel_rfl
noncomputable def G {β : Type} (S : Sl) (a0 : (List Bool)) (a1 : Int) (K : (List Bool) → Int → Option β) : Option β := l2 S S.n (fun y1 y2 => K y1 y2) none a0 a1 0
noncomputable def o : Orac := ⟨31, sin, sout, fun s K => G sl0 s.1.1 s.2.1 (fun x0 x1 => K ((x0, ()), (x1, ())))⟩
noncomputable def C : Ctx := ⟨tyT, [], [⟨2, 0, h2, x2, y2, fun s kx kr => r2 sl0 sl0.n kx kr s⟩], 21, 1⟩
theorem ctx : CtxOk Tryz.prog C := ⟨tyOk, all0⟩
theorem e2 (β : Type) (L : h2.sig.den → Option β) (kx : x2.sig.den → Option β) (kr : y2.sig.den → Option β) (s : h2.sig.den) : evalBody C (nthC (loopsOf (bodyC Tryz.f31)) 0) 0 h2 x2 y2 L kx kr s = b2 sl0 (fun x0 x1 x2 => L ((x0, ()), (x1, (x2, ())))) (fun x0 x1 => kx ((x0, ()), (x1, ()))) (kr ((), ())) s.1.1 s.2.1 s.2.2.1 := by kernel_rfl
theorem g2 : LS Tryz.prog C ⟨2, 0, h2, x2, y2, fun s kx kr => r2 sl0 sl0.n kx kr s⟩ (loopsOf (bodyC Tryz.f31)) := LS.at (i := 0) (by kernel_rfl) (loop_good mixed ctx (ctx_nat ctx) (N := sl0.n) (fun _ _ _ _ => rfl) e2 (all1 (LS.none (by kernel_rfl)) (all0)))
theorem eG (β : Type) (s : sin.den) (K : sout.den → Option β) : evalFn C Tryz.f31 sin sout s K = o.F s K := by kernel_rfl
theorem ok : OracOk Tryz.prog o := fn_ok mixed Tryz.func31 (by kernel_rfl) ctx (c := bodyC Tryz.f31) (by kernel_rfl) (all1 g2 (all0)) (by kernel_rfl) (by kernel_rfl) (by kernel_rfl) (Nat.le_of_ble_eq_true (by kernel_rfl)) eG (by kernel_rfl) (Nat.le_of_ble_eq_true (by kernel_rfl))
end laws_markBoolS_
end Go.Proofs.YtechafkfchmggaaGreat.E
end
section
set_option linter.unusedVariables false
set_option linter.unusedSimpArgs false
namespace Go.Proofs.YtechafkfchmggaaGreat.E
open Go Go.RowKit
set_option linter.unusedVariables false
set_option maxRecDepth 100000
namespace laws_markIntS_
def sin : Sig := ⟨[.buf I false], [.one (.ref (.own 0)), .one (.val I false)]⟩
def sout : Sig := ⟨[.buf I false], [.one (.val I false)]⟩
def h2 : SS := ⟨[0, 1, 5], ⟨[.buf I false], [.one (.ref (.own 0)), .one (.val I false), .one (.val I false)]⟩⟩
def x2 : SS := ⟨[1], ⟨[.buf I false], [.one (.val I false)]⟩⟩
def y2 : SS := ⟨[], ⟨[], []⟩⟩
noncomputable def b2 {β : Type} (S : Sl) (L : (List Int) → Int → Int → Option β) (kx : (List Int) → Int → Option β) (kr : Option β) (s0 : (List Int)) (s1 : Int) (s2 : Int) : Option β := bif (S.lt s2 (s0.length : Int)) then (bif (S.ir s2 s0.length) then (L (List.set s0 (Int.toNat s2) s1) (S.w (s1 + 1)) (S.w (s2 + 1))) else (none)) else (kx s0 s1)
noncomputable def r2 {β : Type} (S : Sl) (n : Nat) (kx : x2.sig.den → Option β) (kr : y2.sig.den → Option β) (s : h2.sig.den) : Option β := rounds (fun L kx kr s => b2 S (fun x0 x1 x2 => L ((x0, ()), (x1, (x2, ())))) (fun x0 x1 => kx ((x0, ()), (x1, ()))) (kr ((), ())) s.1.1 s.2.1 s.2.2.1) kx kr n s
noncomputable def l2 {β : Type} (S : Sl) (n : Nat) (kx : (List Int) → Int → Option β) (kr : Option β) (s0 : (List Int)) (s1 : Int) (s2 : Int) : Option β := r2 S n (fun s => kx s.1.1 s.2.1) (fun s => kr) ((s0, ()), (s1, (s2, ())))
theorem t2 {β : Type} (S : Sl) (n : Nat) (kx : (List Int) → Int → Option β) (kr : Option β) (s0 : (List Int)) (s1 : Int) (s2 : Int) : l2 S (n + 1) kx kr s0 s1 s2 = b2 S (l2 S n kx kr) kx kr s0 s1 s2 := by kernel_rfl
noncomputable def G {β : Type} (S : Sl) (a0 : (List Int)) (a1 : Int) (K : (List Int) → Int → Option β) : Option β := l2 S S.n (fun y1 y2 => K y1 y2) none a0 a1 0
noncomputable def o : Orac := ⟨30, sin, sout, fun s K => G sl0 s.1.1 s.2.1 (fun x0 x1 => K ((x0, ()), (x1, ())))⟩
noncomputable def C : Ctx := ⟨tyT, [], [⟨2, 0, h2, x2, y2, fun s kx kr => r2 sl0 sl0.n kx kr s⟩], 19, 1⟩
theorem ctx : CtxOk Tryz.prog C := ⟨tyOk, all0⟩
theorem e2 (β : Type) (L : h2.sig.den → Option β) (kx : x2.sig.den → Option β) (kr : y2.sig.den → Option β) (s : h2.sig.den) : evalBody C (nthC (loopsOf (bodyC Tryz.f30)) 0) 0 h2 x2 y2 L kx kr s = b2 sl0 (fun x0 x1 x2 => L ((x0, ()), (x1, (x2, ())))) (fun x0 x1 => kx ((x0, ()), (x1, ()))) (kr ((), ())) s.1.1 s.2.1 s.2.2.1 := by kernel_rfl
theorem g2 : LS Tryz.prog C ⟨2, 0, h2, x2, y2, fun s kx kr => r2 sl0 sl0.n kx kr s⟩ (loopsOf (bodyC Tryz.f30)) := LS.at (i := 0) (by kernel_rfl) (loop_good mixed ctx (ctx_nat ctx) (N := sl0.n) (fun _ _ _ _ => rfl) e2 (all1 (LS.none (by kernel_rfl)) (all0)))
theorem eG (β : Type) (s : sin.den) (K : sout.den → Option β) : evalFn C Tryz.f30 sin sout s K = o.F s K := by kernel_rfl
theorem ok : OracOk Tryz.prog o := fn_ok mixed Tryz.func30 (by kernel_rfl) ctx (c := bodyC Tryz.f30) (by kernel_rfl) (all1 g2 (all0)) (by kernel_rfl) (by kernel_rfl) (by kernel_rfl) (Nat.le_of_ble_eq_true (by kernel_rfl)) eG (by kernel_rfl) (Nat.le_of_ble_eq_true (by kernel_rfl))
end laws_markIntS_
end Go.Proofs.YtechafkfchmggaaGreat.E
end
section
set_option linter.unusedVariables false
set_option linter.unusedSimpArgs false
namespace Go.Proofs.YtechafkfchmggaaGreat.E
open Go Go.RowKit
set_option linter.unusedVariables false
set_option maxRecDepth 100000
namespace laws_markStripe_
def sin : Sig := ⟨[.buf I false, .buf I false, .buf .bool false], [.agg [.val I false, .ref (.own 0), .ref (.own 1), .ref (.own 2)], .one (.val I false)]⟩
def sout : Sig := ⟨[.buf I false, .buf I false, .buf .bool false], [.one (.val I false)]⟩
noncomputable def G {β : Type} (S : Sl) (a0 : (List Int)) (a1 : (List Int)) (a2 : (List Bool)) (a3 : Int) (a4 : Int) (K : (List Int) → (List Int) → (List Bool) → Int → Option β) : Option β := laws_markIntS_.G S a0 a4 (fun y1 y2 => laws_markIntS_.G S a1 y2 (fun y3 y4 => laws_markBoolS_.G S a2 y4 (fun y5 y6 => K y1 y3 y5 y6)))
noncomputable def o : Orac := ⟨29, sin, sout, fun s K => G sl0 s.1.1 s.1.2.1 s.1.2.2.1 s.2.1.1 s.2.2.1 (fun x0 x1 x2 x3 => K ((x0, (x1, (x2, ()))), (x3, ())))⟩
noncomputable def C : Ctx := ⟨tyT, [laws_markBoolS_.o, laws_markIntS_.o], [], 18, 3⟩
theorem ctx : CtxOk Tryz.prog C := ⟨tyOk, all1 laws_markBoolS_.ok (all1 laws_markIntS_.ok (all0))⟩
theorem eG (β : Type) (s : sin.den) (K : sout.den → Option β) : evalFn C Tryz.f29 sin sout s K = o.F s K := by kernel_rfl
theorem ok : OracOk Tryz.prog o := fn_ok mixed Tryz.func29 (by kernel_rfl) ctx (c := bodyC Tryz.f29) (by kernel_rfl) (all0) (by kernel_rfl) (by kernel_rfl) (by kernel_rfl) (Nat.le_of_ble_eq_true (by kernel_rfl)) eG (by kernel_rfl) (Nat.le_of_ble_eq_true (by kernel_rfl))
end laws_markStripe_
end Go.Proofs.YtechafkfchmggaaGreat.E
end
section
set_option linter.unusedVariables false
set_option linter.unusedSimpArgs false
namespace Go.Proofs.YtechafkfchmggaaGreat.E
open Go Go.RowKit
set_option linter.unusedVariables false
set_option maxRecDepth 100000
namespace laws_szBoolS
def sin : Sig := ⟨[], [.one (.val (.sl .bool) false), .one (.val I false)]⟩
def sout : Sig := ⟨[], [.one (.val I false)]⟩
noncomputable def G {β : Type} (S : Sl) (a0 : (List Bool)) (a1 : Int) (K : Int → Option β) : Option β := bif (S.lt (S.w (a1 - (a0.length : Int))) 0) then (K (-1)) else (K (S.w (a1 - (a0.length : Int))))
noncomputable def o : Orac := ⟨82, sin, sout, fun s K => G sl0 s.2.1 s.2.2.1 (fun x0 => K ((), (x0, ())))⟩
noncomputable def C : Ctx := ⟨tyT, [], [], 12, 0⟩
theorem ctx : CtxOk Tryz.prog C := ⟨tyOk, all0⟩
theorem eG (β : Type) (s : sin.den) (K : sout.den → Option β) : evalFn C Tryz.f82 sin sout s K = o.F s K := by kernel_rfl
theorem ok : OracOk Tryz.prog o := fn_ok mixed Tryz.func82 (by kernel_rfl) ctx (c := bodyC Tryz.f82) (by kernel_rfl) (all0) (by kernel_rfl) (by kernel_rfl) (by kernel_rfl) (Nat.le_of_ble_eq_true (by kernel_rfl)) eG (by kernel_rfl) (Nat.le_of_ble_eq_true (by kernel_rfl))
end laws_szBoolS
end Go.Proofs.YtechafkfchmggaaGreat.E
end
section
set_option linter.unusedVariables false
set_option linter.unusedSimpArgs false
namespace Go.Proofs.YtechafkfchmggaaGreat.E
open Go Go.RowKit
set_option linter.unusedVariables false
set_option maxRecDepth 100000
namespace laws_szIntS
def sin : Sig := ⟨[], [.one (.val (.sl I) false), .one (.val I false)]⟩
def sout : Sig := ⟨[], [.one (.val I false)]⟩
noncomputable def G {β : Type} (S : Sl) (a0 : (List Int)) (a1 : Int) (K : Int → Option β) : Option β := bif (S.lt (S.w (a1 - (a0.length : Int))) 0) then (K (-1)) else (K (S.w (a1 - (a0.length : Int))))
noncomputable def o : Orac := ⟨81, sin, sout, fun s K => G sl0 s.2.1 s.2.2.1 (fun x0 => K ((), (x0, ())))⟩
noncomputable def C : Ctx := ⟨tyT, [], [], 12, 0⟩
theorem ctx : CtxOk Tryz.prog C := ⟨tyOk, all0⟩
theorem eG (β : Type) (s : sin.den) (K : sout.den → Option β) : evalFn C Tryz.f81 sin sout s K = o.F s K := by kernel_rfl
theorem ok : OracOk Tryz.prog o := fn_ok mixed Tryz.func81 (by kernel_rfl) ctx (c := bodyC Tryz.f81) (by kernel_rfl) (all0) (by kernel_rfl) (by kernel_rfl) (by kernel_rfl) (Nat.le_of_ble_eq_true (by kernel_rfl)) eG (by kernel_rfl) (Nat.le_of_ble_eq_true (by kernel_rfl))
end laws_szIntS
end Go.Proofs.YtechafkfchmggaaGreat.E
end
section
set_option linter.unusedVariables false
set_option linter.unusedSimpArgs false
namespace Go.Proofs.YtechafkfchmggaaGreat.E
open Go Go.RowKit
set_option linter.unusedVariables false
set_option maxRecDepth 100000
namespace laws_szStripe
def sin : Sig := ⟨[], [.agg [.val I false, .val (.sl I) false, .val (.sl I) false, .val (.sl .bool) false], .one (.val I false)]⟩
def sout : Sig := ⟨[], [.one (.val I false)]⟩
noncomputable def G {β : Type} (S : Sl) (a0 : Int) (a1 : (List Int)) (a2 : (List Int)) (a3 : (List Bool)) (a4 : Int) (K : Int → Option β) : Option β := laws_szIntS.G S a1 a4 (fun y1 => bif (S.lt y1 0) then (K (-1)) else (laws_szIntS.G S a2 y1 (fun y2 => bif (S.lt y2 0) then (K (-1)) else (laws_szBoolS.G S a3 y2 (fun y3 => bif (S.lt y3 0) then (K (-1)) else (K y3))))))
noncomputable def o : Orac := ⟨20, sin, sout, fun s K => G sl0 s.2.1.1 s.2.1.2.1 s.2.1.2.2.1 s.2.1.2.2.2.1 s.2.2.1 (fun x0 => K ((), (x0, ())))⟩
noncomputable def C : Ctx := ⟨tyT, [laws_szBoolS.o, laws_szIntS.o], [], 24, 0⟩
theorem ctx : CtxOk Tryz.prog C := ⟨tyOk, all1 laws_szBoolS.ok (all1 laws_szIntS.ok (all0))⟩
theorem eG (β : Type) (s : sin.den) (K : sout.den → Option β) : evalFn C Tryz.f20 sin sout s K = o.F s K := by kernel_rfl
theorem ok : OracOk Tryz.prog o := fn_ok mixed Tryz.func20 (by kernel_rfl) ctx (c := bodyC Tryz.f20) (by kernel_rfl) (all0) (by kernel_rfl) (by kernel_rfl) (by kernel_rfl) (Nat.le_of_ble_eq_true (by kernel_rfl)) eG (by kernel_rfl) (Nat.le_of_ble_eq_true (by kernel_rfl))
end laws_szStripe
end Go.Proofs.YtechafkfchmggaaGreat.E
end
section
set_option linter.unusedVariables false
set_option linter.unusedSimpArgs false
namespace Go.Proofs.YtechafkfchmggaaGreat.E
open Go Go.RowKit
set_option linter.unusedVariables false
set_option maxRecDepth 100000
namespace laws_toBoolS
def sin : Sig := ⟨[], [.one (.val (.sl .bool) false)]⟩
def sout : Sig := ⟨[.buf .bool false], [.one (.ref (.own 0))]⟩
def h3 : SS := ⟨[0, 3, 4], ⟨[.buf .bool false], [.one (.val (.sl .bool) false), .one (.ref (.own 0)), .one (.val I false)]⟩⟩
def x3 : SS := ⟨[3], ⟨[.buf .bool false], [.one (.ref (.own 0))]⟩⟩
def y3 : SS := ⟨[], ⟨[], []⟩⟩
noncomputable def b3 {β : Type} (S : Sl) (L : (List Bool) → (List Bool) → Int → Option β) (kx : (List Bool) → Option β) (kr : Option β) (s0 : (List Bool)) (s1 : (List Bool)) (s2 : Int) : Option β := bif (S.lt s2 (s1.length : Int)) then (bif (S.ir s2 s1.length) then (bif (S.ir s2 s0.length) then (L (List.set s0 (Int.toNat s2) (List.getD s1 (Int.toNat s2) false)) s1 (S.w (s2 + 1))) else (none)) else (none)) else (kx s0)
noncomputable def r3 {β : Type} (S : Sl) (n : Nat) (kx : x3.sig.den → Option β) (kr : y3.sig.den → Option β) (s : h3.sig.den) : Option β := rounds (fun L kx kr s => b3 S (fun x0 x1 x2 => L ((x0, ()), (x1, (x2, ())))) (fun x0 => kx ((x0, ()), ())) (kr ((), ())) s.1.1 s.2.1 s.2.2.1) kx kr n s
noncomputable def l3 {β : Type} (S : Sl) (n : Nat) (kx : (List Bool) → Option β) (kr : Option β) (s0 : (List Bool)) (s1 : (List Bool)) (s2 : Int) : Option β := r3 S n (fun s => kx s.1.1) (fun s => kr) ((s0, ()), (s1, (s2, ())))
theorem t3 {β : Type} (S : Sl) (n : Nat) (kx : (List Bool) → Option β) (kr : Option β) (s0 : (List Bool)) (s1 : (List Bool)) (s2 : Int) : l3 S (n + 1) kx kr s0 s1 s2 = b3 S (l3 S n kx kr) kx kr s0 s1 s2 := by kernel_rfl
noncomputable def G {β : Type} (S : Sl) (a0 : (List Bool)) (K : (List Bool) → Option β) : Option β := bif ((S.le 0 (a0.length : Int)) && (S.le (a0.length : Int) (a0.length : Int)) && S.fw (Int.toNat (a0.length : Int))) then (l3 S S.n (fun y1 => K y1) none (List.replicate (Int.toNat (a0.length : Int)) false) a0 0) else (none)
noncomputable def o : Orac := ⟨24, sin, sout, fun s K => G sl0 s.2.1 (fun x0 => K ((x0, ()), ()))⟩
noncomputable def C : Ctx := ⟨tyT, [], [⟨3, 0, h3, x3, y3, fun s kx kr => r3 sl0 sl0.n kx kr s⟩], 22, 0⟩
theorem ctx : CtxOk Tryz.prog C := ⟨tyOk, all0⟩
theorem e3 (β : Type) (L : h3.sig.den → Option β) (kx : x3.sig.den → Option β) (kr : y3.sig.den → Option β) (s : h3.sig.den) : evalBody C (nthC (loopsOf (bodyC Tryz.f24)) 0) 0 h3 x3 y3 L kx kr s = b3 sl0 (fun x0 x1 x2 => L ((x0, ()), (x1, (x2, ())))) (fun x0 => kx ((x0, ()), ())) (kr ((), ())) s.1.1 s.2.1 s.2.2.1 := by kernel_rfl
theorem g3 : LS Tryz.prog C ⟨3, 0, h3, x3, y3, fun s kx kr => r3 sl0 sl0.n kx kr s⟩ (loopsOf (bodyC Tryz.f24)) := LS.at (i := 0) (by kernel_rfl) (loop_good mixed ctx (ctx_nat ctx) (N := sl0.n) (fun _ _ _ _ => rfl) e3 (all1 (LS.none (by kernel_rfl)) (all0)))
theorem eG (β : Type) (s : sin.den) (K : sout.den → Option β) : evalFn C Tryz.f24 sin sout s K = o.F s K := by kernel_rfl
theorem ok : OracOk Tryz.prog o := fn_ok mixed Tryz.func24 (by kernel_rfl) ctx (c := bodyC Tryz.f24) (by kernel_rfl) (all1 g3 (all0)) (by kernel_rfl) (by kernel_rfl) (by kernel_rfl) (Nat.le_of_ble_eq_true (by kernel_rfl)) eG (by kernel_rfl) (Nat.le_of_ble_eq_true (by kernel_rfl))
end laws_toBoolS
end Go.Proofs.YtechafkfchmggaaGreat.E
end
section
set_option linter.unusedVariables false
set_option linter.unusedSimpArgs false
namespace Go.Proofs.YtechafkfchmggaaGreat.E
open Go Go.RowKit
set_option linter.unusedVariables false
set_option maxRecDepth 100000
namespace laws_toPatch
def sin : Sig := ⟨[], [.agg [.val I false, .val I false]]⟩
def sout : Sig := ⟨[], [.agg [.val I false, .val I false]]⟩
noncomputable def G {β : Type} (S : Sl) (a0 : Int) (a1 : Int) (K : Int → Int → Option β) : Option β := K a0 a1
noncomputable def o : Orac := ⟨61, sin, sout, fun s K => G sl0 s.2.1.1 s.2.1.2.1 (fun x0 x1 => K ((), ((x0, (x1, ())), ())))⟩
noncomputable def C : Ctx := ⟨tyT, [], [], 11, 0⟩
theorem ctx : CtxOk Tryz.prog C := ⟨tyOk, all0⟩
theorem eG (β : Type) (s : sin.den) (K : sout.den → Option β) : evalFn C Tryz.f61 sin sout s K = o.F s K := by kernel_rfl
theorem ok : OracOk Tryz.prog o := fn_ok mixed Tryz.func61 (by kernel_rfl) ctx (c := bodyC Tryz.f61) (by kernel_rfl) (all0) (by kernel_rfl) (by kernel_rfl) (by kernel_rfl) (Nat.le_of_ble_eq_true (by kernel_rfl)) eG (by kernel_rfl) (Nat.le_of_ble_eq_true (by kernel_rfl))
end laws_toPatch
end Go.Proofs.YtechafkfchmggaaGreat.E
end
section
set_option linter.unusedVariables false
set_option linter.unusedSimpArgs false
namespace Go.Proofs.YtechafkfchmggaaGreat.E
open Go Go.RowKit
set_option linter.unusedVariables false
set_option maxRecDepth 100000
namespace laws_toIntS
def sin : Sig := ⟨[], [.one (.val (.sl I) false)]⟩
def sout : Sig := ⟨[.buf I false], [.one (.ref (.own 0))]⟩
def h3 : SS := ⟨[0, 3, 4], ⟨[.buf I false], [.one (.val (.sl I) false), .one (.ref (.own 0)), .one (.val I false)]⟩⟩
def x3 : SS := ⟨[3], ⟨[.buf I false], [.one (.ref (.own 0))]⟩⟩
def y3 : SS := ⟨[], ⟨[], []⟩⟩
noncomputable def b3 {β : Type} (S : Sl) (L : (List Int) → (List Int) → Int → Option β) (kx : (List Int) → Option β) (kr : Option β) (s0 : (List Int)) (s1 : (List Int)) (s2 : Int) : Option β := bif (S.lt s2 (s1.length : Int)) then (bif (S.ir s2 s1.length) then (bif (S.ir s2 s0.length) then (L (List.set s0 (Int.toNat s2) (List.getD s1 (Int.toNat s2) 0)) s1 (S.w (s2 + 1))) else (none)) else (none)) else (kx s0)
noncomputable def r3 {β : Type} (S : Sl) (n : Nat) (kx : x3.sig.den → Option β) (kr : y3.sig.den → Option β) (s : h3.sig.den) : Option β := rounds (fun L kx kr s => b3 S (fun x0 x1 x2 => L ((x0, ()), (x1, (x2, ())))) (fun x0 => kx ((x0, ()), ())) (kr ((), ())) s.1.1 s.2.1 s.2.2.1) kx kr n s
noncomputable def l3 {β : Type} (S : Sl) (n : Nat) (kx : (List Int) → Option β) (kr : Option β) (s0 : (List Int)) (s1 : (List Int)) (s2 : Int) : Option β := r3 S n (fun s => kx s.1.1) (fun s => kr) ((s0, ()), (s1, (s2, ())))
theorem t3 {β : Type} (S : Sl) (n : Nat) (kx : (List Int) → Option β) (kr : Option β) (s0 : (List Int)) (s1 : (List Int)) (s2 : Int) : l3 S (n + 1) kx kr s0 s1 s2 = b3 S (l3 S n kx kr) kx kr s0 s1 s2 := by kernel_rfl
noncomputable def G {β : Type} (S : Sl) (a0 : (List Int)) (K : (List Int) → Option β) : Option β := bif ((S.le 0 (a0.length : Int)) && (S.le (a0.length : Int) (a0.length : Int)) && S.fw (Int.toNat (a0.length : Int))) then (l3 S S.n (fun y1 => K y1) none (List.replicate (Int.toNat (a0.length : Int)) (0 : Int)) a0 0) else (none)
noncomputable def o : Orac := ⟨23, sin, sout, fun s K => G sl0 s.2.1 (fun x0 => K ((x0, ()), ()))⟩
noncomputable def C : Ctx := ⟨tyT, [], [⟨3, 0, h3, x3, y3, fun s kx kr => r3 sl0 sl0.n kx kr s⟩], 22, 0⟩
theorem ctx : CtxOk Tryz.prog C := ⟨tyOk, all0⟩
theorem e3 (β : Type) (L : h3.sig.den → Option β) (kx : x3.sig.den → Option β) (kr : y3.sig.den → Option β) (s : h3.sig.den) : evalBody C (nthC (loopsOf (bodyC Tryz.f23)) 0) 0 h3 x3 y3 L kx kr s = b3 sl0 (fun x0 x1 x2 => L ((x0, ()), (x1, (x2, ())))) (fun x0 => kx ((x0, ()), ())) (kr ((), ())) s.1.1 s.2.1 s.2.2.1 := by kernel_rfl
theorem g3 : LS Tryz.prog C ⟨3, 0, h3, x3, y3, fun s kx kr => r3 sl0 sl0.n kx kr s⟩ (loopsOf (bodyC Tryz.f23)) := LS.at (i := 0) (by kernel_rfl) (loop_good mixed ctx (ctx_nat ctx) (N := sl0.n) (fun _ _ _ _ => rfl) e3 (all1 (LS.none (by kernel_rfl)) (all0)))
theorem eG (β : Type) (s : sin.den) (K : sout.den → Option β) : evalFn C Tryz.f23 sin sout s K = o.F s K := by kernel_rfl
theorem ok : OracOk Tryz.prog o := fn_ok mixed Tryz.func23 (by kernel_rfl) ctx (c := bodyC Tryz.f23) (by kernel_rfl) (all1 g3 (all0)) (by kernel_rfl) (by kernel_rfl) (by kernel_rfl) (Nat.le_of_ble_eq_true (by kernel_rfl)) eG (by kernel_rfl) (Nat.le_of_ble_eq_true (by kernel_rfl))
end laws_toIntS
end Go.Proofs.YtechafkfchmggaaGreat.E
end
section
set_option linter.unusedVariables false
set_option linter.unusedSimpArgs false
namespace Go.Proofs.YtechafkfchmggaaGreat.E
open Go Go.RowKit
set_option linter.unusedVariables false
set_option maxRecDepth 100000
namespace laws_toStripe
def sin : Sig := ⟨[], [.agg [.val I false, .val (.sl I) false, .val (.sl I) false, .val (.sl .bool) false]]⟩
def sout : Sig := ⟨[.buf I false, .buf I false, .buf .bool false], [.agg [.val I false, .ref (.own 0), .ref (.own 1), .ref (.own 2)]]⟩
noncomputable def G {β : Type} (S : Sl) (a0 : Int) (a1 : (List Int)) (a2 : (List Int)) (a3 : (List Bool)) (K : (List Int) → (List Int) → (List Bool) → Int → Option β) : Option β := laws_toIntS.G S a1 (fun y1 => laws_toIntS.G S a2 (fun y2 => laws_toBoolS.G S a3 (fun y3 => K y1 y2 y3 a0)))
noncomputable def o : Orac := ⟨22, sin, sout, fun s K => G sl0 s.2.1.1 s.2.1.2.1 s.2.1.2.2.1 s.2.1.2.2.2.1 (fun x0 x1 x2 x3 => K ((x0, (x1, (x2, ()))), ((x3, ()), ())))⟩
noncomputable def C : Ctx := ⟨tyT, [laws_toBoolS.o, laws_toIntS.o], [], 20, 0⟩
theorem ctx : CtxOk Tryz.prog C := ⟨tyOk, all1 laws_toBoolS.ok (all1 laws_toIntS.ok (all0))⟩
theorem eG (β : Type) (s : sin.den) (K : sout.den → Option β) : evalFn C Tryz.f22 sin sout s K = o.F s K := by kernel_rfl
theorem ok : OracOk Tryz.prog o := fn_ok mixed Tryz.func22 (by kernel_rfl) ctx (c := bodyC Tryz.f22) (by kernel_rfl) (all0) (by kernel_rfl) (by kernel_rfl) (by kernel_rfl) (Nat.le_of_ble_eq_true (by kernel_rfl)) eG (by kernel_rfl) (Nat.le_of_ble_eq_true (by kernel_rfl))
end laws_toStripe
end Go.Proofs.YtechafkfchmggaaGreat.E
end
section
set_option linter.unusedVariables false
set_option linter.unusedSimpArgs false
namespace Go.Proofs.YtechafkfchmggaaGreat.E
open Go Go.RowKit
set_option linter.unusedVariables false
set_option maxRecDepth 100000
namespace laws_FnExactPatchDo
def sin : Sig := ⟨[], [.agg [.val I false, .val (.sl I) false, .val (.sl I) false, .val (.sl .bool) false], .agg [.val I false, .val I false], .one (.val (.sl .bool) false)]⟩
def sout : Sig := ⟨[], [.one (.val .bool false)]⟩
noncomputable def G {β : Type} (S : Sl) (a0 : Int) (a1 : (List Int)) (a2 : (List Int)) (a3 : (List Bool)) (a4 : Int) (a5 : Int) (a6 : (List Bool)) (K : Bool → Option β) : Option β := bif (S.lt 1048576 (a6.length : Int)) then (K true) else (laws_szStripe.G S a0 a1 a2 a3 1048576 (fun y1 => bif (S.lt y1 0) then (K true) else (laws_toStripe.G S a0 a1 a2 a3 (fun y2 y3 y4 y5 => laws_toPatch.G S a4 a5 (fun y6 y7 => laws_toBoolS.G S a6 (fun y8 => spec_PatchDo.G S y5 y2 y3 y4 y6 y7 y8 (fun y9 y10 y11 y12 y13 => laws_toStripe.G S a0 a1 a2 a3 (fun y14 y15 y16 y17 => laws_toBoolS.G S a6 (fun y18 => laws_toPatch.G S a4 a5 (fun y19 y20 => impl_PatchDo.G S y17 y14 y15 y16 y19 y20 y18 (fun y21 y22 y23 y24 y25 => laws_eqStripe.G S y24 y21 y22 y23 y12 y9 y10 y11 (fun y26 => bif (!y26) then (K false) else (bif (y25 != y13) then (K false) else (laws_toStripe.G S a0 a1 a2 a3 (fun y27 y28 y29 y30 => laws_eqStripe.G S y17 y14 y15 y16 y30 y27 y28 y29 (fun y31 => bif (!y31) then (K false) else (laws_toBoolS.G S a6 (fun y32 => laws_eqBoolS.G S y18 y32 (fun y33 => bif (!y33) then (K false) else (laws_markStripe_.G S y14 y15 y16 y17 1 (fun y34 y35 y36 y37 => laws_markBoolS_.G S y18 y37 (fun y38 y39 => bif (S.lt y39 0) then (K false) else (laws_eqStripe.G S y24 y21 y22 y23 y12 y9 y10 y11 (fun y40 => bif (!y40) then (K false) else (bif (y25 != y13) then (K false) else (laws_markStripe_.G S y21 y22 y23 y24 1 (fun y41 y42 y43 y44 => laws_heldStripe.G S y24 y41 y42 y43 1 (fun y45 => bif (S.lt y45 0) then (K false) else (bif (!S.eq y45 y44) then (K false) else (laws_toStripe.G S a0 a1 a2 a3 (fun y46 y47 y48 y49 => laws_toPatch.G S a4 a5 (fun y50 y51 => laws_toBoolS.G S a6 (fun y52 => impl_PatchDo.G S y49 y46 y47 y48 y50 y51 y52 (fun y53 y54 y55 y56 y57 => laws_eqStripe.G S y56 y53 y54 y55 y12 y9 y10 y11 (fun y58 => bif (!y58) then (K false) else (bif (y57 != y13) then (K false) else (laws_heldStripe.G S y24 y41 y42 y43 1 (fun y59 => bif (S.lt y59 0) then (K false) else (bif (!S.eq y59 y44) then (K false) else (K true))))))))))))))))))))))))))))))))))))))))
noncomputable def o : Orac := ⟨12, sin, sout, fun s K => G sl0 s.2.1.1 s.2.1.2.1 s.2.1.2.2.1 s.2.1.2.2.2.1 s.2.2.1.1 s.2.2.1.2.1 s.2.2.2.1 (fun x0 => K ((), (x0, ())))⟩
noncomputable def C : Ctx := ⟨tyT, [impl_PatchDo.o, laws_eqBoolS.o, laws_eqStripe.o, laws_heldStripe.o, laws_markBoolS_.o, laws_markStripe_.o, laws_szStripe.o, laws_toBoolS.o, laws_toPatch.o, laws_toStripe.o, spec_PatchDo.o], [], 125, 0⟩
theorem ctx : CtxOk Tryz.prog C := ⟨tyOk, all1 impl_PatchDo.ok (all1 laws_eqBoolS.ok (all1 laws_eqStripe.ok (all1 laws_heldStripe.ok (all1 laws_markBoolS_.ok (all1 laws_markStripe_.ok (all1 laws_szStripe.ok (all1 laws_toBoolS.ok (all1 laws_toPatch.ok (all1 laws_toStripe.ok (all1 spec_PatchDo.ok (all0)))))))))))⟩
theorem eG (β : Type) (s : sin.den) (K : sout.den → Option β) : evalFn C Tryz.f12 sin sout s K = o.F s K := by kernel_rfl
theorem ok : OracOk Tryz.prog o := fn_ok mixed Tryz.func12 (by kernel_rfl) ctx (c := bodyC Tryz.f12) (by kernel_rfl) (all0) (by kernel_rfl) (by kernel_rfl) (by kernel_rfl) (Nat.le_of_ble_eq_true (by kernel_rfl)) eG (by kernel_rfl) (Nat.le_of_ble_eq_true (by kernel_rfl))
end laws_FnExactPatchDo
end Go.Proofs.YtechafkfchmggaaGreat.E
end
section
set_option linter.unusedVariables false
set_option linter.unusedSimpArgs false
namespace Go.Proofs.YtechafkfchmggaaGreat.E
open Go Go.RowKit
set_option linter.unusedVariables false
theorem mid_get {α : Type} (d x : α) (A B : List α) (i : Nat) (h : A.length = i) : List.getD (A ++ x :: B) (Int.toNat (i : Int)) d = x := by rw [Int.toNat_natCast]; subst h; simp
theorem mid_set {α : Type} (x y : α) (A B : List α) (i : Nat) (h : A.length = i) : List.set (A ++ x :: B) (Int.toNat (i : Int)) y = (A ++ [y]) ++ B := by rw [Int.toNat_natCast]; subst h; simp
theorem mid_len {α : Type} (x : α) (A B : List α) : (A ++ x :: B).length = A.length + 1 + B.length := by simp; omega
end Go.Proofs.YtechafkfchmggaaGreat.E
end
section
set_option linter.unusedVariables false
set_option linter.unusedSimpArgs false
namespace Go.Proofs.YtechafkfchmggaaGreat.E
open Go Go.RowKit
set_option linter.unusedVariables false
set_option maxRecDepth 100000
theorem szInt_G {β : Type} {l : List Int} {k : Int} (h0 : 0 ≤ k) (h1 : k ≤ 1048576) (hl : l.length ≤ 9223372036854775807) (K : Int → Option β) : laws_szIntS.G sl1 l k K = K (if k < (l.length : Int) then -1 else k - (l.length : Int)) := by
  unfold laws_szIntS.G
  rw [wE (by omega) (by omega)]
  by_cases c : k < (l.length : Int)
  · rw [if_pos c]; exact cT (ltT (by omega)) rfl
  · rw [if_neg c]; exact cF (ltF (by omega)) rfl
theorem szBool_G {β : Type} {l : List Bool} {k : Int} (h0 : 0 ≤ k) (h1 : k ≤ 1048576) (hl : l.length ≤ 9223372036854775807) (K : Int → Option β) : laws_szBoolS.G sl1 l k K = K (if k < (l.length : Int) then -1 else k - (l.length : Int)) := by
  unfold laws_szBoolS.G
  rw [wE (by omega) (by omega)]
  by_cases c : k < (l.length : Int)
  · rw [if_pos c]; exact cT (ltT (by omega)) rfl
  · rw [if_neg c]; exact cF (ltF (by omega)) rfl
theorem szStripe_B (kind : Int) {vals vers : List Int} {there : List Bool} (h1 : vals.length ≤ 9223372036854775807) (h2 : vers.length ≤ 9223372036854775807) (h3 : there.length ≤ 9223372036854775807) :
    ∃ y : Int, (∀ (β : Type) (K : Int → Option β), laws_szStripe.G sl1 kind vals vers there 1048576 K = K y) ∧ (y < 0 ∨ (0 ≤ y ∧ y ≤ 1048576) ∧ vals.length ≤ 1048576 ∧ vers.length ≤ 1048576 ∧ there.length ≤ 1048576) := by
  by_cases c1 : (1048576 : Int) < (vals.length : Int)
  · refine ⟨-1, fun β K => ?_, .inl (by omega)⟩
    unfold laws_szStripe.G
    refine (szInt_G (by omega) (by omega) h1 _).trans ?_
    rw [if_pos c1]; exact cT rfl rfl
  by_cases c2 : (1048576 : Int) - (vals.length : Int) < (vers.length : Int)
  · refine ⟨-1, fun β K => ?_, .inl (by omega)⟩
    unfold laws_szStripe.G
    refine (szInt_G (by omega) (by omega) h1 _).trans ?_
    rw [if_neg c1]
    refine cF (ltF (by omega)) ((szInt_G (by omega) (by omega) h2 _).trans ?_)
    rw [if_pos c2]; exact cT rfl rfl
  by_cases c3 : (1048576 : Int) - (vals.length : Int) - (vers.length : Int) < (there.length : Int)
  · refine ⟨-1, fun β K => ?_, .inl (by omega)⟩
    unfold laws_szStripe.G
    refine (szInt_G (by omega) (by omega) h1 _).trans ?_
    rw [if_neg c1]
    refine cF (ltF (by omega)) ((szInt_G (by omega) (by omega) h2 _).trans ?_)
    rw [if_neg c2]
    refine cF (ltF (by omega)) ((szBool_G (by omega) (by omega) h3 _).trans ?_)
    rw [if_pos c3]; exact cT rfl rfl
  · refine ⟨1048576 - (vals.length : Int) - (vers.length : Int) - (there.length : Int), fun β K => ?_, .inr ⟨⟨by omega, by omega⟩, by omega, by omega, by omega⟩⟩
    unfold laws_szStripe.G
    refine (szInt_G (by omega) (by omega) h1 _).trans ?_
    rw [if_neg c1]
    refine cF (ltF (by omega)) ((szInt_G (by omega) (by omega) h2 _).trans ?_)
    rw [if_neg c2]
    refine cF (ltF (by omega)) ((szBool_G (by omega) (by omega) h3 _).trans ?_)
    rw [if_neg c3]; exact cF (ltF (by omega)) rfl
theorem szStripe_or (kind : Int) {vals vers : List Int} {there : List Bool} (h1 : vals.length ≤ 9223372036854775807) (h2 : vers.length ≤ 9223372036854775807) (h3 : there.length ≤ 9223372036854775807) :
    ∃ y : Int, (∀ (β : Type) (K : Int → Option β), laws_szStripe.G sl1 kind vals vers there 1048576 K = K y) ∧ (y < 0 ∨ 0 ≤ y ∧ vals.length ≤ 1048576 ∧ vers.length ≤ 1048576 ∧ there.length ≤ 1048576) := by
  obtain ⟨y, h, k⟩ := szStripe_B kind h1 h2 h3
  exact ⟨y, h, k.imp id fun ⟨a, b⟩ => ⟨a.1, b⟩⟩
theorem toInt_l {β : Type} (kx : List Int → Option β) (kr : Option β) (l : List Int) (hl : l.length ≤ 1048576) (d : Nat) : ∀ (i n : Nat), i + d = l.length → d < n → laws_toIntS.l3 sl1 n kx kr (l.take i ++ List.replicate d 0) l (i : Int) = kx l := by
  induction d with
  | zero =>
    intro i n hi hn
    obtain ⟨n, rfl⟩ : ∃ m, n = m + 1 := ⟨n - 1, by omega⟩
    rw [laws_toIntS.t3, List.replicate_zero, List.append_nil, List.take_of_length_le (by omega)]; exact cF (ltF (by omega)) rfl
  | succ d ih =>
    intro i n hi hn
    obtain ⟨n, rfl⟩ : ∃ m, n = m + 1 := ⟨n - 1, by omega⟩
    have h1 : i < l.length := by omega
    have e := ih (i + 1) n (by omega) (by omega)
    have ht : (l.take i).length = i := by rw [List.length_take]; omega
    rw [List.take_succ_eq_append_getElem h1] at e
    rw [laws_toIntS.t3, List.replicate_succ]
    unfold laws_toIntS.b3
    rw [getN l i h1, mid_set _ _ _ _ _ ht, w_succ (by omega)]
    exact cT (ltT (by omega)) (cT (irT (by omega) (by omega)) (cT (irT (by omega) (by rw [mid_len, ht]; omega)) e))
theorem toInt_G {β : Type} {l : List Int} (hl : l.length ≤ 1048576) (K : List Int → Option β) : laws_toIntS.G sl1 l K = K l := by
  unfold laws_toIntS.G
  rw [Int.toNat_natCast]
  exact cT (andT (andT (leT (by omega)) (leT (by omega))) (fwT (by omega))) (toInt_l K none l hl l.length 0 sl1.n (by omega) (by rw [rounds_n]; omega))
theorem toBool_l {β : Type} (kx : List Bool → Option β) (kr : Option β) (l : List Bool) (hl : l.length ≤ 1048576) (d : Nat) : ∀ (i n : Nat), i + d = l.length → d < n → laws_toBoolS.l3 sl1 n kx kr (l.take i ++ List.replicate d false) l (i : Int) = kx l := by
  induction d with
  | zero =>
    intro i n hi hn
    obtain ⟨n, rfl⟩ : ∃ m, n = m + 1 := ⟨n - 1, by omega⟩
    rw [laws_toBoolS.t3, List.replicate_zero, List.append_nil, List.take_of_length_le (by omega)]; exact cF (ltF (by omega)) rfl
  | succ d ih =>
    intro i n hi hn
    obtain ⟨n, rfl⟩ : ∃ m, n = m + 1 := ⟨n - 1, by omega⟩
    have h1 : i < l.length := by omega
    have e := ih (i + 1) n (by omega) (by omega)
    have ht : (l.take i).length = i := by rw [List.length_take]; omega
    rw [List.take_succ_eq_append_getElem h1] at e
    rw [laws_toBoolS.t3, List.replicate_succ]
    unfold laws_toBoolS.b3
    rw [getN l i h1, mid_set _ _ _ _ _ ht, w_succ (by omega)]
    exact cT (ltT (by omega)) (cT (irT (by omega) (by omega)) (cT (irT (by omega) (by rw [mid_len, ht]; omega)) e))
theorem toBool_G {β : Type} {l : List Bool} (hl : l.length ≤ 1048576) (K : List Bool → Option β) : laws_toBoolS.G sl1 l K = K l := by
  unfold laws_toBoolS.G
  rw [Int.toNat_natCast]
  exact cT (andT (andT (leT (by omega)) (leT (by omega))) (fwT (by omega))) (toBool_l K none l hl l.length 0 sl1.n (by omega) (by rw [rounds_n]; omega))
theorem toStripe_G {β : Type} (kind : Int) {vals vers : List Int} {there : List Bool} (h1 : vals.length ≤ 1048576) (h2 : vers.length ≤ 1048576) (h3 : there.length ≤ 1048576) (K : List Int → List Int → List Bool → Int → Option β) : laws_toStripe.G sl1 kind vals vers there K = K vals vers there kind :=
  (toInt_G h1 _).trans ((toInt_G h2 _).trans (toBool_G h3 _))
theorem eqInt_l {β : Type} (kx : Option β) (kr : Bool → Option β) (l : List Int) (hl : l.length ≤ 1048576) (d : Nat) : ∀ (i n : Nat), i + d = l.length → d < n → laws_eqIntS.l4 sl1 n kx kr l l (i : Int) = kx := by
  induction d with
  | zero =>
    intro i n hi hn
    obtain ⟨n, rfl⟩ : ∃ m, n = m + 1 := ⟨n - 1, by omega⟩
    rw [laws_eqIntS.t4]; exact cF (ltF (by omega)) rfl
  | succ d ih =>
    intro i n hi hn
    obtain ⟨n, rfl⟩ : ∃ m, n = m + 1 := ⟨n - 1, by omega⟩
    rw [laws_eqIntS.t4]
    unfold laws_eqIntS.b4
    rw [w_succ (by omega)]
    exact cT (ltT (by omega)) (cT (irT (by omega) (by omega)) (cT (irT (by omega) (by omega)) (cF (neF rfl) (ih (i + 1) n (by omega) (by omega)))))
theorem eqInt_G {β : Type} {l : List Int} (hl : l.length ≤ 1048576) (K : Bool → Option β) : laws_eqIntS.G sl1 l l K = K true := by
  unfold laws_eqIntS.G
  exact cF (neF rfl) (eqInt_l _ _ l hl l.length 0 sl1.n (by omega) (by rw [rounds_n]; omega))
theorem eqBool_l {β : Type} (kx : Option β) (kr : Bool → Option β) (l : List Bool) (hl : l.length ≤ 1048576) (d : Nat) : ∀ (i n : Nat), i + d = l.length → d < n → laws_eqBoolS.l4 sl1 n kx kr l l (i : Int) = kx := by
  induction d with
  | zero =>
    intro i n hi hn
    obtain ⟨n, rfl⟩ : ∃ m, n = m + 1 := ⟨n - 1, by omega⟩
    rw [laws_eqBoolS.t4]; exact cF (ltF (by omega)) rfl
  | succ d ih =>
    intro i n hi hn
    obtain ⟨n, rfl⟩ : ∃ m, n = m + 1 := ⟨n - 1, by omega⟩
    rw [laws_eqBoolS.t4]
    unfold laws_eqBoolS.b4
    rw [w_succ (by omega)]
    exact cT (ltT (by omega)) (cT (irT (by omega) (by omega)) (cT (irT (by omega) (by omega)) (cF (bne_self_eq_false _) (ih (i + 1) n (by omega) (by omega)))))
theorem eqBool_G {β : Type} {l : List Bool} (hl : l.length ≤ 1048576) (K : Bool → Option β) : laws_eqBoolS.G sl1 l l K = K true := by
  unfold laws_eqBoolS.G
  exact cF (neF rfl) (eqBool_l _ _ l hl l.length 0 sl1.n (by omega) (by rw [rounds_n]; omega))
theorem eqStripe_G {β : Type} (kind : Int) {vals vers : List Int} {there : List Bool} (h1 : vals.length ≤ 1048576) (h2 : vers.length ≤ 1048576) (h3 : there.length ≤ 1048576) (K : Bool → Option β) : laws_eqStripe.G sl1 kind vals vers there kind vals vers there K = K true := by
  unfold laws_eqStripe.G
  exact cF (neF rfl) ((eqInt_G h1 _).trans (cF rfl ((eqInt_G h2 _).trans (cF rfl ((eqBool_G h3 _).trans (cF rfl rfl))))))
def cnt : Int → Nat → List Int
  | _, 0 => []
  | k, n + 1 => k :: cnt (k + 1) n
def cntB : Int → Nat → List Bool
  | _, 0 => []
  | k, n + 1 => sl1.eq (Int.tmod k 3) 0 :: cntB (k + 1) n
theorem cnt_len : ∀ (n : Nat) (k : Int), (cnt k n).length = n
  | 0, _ => rfl
  | n + 1, k => by rw [cnt, List.length_cons, cnt_len n]
theorem cntB_len : ∀ (n : Nat) (k : Int), (cntB k n).length = n
  | 0, _ => rfl
  | n + 1, k => by rw [cntB, List.length_cons, cntB_len n]
theorem markInt_l {β : Type} (kx : List Int → Int → Option β) (kr : Option β) (m : Nat) (hm : m ≤ 1048576) : ∀ (B A : List Int) (k : Int) (n : Nat), A.length + B.length = m → B.length < n → 0 ≤ k → k + (B.length : Int) ≤ 1000000000 →
    laws_markIntS_.l2 sl1 n kx kr (A ++ B) k (A.length : Int) = kx (A ++ cnt k B.length) (k + (B.length : Int))
  | [], A, k, n, hl, hn, h0, h1 => by
    obtain ⟨n, rfl⟩ : ∃ m, n = m + 1 := ⟨n - 1, by omega⟩
    rw [laws_markIntS_.t2, List.append_nil]
    refine cF (ltF (Int.le_refl _)) ?_
    show kx A k = _
    rw [show cnt k ([] : List Int).length = [] from rfl, List.append_nil, show k + (([] : List Int).length : Int) = k by simp]
  | x :: B, A, k, n, hl, hn, h0, h1 => by
    rw [List.length_cons] at hl hn h1
    obtain ⟨n, rfl⟩ : ∃ m, n = m + 1 := ⟨n - 1, by omega⟩
    have e := markInt_l kx kr m hm B (A ++ [k]) (k + 1) n (by simp; omega) (by omega) (by omega) (by omega)
    rw [List.length_append, List.length_singleton] at e
    rw [laws_markIntS_.t2]
    unfold laws_markIntS_.b2
    rw [mid_set _ _ _ _ _ rfl, w_succ (by omega), wE (by omega) (by omega)]
    refine cT (ltT (by rw [mid_len]; omega)) (cT (irT (by omega) (by rw [mid_len]; omega)) (e.trans ?_))
    rw [List.length_cons, cnt, List.append_assoc, show k + ((B.length + 1 : Nat) : Int) = k + 1 + (B.length : Int) by omega]; rfl
theorem markInt_G {β : Type} {l : List Int} (hl : l.length ≤ 1048576) {k : Int} (h0 : 0 ≤ k) (h1 : k ≤ 100000000) (K : List Int → Int → Option β) : laws_markIntS_.G sl1 l k K = K (cnt k l.length) (k + (l.length : Int)) :=
  markInt_l K none l.length hl l [] k sl1.n (by simp) (by rw [rounds_n]; omega) h0 (by omega)
theorem markBool_l {β : Type} (kx : List Bool → Int → Option β) (kr : Option β) (m : Nat) (hm : m ≤ 1048576) : ∀ (B A : List Bool) (k : Int) (n : Nat), A.length + B.length = m → B.length < n → 0 ≤ k → k + (B.length : Int) ≤ 1000000000 →
    laws_markBoolS_.l2 sl1 n kx kr (A ++ B) k (A.length : Int) = kx (A ++ cntB k B.length) (k + (B.length : Int))
  | [], A, k, n, hl, hn, h0, h1 => by
    obtain ⟨n, rfl⟩ : ∃ m, n = m + 1 := ⟨n - 1, by omega⟩
    rw [laws_markBoolS_.t2, List.append_nil]
    refine cF (ltF (Int.le_refl _)) ?_
    show kx A k = _
    rw [show cntB k ([] : List Bool).length = [] from rfl, List.append_nil, show k + (([] : List Bool).length : Int) = k by simp]
  | x :: B, A, k, n, hl, hn, h0, h1 => by
    rw [List.length_cons] at hl hn h1
    obtain ⟨n, rfl⟩ : ∃ m, n = m + 1 := ⟨n - 1, by omega⟩
    have e := markBool_l kx kr m hm B (A ++ [sl1.eq (Int.tmod k 3) 0]) (k + 1) n (by simp; omega) (by omega) (by omega) (by omega)
    rw [List.length_append, List.length_singleton] at e
    rw [laws_markBoolS_.t2]
    unfold laws_markBoolS_.b2
    rw [mid_set _ _ _ _ _ rfl, w_succ (by omega), wE (by omega) (by omega)]
    refine cT (ltT (by rw [mid_len]; omega)) (cT (irT (by omega) (by rw [mid_len]; omega)) (e.trans ?_))
    rw [List.length_cons, cntB, List.append_assoc, show k + ((B.length + 1 : Nat) : Int) = k + 1 + (B.length : Int) by omega]; rfl
theorem markBool_G {β : Type} {l : List Bool} (hl : l.length ≤ 1048576) {k : Int} (h0 : 0 ≤ k) (h1 : k ≤ 100000000) (K : List Bool → Int → Option β) : laws_markBoolS_.G sl1 l k K = K (cntB k l.length) (k + (l.length : Int)) :=
  markBool_l K none l.length hl l [] k sl1.n (by simp) (by rw [rounds_n]; omega) h0 (by omega)
theorem heldInt_l {β : Type} (kx : Int → Option β) (kr : Int → Option β) (m : Nat) (hm : m ≤ 1048576) (d : Nat) : ∀ (A : List Int) (k : Int) (n : Nat), A.length + d = m → d < n → 0 ≤ k → k + (d : Int) ≤ 1000000000 →
    laws_heldIntS.l2 sl1 n kx kr (A ++ cnt k d) k (A.length : Int) = kx (k + (d : Int)) := by
  induction d with
  | zero =>
    intro A k n hl hn h0 h1
    obtain ⟨n, rfl⟩ : ∃ m, n = m + 1 := ⟨n - 1, by omega⟩
    rw [laws_heldIntS.t2, show cnt k 0 = [] from rfl, List.append_nil]
    refine cF (ltF (Int.le_refl _)) ?_
    rw [show k + ((0 : Nat) : Int) = k by omega]
  | succ d ih =>
    intro A k n hl hn h0 h1
    obtain ⟨n, rfl⟩ : ∃ m, n = m + 1 := ⟨n - 1, by omega⟩
    have e := ih (A ++ [k]) (k + 1) n (by simp; omega) (by omega) (by omega) (by omega)
    rw [List.length_append, List.length_singleton, List.append_assoc] at e
    rw [laws_heldIntS.t2, cnt]
    unfold laws_heldIntS.b2
    rw [mid_get _ _ _ _ _ rfl, w_succ (by omega), wE (by omega) (by omega)]
    refine cT (ltT (by rw [mid_len]; omega)) (cT (irT (by omega) (by rw [mid_len]; omega)) (cF (neF rfl) (e.trans ?_)))
    rw [show k + ((d + 1 : Nat) : Int) = k + 1 + (d : Int) by omega]
theorem heldInt_G {β : Type} {m : Nat} (hl : m ≤ 1048576) {k : Int} (h0 : 0 ≤ k) (h1 : k ≤ 100000000) (K : Int → Option β) : laws_heldIntS.G sl1 (cnt k m) k K = K (k + (m : Int)) :=
  heldInt_l K (fun y => K y) m hl m [] k sl1.n (by simp) (by rw [rounds_n]; omega) h0 (by omega)
theorem heldBool_l {β : Type} (kx : Int → Option β) (kr : Int → Option β) (m : Nat) (hm : m ≤ 1048576) (d : Nat) : ∀ (A : List Bool) (k : Int) (n : Nat), A.length + d = m → d < n → 0 ≤ k → k + (d : Int) ≤ 1000000000 →
    laws_heldBoolS.l2 sl1 n kx kr (A ++ cntB k d) k (A.length : Int) = kx (k + (d : Int)) := by
  induction d with
  | zero =>
    intro A k n hl hn h0 h1
    obtain ⟨n, rfl⟩ : ∃ m, n = m + 1 := ⟨n - 1, by omega⟩
    rw [laws_heldBoolS.t2, show cntB k 0 = [] from rfl, List.append_nil]
    refine cF (ltF (Int.le_refl _)) ?_
    rw [show k + ((0 : Nat) : Int) = k by omega]
  | succ d ih =>
    intro A k n hl hn h0 h1
    obtain ⟨n, rfl⟩ : ∃ m, n = m + 1 := ⟨n - 1, by omega⟩
    have e := ih (A ++ [sl1.eq (Int.tmod k 3) 0]) (k + 1) n (by simp; omega) (by omega) (by omega) (by omega)
    rw [List.length_append, List.length_singleton, List.append_assoc] at e
    rw [laws_heldBoolS.t2, cntB]
    unfold laws_heldBoolS.b2
    rw [mid_get _ _ _ _ _ rfl, w_succ (by omega), wE (a := k + 1) (by omega) (by omega)]
    refine cT (ltT (by rw [mid_len]; omega)) (cT (irT (by omega) (by rw [mid_len]; omega)) (cF (bne_self_eq_false _) (e.trans ?_)))
    rw [show k + ((d + 1 : Nat) : Int) = k + 1 + (d : Int) by omega]
theorem heldBool_G {β : Type} {m : Nat} (hl : m ≤ 1048576) {k : Int} (h0 : 0 ≤ k) (h1 : k ≤ 100000000) (K : Int → Option β) : laws_heldBoolS.G sl1 (cntB k m) k K = K (k + (m : Int)) :=
  heldBool_l K (fun y => K y) m hl m [] k sl1.n (by simp) (by rw [rounds_n]; omega) h0 (by omega)
theorem markStripe_B (kind : Int) {vals vers : List Int} {there : List Bool} (h1 : vals.length ≤ 1048576) (h2 : vers.length ≤ 1048576) (h3 : there.length ≤ 1048576) : ∃ (a b : List Int) (c : List Bool) (k : Int), (0 ≤ k ∧ k ≤ 10000000) ∧ (∀ (β : Type) (K : List Int → List Int → List Bool → Int → Option β), laws_markStripe_.G sl1 vals vers there kind 1 K = K a b c k) ∧
    ∀ (β : Type) (K : Int → Option β), laws_heldStripe.G sl1 kind a b c 1 K = K k := by
  refine ⟨cnt 1 vals.length, cnt (1 + (vals.length : Int)) vers.length, cntB (1 + (vals.length : Int) + (vers.length : Int)) there.length, 1 + (vals.length : Int) + (vers.length : Int) + (there.length : Int), ⟨by omega, by omega⟩, fun β K => ?_, fun β K => ?_⟩
  · exact (markInt_G h1 (by omega) (by omega) _).trans ((markInt_G h2 (by omega) (by omega) _).trans (markBool_G h3 (by omega) (by omega) _))
  · exact (heldInt_G h1 (by omega) (by omega) _).trans (cF (ltF (by omega)) ((heldInt_G h2 (by omega) (by omega) _).trans (cF (ltF (by omega)) ((heldBool_G h3 (by omega) (by omega) _).trans (cF (ltF (by omega)) rfl)))))
theorem markStripe_E (kind : Int) {vals vers : List Int} {there : List Bool} (h1 : vals.length ≤ 1048576) (h2 : vers.length ≤ 1048576) (h3 : there.length ≤ 1048576) : ∃ (a b : List Int) (c : List Bool) (k : Int), 0 ≤ k ∧ (∀ (β : Type) (K : List Int → List Int → List Bool → Int → Option β), laws_markStripe_.G sl1 vals vers there kind 1 K = K a b c k) ∧
    ∀ (β : Type) (K : Int → Option β), laws_heldStripe.G sl1 kind a b c 1 K = K k := by
  obtain ⟨a, b, c, k, hk, h⟩ := markStripe_B kind h1 h2 h3
  exact ⟨a, b, c, k, hk.1, h⟩
end Go.Proofs.YtechafkfchmggaaGreat.E
end
section
set_option linter.unusedVariables false
set_option linter.unusedSimpArgs false
namespace Go.Proofs.YtechafkfchmggaaGreat.Pure.FnExactPatchDo
open Go Go.Proofs.YtechafkfchmggaaGreat.E
theorem pure (x : Int × (List Int × (List Int × (List Bool × Unit)))) (p : Int × (Int × Unit)) (which : List Bool) (h1 : x.2.1.length ≤ 9223372036854775807) (h2 : x.2.2.1.length ≤ 9223372036854775807) (h3 : x.2.2.2.1.length ≤ 9223372036854775807)
    (h5 : which.length ≤ 9223372036854775807) {β : Type} (K : Bool → Option β) :
    laws_FnExactPatchDo.G sl1 x.1 x.2.1 x.2.2.1 x.2.2.2.1 p.1 p.2.1 which K = K true := by
  obtain ⟨kind, vals, vers, there, _⟩ := x
  obtain ⟨at_, dif, _⟩ := p
  dsimp only at h1 h2 h3 ⊢
  obtain ⟨y, hy, h⟩ := szStripe_or kind h1 h2 h3
  unfold laws_FnExactPatchDo.G laws_toPatch.G
  by_cases c5 : 1048576 < (which.length : Int)
  · exact cT (ltT c5) rfl
  have l5 : which.length ≤ 1048576 := by omega
  refine cF (ltF (by omega)) ((hy _ _).trans ?_)
  rcases h with h | ⟨h, l1, l2, l3⟩
  · exact cT (ltT h) rfl
  obtain ⟨m1, m2, m3⟩ := patchV_len (kind := kind) (at_ := at_) (dif := dif) (which := which) l1 l2 l3
  obtain ⟨a, b, c, k, hk, hm, hh⟩ := markStripe_B kind l1 l2 l3
  obtain ⟨a', b', c', k', hk', hm', hh'⟩ := markStripe_B (patchV kind vals vers there at_ dif which).2.1 m1 m2 m3
  have to := fun {γ : Type} (K : List Int → List Int → List Bool → Int → Option γ) => toStripe_G kind l1 l2 l3 K
  have ei := fun {γ : Type} (K : List Int → List Int → List Bool → Int → Bool → Option γ) => patchI_G kind vals vers there at_ dif which K
  have eq1 := fun {γ : Type} (K : Bool → Option γ) => eqStripe_G (patchV kind vals vers there at_ dif which).2.1 m1 m2 m3 K
  refine cF (ltF h) ((to _).trans ((toBool_G l5 _).trans ?_))
  refine (patchS_G kind vals vers there at_ dif which (by omega) _).trans ((to _).trans ((toBool_G l5 _).trans ((ei _).trans ((eq1 _).trans (cF rfl (cF (bne_self_eq_false _) ?_))))))
  refine (to _).trans ((eqStripe_G kind l1 l2 l3 _).trans (cF rfl ((toBool_G l5 _).trans ((eqBool_G l5 _).trans (cF rfl ?_)))))
  refine (hm _ _).trans ((markBool_G l5 (by omega) (by omega) _).trans (cF (ltF (by omega)) ((eq1 _).trans (cF rfl (cF (bne_self_eq_false _) ?_)))))
  refine (hm' _ _).trans ((hh' _ _).trans (cF (ltF (by omega)) (cF (neF rfl) ((to _).trans ((toBool_G l5 _).trans ((ei _).trans ((eq1 _).trans (cF rfl (cF (bne_self_eq_false _) ?_)))))))))
  exact (hh' _ _).trans (cF (ltF (by omega)) (cF (neF rfl) rfl))
end Go.Proofs.YtechafkfchmggaaGreat.Pure.FnExactPatchDo
end
section
set_option linter.unusedVariables false
set_option linter.unusedSimpArgs false
namespace Go.Proofs.YtechafkfchmggaaGreat.fnExactPatchDo
open Go.ChangeShapes Go.WideShapes Go.ChangeAt Go.RowKit
open Go.ChangeMaps (open_string shut_string)
set_option linter.unusedVariables false
theorem own : ownKnob Tryz.prog.godebug = none := by kernel_rfl
theorem laidOut : laidOutB Tryz.prog = true := by kernel_rfl
set_option maxRecDepth 100000 in
theorem lifted (os : Os) (started : os.Started) (H : Type) (enc : TypeId × Value → H) :
    ReturnsInHanded {} Tryz.checked os 12 .any (Rows.fnExactPatchDoSpec.pre6 enc Tryz.prog Tryz.f12 Rows.fnExactPatchDoRow.domain false) (Rows.fnExactPatchDoSpec.post enc Tryz.prog Tryz.f12 false true false false) := by
  refine returnsInHanded_of_change_sized (C := Tryz.checked) own started (by kernel_rfl) Tryz.func12
    (ChangeSpec.witness6 (enc := enc) (C := Tryz.checked) false ⟨#[], #[.agg #[.int .i64 0, .slice none 0 0, .slice none 0 0, .slice none 0 0], .agg #[.int .i64 0, .int .i64 0], .slice none 0 0], []⟩ 8 (by kernel_rfl) (by kernel_rfl) (by kernel_rfl) (by kernel_rfl)) ?_
  intro W base args ds gs before hval0 hW hcnd hsz0 _
  have hval : ∀ (j : Nat) t v, Tryz.f12.params[j]? = some t → args[j]? = some v → Value.okWide Tryz.prog W .any base t v := hval0
  have hW' := hW
  obtain ⟨p, q, hA0, hV, rfl, hfz, hnd⟩ := hW
  have hA : DataW.TrodAll enc Tryz.prog W 0 (fun _ => true) true Tryz.f12.params.toList args.toList ds p := hA0
  rw [Tryz.params12] at hA hval
  obtain ⟨v0, vs0, d0, ds0, p0, q0, hargs0, rfl, rfl, h0, r0⟩ := trodAll_cons hA
  obtain ⟨v1, vs1, d1, ds1, p1, q1, hargs1, rfl, rfl, h1, r1⟩ := trodAll_cons r0
  obtain ⟨v2, vs2, d2, ds2, p2, q2, hargs2, rfl, rfl, h2, r2⟩ := trodAll_cons r1
  obtain ⟨rfl, rfl, rfl⟩ := trodAll_nil r2
  obtain rfl : args = #[v0, v1, v2] := by cases args; simp_all
  obtain ⟨rfl, rfl⟩ := trodVars_none hV
  have k0 := h0
  have lt0 : ∀ x ∈ p0, x.block < W.heap.size := by obtain ⟨m, hm⟩ := k0; exact DataW.trod_lt m _ _ _ hm
  obtain ⟨x0, R0, Q0⟩ := E.arg_struct Tryz.underlying25 (hval 0 25 v0 rfl rfl) h0 (E.RdG_cons rfl (E.Rd_int Tryz.underlying3 (by kernel_rfl)) (E.RdG_cons rfl (E.Rd_slice Tryz.underlying22 (by kernel_rfl) (by decide) (E.Rd_int Tryz.underlying3 (by kernel_rfl))) (E.RdG_cons rfl (E.Rd_slice Tryz.underlying22 (by kernel_rfl) (by decide) (E.Rd_int Tryz.underlying3 (by kernel_rfl))) (E.RdG_cons rfl (E.Rd_slice Tryz.underlying23 (by kernel_rfl) (by decide) (E.Rd_bool Tryz.underlying4 (by kernel_rfl))) (E.RdG_nil (by decide +kernel))))))
  have k1 := h1
  have lt1 : ∀ x ∈ p1, x.block < W.heap.size := by obtain ⟨m, hm⟩ := k1; exact DataW.trod_lt m _ _ _ hm
  obtain ⟨x1, R1, Q1⟩ := E.arg_struct Tryz.underlying71 (hval 1 71 v1 rfl rfl) h1 (E.RdG_cons rfl (E.Rd_int Tryz.underlying3 (by kernel_rfl)) (E.RdG_cons rfl (E.Rd_int Tryz.underlying3 (by kernel_rfl)) (E.RdG_nil (by decide +kernel))))
  have k2 := h2
  have lt2 : ∀ x ∈ p2, x.block < W.heap.size := by obtain ⟨m, hm⟩ := k2; exact DataW.trod_lt m _ _ _ hm
  obtain ⟨x2, R2, Q2⟩ := E.arg_slice Tryz.underlying23 (hval 2 23 v2 rfl rfl) h2 (E.Rd_slice Tryz.underlying23 (by kernel_rfl) (by decide) (E.Rd_bool Tryz.underlying4 (by kernel_rfl)))
  clear hA0 hval0 hsz0
  have hp := Pure.FnExactPatchDo.pure x0 x1 x2 Q0.2.1.1 Q0.2.2.1.1 Q0.2.2.2.1.1 Q2.1 (fun b => some ((), (b, ())))
  rw [← E.sl_eq] at hp
  refine (E.law_any E.laws_FnExactPatchDo.ok (s := (x0, (x1, (x2, ())))) hp (args := [v0, v1, v2]) ⟨v0, _, rfl, R0, ⟨v1, _, rfl, R1, ⟨v2, _, rfl, R2, rfl⟩⟩⟩).mono fun e W' ⟨he, bel⟩ => ?_
  subst he
  exact ⟨_, rfl, _, _, _, [], _, [], hW', trodAll_mk1 (shut_bool Tryz.underlying4 _), (trodAll_cons_mk (Below.trod laidOut (by kernel_rfl) (of_decide_eq_true (by kernel_rfl)) k0 bel lt0) (trodAll_cons_mk (Below.trod laidOut (by kernel_rfl) (of_decide_eq_true (by kernel_rfl)) k1 bel lt1) (trodAll_cons_mk (Below.trod laidOut (by kernel_rfl) (of_decide_eq_true (by kernel_rfl)) k2 bel lt2) trodAll_mk0))), rfl, bel.frame _, fun h => by cases h⟩
theorem closed : joinedFacts Tryz.prog 12 Tryz.f12 Rows.fnExactPatchDoSpec Rows.fnExactPatchDoRow = true := by
  unfold joinedFacts
  rw [Head.make, Head.final, Head.enter]
  kernel_rfl
theorem over : Rows.fnExactPatchDoRow.holds Tryz.pinned (OpenSpec.ofChange Rows.fnExactPatchDoSpec) :=
  OpenClaim.holds_of_wide 12 Tryz.f12 rfl rfl rfl rfl rfl rfl rfl ⟨rfl, rfl, rfl, rfl, rfl⟩ rfl rfl rfl rfl rfl (by kernel_rfl) Tryz.func12 closed
    (of_decide_eq_true (by kernel_rfl)) (by unfold Func.isWrapper; first | (rw [if_pos (by decide +kernel)]; kernel_rfl) | (rw [if_neg (by decide +kernel)]; exact ⟨rfl, rfl⟩))
    (fun os started H enc _ => lifted os started H enc)
theorem proved : Rows.FnExactPatchDoSaid := over
#print axioms proved
end Go.Proofs.YtechafkfchmggaaGreat.fnExactPatchDo
end
