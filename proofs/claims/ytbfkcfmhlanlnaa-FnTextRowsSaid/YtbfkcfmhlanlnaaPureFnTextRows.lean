/- Of every drawn text: four letters are a row; no condition. -/
import Derived.Test.YtbfkcfmhlanlnaaKPureT
import Derived.Test.YtbfkcfmhlanlnaaKxlawsFnTextRows
namespace Go.Proofs.Ytbfkcfmhlanlnaa.Pure
open Go.RowKit Go.Proofs.Ytbfkcfmhlanlnaa.K Go.Proofs.YtbfkcfmhlanlnaaW.PrintWords Go.Proofs.YtbfkcfmhlanlnaaW.PrintLast
theorem rows_add (s t : ByteArray) (ht : tok t = true) (hs : tok s = true) : rowsT (s ++ t) ≤ rowsT s + rowsT t := by
  have h1 : rowsT s = (chunks s.size : Nat) := if_pos hs
  have h2 : rowsT t = (chunks t.size : Nat) := if_pos ht
  rw [h1, h2]
  unfold rowsT
  split
  · rw [ByteArray.size_append]; unfold chunks; omega
  · omega
theorem FnTextRows : laws_FnTextRows.Pure := by
  intro l m _ _ hb hm1 hm2 _
  refine Ev.rounds (g := fun k => laws_FnTextRows.f k l m) (r := true) ?_
  have key : ∀ x16, Ev (fun k => laws_FnTextRows.j0 k l m x16) true := by
    intro x16
    refine Ev.step (fun k => rfl) ?_
    by_cases c : x16 = true
    · exact tv_pos c (Ev.now _)
    refine tv_neg c ?_
    obtain ⟨l', eo, hl, hb'⟩ := open_some_t l hb
    obtain ⟨s, q, hs, hsz, _, _⟩ := text_ev l' hl hb' 0 (by omega) (by omega)
    have hd : Ev (fun k => spec_DrawTextRows.f k l) s := by
      unfold spec_DrawTextRows.f
      exact tv_call eo (hs.bind (Ev.now _))
    refine hd.bind (tv_call (implRows_f s (by omega)) ?_)
    refine (specRows_t s (by omega)).bind (tv_pos rfl ?_)
    by_cases c0 : rowsT s = 0
    · refine Ev.step (fun k => rfl) (tv_pos (by rw [c0]; rfl) ((specRows_t s (by omega)).bind (tv_eq (Ev.now _) ?_)))
      simp
    have hk : tok s = true := by
      by_cases c : tok s = true
      · exact c
      · exact absurd (if_neg c) c0
    have hr : rowsT s = (chunks s.size : Nat) := if_pos hk
    have hc := (tok_iff s).1 hk
    refine Ev.step (fun k => rfl) (tv_neg (by rw [beq_eq_false_iff_ne.mpr c0]; simp) ?_)
    refine tv_call rfl ?_
    obtain ⟨n, hn⟩ : ∃ n : Nat, n = m.length % 3 := ⟨_, rfl⟩
    have hn3 : n < 3 := by omega
    rw [show ((m.length : Int) % 3) = (n : Int) by omega]
    refine tv_pos (by omega) (tv_pos (by show (n : Int) < 3; omega) ?_)
    obtain ⟨t, ht⟩ : ∃ t, t = rdOf ByteArray.empty ([(⟨#[97]⟩ : ByteArray), (⟨#[98, 99, 100]⟩ : ByteArray), (⟨#[101, 102, 103, 104, 105]⟩ : ByteArray)] : List ByteArray) (n : Int) := ⟨_, rfl⟩
    rw [← ht]
    have htk : tok t = true ∧ t.size ≤ 5 := by
      rw [ht]
      match n, hn3 with
      | 0, _ => decide +kernel
      | 1, _ => decide +kernel
      | 2, _ => decide +kernel
    have hadd := rows_add s t htk.1 hk
    have h1 : (chunks s.size : Int) = ((s.size + 3) / 4 : Nat) := rfl
    have h2 : rowsT t = (chunks t.size : Nat) := if_pos htk.1
    have h3 : chunks t.size ≤ 2 := by unfold chunks; omega
    refine tv_pos (by omega) (tv_call (implRows_f _ (by rw [ByteArray.size_append]; omega)) ?_)
    rw [hr, w64t (x := ((chunks s.size : Nat) : Int) * 4) (by omega) (by omega), w64t (x := ((chunks s.size : Nat) : Int) - 1) (by omega) (by omega), w64t (x := (((chunks s.size : Nat) : Int) - 1) * 4) (by omega) (by omega)]
    refine tv_pos (by unfold chunks; omega) (tv_pos (by unfold chunks; omega) (tv_call (implRows_f t (by omega)) (tv_eq (Ev.now _) ?_)))
    rw [w64t (by omega) (by omega), decide_eq_true_eq, ← hr]
    exact hadd
  unfold laws_FnTextRows.f
  by_cases h : (l.length : Int) > 1048576
  · simp only [if_pos h]; exact key _
  · simp only [if_neg h]; exact key _
end Go.Proofs.Ytbfkcfmhlanlnaa.Pure
