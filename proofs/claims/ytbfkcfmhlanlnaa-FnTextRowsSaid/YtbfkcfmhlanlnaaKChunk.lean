/- slices.Chunk over bytes, in fours: the contract of the iterator, for whatever loop body keeps what lay. -/
import Derived.RangeFuncBox
import Derived.RangeFuncNested
import Derived.RangeFuncBound
import Derived.RangeFuncCalls
import Derived.RangeFuncLeaves
import Derived.Shelf.Abstract
import Derived.WalkKit
import Derived.OwnWalkIn
import Derived.TacticsInMore
import Derived.LoopNIn
import Derived.LoopIn
import Derived.Sort.QuietIn
import Derived.Sort.QuietTacIn
import Derived.BigRegionIn
import Derived.Maps.OwnIn
import Derived.Maps.AppendAt
import Derived.Test.YtbfkcfmhlanlnaaKx0
namespace Go.Proofs.Ytbfkcfmhlanlnaa.K
set_option linter.unusedVariables false
set_option linter.unusedSimpArgs false
open Go.RowKit Go.Shelf Go.Proofs.YtbfkcfmhlanlnaaW.PrintWords Go.Proofs.YtbfkcfmhlanlnaaW.PrintLast Go.Proofs.YtbfkcfmhlanlnaaW.PrintMore
attribute [local go_sem] Oper.semAt_some
/-- How many chunks of four there are. -/
def chunks (n : Nat) : Nat := (n + 3) / 4
/-- A chunk's place. -/
abbrev Ck (n : Nat) := { k : Nat // 4 * k < n }
def upto (n : Nat) : Nat → List (Ck n)
  | 0 => []
  | k + 1 => upto n k ++ (if h : 4 * k < n then [⟨k, h⟩] else [])
theorem upto_succ {n k : Nat} (h : 4 * k < n) : upto n (k + 1) = upto n k ++ [⟨k, h⟩] := by simp [upto, h]
theorem upto_length {n : Nat} : ∀ k, 4 * k < n + 4 → (upto n k).length = k
  | 0, _ => rfl
  | k + 1, h => by rw [upto_succ (by omega), List.length_append, upto_length k (by omega)]; rfl
/-- A chunk as a slice. -/
def part (b n : Nat) (k : Nat) : Value := .slice (some ⟨b, 4 * k, none⟩) (min 4 (n - 4 * k)) (min 4 (n - 4 * k))
theorem chunk_add (b n : Nat) : (⟨b, 0, none⟩ : Addr).add n = ⟨b, n, none⟩ := by
  unfold Addr.add; split
  · rename_i h; rw [h]
  · simp
/-- What the iterator reads between two rounds stays: the two boxes. -/
structure KeepTwo (Bs Bn : Nat) (A B : World) : Prop where
  ks : B.heap[Bs]? = A.heap[Bs]?
  kn : B.heap[Bn]? = A.heap[Bn]?
theorem KeepTwo.refl (Bs Bn : Nat) (A : World) : KeepTwo Bs Bn A A := ⟨rfl, rfl⟩
theorem KeepTwo.trans {Bs Bn : Nat} {A B C : World} (h : KeepTwo Bs Bn A B) (k : KeepTwo Bs Bn B C) : KeepTwo Bs Bn A C := ⟨k.ks.trans h.ks, k.kn.trans h.kn⟩
theorem KeepTwo.drewN (Bs Bn : Nat) (A : World) (n : Nat) : KeepTwo Bs Bn A (A.drewN n) := ⟨rfl, rfl⟩
theorem KeepTwo.s {Bs Bn : Nat} {A B : World} (h : KeepTwo Bs Bn A B) : B.cell? ⟨Bs, 0, none⟩ = A.cell? ⟨Bs, 0, none⟩ := by unfold World.cell?; rw [h.ks]
theorem KeepTwo.n {Bs Bn : Nat} {A B : World} (h : KeepTwo Bs Bn A B) : B.cell? ⟨Bn, 0, none⟩ = A.cell? ⟨Bn, 0, none⟩ := by unfold World.cell?; rw [h.kn]
set_option maxRecDepth 100000 in
set_option maxHeartbeats 2000000 in
theorem chunk1_in (n : Nat) (hn : 1 ≤ n) (l Bs Bn b len cap : Nat) (hlen : len ≤ 1000) (hpos : 0 < len) (hcap : len ≤ cap) (J Jx : List (Ck len) → World → Prop) (n₁ : Nat) (hJ : AbidesFrom n₁ J)
    (hY : ∀ pre x W, J pre W → pre.length < chunks len → YieldAt Fence.wide (n - 1) Try.prog l #[part b len x.val] W fun e W' =>
      (e = .returned (.bool true) ∧ J (pre ++ [x]) W' ∧ KeepTwo Bs Bn W W') ∨ (e = .returned (.bool false) ∧ Jx (pre ++ [x]) W'))
    (W : World) (hBs : W.cell? ⟨Bs, 0, none⟩ = some (.slice (some ⟨b, 0, none⟩) len cap)) (hBn : W.cell? ⟨Bn, 0, none⟩ = some (.int .i64 4)) (h0 : J [] W) :
    CallsIn Fence.wide n Try.prog 92 #[.func (.yield l) #[] #[], .pointer (some ⟨Bs, 0, none⟩), .pointer (some ⟨Bn, 0, none⟩)] W fun e W' => (∃ v, e = .returned v) ∧
      ((∃ ys, ys = upto len (chunks len) ∧ J ys W') ∨ (∃ pre, True ∧ Jx pre W')) := by
  refine callsIn_of_wp Try.func92 rfl trivial ?_ rfl
  simp only [Try.ntmps92, List.size_toArray, List.length_cons, List.length_nil, Nat.reduceAdd, Nat.reduceSub, Array.replicate_succ, Array.replicate_zero, List.push_toArray, List.append_toArray, List.nil_append, List.cons_append]
  gi_wp2
  gi_loopw [4] (fun i wr => ∃ k : Nat, 4 * k < len + 4 ∧ i = .int .i64 (4 * k : Nat) ∧ J (upto len k) wr ∧ KeepTwo Bs Bn W wr)
    (fun i _ => len + 4 - (intOf i).toNat)
  case atStart => exact ⟨0, by omega, rfl, h0, KeepTwo.refl _ _ _⟩
  case round =>
    obtain ⟨k, hk, rfl, hJs, hnx⟩ := hrel
    have hcs : wr.cell? ⟨Bs, 0, none⟩ = some (.slice (some ⟨b, 0, none⟩) len cap) := hnx.s.trans hBs
    have hcn : wr.cell? ⟨Bn, 0, none⟩ = some (.int .i64 4) := hnx.n.trans hBn
    by_cases hlt : 4 * k < len
    · gi_wp2
      have hh : (if cap = 4 * k then (some ⟨b, 0, none⟩ : Option Addr) else some ⟨b, 4 * k, none⟩) = some ⟨b, 4 * k, none⟩ := if_neg (by omega)
      gi_quiet (fail)
      have hm : (if ((len - 4 * k : Nat) : Int) < 4 then ((len - 4 * k : Nat) : Int) else 4) = ((min 4 (len - 4 * k) : Nat) : Int) := by split <;> omega
      rw [hm]
      have hJ2 : J (upto len k) (wr.drewN nq) := hJ _ _ _ none hJs (⟨rfl, rfl, rfl, Nat.le_refl _, fun _ _ _ => rfl⟩) (fun r h => by cases h)
      obtain ⟨fn, tmps, assign, body, hy, hR⟩ := hY _ ⟨k, hlt⟩ (wr.drewN nq) hJ2 (by rw [upto_length k hk]; unfold chunks; omega)
      have hy' : Sem.run Try.prog (Instr.yield l #[.slice (some ⟨b, 4 * k, none⟩) (min 4 (len - 4 * k)) (min 4 (len - 4 * k))]) (wr.drewN nq) = Result.ok (Next.round l fn tmps assign body) (wr.drewN nq) := hy
      clear hh hm hy
      gi_wp2
      refine hR.mono ?_
      rintro e W3 (⟨rfl, hJ3, hk3⟩ | ⟨rfl, hJx3⟩)
      · have hn3 : W3.cell? ⟨Bn, 0, none⟩ = some (.int .i64 4) := hk3.n.trans hcn
        gi_wp2
        go_roundw
        case rel => exact ⟨k + 1, by omega, by simp; omega, by rw [upto_succ hlt]; exact hJ3, hnx.trans ((KeepTwo.drewN _ _ _ nq).trans hk3)⟩
        case measure => simp [intOf]; omega
      · gi_wp2
        refine bodyPost_ret (results_none rfl _ _ _) rfl ?_
        exact ⟨⟨_, rfl⟩, .inr ⟨_, trivial, hJx3⟩⟩
    · gi_wp2
      go_end0
      refine ⟨⟨_, rfl⟩, .inl ⟨_, rfl, ?_⟩⟩
      have : chunks len = k := by unfold chunks; omega
      rw [this]; exact hJs
set_option maxHeartbeats 1000000 in
/-- slices.Chunk(s, 4): the slice and the number are boxed; the function value captures the boxes. -/
theorem chunk_in (n : Nat) (a : Option Addr) (len cap : Nat) (w : World) :
    CallsIn Fence.wide n Try.prog 59 #[.slice a len cap, .int .i64 4] w fun e w' => e = .returned (.func (.func 92) #[] #[.pointer (some ⟨w.heap.size, 0, none⟩), .pointer (some ⟨w.heap.size + 1, 0, none⟩)]) ∧ w' = (w.alloc (.cells #[.slice a len cap] 24)).alloc (.cells #[.int .i64 4] 3) := by
  refine callsIn_of_wp Try.func59 rfl trivial ?_ rfl
  simp only [Try.ntmps59, List.size_toArray, List.length_cons, List.length_nil, Nat.reduceAdd, Nat.reduceSub, Array.replicate_succ, Array.replicate_zero, List.push_toArray, List.append_toArray, List.nil_append, List.cons_append]
  gi_wp2
  go_ret
  exact ⟨rfl, rfl⟩
/-- The iterator, as the law of a range over a function asks. -/
theorem chunk_stops (n : Nat) (hn : 1 ≤ n) (Bs Bn b len cap : Nat) (hlen : len ≤ 1000) (hpos : 0 < len) (hcap : len ≤ cap) (w : World) (hBs0 : Bs < w.heap.size) (hBn0 : Bn < w.heap.size)
    (hBs : w.cell? ⟨Bs, 0, none⟩ = some (.slice (some ⟨b, 0, none⟩) len cap)) (hBn : w.cell? ⟨Bn, 0, none⟩ = some (.int .i64 4)) :
    SeqStopsK Fence.wide n Try.prog 92 #[.pointer (some ⟨Bs, 0, none⟩), .pointer (some ⟨Bn, 0, none⟩)] (fun x : Ck len => #[part b len x.val]) (KeepTwo Bs Bn) (fun ys => ys = upto len (chunks len)) (fun _ => True) (chunks len) w := fun l J Jx W hW hJ _ hY h0 =>
  chunk1_in n hn l Bs Bn b len cap hlen hpos hcap J Jx W.heap.size hJ hY W ((hW.cell (p := ⟨Bs, 0, none⟩) hBs0).trans hBs) ((hW.cell (p := ⟨Bn, 0, none⟩) hBn0).trans hBn) h0
end Go.Proofs.Ytbfkcfmhlanlnaa.K
