import Derived.Test.YtgeeioaeonmneaaNa
import Derived.StillTailTactics
set_option linter.unusedVariables false
set_option linter.unusedSimpArgs false
namespace Go.Proofs.Ytgeeioaeonmneaa.Net
open Go.RowKit Go.Proofs.YtgeeioaeonmneaaW.PrintWords Go.Proofs.YtgeeioaeonmneaaW.PrintLast Go.Proofs.YtgeeioaeonmneaaW.PrintMore
open Go.Proofs.Ytgeeioaeonmneaa.PNetOnce

def gateB (n f t : Int) : Bool := (!((f == 0) == (t == 0))) && (decide (1 ≤ wrap64 (f + t)) && decide (wrap64 (f + t) ≤ n))

def Gated (w : World) (n f t : Int) (e : Ending) (w' : World) : Prop :=
  e = .returned (.tuple #[.int .i64 (wrap64 (f + t)), .bool (gateB n f t)]) ∧ Below w.heap.size w w'

set_option maxHeartbeats 400000 in
theorem gate_calls (b : Nat) (n f t : Int) (v u : Value) (cs : List Value) (w : World) (hb : w.heap[b]? = some (.cells (#[.int .i64 n, u] ++ cs.toArray) 46 (0, 0))) :
    Calls Try.prog 16 #[.pointer (some ⟨b, 0, none⟩), .agg #[.int .i64 f, .int .i64 t, v]] w (Gated w n f t) := by
  have hc0 := blk_cell hb 0
  simp at hc0
  have hlt := blk_lt hb
  clear hb
  have hB := Aside0.mk (((Below.refl w.heap.size w).alloc (Nat.le_refl _) (.cells #[.int .i64 f, .int .i64 t, v] 32 (0, 0))))
  cases h1 : (!((f == 0) == (t == 0))) with
  | false =>
    have hp : gateB n f t = false := by unfold gateB; rw [h1]; rfl
    have hP := Aside0.mk hp
    clear hp
    go_enter Try.func16, Try.ntmps16
    go_wp2_with fail
    go_quiet (fail)
    go_wp2
    go_ret2
    exact ⟨by rw [hP.out]; rfl, pw_below_drewN hB.out _⟩
  | true =>
    cases h2 : decide (1 ≤ wrap64 (f + t)) with
    | false =>
      have hp : gateB n f t = false := by unfold gateB; rw [h1, h2]; rfl
      have hP := Aside0.mk hp
      clear hp
      go_enter Try.func16, Try.ntmps16
      go_wp2_with fail
      go_quiet (fail)
      go_wp2
      go_ret2
      exact ⟨by rw [hP.out]; rfl, pw_below_drewN hB.out _⟩
    | true =>
      have hp : gateB n f t = decide (wrap64 (f + t) ≤ n) := by unfold gateB; rw [h1, h2]; rfl
      have hP := Aside0.mk hp
      clear hp
      go_enter Try.func16, Try.ntmps16
      go_wp2_with fail
      go_quiet (fail)
      go_wp2
      go_ret2
      exact ⟨by rw [hP.out]; rfl, pw_below_drewN hB.out _⟩
end Go.Proofs.Ytgeeioaeonmneaa.Net
