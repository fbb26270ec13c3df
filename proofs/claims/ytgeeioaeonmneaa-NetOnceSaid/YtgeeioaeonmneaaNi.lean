import Derived.Test.YtgeeioaeonmneaaNf
set_option linter.unusedVariables false
set_option linter.unusedSimpArgs false
namespace Go.Proofs.Ytgeeioaeonmneaa.Net
open Go.RowKit Go.Proofs.YtgeeioaeonmneaaW.PrintWords Go.Proofs.YtgeeioaeonmneaaW.PrintLast Go.Proofs.YtgeeioaeonmneaaW.PrintMore
open Go.Proofs.Ytgeeioaeonmneaa.PNetOnce

set_option maxRecDepth 100000 in
set_option maxHeartbeats 1000000 in
/-- 'at', whatever is to be done: a letter that isn't there. -/
theorem at_no (b base : Nat) (n : Int) (v : Value) (k0 k1 k2 k3 : Bool) (L : List S32) (k : Int) (fn : Fn) (fs cp : Array Value) (w : World) (hN : NetI w b base n v k0 k1 k2 k3 L) (hk : k < 0 ∨ (L.length : Int) ≤ k) :
    Calls Try.prog 17 #[.pointer (some ⟨b, 0, none⟩), .int .i64 k, .func fn fs cp] w fun e w' => e = .returned (.int .i64 1) ∧ w = w' := by
  obtain ⟨Av, cv, rfl, hlv, _⟩ := Kd.R_reads hN.row
  obtain ⟨hc0, hc1, hf1⟩ := hN.cells
  clear hN
  by_cases h0 : k < 0
  · have h0' : decide (k < 0) = true := decide_eq_true h0
    clear hk
    go_enter Try.func17, Try.ntmps17
    go_wp2
    go_ret
    exact ⟨rfl, rfl⟩
  · have h0' : decide (k < 0) = false := decide_eq_false h0
    have h1 : (L.length : Int) ≤ k := by omega
    have h1' : decide ((L.length : Int) ≤ k) = true := decide_eq_true h1
    clear hk
    go_enter Try.func17, Try.ntmps17
    go_wp2
    go_ret
    exact ⟨rfl, rfl⟩

/-- What the letter is that lies at k. -/
theorem NetI.at_ {w : World} {b base g c m k : Nat} {n : Int} {k0 k1 k2 k3 : Bool} {L : List S32} (h : NetI w b base n (.slice (some ⟨g, 0, none⟩) (m + 1) c) k0 k1 k2 k3 L) (hL : L.length = m + 1) (hk : k < m + 1) :
    ∃ x A cx, L[k]? = some x ∧ w.cell? ⟨g, k * 3, none⟩ = some (.int .i64 x.f0) ∧ w.cell? ⟨g, k * 3 + 1, none⟩ = some (.int .i64 x.f1) ∧ w.cell? ⟨g, k * 3 + 2, none⟩ = some (.slice A x.f2.length cx) ∧ k32.M w base (fun q => q ≠ g) x [.int .i64 x.f0, .int .i64 x.f1, .slice A x.f2.length cx] ∧ (Kd.int .u8).C w A x.f2.length x.f2 := by
  obtain ⟨x, hx⟩ : ∃ x, L[k]? = some x := ⟨L[k]'(by omega), List.getElem?_eq_getElem (by omega)⟩
  obtain ⟨_, inner, ⟨hl, ho⟩, hr⟩ := h.row
  have hM := hr.2 k x hx
  obtain ⟨v2, hcs, hR⟩ := k32_openM hM
  obtain ⟨A, cx, rfl, _, hC⟩ := Kd.R_reads hR
  rcases ho with ⟨hv, _⟩ | ⟨g', cap, cur, hv, hb, hh, hnc, hcm, hcs', htake⟩
  · cases hv
  · injection hv with ha hn hc
    injection ha with ha
    injection ha with hg
    subst hg
    have hin : ∀ j, j < 3 → w.cell? ⟨g, k * 3 + j, none⟩ = ((inner.drop (k * 3)).take 3)[j]? := by
      intro j hj
      rw [blk_cell hh, List.getElem?_take, if_pos hj, List.getElem?_drop, ← htake, List.getElem?_take, if_pos (by show k * 3 + j < L.length * 3; omega), Array.getElem?_toList]
    have hcs3 : (inner.drop (k * 3)).take 3 = [.int .i64 x.f0, .int .i64 x.f1, .slice A x.f2.length cx] := hcs
    refine ⟨x, A, cx, hx, ?_, ?_, ?_, ?_, hC⟩
    · have := hin 0 (by omega); rw [hcs3] at this; simpa using this
    · have := hin 1 (by omega); rw [hcs3] at this; simpa using this
    · have := hin 2 (by omega); rw [hcs3] at this; simpa using this
    · have hM' : k32.M w base _ x ((inner.drop (k * 3)).take 3) := hM
      rw [hcs3] at hM'
      exact k32.M_mono (fun q hq he => hq.2 (by rw [he]; simp [Value.ownBlock])) hM'
end Go.Proofs.Ytgeeioaeonmneaa.Net
