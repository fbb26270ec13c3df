import Derived.Test.YtgeeioaeonmneaaNc
set_option linter.unusedVariables false
set_option linter.unusedSimpArgs false
namespace Go.Proofs.Ytgeeioaeonmneaa.Net
open Go.RowKit Go.Proofs.YtgeeioaeonmneaaW.PrintWords Go.Proofs.YtgeeioaeonmneaaW.PrintLast Go.Proofs.YtgeeioaeonmneaaW.PrintMore
open Go.Proofs.Ytgeeioaeonmneaa.PNetOnce

theorem R_high {α : Type} {d : Kd α} {e base g n c : Nat} {ok : Nat → Prop} {w : World} {xs : List α} (h : d.R e w base ok (.slice (some ⟨g, 0, none⟩) n c) xs) (i : Nat) (hi : xs.length * d.sz ≤ i) (u : Value) :
    d.R e (w.setCell ⟨g, i, none⟩ u) base ok (.slice (some ⟨g, 0, none⟩) n c) xs ∧ w.grownBy (w.setCell ⟨g, i, none⟩ u) (some g) := by
  have hgr : w.grownBy (w.setCell ⟨g, i, none⟩ u) (some g) := ⟨rfl, rfl, rfl, by simp [World.setCell], fun k _ hk => Below.heap_setCell _ _ _ _ (fun e => hk (by rw [e]))⟩
  refine ⟨?_, hgr⟩
  obtain ⟨h0, inner, ⟨hl, ho⟩, hr⟩ := h
  rcases ho with ⟨hv, _⟩ | ⟨g', cap, cur, hv, hb, hh, hnc, hcm, hcs, htake⟩
  · cases hv
  · injection hv with ha hn hc
    injection ha with ha
    injection ha with hg
    subst hg; subst hc; subst hn
    refine ⟨h0, inner, ⟨hl, .inr ⟨g, c, cur.setIfInBounds i u, rfl, hb, blk_set hh i u, hnc, hcm, by simp [hcs], ?_⟩⟩, hr.imp_ (fun p q hp => d.M_mono (fun _ hk => hk.1) (d.M_move (fun k hk => ?_) (d.M_bound hp)))⟩
    · rw [← htake, Array.toList_setIfInBounds, List.take_set_of_le hi]
    · exact Below.heap_setCell _ _ _ _ (fun e => hk.1.2 (by rw [e]; simp [Value.ownBlock]))
/-- The cells behind the last element are there. -/
theorem R_spare {α : Type} {d : Kd α} {e base g n c : Nat} {ok : Nat → Prop} {w : World} {xs : List α} (h : d.R e w base ok (.slice (some ⟨g, 0, none⟩) n c) xs) (i : Nat) (hi : i < c * d.sz) :
    ∃ u, w.cell? ⟨g, i, none⟩ = some u := by
  obtain ⟨h0, inner, ⟨hl, ho⟩, hr⟩ := h
  rcases ho with ⟨hv, _⟩ | ⟨g', cap, cur, hv, hb, hh, hnc, hcm, hcs, htake⟩
  · cases hv
  · injection hv with ha hn hc
    injection ha with ha
    injection ha with hg
    subst hg; subst hc; subst hn
    exact ⟨cur[i]'(by omega), (blk_cell hh i).trans (by rw [Array.getElem?_eq_getElem])⟩
theorem R_free {α : Type} {d : Kd α} {e base g n c : Nat} {ok : Nat → Prop} {w : World} {xs : List α} (h : d.R e w base ok (.slice (some ⟨g, 0, none⟩) n c) xs) (i : Nat) : w.frozen? ⟨g, i, none⟩ = false := by
  obtain ⟨h0, inner, ⟨hl, ho⟩, hr⟩ := h
  rcases ho with ⟨hv, _⟩ | ⟨g', cap, cur, hv, hb, hh, hnc, hcm, hcs, htake⟩
  · cases hv
  · injection hv with ha hn hc
    injection ha with ha
    injection ha with hg
    subst hg
    exact blk_frozen hh i

def DelPost (w : World) (base g c m : Nat) (L : List S32) (k : Nat) (e : Ending) (w' : World) : Prop :=
  e = .returned (.slice (some ⟨g, 0, none⟩) m c) ∧ k32.R 32 w' base (fun _ => True) (.slice (some ⟨g, 0, none⟩) m c) (L.eraseIdx k) ∧ w.grownBy w' (some g)

theorem size32 : (Try.prog.info? 32).map (fun i => i.size) = some k32.sz := by
  rw [show (Try.prog.info? 32).map (fun i => i.size) = ((Try.prog.info? 32).map (fun i => (i.zero, i.size, i.bytes))).map (fun x => x.2.1) from by simp [Option.map_map]; rfl, info32]; rfl

theorem grown_drew {w w1 : World} {r : Option Nat} (h : w.drew.grownBy w1 r) : w.grownBy w1 r := ⟨h.os, h.tape, h.output, h.size, h.block⟩
theorem grown_trans {w w1 w2 : World} {r : Option Nat} (h : w.grownBy w1 r) (k : w1.grownBy w2 r) : w.grownBy w2 r :=
  ⟨k.os.trans h.os, k.tape.trans h.tape, k.output.trans h.output, Nat.le_trans h.size k.size, fun j hj hr => (k.block j (Nat.lt_of_lt_of_le hj h.size) hr).trans (h.block j hj hr)⟩

theorem zero32 (w : World) : (zeroValue 32).run Try.prog w = .ok (.agg #[.int .i64 0, .int .i64 0, .slice none 0 0]) w := by rfl
theorem clear_run (w : World) (g o C : Nat) (hc : ∀ j, j < 3 → (w.cell? ⟨g, o + j, none⟩).isSome = true) (hf : ∀ j, j < 3 → w.frozen? ⟨g, o + j, none⟩ = false) :
    (Builtin.clear_ #[35] 0 #[.slice (some ⟨g, o, none⟩) 1 C]).run Try.prog w = .ok (.tuple #[]) (((w.setCell ⟨g, o, none⟩ (.int .i64 0)).setCell ⟨g, o + 1, none⟩ (.int .i64 0)).setCell ⟨g, o + 2, none⟩ (.slice none 0 0)) := by
  have hst := run_storeCells_cells (P := Try.prog) g o [.int .i64 0, .int .i64 0, .slice none 0 0] 0 w (by simpa using hc) (by simpa using hf) (by intro v hv; simp at hv; rcases hv with rfl | rfl | rfl <;> rfl)
  simp only [Nat.add_zero] at hst
  have hzc : (Builtin.zeroCells (Value.agg #[.int .i64 0, .int .i64 0, .slice none 0 0]).cells 1).toList = [.int .i64 0, .int .i64 0, .slice none 0 0] := by kernel_rfl
  simp [Builtin.clear_, run_underlying Try.underlying35, zero32, hzc, hst, World.setCells]

set_option maxRecDepth 100000 in
set_option maxHeartbeats 1000000 in
theorem delete_calls (base g c k m : Nat) (L : List S32) (w : World) (hR : k32.R 32 w base (fun _ => True) (.slice (some ⟨g, 0, none⟩) (m + 1) c) L) (hk : k < m + 1) (hl : m + 1 ≤ 4096) (hbase : base ≤ w.heap.size) :
    Calls Try.prog 19 #[.slice (some ⟨g, 0, none⟩) (m + 1) c, .int .i64 (k : Int), .int .i64 ((k : Int) + 1)] w (DelPost w base g c m L k) := by
  have HR := Aside0.mk hR
  have HL := Aside0.mk (show (L.eraseIdx k).length * k32.sz = m * 3 by have := (Kd.R_reads' hR).1; rw [List.length_eraseIdx_of_lt (by omega)]; show (L.length - 1) * 3 = m * 3; omega)
  have hlc : m + 1 ≤ c := by have := Kd.R_reads' hR; omega
  clear hR
  have hi0 : (0 : Int) ≤ (k : Int) := by omega
  have hi1 : (k : Int) < (m : Int) + 1 := by omega
  have hi2 : (k : Int) + 1 ≤ (m : Int) + 1 := by omega
  have hi3 : ((k : Int) + 1).toNat = k + 1 := by omega
  have hne : ((k : Int) == (k : Int) + 1) = false := by rw [beq_eq_false_iff_ne]; omega
  have hkc : k ≤ c := by omega
  have hi4 : (0 : Int) ≤ (k : Int) + 1 := by omega
  have hmc : ¬ c = m := by omega
  have hmc' : m ≤ c := by omega
  have hA : Aside0 ((if c = k + 1 then some (⟨g, 0, none⟩ : Addr) else some ⟨g, (k + 1) * 3, none⟩) = if c = k + 1 then some ⟨g, 0, none⟩ else (some (⟨g, 0, none⟩ : Addr)).map (·.add ((k + 1) * k32.sz))) := ⟨by rw [Option.map_some, add_plain]; rfl⟩
  have hk1 : k + 1 ≤ m + 1 := by omega
  have hw1 : IntKind.i64.wrap ((k : Int) + 1) = (k : Int) + 1 := by rw [IntKind.wrap_i64]; omega
  go_enter Try.func19, Try.ntmps19
  go_wp2_with fail
  go_region_law (first
    | (refine Kd.R_delete_step k32 (w0 := w) base (by rfl) (.tmp 22) (.tmp 25) 35 32 (by rfl) Try.underlying35 size32 (g := g) (n := m + 1) (c := c) (k := k) (m := m - k) (by rfl) (by rfl) hA.out (by omega) (Kd.R_drew HR.out) hk ((Below.refl _ _).drew) hbase ?_; intro w1 hR1 hB1 hG1; have R1 : Aside0 (k32.R 32 w1 base (fun _ => True) (.slice (some ⟨g, 0, none⟩) m c) (L.eraseIdx k)) := ⟨hR1⟩; have G1 := Aside0.mk (grown_drew hG1); clear hR1 hB1 hG1))
  all_goals
    obtain ⟨u0, hu0⟩ := R_spare R1.out (m * 3) (by show m * 3 < c * 3; omega)
    obtain ⟨u1, hu1⟩ := R_spare R1.out (m * 3 + 1) (by show m * 3 + 1 < c * 3; omega)
    obtain ⟨u2, hu2⟩ := R_spare R1.out (m * 3 + 2) (by show m * 3 + 2 < c * 3; omega)
    have hf0 := R_free R1.out (m * 3)
    have hf1 := R_free R1.out (m * 3 + 1)
    have hf2 := R_free R1.out (m * 3 + 2)
    have hcl := fun C => clear_run w1 g (m * 3) C (by intro j hj; match j, hj with | 0, _ => rw [Nat.add_zero, hu0]; rfl | 1, _ => rw [hu1]; rfl | 2, _ => rw [hu2]; rfl) (by intro j hj; match j, hj with | 0, _ => exact hf0 | 1, _ => exact hf1 | 2, _ => exact hf2)
    clear hu0 hu1 hu2 hf0 hf1 hf2
    go_wp2
    all_goals
      go_ret
      try (have hq : c = k + 1 := (by assumption); subst hq)
      obtain ⟨R2, G2⟩ := R_high R1.out (m * 3) (by rw [HL.out]; exact Nat.le_refl _) (.int .i64 0)
      obtain ⟨R3, G3⟩ := R_high R2 (m * 3 + 1) (by rw [HL.out]; omega) (.int .i64 0)
      obtain ⟨R4, G4⟩ := R_high R3 (m * 3 + 2) (by rw [HL.out]; omega) (.slice none 0 0)
      exact ⟨rfl, R4, grown_trans (grown_trans (grown_trans G1.out G2) G3) G4⟩
end Go.Proofs.Ytgeeioaeonmneaa.Net
