import Derived.Test.YtgeeioaeonmneaaNe
set_option linter.unusedVariables false
set_option linter.unusedSimpArgs false
namespace Go.Proofs.Ytgeeioaeonmneaa.Net
open Go.RowKit Go.Proofs.YtgeeioaeonmneaaW.PrintWords Go.Proofs.YtgeeioaeonmneaaW.PrintLast Go.Proofs.YtgeeioaeonmneaaW.PrintMore
open Go.Proofs.Ytgeeioaeonmneaa.PNetOnce

def cutAt (k0 k1 k2 k3 : Bool) (q : Nat) : Bool := match q with | 0 => k0 | 1 => k1 | 2 => k2 | _ => k3
theorem NetI.cut {w : World} {b base : Nat} {n : Int} {v : Value} {k0 k1 k2 k3 : Bool} {L : List S32} (h : NetI w b base n v k0 k1 k2 k3 L) (q : Nat) (hq : q ≤ 3) : w.cell? ⟨b, 2 + q, none⟩ = some (.bool (cutAt k0 k1 k2 k3 q)) := by
  rw [blk_cell h.blk (2 + q)]
  match q, hq with
  | 0, _ => rfl
  | 1, _ => rfl
  | 2, _ => rfl
  | 3, _ => rfl

/-- As Kept, but for one block more. -/
structure Kept2 (w w' : World) (b bo : Nat) (v : Value) : Prop where
  os : w'.os = w.os
  tape : w'.tape = w.tape
  output : w'.output = w.output
  size : w.heap.size ≤ w'.heap.size
  block : ∀ k, k < w.heap.size → k ≠ b → k ≠ bo → some k ≠ v.ownBlock → w'.heap[k]? = w.heap[k]?

def Take1Cut (w : World) (e : Ending) (w' : World) : Prop :=
  e = .returned (.int .i64 50) ∧ Below w.heap.size w w'

set_option maxRecDepth 100000 in
set_option maxHeartbeats 1000000 in
theorem take1_cut (b base bn bk bo q : Nat) (n : Int) (v : Value) (k0 k1 k2 k3 : Bool) (L : List S32) (x : S32) (u : Value) (w : World) (hN : NetI w b base n v k0 k1 k2 k3 L)
    (hq : wrap64 (x.f0 + x.f1) = (q : Int)) (hq3 : q ≤ 3) (hc : cutAt k0 k1 k2 k3 q = true) (hbn : w.heap[bn]? = some (.cells #[.pointer (some ⟨b, 0, none⟩)] 24 (0, 0))) :
    Calls Try.prog 18 #[.agg #[.int .i64 x.f0, .int .i64 x.f1, u], .pointer (some ⟨bn, 0, none⟩), .pointer (some ⟨bk, 0, none⟩), .pointer (some ⟨bo, 0, none⟩)] w (Take1Cut w) := by
  have HN := Aside0.mk hN
  have HQ := Aside0.mk hq
  have HC := Aside0.mk hc
  have BN := Aside0.mk hbn
  have e0 := (blk_cell hbn 0).trans (show _ = some (Value.pointer (some ⟨b, 0, none⟩)) from rfl)
  have lt0 := blk_lt hbn
  have hbl := hN.lt
  have hq0 : (0 : Int) ≤ (q : Int) := by omega
  have hq4 : (q : Int) < 4 := by omega
  obtain ⟨hc0, hc1, hf1⟩ := hN.cells
  clear hN hbn hq hc
  have hWB := Aside0.mk (below_alloc (Below.refl w.heap.size w) (.cells #[.int .i64 x.f0, .int .i64 x.f1, u] 32 (0, 0)))
  go_enter Try.func18, Try.ntmps18
  go_wp2_with (go_at_call 16; refine (gate_calls b n x.f0 x.f1 _ _ [.bool k0, .bool k1, .bool k2, .bool k3] _ (blko HN.out.blk _)).mono ?_; rintro e w1 ⟨rfl, hB⟩; rw [HQ.out]; have N1 := Aside0.mk ((HN.out.alloc _).below hB); have B1 := Aside0.mk (hWB.out.trans (hB.mono (by simp))); have M1 := blkb (blko BN.out _) hB; have f0 := blk_cell M1 0; simp at f0; have f1 := N1.out.cut q hq3; rw [HC.out] at f1; clear hB M1)
  go_ret
  exact ⟨rfl, B1.out⟩

def Take1Ok (w : World) (b base bo : Nat) (n : Int) (v : Value) (k0 k1 k2 k3 : Bool) (L' : List S32) (x0 x1 x2 : Value) (e : Ending) (w' : World) : Prop :=
  ∃ v', e = .returned (.int .i64 0) ∧ NetI w' b base n v' k0 k1 k2 k3 L' ∧ Kept2 w w' b bo v ∧ w'.heap[bo]? = some (.cells #[x0, x1, x2] 32 (0, 0))

theorem heap_set {w : World} {b i k : Nat} {u : Value} (h : k ≠ b) : (w.setCell ⟨b, i, none⟩ u).heap[k]? = w.heap[k]? := Below.heap_setCell _ _ _ _ h
theorem R_setO {base g n c bo i : Nat} {ok : Nat → Prop} {w : World} {xs : List S32} {cs : Array Value} (h : k32.R 32 w base ok (.slice (some ⟨g, 0, none⟩) n c) xs) (hb : w.heap[bo]? = some (.cells cs 32 (0, 0))) (hne : bo ≠ g) (u : Value) :
    k32.R 32 (w.setCell ⟨bo, i, none⟩ u) base ok (.slice (some ⟨g, 0, none⟩) n c) xs := by
  obtain ⟨h0, inner, ho, hr⟩ := h
  refine ⟨h0, inner, own_move ho (fun k hk => ?_), hr.imp_ (fun p q hp => k32.M_mono (fun _ hk => hk.1) (k32.M_move (fun k hk => ?_) (k32.M_bound hp)))⟩
  · have : g = k := by simpa [Value.ownBlock] using hk
    exact Below.heap_setCell _ _ _ _ (by rw [← this]; exact Ne.symm hne)
  · obtain ⟨_, _, _, q, hq, cells, hc⟩ := hk
    refine Below.heap_setCell _ _ _ _ (fun he => ?_)
    have he' : k = bo := he
    subst he'
    rw [hb] at hc
    injection hc with hc
    injection hc with _ hc
    have h5 : q = 5 := by simpa [k32, Kd.iso, Kd.pair, Kd.int, Kd.scalar, Kd.slice] using hq
    rw [h5] at hc
    exact absurd hc (by decide)
/-- The end of Take's closure: the two stores, in whatever order. -/
theorem take1_end {w w1 w2 : World} {b base bo g c m k : Nat} {n : Int} {k0 k1 k2 k3 : Bool} {L : List S32} {x0 x1 x2 y0 y1 y2 : Value} (h1 : Below w.heap.size w w1) (h2 : w1.grownBy w2 (some g))
    (H : w2.heap[b]? = some (.cells #[.int .i64 n, .slice (some ⟨g, 0, none⟩) (m + 1) c, .bool k0, .bool k1, .bool k2, .bool k3] 46 (0, 0)))
    (O : w2.heap[bo]? = some (.cells #[y0, y1, y2] 32 (0, 0))) (hbo : bo ≠ g) (R : k32.R 32 w2 base (fun _ => True) (.slice (some ⟨g, 0, none⟩) m c) (L.eraseIdx k))
    (low : base ≤ b) (len : (L.eraseIdx k).length ≤ 4096) (byt : ∀ x ∈ L.eraseIdx k, x.f2.length ≤ 4096) :
    Take1Ok w b base bo n (.slice (some ⟨g, 0, none⟩) (m + 1) c) k0 k1 k2 k3 (L.eraseIdx k) x0 x1 x2 (.returned (.int .i64 0)) ((((w2.setCell ⟨bo, 0, none⟩ x0).setCell ⟨bo, 1, none⟩ x1).setCell ⟨bo, 2, none⟩ x2).setCell ⟨b, 1, none⟩ (.slice (some ⟨g, 0, none⟩) m c)) := by
  have hne : b ≠ bo := blk_ne H O (by decide)
  have hs1 := h1.size
  have hs2 := h2.size
  have H' : (((w2.setCell ⟨bo, 0, none⟩ x0).setCell ⟨bo, 1, none⟩ x1).setCell ⟨bo, 2, none⟩ x2).heap[b]? = some (.cells #[.int .i64 n, .slice (some ⟨g, 0, none⟩) (m + 1) c, .bool k0, .bool k1, .bool k2, .bool k3] 46 (0, 0)) := by
    rw [heap_set hne, heap_set hne, heap_set hne]; exact H
  have O' : (((w2.setCell ⟨bo, 0, none⟩ x0).setCell ⟨bo, 1, none⟩ x1).setCell ⟨bo, 2, none⟩ x2).heap[bo]? = some (.cells #[x0, x1, x2] 32 (0, 0)) := by
    have h := blk_set (blk_set (blk_set O 0 x0) 1 x1) 2 x2
    simpa using h
  refine ⟨_, rfl, NetI.put H' (R_setO (R_setO (R_setO R O hbo _) (blk_set O 0 x0) hbo _) (blk_set (blk_set O 0 x0) 1 x1) hbo _) low len byt, ⟨?_, ?_, ?_, ?_, fun j hj hjb hjo hjv => ?_⟩, ?_⟩
  · exact h2.os.trans h1.os
  · exact h2.tape.trans h1.tape
  · exact h2.output.trans h1.output
  · simp [World.setCell]; omega
  · rw [heap_set hjb, heap_set hjo, heap_set hjo, heap_set hjo, h2.block j (by omega) (by simpa [Value.ownBlock] using hjv), h1.block j hj]
  · rw [heap_set (Ne.symm hne)]; exact O'

end Go.Proofs.Ytgeeioaeonmneaa.Net
