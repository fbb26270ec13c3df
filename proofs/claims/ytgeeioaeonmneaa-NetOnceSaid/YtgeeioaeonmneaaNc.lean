import Derived.Test.YtgeeioaeonmneaaNb
import Derived.Deep.RegionLaw
set_option linter.unusedVariables false
set_option linter.unusedSimpArgs false
namespace Go.Proofs.Ytgeeioaeonmneaa.Net
open Go.RowKit Go.Proofs.YtgeeioaeonmneaaW.PrintWords Go.Proofs.YtgeeioaeonmneaaW.PrintLast Go.Proofs.YtgeeioaeonmneaaW.PrintMore
open Go.Proofs.Ytgeeioaeonmneaa.PNetOnce

/-- The net at block b: its letters L in the row v. -/
structure NetI (w : World) (b base : Nat) (n : Int) (v : Value) (k0 k1 k2 k3 : Bool) (L : List S32) : Prop where
  blk : w.heap[b]? = some (.cells #[.int .i64 n, v, .bool k0, .bool k1, .bool k2, .bool k3] 46 (0, 0))
  row : k32.R 32 w base (fun _ => True) v L
  low : base ≤ b
  len : L.length ≤ 4096
  byt : ∀ x ∈ L, x.f2.length ≤ 4096

theorem NetI.below {w w1 : World} {b base : Nat} {n : Int} {v : Value} {k0 k1 k2 k3 : Bool} {L : List S32} (h : NetI w b base n v k0 k1 k2 k3 L) (hb : Below w.heap.size w w1) : NetI w1 b base n v k0 k1 k2 k3 L :=
  ⟨blkb h.blk hb, Kd.R_below h.row hb, h.low, h.len, h.byt⟩
theorem NetI.alloc {w : World} {b base : Nat} {n : Int} {v : Value} {k0 k1 k2 k3 : Bool} {L : List S32} (h : NetI w b base n v k0 k1 k2 k3 L) (o : Obj) : NetI (w.alloc o) b base n v k0 k1 k2 k3 L :=
  h.below (below_alloc (Below.refl _ _) o)
theorem NetI.cells {w : World} {b base : Nat} {n : Int} {v : Value} {k0 k1 k2 k3 : Bool} {L : List S32} (h : NetI w b base n v k0 k1 k2 k3 L) :
    w.cell? ⟨b, 0, none⟩ = some (.int .i64 n) ∧ w.cell? ⟨b, 1, none⟩ = some v ∧ w.frozen? ⟨b, 1, none⟩ = false :=
  ⟨(blk_cell h.blk 0).trans rfl, (blk_cell h.blk 1).trans rfl, blk_frozen h.blk 1⟩
theorem NetI.lt {w : World} {b base : Nat} {n : Int} {v : Value} {k0 k1 k2 k3 : Bool} {L : List S32} (h : NetI w b base n v k0 k1 k2 k3 L) : b < w.heap.size := blk_lt h.blk

/-- What a call on the net at b, its row v, has turned. -/
structure Kept (w w' : World) (b : Nat) (v : Value) : Prop where
  os : w'.os = w.os
  tape : w'.tape = w.tape
  output : w'.output = w.output
  size : w.heap.size ≤ w'.heap.size
  block : ∀ k, k < w.heap.size → k ≠ b → some k ≠ v.ownBlock → w'.heap[k]? = w.heap[k]?
theorem Kept.of_below {w w' : World} (b : Nat) (v : Value) (h : Below w.heap.size w w') : Kept w w' b v := ⟨h.os, h.tape, h.output, h.size, fun k hk _ _ => h.block k hk⟩

def sendF (n : Int) (L : List S32) (x : S32) : Int × List S32 :=
  if gateB n x.f0 x.f1 = false then (1, L) else if 4096 < x.f2.length then (2, L) else if 4096 ≤ L.length then (3, L) else (0, L ++ [x])

def SendPost (w : World) (b base : Nat) (n : Int) (v : Value) (k0 k1 k2 k3 : Bool) (r : Int × List S32) (e : Ending) (w' : World) : Prop :=
  ∃ v', e = .returned (.int .i64 r.1) ∧ NetI w' b base n v' k0 k1 k2 k3 r.2 ∧ Kept w w' b v

theorem info32 : (Try.prog.info? 32).map (fun i => (i.zero, i.size, i.bytes)) = some (some (.agg #[.int .i64 0, .int .i64 0, .slice none 0 0]), 3, 40) := by kernel_rfl

theorem R_setT {α : Type} {d : Kd α} {e : Nat} {w : World} {base : Nat} {ok : Nat → Prop} {v : Value} {xs : List α} (h : d.R e w base ok v xs) {b t : Nat} {cs : Array Value} (hb : w.heap[b]? = some (.cells cs t (0, 0))) (ht : ∀ q, q ∈ e :: d.E → q ≠ t) (i : Nat) (u : Value) : d.R e (w.setCell ⟨b, i, none⟩ u) base ok v xs :=
  Kd.R_mono (Kd.R_move (Kd.R_bound h) (fun k hk => Below.heap_setCell _ _ _ _ (by
    obtain ⟨_, _, _, q, hq, cells, hc⟩ := hk
    intro he
    have he' : k = b := he
    subst he'
    rw [hb] at hc
    injection hc with hc
    injection hc with _ hc
    exact ht q hq hc.symm))) (fun _ hk => hk.1)
theorem R_ne {α : Type} {d : Kd α} {e : Nat} {w : World} {base : Nat} {ok : Nat → Prop} {v : Value} {xs : List α} (h : d.R e w base ok v xs) {b t : Nat} {cs : Array Value} (hb : w.heap[b]? = some (.cells cs t (0, 0))) (ht : e ≠ t) : some b ≠ v.ownBlock := by
  intro he
  obtain ⟨_, inner, ho, _⟩ := h
  obtain ⟨cells, hc⟩ := own_typed ho b he.symm
  rw [hb] at hc
  injection hc with hc
  injection hc with _ hc
  exact ht hc.symm
theorem k32_ne46 : ∀ q, q ∈ 32 :: k32.E → q ≠ 46 := by
  intro q hq
  have : q = 32 ∨ q = 5 := by simpa [k32, Kd.iso, Kd.pair, Kd.int, Kd.scalar, Kd.slice] using hq
  omega
theorem NetI.put {w : World} {b base : Nat} {n : Int} {v v1 : Value} {k0 k1 k2 k3 : Bool} {L : List S32} (hb : w.heap[b]? = some (.cells #[.int .i64 n, v, .bool k0, .bool k1, .bool k2, .bool k3] 46 (0, 0)))
    (hR : k32.R 32 w base (fun _ => True) v1 L) (hlow : base ≤ b) (hlen : L.length ≤ 4096) (hbyt : ∀ x ∈ L, x.f2.length ≤ 4096) : NetI (w.setCell ⟨b, 1, none⟩ v1) b base n v1 k0 k1 k2 k3 L :=
  ⟨by have h := blk_set hb 1 v1; simpa using h, R_setT hR hb k32_ne46 1 v1, hlow, hlen, hbyt⟩
theorem kept_put {w w1 w2 w3 : World} {b : Nat} {v u : Value} (h1 : Below w.heap.size w w1) (h2 : Below w1.heap.size w1 w2) (h3 : w2.grownBy w3 v.ownBlock) (i : Nat) : Kept w (w3.setCell ⟨b, i, none⟩ u) b v := by
  have hs1 := h1.size
  have hs2 := h2.size
  have hs3 := h3.size
  refine ⟨h3.os.trans (h2.os.trans h1.os), h3.tape.trans (h2.tape.trans h1.tape), h3.output.trans (h2.output.trans h1.output), ?_, fun k hk hkb hkv => ?_⟩
  · simp [World.setCell]; omega
  · rw [Below.heap_setCell _ _ _ _ hkb, h3.block k (by omega) hkv, h2.block k (by omega), h1.block k hk]
set_option maxRecDepth 100000 in
set_option maxHeartbeats 1000000 in
theorem send_calls (b base : Nat) (n : Int) (v : Value) (k0 k1 k2 k3 : Bool) (L : List S32) (x : S32) (A : Option Addr) (c : Nat) (w : World) (hN : NetI w b base n v k0 k1 k2 k3 L)
    (hr : (Kd.int .u8).C w A x.f2.length x.f2) (hl : x.f2.length ≤ 5000) :
    Calls Try.prog 7 #[.pointer (some ⟨b, 0, none⟩), .agg #[.int .i64 x.f0, .int .i64 x.f1, .slice A x.f2.length c]] w (SendPost w b base n v k0 k1 k2 k3 (sendF n L x)) := by
  obtain ⟨Av, cv, rfl, hlv, _⟩ := Kd.R_reads hN.row
  have HN := Aside0.mk hN
  have HR := Aside0.mk hr
  have hblt := hN.lt
  have hbl := hN.low
  have hLl := hN.len
  obtain ⟨hc0, hc1, hf1⟩ := hN.cells
  clear hN hr
  have B0 := Aside0.mk (blkn w (.cells #[.int .i64 x.f0, .int .i64 x.f1, .slice A x.f2.length c] 32 (0, 0)))
  have hWB := Aside0.mk (below_alloc (Below.refl w.heap.size w) (.cells #[.int .i64 x.f0, .int .i64 x.f1, .slice A x.f2.length c] 32 (0, 0)))
  cases h1 : gateB n x.f0 x.f1 with
  | false =>
    have hP := Aside0.mk (show sendF n L x = (1, L) by unfold sendF; rw [if_pos h1])
    go_enter Try.func7, Try.ntmps7
    go_wp2_with (go_at_call 16; refine (gate_calls b n x.f0 x.f1 _ _ [.bool k0, .bool k1, .bool k2, .bool k3] _ (blko HN.out.blk _)).mono ?_; rintro e w1 ⟨rfl, hB⟩; have C0 := blkb B0.out hB; have N1 := Aside0.mk ((HN.out.alloc _).below hB); have HR1 := Aside0.mk (Kd.C_below (Kd.C_alloc HR.out _) hB); have B1 := Aside0.mk (hWB.out.trans (hB.mono (by simp))); have hz : w.heap.size + 1 ≤ w1.heap.size := (by have := hB.size; simp at this; omega); have D0 := Aside0.mk C0; have m0 := blk_cell C0 0; have m1 := blk_cell C0 1; have m2 := blk_cell C0 2; simp at m0 m1 m2; obtain ⟨n0, n1, g1⟩ := N1.out.cells; clear hB C0)
    go_ret
    exact ⟨_, by rw [hP.out]; rfl, by rw [hP.out]; exact N1.out, Kept.of_below _ _ B1.out⟩
  | true =>
    by_cases h2 : 4096 < x.f2.length
    · have hP := Aside0.mk (show sendF n L x = (2, L) by unfold sendF; rw [if_neg (by rw [h1]; decide), if_pos h2])
      have h2' : (4096 : Int) < (x.f2.length : Int) := by omega
      clear h2
      go_enter Try.func7, Try.ntmps7
      go_wp2_with (go_at_call 16; refine (gate_calls b n x.f0 x.f1 _ _ [.bool k0, .bool k1, .bool k2, .bool k3] _ (blko HN.out.blk _)).mono ?_; rintro e w1 ⟨rfl, hB⟩; have C0 := blkb B0.out hB; have N1 := Aside0.mk ((HN.out.alloc _).below hB); have HR1 := Aside0.mk (Kd.C_below (Kd.C_alloc HR.out _) hB); have B1 := Aside0.mk (hWB.out.trans (hB.mono (by simp))); have hz : w.heap.size + 1 ≤ w1.heap.size := (by have := hB.size; simp at this; omega); have D0 := Aside0.mk C0; have m0 := blk_cell C0 0; have m1 := blk_cell C0 1; have m2 := blk_cell C0 2; simp at m0 m1 m2; obtain ⟨n0, n1, g1⟩ := N1.out.cells; clear hB C0)
      go_ret
      exact ⟨_, by rw [hP.out]; rfl, by rw [hP.out]; exact N1.out, Kept.of_below _ _ B1.out⟩
    · have h2' : ¬ (4096 : Int) < (x.f2.length : Int) := by omega
      by_cases h3 : 4096 ≤ L.length
      · have hP := Aside0.mk (show sendF n L x = (3, L) by unfold sendF; rw [if_neg (by rw [h1]; decide), if_neg h2, if_pos h3])
        have h3' : (4096 : Int) ≤ (L.length : Int) := by omega
        clear h2 h3
        go_enter Try.func7, Try.ntmps7
        go_wp2_with (go_at_call 16; refine (gate_calls b n x.f0 x.f1 _ _ [.bool k0, .bool k1, .bool k2, .bool k3] _ (blko HN.out.blk _)).mono ?_; rintro e w1 ⟨rfl, hB⟩; have C0 := blkb B0.out hB; have N1 := Aside0.mk ((HN.out.alloc _).below hB); have HR1 := Aside0.mk (Kd.C_below (Kd.C_alloc HR.out _) hB); have B1 := Aside0.mk (hWB.out.trans (hB.mono (by simp))); have hz : w.heap.size + 1 ≤ w1.heap.size := (by have := hB.size; simp at this; omega); have D0 := Aside0.mk C0; have m0 := blk_cell C0 0; have m1 := blk_cell C0 1; have m2 := blk_cell C0 2; simp at m0 m1 m2; obtain ⟨n0, n1, g1⟩ := N1.out.cells; clear hB C0)
        go_ret
        exact ⟨_, by rw [hP.out]; rfl, by rw [hP.out]; exact N1.out, Kept.of_below _ _ B1.out⟩
      · have hP := Aside0.mk (show sendF n L x = (0, L ++ [x]) by unfold sendF; rw [if_neg (by rw [h1]; decide), if_neg h2, if_neg h3])
        have h3' : ¬ (4096 : Int) ≤ (L.length : Int) := by omega
        have hx4 := Aside0.mk (show x.f2.length ≤ 4096 by omega)
        have hL4 := Aside0.mk (show L.length + 1 ≤ 4096 by omega)
        clear h2 h3
        go_enter Try.func7, Try.ntmps7
        go_wp2_with (go_at_call 16; refine (gate_calls b n x.f0 x.f1 _ _ [.bool k0, .bool k1, .bool k2, .bool k3] _ (blko HN.out.blk _)).mono ?_; rintro e w1 ⟨rfl, hB⟩; have C0 := blkb B0.out hB; have N1 := Aside0.mk ((HN.out.alloc _).below hB); have HR1 := Aside0.mk (Kd.C_below (Kd.C_alloc HR.out _) hB); have B1 := Aside0.mk (hWB.out.trans (hB.mono (by simp))); have hz : w.heap.size + 1 ≤ w1.heap.size := (by have := hB.size; simp at this; omega); have D0 := Aside0.mk C0; have m0 := blk_cell C0 0; have m1 := blk_cell C0 1; have m2 := blk_cell C0 2; simp at m0 m1 m2; obtain ⟨n0, n1, g1⟩ := N1.out.cells; clear hB C0)
        obtain ⟨R1, hR1⟩ : ∃ R1 : Prop, R1 = True := ⟨_, rfl⟩
        have hvb := Aside0.mk (R_ne N1.out.row N1.out.blk (by decide))
        have hvl := Aside0.mk (Kd.R_lt N1.out.row)
        have hvl0 := Aside0.mk (Kd.R_lt HN.out.row)
        go_region_law (first
            | (go_simp; go_at_call 15; refine (whole_calls x.f0 x.f1 A c x.f2 _ (Kd.C_drew HR1.out) hl).mono ?_; rintro e w2 ⟨v2, rfl, hR2, hB2⟩; obtain ⟨A2, c2, rfl, hl2, _⟩ := Kd.R_reads hR2; have R2 := Aside0.mk hR2; have hB2' := (below_drew (Below.refl w1.heap.size w1)).trans hB2; have B2 := Aside0.mk hB2'; have N2 := Aside0.mk (N1.out.below hB2'); obtain ⟨_, q1, r1⟩ := N2.out.cells; have hlt2 := N2.out.lt; have D2 := blkb D0.out hB2'; have p0 := blk_cell D2 0; have p1 := blk_cell D2 1; have p2 := blk_cell D2 2; simp at p0 p1 p2; have E2 := Aside0.mk D2; clear hR2 hB2 hB2' D2)
            | (refine Kd.R_append_step k32 base (by rfl) (.tmp 34) (.tmp 37) 35 32 _ 40 (by rfl) Try.underlying35 info32 (by rfl) (by decide) (by decide) (.slice Av L.length cv) L x [.int .i64 x.f0, .int .i64 x.f1, .slice A2 x.f2.length c2] (fun _ => True) (fun k => w1.heap.size ≤ k) (by rfl) (by rfl) (k32_mkM _ _ _ x (Kd.R_lower (Kd.R_mono (Kd.R_bound R2.out) (fun k hk => hk.2.1)) (by have : w1.drew.heap.size = w1.heap.size := rfl; omega))) (fun k hk => ⟨trivial, fun he => absurd (hvl.out k he.symm) (by omega)⟩) (fun _ _ => trivial) N2.out.row ((B1.out.trans (B2.out.mono (by omega))).mono (by omega)) (by have := B2.out.size; omega) (by have := hL4.out; omega) ?_; intro v1 w3 hR3 hB3 hg3 hat3; obtain ⟨A3, c3, rfl, hl3, _⟩ := Kd.R_reads hR3; have K3 := blk_grown N2.out.blk hg3 hvb.out; have E3 := blk_grown E2.out hg3 (fun he => absurd (hvl0.out _ he.symm) (by omega)); have t0 := blk_cell E3 0; have t1 := blk_cell E3 1; have t2 := blk_cell E3 2; simp at t0 t1 t2; have R3 : Aside0 (k32.R 32 w3 base (fun _ => True) (.slice A3 (L.length + 1) c3) (L ++ [x])) := ⟨(by rw [show L.length + 1 = (L ++ [x]).length from by simp]; exact hR3)⟩; have G3 := Aside0.mk hg3; have s1 := blk_cell K3 1; have s1f := blk_frozen K3 1; simp at s1; have H3 := Aside0.mk K3; clear hR3 hB3 hg3 hat3 K3 E3))
        all_goals go_wp2
        all_goals go_ret
        all_goals exact ⟨_, by rw [hP.out]; rfl, by rw [hP.out]; exact NetI.put H3.out R3.out hbl (by have := hL4.out; simp; omega) (fun y hy => by rcases List.mem_append.1 hy with h | h; exact HN.out.byt y h; rw [List.mem_singleton.1 h]; exact hx4.out), kept_put B1.out B2.out G3.out 1⟩
end Go.Proofs.Ytgeeioaeonmneaa.Net
