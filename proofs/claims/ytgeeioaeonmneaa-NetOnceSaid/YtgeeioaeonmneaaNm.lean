import Derived.Test.YtgeeioaeonmneaaNl
set_option linter.unusedVariables false
set_option linter.unusedSimpArgs false
namespace Go.Proofs.Ytgeeioaeonmneaa.Net
open Go.RowKit Go.Proofs.YtgeeioaeonmneaaW.PrintWords Go.Proofs.YtgeeioaeonmneaaW.PrintLast Go.Proofs.YtgeeioaeonmneaaW.PrintMore
open Go.Proofs.Ytgeeioaeonmneaa.PNetOnce

set_option maxRecDepth 100000 in
set_option maxHeartbeats 1000000 in
theorem take_cut (b base g c m k q : Nat) (n : Int) (k0 k1 k2 k3 : Bool) (L : List S32) (x : S32) (w : World) (hN : NetI w b base n (.slice (some ⟨g, 0, none⟩) (m + 1) c) k0 k1 k2 k3 L)
    (hL : L.length = m + 1) (hk : k < m + 1) (hx : L[k]? = some x) (hq : wrap64 (x.f0 + x.f1) = (q : Int)) (hq3 : q ≤ 3) (hcut : cutAt k0 k1 k2 k3 q = true) :
    Calls Try.prog 9 #[.pointer (some ⟨b, 0, none⟩), .int .i64 (k : Int)] w fun e w' => e = .returned (.tuple #[.agg #[.int .i64 0, .int .i64 0, .slice none 0 0], .int .i64 50]) ∧ Below w.heap.size w w' := by
  have hN1 := hN.below (takeW_below w b (k : Int))
  obtain ⟨x', A, cx, hx', q0, q1, q2, hM, hC⟩ := hN1.at_ hL hk
  obtain rfl : x' = x := Option.some.inj (hx'.symm.trans hx)
  obtain ⟨hc0, hc1, hf1⟩ := hN1.cells
  have HA := Aside0.mk (take1_cut b base w.heap.size (w.heap.size + 1) (w.heap.size + 2) q n _ k0 k1 k2 k3 L x' (.slice A x'.f2.length cx) _ hN1 hq hq3 hcut (blko (boxW_n w b k) _))
  have i0 : decide ((k : Int) < 0) = false := decide_eq_false (by omega)
  have i1 : decide ((m : Int) + 1 ≤ (k : Int)) = false := decide_eq_false (by omega)
  have i2 : (0 : Int) ≤ (k : Int) := by omega
  have i3 : (k : Int) < (m : Int) + 1 := by omega
  have e0 := (blk_cell (blko (boxW_n w b (k : Int)) (.cells #[.int .i64 0, .int .i64 0, .slice none 0 0] 32 (0, 0))) 0).trans (show _ = some (Value.pointer (some ⟨b, 0, none⟩)) from rfl)
  have e1 := (blk_cell (blko (boxW_k w b (k : Int)) (.cells #[.int .i64 0, .int .i64 0, .slice none 0 0] 32 (0, 0))) 0).trans (show _ = some (Value.int .i64 (k : Int)) from rfl)
  have HB := Aside0.mk (takeW_below w b (k : Int))
  have HO := Aside0.mk (takeW_o w b (k : Int))
  clear hN hN1 hM hC hx hx' hL hq hcut
  have hW : takeW w b (k : Int) = ((w.alloc (.cells #[.pointer (some ⟨b, 0, none⟩)] 24 (0, 0))).alloc (.cells #[.int .i64 (k : Int)] 3 (0, 0))).alloc (.cells #[.int .i64 0, .int .i64 0, .slice none 0 0] 32 (0, 0)) := rfl
  have hW2 : (boxW w b (k : Int)).alloc (.cells #[.int .i64 0, .int .i64 0, .slice none 0 0] 32 (0, 0)) = ((w.alloc (.cells #[.pointer (some ⟨b, 0, none⟩)] 24 (0, 0))).alloc (.cells #[.int .i64 (k : Int)] 3 (0, 0))).alloc (.cells #[.int .i64 0, .int .i64 0, .slice none 0 0] 32 (0, 0)) := rfl
  rw [hW] at q0 q1 q2 hc0 hc1
  rw [hW2] at e0 e1
  clear hW hW2
  go_enter Try.func9, Try.ntmps9
  go_wp2_with (first
    | (go_at_call 18; refine (HA.out).mono ?_; rintro e w2 ⟨rfl, hB2⟩; have hO2 := blkb HO.out hB2; have B2 := Aside0.mk (HB.out.trans (hB2.mono HB.out.size)); have o0 := blk_cell hO2 0; have o1 := blk_cell hO2 1; have o2 := blk_cell hO2 2; have of0 := blk_frozen hO2 0; have of1 := blk_frozen hO2 1; have of2 := blk_frozen hO2 2; simp at o0 o1 o2; have O2 := Aside0.mk hO2; clear hB2 hO2)
    | go_in)
  refine bodyPost_ret (v := .tuple #[.agg #[.int .i64 0, .int .i64 0, .slice none 0 0], .int .i64 50]) (by simp [results, Try.results9, go_sem, o0, o1, o2]) rfl ⟨rfl, ?_⟩
  rw [setCell_id O2.out rfl, setCell_id O2.out rfl, setCell_id O2.out rfl]
  exact B2.out

def New (w : World) (n : Int) (e : Ending) (w' : World) : Prop :=
  e = .returned (.tuple #[.pointer (some ⟨w.heap.size, 0, none⟩), .int .i64 0]) ∧ NetI w' w.heap.size w.heap.size n (.slice none 0 0) false false false false [] ∧ Below w.heap.size w w'
set_option maxRecDepth 100000 in
set_option maxHeartbeats 1000000 in
theorem new_calls (n : Int) (w : World) (h1 : 1 ≤ n) (h3 : n ≤ 3) : Calls Try.prog 5 #[.int .i64 n] w (New w n) := by
  have HX := Aside0.mk (blkn w (.cells #[.int .i64 n, .slice none 0 0, .bool false, .bool false, .bool false, .bool false] 46 (0, 0)))
  have HB := Aside0.mk (below_alloc (Below.refl w.heap.size w) (.cells #[.int .i64 n, .slice none 0 0, .bool false, .bool false, .bool false, .bool false] 46 (0, 0)))
  have i0 : decide (n < 1) = false := decide_eq_false (by omega)
  have i1 : decide (3 < n) = false := decide_eq_false (by omega)
  go_enter Try.func5, Try.ntmps5
  go_wp2
  go_ret2
  exact ⟨rfl, ⟨HX.out, Kd.R_nil _ _ _ _ _, Nat.le_refl _, by simp, by simp⟩, HB.out⟩

set_option maxRecDepth 100000 in
set_option maxHeartbeats 1000000 in
theorem cut_no (b base : Nat) (n : Int) (v : Value) (k0 k1 k2 k3 : Bool) (L : List S32) (x : Int) (f : Bool) (w : World) (hN : NetI w b base n v k0 k1 k2 k3 L) (hx : x < 1 ∨ n < x) :
    Calls Try.prog 13 #[.pointer (some ⟨b, 0, none⟩), .int .i64 x, .bool f] w fun e w' => e = .returned (.int .i64 1) ∧ w = w' := by
  obtain ⟨hc0, hc1, hf1⟩ := hN.cells
  clear hN
  by_cases h0 : x < 1
  · have h0' : decide (x < 1) = true := decide_eq_true h0
    clear hx
    go_enter Try.func13, Try.ntmps13
    go_wp2
    go_ret
    exact ⟨rfl, rfl⟩
  · have h0' : decide (x < 1) = false := decide_eq_false h0
    have h1 : n < x := by omega
    have h1' : decide (n < x) = true := decide_eq_true h1
    clear hx
    go_enter Try.func13, Try.ntmps13
    go_wp2
    go_ret
    exact ⟨rfl, rfl⟩

def CutPost (w : World) (b base : Nat) (n : Int) (v : Value) (L : List S32) (k0 : Bool) (e : Ending) (w' : World) : Prop :=
  e = .returned (.int .i64 0) ∧ ∃ k1 k2 k3, NetI w' b base n v k0 k1 k2 k3 L ∧ Kept w w' b v
theorem NetI.mark {w : World} {b base q : Nat} {n : Int} {v : Value} {k0 k1 k2 k3 : Bool} {L : List S32} (h : NetI w b base n v k0 k1 k2 k3 L) (f : Bool) (h1 : 1 ≤ q) (h3 : q ≤ 3) :
    NetI (w.setCell ⟨b, 2 + q, none⟩ (.bool f)) b base n v k0 (if q = 1 then f else k1) (if q = 2 then f else k2) (if q = 3 then f else k3) L ∧ Kept w (w.setCell ⟨b, 2 + q, none⟩ (.bool f)) b v := by
  refine ⟨⟨?_, R_setT h.row h.blk k32_ne46 _ _, h.low, h.len, h.byt⟩, ⟨rfl, rfl, rfl, by simp [World.setCell], fun k _ hk _ => heap_set hk⟩⟩
  have hb := blk_set h.blk (2 + q) (.bool f)
  match q, h1, h3 with
  | 1, _, _ => simpa using hb
  | 2, _, _ => simpa using hb
  | 3, _, _ => simpa using hb
set_option maxRecDepth 100000 in
set_option maxHeartbeats 1000000 in
theorem cut_yes (b base q : Nat) (n : Int) (v : Value) (k0 k1 k2 k3 : Bool) (L : List S32) (f : Bool) (w : World) (hN : NetI w b base n v k0 k1 k2 k3 L) (h1 : 1 ≤ q) (h3 : q ≤ 3) (hn : (q : Int) ≤ n) :
    Calls Try.prog 13 #[.pointer (some ⟨b, 0, none⟩), .int .i64 (q : Int), .bool f] w (CutPost w b base n v L k0) := by
  obtain ⟨hc0, hc1, hf1⟩ := hN.cells
  have hcq := hN.cut q h3
  have hfq := blk_frozen hN.blk (2 + q)
  have HE := Aside0.mk (hN.mark f h1 h3)
  have i0 : decide ((q : Int) < 1) = false := decide_eq_false (by omega)
  have i1 : decide (n < (q : Int)) = false := decide_eq_false (by omega)
  have i2 : (0 : Int) ≤ (q : Int) := by omega
  have i3 : (q : Int) < 4 := by omega
  clear hN
  go_enter Try.func13, Try.ntmps13
  go_wp2
  go_ret
  exact ⟨rfl, _, _, _, HE.out⟩
end Go.Proofs.Ytgeeioaeonmneaa.Net
