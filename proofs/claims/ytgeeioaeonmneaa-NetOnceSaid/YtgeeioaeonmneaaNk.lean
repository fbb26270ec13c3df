import Derived.Test.YtgeeioaeonmneaaNj
set_option linter.unusedVariables false
set_option linter.unusedSimpArgs false
namespace Go.Proofs.Ytgeeioaeonmneaa.Net
open Go.RowKit Go.Proofs.YtgeeioaeonmneaaW.PrintWords Go.Proofs.YtgeeioaeonmneaaW.PrintLast Go.Proofs.YtgeeioaeonmneaaW.PrintMore
open Go.Proofs.Ytgeeioaeonmneaa.PNetOnce

set_option maxRecDepth 100000 in
set_option maxHeartbeats 1000000 in
theorem hold_no (b base : Nat) (n : Int) (v : Value) (k0 k1 k2 k3 : Bool) (L : List S32) (k : Int) (w : World) (hN : NetI w b base n v k0 k1 k2 k3 L) (hk : k < 0 ∨ (L.length : Int) ≤ k) :
    Calls Try.prog 12 #[.pointer (some ⟨b, 0, none⟩), .int .i64 k] w fun e w' => e = .returned (.int .i64 1) ∧ Below w.heap.size w w' := by
  have HB := Aside0.mk (boxW_below w b k)
  have HA := Aside0.mk (at_no b base n v k0 k1 k2 k3 L k (.func 21) #[] #[.pointer (some ⟨w.heap.size, 0, none⟩), .pointer (some ⟨w.heap.size + 1, 0, none⟩)] (boxW w b k) (hN.below (boxW_below w b k)) hk)
  clear hN hk
  go_enter Try.func12, Try.ntmps12
  go_wp2_with (go_at_call 17; refine (HA.out).mono ?_; rintro e w' ⟨rfl, rfl⟩)
  go_ret
  exact ⟨rfl, HB.out⟩
set_option maxRecDepth 100000 in
set_option maxHeartbeats 1000000 in
theorem hold_yes (b base g c m k : Nat) (n : Int) (k0 k1 k2 k3 : Bool) (L : List S32) (w : World) (hN : NetI w b base n (.slice (some ⟨g, 0, none⟩) (m + 1) c) k0 k1 k2 k3 L)
    (hL : L.length = m + 1) (hk : k < m + 1) (cells : Array Value) (hg : w.heap[g]? = some (.cells cells 32 (0, 0))) :
    Calls Try.prog 12 #[.pointer (some ⟨b, 0, none⟩), .int .i64 (k : Int)] w (NetEnd w b base n (.slice (some ⟨g, 0, none⟩) (m + 1) c) k0 k1 k2 k3 (L.eraseIdx k ++ (L[k]?).toList) 0) := by
  have hN1 := hN.below (boxW_below w b (k : Int))
  obtain ⟨x, A, cx, hx, q0, q1, q2, hM, hC⟩ := hN1.at_ hL hk
  obtain ⟨hc0, hc1, hf1⟩ := hN1.cells
  have HA := Aside0.mk (hold1_calls b base g c m k w.heap.size (w.heap.size + 1) n k0 k1 k2 k3 L x A cx _ hN1 hL hk hx hM (boxW_n w b k) (boxW_k w b k) cells (blkb hg (boxW_below w b k)))
  have HX := Aside0.mk hx
  have i0 : decide ((k : Int) < 0) = false := decide_eq_false (by omega)
  have i1 : decide ((m : Int) + 1 ≤ (k : Int)) = false := decide_eq_false (by omega)
  have i2 : (0 : Int) ≤ (k : Int) := by omega
  have i3 : (k : Int) < (m : Int) + 1 := by omega
  have e0 := (blk_cell (boxW_n w b (k : Int)) 0).trans (show _ = some (Value.pointer (some ⟨b, 0, none⟩)) from rfl)
  have e1 := (blk_cell (boxW_k w b (k : Int)) 0).trans (show _ = some (Value.int .i64 (k : Int)) from rfl)
  have HB := Aside0.mk (boxW_below w b (k : Int))
  clear hN hN1 hM hC hx hL
  have hW : boxW w b (k : Int) = (w.alloc (.cells #[.pointer (some ⟨b, 0, none⟩)] 24 (0, 0))).alloc (.cells #[.int .i64 (k : Int)] 3 (0, 0)) := rfl
  rw [hW] at q0 q1 q2 hc0 hc1 e0 e1
  clear hW
  go_enter Try.func12, Try.ntmps12
  go_wp2_with (first
    | (go_at_call 21; refine (HA.out).mono ?_; rintro e w2 ⟨v', rfl, hN2, hK2⟩; have N2 := Aside0.mk hN2; have K2 := Aside0.mk hK2; clear hN2 hK2)
    | go_in)
  go_ret
  exact ⟨v', rfl, by rw [HX.out]; exact N2.out, kept_trans HB.out K2.out⟩
set_option maxRecDepth 100000 in
set_option maxHeartbeats 1000000 in
theorem double_no (b base : Nat) (n : Int) (v : Value) (k0 k1 k2 k3 : Bool) (L : List S32) (k : Int) (w : World) (hN : NetI w b base n v k0 k1 k2 k3 L) (hk : k < 0 ∨ (L.length : Int) ≤ k) :
    Calls Try.prog 11 #[.pointer (some ⟨b, 0, none⟩), .int .i64 k] w fun e w' => e = .returned (.int .i64 1) ∧ w = w' := by
  have HA := Aside0.mk (at_no b base n v k0 k1 k2 k3 L k (.func 7) #[.pointer (some ⟨b, 0, none⟩)] #[] w hN hk)
  clear hN hk
  go_enter Try.func11, Try.ntmps11
  go_wp2_with (go_at_call 17; refine (HA.out).mono ?_; rintro e w' ⟨rfl, rfl⟩)
  go_ret
  exact ⟨rfl, rfl⟩
set_option maxRecDepth 100000 in
set_option maxHeartbeats 1000000 in
theorem double_yes (b base g c m k : Nat) (n : Int) (k0 k1 k2 k3 : Bool) (L : List S32) (x : S32) (w : World) (hN : NetI w b base n (.slice (some ⟨g, 0, none⟩) (m + 1) c) k0 k1 k2 k3 L)
    (hL : L.length = m + 1) (hk : k < m + 1) (hx : L[k]? = some x) :
    Calls Try.prog 11 #[.pointer (some ⟨b, 0, none⟩), .int .i64 (k : Int)] w (SendPost w b base n (.slice (some ⟨g, 0, none⟩) (m + 1) c) k0 k1 k2 k3 (sendF n L x)) := by
  obtain ⟨x', A, cx, hx', q0, q1, q2, hM, hC⟩ := hN.at_ hL hk
  obtain rfl : x' = x := Option.some.inj (hx'.symm.trans hx)
  obtain ⟨hc0, hc1, hf1⟩ := hN.cells
  have HA := Aside0.mk (send_calls b base n _ k0 k1 k2 k3 L x' A cx w hN hC (by have := hN.byt x' (List.mem_of_getElem? hx); omega))
  have i0 : decide ((k : Int) < 0) = false := decide_eq_false (by omega)
  have i1 : decide ((m : Int) + 1 ≤ (k : Int)) = false := decide_eq_false (by omega)
  have i2 : (0 : Int) ≤ (k : Int) := by omega
  have i3 : (k : Int) < (m : Int) + 1 := by omega
  clear hN hM hC hx hx' hL
  go_enter Try.func11, Try.ntmps11
  go_wp2_with (first
    | (go_at_call 7; refine (HA.out).mono ?_; rintro e w2 ⟨v', rfl, hN2, hK2⟩; have N2 := Aside0.mk hN2; have K2 := Aside0.mk hK2; clear hN2 hK2)
    | go_in)
  go_ret
  exact ⟨v', rfl, N2.out, K2.out⟩
end Go.Proofs.Ytgeeioaeonmneaa.Net
