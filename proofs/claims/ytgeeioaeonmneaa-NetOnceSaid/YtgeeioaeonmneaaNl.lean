import Derived.Test.YtgeeioaeonmneaaNk
set_option linter.unusedVariables false
set_option linter.unusedSimpArgs false
namespace Go.Proofs.Ytgeeioaeonmneaa.Net
open Go.RowKit Go.Proofs.YtgeeioaeonmneaaW.PrintWords Go.Proofs.YtgeeioaeonmneaaW.PrintLast Go.Proofs.YtgeeioaeonmneaaW.PrintMore
open Go.Proofs.Ytgeeioaeonmneaa.PNetOnce

def takeW (w : World) (b : Nat) (k : Int) : World := (boxW w b k).alloc (.cells #[.int .i64 0, .int .i64 0, .slice none 0 0] 32 (0, 0))
theorem boxW_size (w : World) (b : Nat) (k : Int) : (boxW w b k).heap.size = w.heap.size + 2 := by simp [boxW]
theorem takeW_below (w : World) (b : Nat) (k : Int) : Below w.heap.size w (takeW w b k) := below_alloc (boxW_below w b k) _
theorem takeW_o (w : World) (b : Nat) (k : Int) : (takeW w b k).heap[w.heap.size + 2]? = some (.cells #[.int .i64 0, .int .i64 0, .slice none 0 0] 32 (0, 0)) := by
  have h := blkn (boxW w b k) (.cells #[.int .i64 0, .int .i64 0, .slice none 0 0] 32 (0, 0))
  rw [boxW_size] at h
  exact h

theorem setCell_id {w : World} {g i t : Nat} {cs : Array Value} {v : Value} (h : w.heap[g]? = some (.cells cs t (0, 0))) (hv : cs[i]? = some v) : w.setCell ⟨g, i, none⟩ v = w := by
  have hlt := blk_lt h
  have hx : (w.setCell ⟨g, i, none⟩ v).heap = w.heap := by
    apply Array.ext_getElem?
    intro j
    by_cases hj : j = g
    · subst hj
      rw [blk_set h i v, h]
      have : cs.setIfInBounds i v = cs := by
        apply Array.ext_getElem?
        intro q
        rw [Array.getElem?_setIfInBounds]
        split
        · rename_i hi
          subst hi
          split
          · exact hv.symm
          · rename_i hq
            rw [Array.getElem?_eq_none (by omega)]
        · rfl
      rw [this]
    · exact Below.heap_setCell _ _ _ _ hj
  have h2 : w.setCell ⟨g, i, none⟩ v = { w with heap := (w.setCell ⟨g, i, none⟩ v).heap } := rfl
  rw [h2, hx]

set_option maxRecDepth 100000 in
set_option maxHeartbeats 1000000 in
theorem take_no (b base : Nat) (n : Int) (v : Value) (k0 k1 k2 k3 : Bool) (L : List S32) (k : Int) (w : World) (hN : NetI w b base n v k0 k1 k2 k3 L) (hk : k < 0 ∨ (L.length : Int) ≤ k) :
    Calls Try.prog 9 #[.pointer (some ⟨b, 0, none⟩), .int .i64 k] w fun e w' => e = .returned (.tuple #[.agg #[.int .i64 0, .int .i64 0, .slice none 0 0], .int .i64 1]) ∧ Below w.heap.size w w' := by
  have HB := Aside0.mk (takeW_below w b k)
  have HO := Aside0.mk (takeW_o w b k)
  have o0 := (blk_cell HO.out 0).trans (show _ = some (Value.int .i64 0) from rfl)
  have o1 := (blk_cell HO.out 1).trans (show _ = some (Value.int .i64 0) from rfl)
  have o2 := (blk_cell HO.out 2).trans (show _ = some (Value.slice none 0 0) from rfl)
  have of0 := blk_frozen HO.out 0
  have of1 := blk_frozen HO.out 1
  have of2 := blk_frozen HO.out 2
  obtain ⟨W, hW⟩ : ∃ W, W = takeW w b k := ⟨_, rfl⟩
  have HA := Aside0.mk (at_no b base n v k0 k1 k2 k3 L k (.func 18) #[] #[.pointer (some ⟨w.heap.size, 0, none⟩), .pointer (some ⟨w.heap.size + 1, 0, none⟩), .pointer (some ⟨w.heap.size + 2, 0, none⟩)] (takeW w b k) (hN.below (takeW_below w b k)) hk)
  rw [← hW] at HA HB HO o0 o1 o2 of0 of1 of2
  have HW := Aside0.mk hW
  clear hN hk hW
  go_enter Try.func9, Try.ntmps9
  go_wp2_with (go_at_call 17; (change Calls _ _ _ (takeW w b k) _; rw [← HW.out]); refine (HA.out).mono ?_; rintro e w' ⟨rfl, rfl⟩)
  refine bodyPost_ret (v := .tuple #[.agg #[.int .i64 0, .int .i64 0, .slice none 0 0], .int .i64 1]) (by simp [results, Try.results9, go_sem, o0, o1, o2]) rfl ⟨rfl, ?_⟩
  exact ((HB.out.setCell (by simp; omega) _).setCell (by simp; omega) _).setCell (by simp; omega) _

def TakePost (w : World) (b base : Nat) (n : Int) (v : Value) (k0 k1 k2 k3 : Bool) (L' : List S32) (x : S32) (e : Ending) (w' : World) : Prop :=
  ∃ v' A cx, e = .returned (.tuple #[.agg #[.int .i64 x.f0, .int .i64 x.f1, .slice A x.f2.length cx], .int .i64 0]) ∧ NetI w' b base n v' k0 k1 k2 k3 L' ∧ Kept w w' b v ∧ (Kd.int .u8).R 5 w' base (fun _ => True) (.slice A x.f2.length cx) x.f2

set_option maxRecDepth 100000 in
set_option maxHeartbeats 1000000 in
theorem take_yes (b base g c m k q : Nat) (n : Int) (k0 k1 k2 k3 : Bool) (L : List S32) (x : S32) (w : World) (hN : NetI w b base n (.slice (some ⟨g, 0, none⟩) (m + 1) c) k0 k1 k2 k3 L)
    (hL : L.length = m + 1) (hk : k < m + 1) (hx : L[k]? = some x) (cells : Array Value) (hg : w.heap[g]? = some (.cells cells 32 (0, 0)))
    (hq : wrap64 (x.f0 + x.f1) = (q : Int)) (hq3 : q ≤ 3) (hcut : cutAt k0 k1 k2 k3 q = false) :
    Calls Try.prog 9 #[.pointer (some ⟨b, 0, none⟩), .int .i64 (k : Int)] w (TakePost w b base n (.slice (some ⟨g, 0, none⟩) (m + 1) c) k0 k1 k2 k3 (L.eraseIdx k) x) := by
  have hN1 := hN.below (takeW_below w b (k : Int))
  obtain ⟨x', A, cx, hx', q0, q1, q2, hM, hC⟩ := hN1.at_ hL hk
  obtain rfl : x' = x := Option.some.inj (hx'.symm.trans hx)
  obtain ⟨hc0, hc1, hf1⟩ := hN1.cells
  have hlg := blk_lt hg
  have HA := Aside0.mk (take1_ok b base g c m k w.heap.size (w.heap.size + 1) (w.heap.size + 2) q n k0 k1 k2 k3 L x' (.slice A x'.f2.length cx) (.int .i64 0) (.int .i64 0) (.slice none 0 0) A cx rfl _ hN1 hL hk cells (blkb hg (takeW_below w b k)) (by omega) (takeW_o w b k) hq hq3 hcut (blko (boxW_n w b k) _) (blko (boxW_k w b k) _))
  have i0 : decide ((k : Int) < 0) = false := decide_eq_false (by omega)
  have i1 : decide ((m : Int) + 1 ≤ (k : Int)) = false := decide_eq_false (by omega)
  have i2 : (0 : Int) ≤ (k : Int) := by omega
  have i3 : (k : Int) < (m : Int) + 1 := by omega
  have e0 := (blk_cell (blko (boxW_n w b (k : Int)) (.cells #[.int .i64 0, .int .i64 0, .slice none 0 0] 32 (0, 0))) 0).trans (show _ = some (Value.pointer (some ⟨b, 0, none⟩)) from rfl)
  have e1 := (blk_cell (blko (boxW_k w b (k : Int)) (.cells #[.int .i64 0, .int .i64 0, .slice none 0 0] 32 (0, 0))) 0).trans (show _ = some (Value.int .i64 (k : Int)) from rfl)
  have HB := Aside0.mk (takeW_below w b (k : Int))
  have HM := Aside0.mk hM
  have HNb := Aside0.mk hN1.blk
  have HBL := Aside0.mk hN.lt
  have HLO := Aside0.mk hN.low
  have HLG := Aside0.mk hlg
  clear hN hN1 hM hC hx hx' hL hq hcut hg hlg
  have hW : takeW w b (k : Int) = ((w.alloc (.cells #[.pointer (some ⟨b, 0, none⟩)] 24 (0, 0))).alloc (.cells #[.int .i64 (k : Int)] 3 (0, 0))).alloc (.cells #[.int .i64 0, .int .i64 0, .slice none 0 0] 32 (0, 0)) := rfl
  have hW2 : (boxW w b (k : Int)).alloc (.cells #[.int .i64 0, .int .i64 0, .slice none 0 0] 32 (0, 0)) = ((w.alloc (.cells #[.pointer (some ⟨b, 0, none⟩)] 24 (0, 0))).alloc (.cells #[.int .i64 (k : Int)] 3 (0, 0))).alloc (.cells #[.int .i64 0, .int .i64 0, .slice none 0 0] 32 (0, 0)) := rfl
  rw [hW] at q0 q1 q2 hc0 hc1
  rw [hW2] at e0 e1
  clear hW hW2
  go_enter Try.func9, Try.ntmps9
  go_wp2_with (first
    | (go_at_call 18; refine (HA.out).mono ?_; rintro e w2 ⟨v', rfl, hN2, hK2, hO2⟩; have N2 := Aside0.mk hN2; have K2 := Aside0.mk hK2; have o0 := blk_cell hO2 0; have o1 := blk_cell hO2 1; have o2 := blk_cell hO2 2; have of0 := blk_frozen hO2 0; have of1 := blk_frozen hO2 1; have of2 := blk_frozen hO2 2; simp at o0 o1 o2; have O2 := Aside0.mk hO2; clear hN2 hK2 hO2)
    | go_in)
  refine bodyPost_ret (v := .tuple #[.agg #[.int .i64 x'.f0, .int .i64 x'.f1, .slice A x'.f2.length cx], .int .i64 0]) (by simp [results, Try.results9, go_sem, o0, o1, o2]) rfl ⟨v', A, cx, rfl, ?_, ?_, ?_⟩
  all_goals (first | rw [setCell_id O2.out rfl, setCell_id O2.out rfl, setCell_id O2.out rfl] | skip)
  · exact N2.out
  · have hk := K2.out
    have hs := HB.out.size
    refine ⟨hk.os.trans HB.out.os, hk.tape.trans HB.out.tape, hk.output.trans HB.out.output, Nat.le_trans hs hk.size, fun j hj hjb hjv => ?_⟩
    rw [hk.block j (by omega) hjb (by omega) hjv, HB.out.block j hj]
  · obtain ⟨v2, hv2, hR⟩ := k32_openM (k32.M_mono (fun _ hk => hk.1) (k32.M_move (w1 := w2) (fun j hj => by
      obtain ⟨hjg, _, hjl, qq, hqq, cells', hcc⟩ := hj
      have h5 : qq = 5 := by simpa [k32, Kd.iso, Kd.pair, Kd.int, Kd.scalar, Kd.slice] using hqq
      rw [h5] at hcc
      refine K2.out.block j hjl (fun he => ?_) (fun he => ?_) (fun he => hjg (by simpa [Value.ownBlock] using he))
      · subst he; rw [HNb.out] at hcc; injection hcc with hcc; injection hcc with _ hcc; exact absurd hcc (by decide)
      · subst he; rw [takeW_o] at hcc; injection hcc with hcc; injection hcc with _ hcc; exact absurd hcc (by decide)) (k32.M_bound HM.out)))
    have hv3 : v2 = .slice A x'.f2.length cx := by
      injection hv2 with _ hv2
      injection hv2 with _ hv2
      injection hv2 with hv2
      exact hv2.symm
    subst hv3
    exact Kd.R_mono hR (fun _ _ => trivial)
end Go.Proofs.Ytgeeioaeonmneaa.Net
