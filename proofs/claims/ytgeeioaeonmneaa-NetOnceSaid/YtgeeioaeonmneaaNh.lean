import Derived.Test.YtgeeioaeonmneaaNg
import Derived.Test.YtgeeioaeonmneaaHT
set_option linter.unusedVariables false
set_option linter.unusedSimpArgs false
namespace Go.Proofs.Ytgeeioaeonmneaa.Net
open Go.RowKit Go.Proofs.YtgeeioaeonmneaaW.PrintWords Go.Proofs.YtgeeioaeonmneaaW.PrintLast Go.Proofs.YtgeeioaeonmneaaW.PrintMore
open Go.Proofs.Ytgeeioaeonmneaa.PNetOnce

set_option maxRecDepth 100000 in
set_option maxHeartbeats 20000000 in
theorem take1_ok (b base g c m k bn bk bo q : Nat) (n : Int) (k0 k1 k2 k3 : Bool) (L : List S32) (x : S32) (u y0 y1 y2 : Value) (A : Option Addr) (cx : Nat) (hu : u = .slice A x.f2.length cx) (w : World) (hN : NetI w b base n (.slice (some ⟨g, 0, none⟩) (m + 1) c) k0 k1 k2 k3 L)
    (hL : L.length = m + 1) (hk : k < m + 1) (cells : Array Value) (hg : w.heap[g]? = some (.cells cells 32 (0, 0))) (hbo : bo ≠ g) (ho : w.heap[bo]? = some (.cells #[y0, y1, y2] 32 (0, 0)))
    (hq : wrap64 (x.f0 + x.f1) = (q : Int)) (hq3 : q ≤ 3) (hc : cutAt k0 k1 k2 k3 q = false) (hbn : w.heap[bn]? = some (.cells #[.pointer (some ⟨b, 0, none⟩)] 24 (0, 0))) (hbk : w.heap[bk]? = some (.cells #[.int .i64 (k : Int)] 3 (0, 0))) :
    Calls Try.prog 18 #[.agg #[.int .i64 x.f0, .int .i64 x.f1, u], .pointer (some ⟨bn, 0, none⟩), .pointer (some ⟨bk, 0, none⟩), .pointer (some ⟨bo, 0, none⟩)] w (Take1Ok w b base bo n (.slice (some ⟨g, 0, none⟩) (m + 1) c) k0 k1 k2 k3 (L.eraseIdx k) (.int .i64 x.f0) (.int .i64 x.f1) u) := by
  subst hu
  have HN := Aside0.mk hN
  have HL := Aside0.mk hL
  have HQ := Aside0.mk hq
  have HC := Aside0.mk hc
  have BN := Aside0.mk hbn
  have BK := Aside0.mk hbk
  have BG := Aside0.mk hg
  have BO := Aside0.mk ho
  have hog := Aside0.mk hbo
  have hkm : k < m + 1 := hk
  have hm4 := Aside0.mk (show m + 1 ≤ 4096 by rw [← hL]; exact hN.len)
  have BX := Aside0.mk (blkn w (.cells #[.int .i64 x.f0, .int .i64 x.f1, .slice A x.f2.length cx] 32 (0, 0)))
  have e0 := (blk_cell hbn 0).trans (show _ = some (Value.pointer (some ⟨b, 0, none⟩)) from rfl)
  have lt0 := blk_lt hbn
  have ltg := Aside0.mk (blk_lt hg)
  have ltbo := Aside0.mk (blk_lt ho)
  have hbl := hN.lt
  have hlow := hN.low
  have hq0 : (0 : Int) ≤ (q : Int) := by omega
  have hq4 : (q : Int) < 4 := by omega
  obtain ⟨hc0, hc1, hf1⟩ := hN.cells
  clear hN hbn hbk hg ho hq hc hL hk hbo
  have hWB := Aside0.mk (below_alloc (Below.refl w.heap.size w) (.cells #[.int .i64 x.f0, .int .i64 x.f1, .slice A x.f2.length cx] 32 (0, 0)))
  have hw1 : IntKind.i64.wrap ((k : Int) + 1) = (k : Int) + 1 := by rw [IntKind.wrap_i64]; have := hm4.out; omega
  go_enter Try.func18, Try.ntmps18
  go_wp2_with (go_at_call 16; refine (gate_calls b n x.f0 x.f1 _ _ [.bool k0, .bool k1, .bool k2, .bool k3] _ (blko HN.out.blk _)).mono ?_; rintro e w1 ⟨rfl, hB⟩; rw [HQ.out]; have N1 := Aside0.mk ((HN.out.alloc _).below hB); have B1 := Aside0.mk (hWB.out.trans (hB.mono (by simp))); have M1 := blkb (blko BN.out _) hB; have M2 := blkb (blko BK.out _) hB; have M3 := blkb (blko BO.out _) hB; have M4 := blkb BX.out hB; have M5 := blkb (blko BG.out _) hB; have f0 := blk_cell M1 0; have f2 := blk_cell M2 0; have f5 := blk_cell M4 0; have f6 := blk_cell M4 1; have f7 := blk_cell M4 2; simp at f0 f2 f5 f6 f7; have f1 := N1.out.cut q hq3; rw [HC.out] at f1; obtain ⟨n0, n1, g1⟩ := N1.out.cells; have C1 := Aside0.mk M1; have C2 := Aside0.mk M2; have C3 := Aside0.mk M3; have C4 := Aside0.mk M4; have C5 := Aside0.mk M5; have ltw := Aside0.mk (show base ≤ w1.drew.heap.size from (by have h1 := B1.out.size; show base ≤ w1.heap.size; omega)); clear hB M1 M2 M3 M4 M5)
  refine Go.HeldT.region (fun w' => w'.cell? ⟨bn, 0, none⟩ = some (.pointer (some ⟨b, 0, none⟩)) ∧ w'.cell? ⟨bk, 0, none⟩ = some (.int .i64 (k : Int)) ∧ w'.cell? ⟨b, 1, none⟩ = some (.slice (some ⟨g, 0, none⟩) (m + 1) c) ∧ w'.cell? ⟨w.heap.size, 0, none⟩ = some (.int .i64 x.f0) ∧ w'.cell? ⟨w.heap.size, 1, none⟩ = some (.int .i64 x.f1) ∧ w'.cell? ⟨w.heap.size, 2, none⟩ = some (.slice A x.f2.length cx)) 13 (by kernel_rfl) ?_ (fun hHeld0 => ?_)
  · (try dsimp only); (first | go_keep | (refine ⟨?_, ?_, ?_, ?_, ?_, ?_⟩ <;> go_keep))
  refine Go.HeldT.take (i := 0) (oi := { dst := some 20, op := Op.load 24 (Operand.tmp 1), type := 24, pos := "net.go:72", after := #[], guard := none }) (v := ?_) rfl (by kernel_rfl) (by kernel_rfl) (by kernel_rfl) (by kernel_rfl) (fun _ _ _ h => h) (Or.inl ⟨by rfl, ?_⟩) (by assumption) ?_
  rotate_left
  · (intro w_ hSw; (try dsimp only at hSw); go_simp; try (with_reducible rfl))
  try simp only [Act.put, List.setIfInBounds_toArray, List.set_cons_zero, List.set_cons_succ]
  refine Go.HeldT.take (i := 1) (oi := { dst := some 21, op := Op.load 32 (Operand.tmp 4), type := 32, pos := "net.go:72", after := #[], guard := none }) (v := ?_) rfl (by kernel_rfl) (by kernel_rfl) (by kernel_rfl) (by kernel_rfl) (fun _ _ _ h => h) (Or.inl ⟨by rfl, ?_⟩) (by assumption) ?_
  rotate_left
  · (intro w_ hSw; (try dsimp only at hSw); go_simp; try (with_reducible rfl))
  try simp only [Act.put, List.setIfInBounds_toArray, List.set_cons_zero, List.set_cons_succ]
  refine Go.HeldT.take (i := 2) (oi := { dst := some 22, op := Op.load 24 (Operand.tmp 1), type := 24, pos := "net.go:72", after := #[], guard := none }) (v := ?_) rfl (by kernel_rfl) (by kernel_rfl) (by kernel_rfl) (by kernel_rfl) (fun _ _ _ h => h) (Or.inl ⟨by rfl, ?_⟩) (by assumption) ?_
  rotate_left
  · (intro w_ hSw; (try dsimp only at hSw); go_simp; try (with_reducible rfl))
  try simp only [Act.put, List.setIfInBounds_toArray, List.set_cons_zero, List.set_cons_succ]
  refine Go.HeldT.take (i := 3) (oi := { dst := some 23, op := Op.nilCheck (Operand.tmp 22), type := 0, pos := "net.go:72", after := #[{ on := 2, ground := Ground.data }], guard := none }) (v := ?_) rfl (by kernel_rfl) (by kernel_rfl) (by kernel_rfl) (by kernel_rfl) (fun _ _ _ h => h) (Or.inl ⟨by rfl, ?_⟩) (by assumption) ?_
  rotate_left
  · (intro w_ hSw; (try dsimp only at hSw); go_simp; try (with_reducible rfl))
  try simp only [Act.put, List.setIfInBounds_toArray, List.set_cons_zero, List.set_cons_succ]
  refine Go.HeldT.take (i := 4) (oi := { dst := some 24, op := Op.fieldAddr 46 (Operand.tmp 23) 1, type := 0, pos := "net.go:72", after := #[{ on := 3, ground := Ground.data }], guard := none }) (v := ?_) rfl (by kernel_rfl) (by kernel_rfl) (by kernel_rfl) (by kernel_rfl) (fun _ _ _ h => h) (Or.inl ⟨by rfl, ?_⟩) (by assumption) ?_
  rotate_left
  · (intro w_ hSw; (try dsimp only at hSw); go_simp; try (with_reducible rfl))
  try simp only [Act.put, List.setIfInBounds_toArray, List.set_cons_zero, List.set_cons_succ]
  refine Go.HeldT.take (i := 5) (oi := { dst := some 25, op := Op.load 35 (Operand.tmp 24), type := 35, pos := "net.go:72", after := #[{ on := 4, ground := Ground.data }], guard := none }) (v := ?_) rfl (by kernel_rfl) (by kernel_rfl) (by kernel_rfl) (by kernel_rfl) (fun _ _ _ h => h) (Or.inl ⟨by rfl, ?_⟩) (by assumption) ?_
  rotate_left
  · (intro w_ hSw; (try dsimp only at hSw); go_simp; try (with_reducible rfl))
  try simp only [Act.put, List.setIfInBounds_toArray, List.set_cons_zero, List.set_cons_succ]
  refine Go.HeldT.take (i := 6) (oi := { dst := some 26, op := Op.load 3 (Operand.tmp 2), type := 3, pos := "net.go:72", after := #[], guard := none }) (v := ?_) rfl (by kernel_rfl) (by kernel_rfl) (by kernel_rfl) (by kernel_rfl) (fun _ _ _ h => h) (Or.inl ⟨by rfl, ?_⟩) (by assumption) ?_
  rotate_left
  · (intro w_ hSw; (try dsimp only at hSw); go_simp; try (with_reducible rfl))
  try simp only [Act.put, List.setIfInBounds_toArray, List.set_cons_zero, List.set_cons_succ]
  refine Go.HeldT.take (i := 7) (oi := { dst := some 27, op := Op.load 3 (Operand.tmp 2), type := 3, pos := "net.go:72", after := #[], guard := none }) (v := ?_) rfl (by kernel_rfl) (by kernel_rfl) (by kernel_rfl) (by kernel_rfl) (fun _ _ _ h => h) (Or.inl ⟨by rfl, ?_⟩) (by assumption) ?_
  rotate_left
  · (intro w_ hSw; (try dsimp only at hSw); go_simp; try (with_reducible rfl))
  try simp only [Act.put, List.setIfInBounds_toArray, List.set_cons_zero, List.set_cons_succ]
  refine Go.HeldT.take (i := 8) (oi := { dst := some 28, op := Op.binOp BinOp.add 3 (Operand.tmp 27) (Operand.const (Value.int IntKind.i64 1)) 3, type := 3, pos := "net.go:72", after := #[{ on := 7, ground := Ground.data }], guard := none }) (v := ?_) rfl (by kernel_rfl) (by kernel_rfl) (by kernel_rfl) (by kernel_rfl) (fun _ _ _ h => h) (Or.inl ⟨by rfl, ?_⟩) (by assumption) ?_
  rotate_left
  · (intro w_ hSw; (try dsimp only at hSw); go_simp; try (with_reducible rfl))
  try simp only [Act.put, List.setIfInBounds_toArray, List.set_cons_zero, List.set_cons_succ]
  refine Go.HeldT.all (rs := [9]) (by kernel_rfl) (by simp) ?_
  refine Go.HeldT.AllReadyT.cons (o := { dst := some 29, op := Op.call { callee := Callee.value (Operand.func 19), args := #[Operand.tmp 25, Operand.tmp 26, Operand.tmp 28], argTypes := #[35, 3, 3] }, type := 35, pos := "net.go:72", after := #[{ on := 5, ground := Ground.data }, { on := 6, ground := Ground.data }, { on := 8, ground := Ground.data }], guard := none }) rfl (fun K hK => ?_) ?_
  · skip
    (first
        | ((go_simp); go_at_call 19; ((with_reducible refine (delete_calls base g c k m L _ (Kd.R_drew N1.out.row) hkm hm4.out ltw.out).mono ?_); rintro e w2 ⟨rfl, hR2, hG2⟩); have hG := grown_drew hG2; have K2 := grown_other N1.out.blk C5.out (by decide) hG; have K3 := grown_other C1.out C5.out (by decide) hG; have K4 := grown_other C2.out C5.out (by decide) hG; have K5 := blk_grown C3.out hG (fun he => hog.out (by injection he)); have K6 := blk_grown C4.out hG (fun he => by injection he with he; have := ltg.out; omega); have s1 := blk_cell K2 1; have s1f := blk_frozen K2 1; have s2 := blk_cell K3 0; have s3 := blk_cell K4 0; have p0 := blk_cell K5 0; have p1 := blk_cell K5 1; have p2 := blk_cell K5 2; have p0f := blk_frozen K5 0; have p1f := blk_frozen K5 1; have p2f := blk_frozen K5 2; have r0 := blk_cell K6 0; have r1 := blk_cell K6 1; have r2 := blk_cell K6 2; simp at s1 s2 s3 p0 p1 p2 r0 r1 r2; have G2 := Aside0.mk hG; have R2 := Aside0.mk hR2; have H2 := Aside0.mk K2; have O2 := Aside0.mk K5; have hbob := blk_ne K2 K5 (by decide); have hbob' := Ne.symm hbob; have hbnbo := blk_ne K3 K5 (by decide); have hbkbo := blk_ne K4 K5 (by decide); have hxbo : w.heap.size ≠ bo := (fun he => by have := ltbo.out; omega); have hbnbo' := Ne.symm hbnbo; have hbkbo' := Ne.symm hbkbo; have hxbo' := Ne.symm hxbo; clear hR2 hG2 hG K2 K3 K4 K5 K6))
    refine hK.out _ _ ?_ (fun hHeld1 => ?_)
    · (intro _; (try dsimp only); (first | go_keep | (refine ⟨?_, ?_, ?_, ?_, ?_, ?_⟩ <;> go_keep)))
    clear hK K hHeld0
    replace hHeld1 := hHeld1 (by decide)
    try simp only [Act.put, List.setIfInBounds_toArray, List.set_cons_zero, List.set_cons_succ]
    refine Go.HeldT.all (rs := [10]) (by kernel_rfl) (by simp) ?_
    refine Go.HeldT.AllReadyT.cons (o := { dst := none, op := Op.store 32 (Operand.tmp 3) (Operand.tmp 21), type := 0, pos := "net.go:72", after := #[{ on := 1, ground := Ground.data }, { on := 9, ground := Ground.chain }, { on := 0, ground := Ground.textOnly Departure.inlinedCapture }, { on := 1, ground := Ground.phase }, { on := 2, ground := Ground.textOnly Departure.inlinedCapture }, { on := 3, ground := Ground.textOnly Departure.inlinedCapture }, { on := 4, ground := Ground.textOnly Departure.inlinedCapture }, { on := 5, ground := Ground.textOnly Departure.inlinedCapture }, { on := 6, ground := Ground.textOnly Departure.inlinedCapture }, { on := 7, ground := Ground.textOnly Departure.inlinedCapture }, { on := 8, ground := Ground.textOnly Departure.inlinedCapture }, { on := 9, ground := Ground.textOnly Departure.lateStoresUnsure }], guard := none }) rfl (fun K hK => ?_) ?_
    · skip
      go_simp
      refine hK.out _ _ ?_ (fun hHeld2 => ?_)
      · (intro _; (try dsimp only); (first | go_keep | (refine ⟨?_, ?_, ?_, ?_, ?_, ?_⟩ <;> go_keep)))
      clear hK K hHeld1
      replace hHeld2 := hHeld2 (by decide)
      try simp only [Act.put, List.setIfInBounds_toArray, List.set_cons_zero, List.set_cons_succ]
      refine Go.HeldT.all (rs := [11]) (by kernel_rfl) (by simp) ?_
      refine Go.HeldT.AllReadyT.cons (o := { dst := some 30, op := Op.nilCheck (Operand.tmp 20), type := 0, pos := "net.go:72", after := #[{ on := 0, ground := Ground.data }, { on := 0, ground := Ground.phase }, { on := 1, ground := Ground.phase }, { on := 2, ground := Ground.phase }, { on := 3, ground := Ground.phase }, { on := 4, ground := Ground.phase }, { on := 5, ground := Ground.phase }, { on := 6, ground := Ground.phase }, { on := 7, ground := Ground.phase }, { on := 8, ground := Ground.phase }, { on := 9, ground := Ground.phase }, { on := 10, ground := Ground.phase }], guard := none }) rfl (fun K hK => ?_) ?_
      · skip
        go_simp
        refine hK.out _ _ ?_ (fun hHeld3 => ?_)
        · (intro _; (try dsimp only); (first | go_keep | (refine ⟨?_, ?_, ?_, ?_, ?_, ?_⟩ <;> go_keep)))
        clear hK K hHeld2
        replace hHeld3 := hHeld3 (by decide)
        try simp only [Act.put, List.setIfInBounds_toArray, List.set_cons_zero, List.set_cons_succ]
        refine Go.HeldT.take (i := 12) (oi := { dst := some 31, op := Op.fieldAddr 46 (Operand.tmp 30) 1, type := 0, pos := "net.go:72", after := #[{ on := 11, ground := Ground.data }, { on := 0, ground := Ground.phase }, { on := 1, ground := Ground.phase }, { on := 2, ground := Ground.phase }, { on := 3, ground := Ground.phase }, { on := 4, ground := Ground.phase }, { on := 5, ground := Ground.phase }, { on := 6, ground := Ground.phase }, { on := 7, ground := Ground.phase }, { on := 8, ground := Ground.phase }, { on := 9, ground := Ground.phase }, { on := 10, ground := Ground.phase }], guard := none }) (v := ?_) rfl (by kernel_rfl) (by kernel_rfl) (by kernel_rfl) (by kernel_rfl) (fun _ _ _ h => h) (Or.inl ⟨by rfl, ?_⟩) (by assumption) ?_
        rotate_left
        · (intro w_ hSw; (try dsimp only at hSw); go_simp; try (with_reducible rfl))
        try simp only [Act.put, List.setIfInBounds_toArray, List.set_cons_zero, List.set_cons_succ]
        refine Go.HeldT.all (rs := [13]) (by kernel_rfl) (by simp) ?_
        refine Go.HeldT.AllReadyT.cons (o := { dst := none, op := Op.store 35 (Operand.tmp 31) (Operand.tmp 29), type := 0, pos := "net.go:72", after := #[{ on := 12, ground := Ground.data }, { on := 9, ground := Ground.data }, { on := 10, ground := Ground.chain }, { on := 0, ground := Ground.phase }, { on := 1, ground := Ground.phase }, { on := 2, ground := Ground.phase }, { on := 3, ground := Ground.phase }, { on := 4, ground := Ground.phase }, { on := 5, ground := Ground.phase }, { on := 6, ground := Ground.phase }, { on := 7, ground := Ground.phase }, { on := 8, ground := Ground.phase }, { on := 9, ground := Ground.phase }, { on := 10, ground := Ground.phase }], guard := none }) rfl (fun K hK => ?_) ?_
        · skip
          go_simp
          refine hK.out _ _ ?_ (fun hHeld4 => ?_)
          · exact fun h => absurd rfl h
          clear hK K hHeld3
          try simp only [Act.put, List.setIfInBounds_toArray, List.set_cons_zero, List.set_cons_succ]
          refine Go.HeldT.done (by kernel_rfl) ?_ _
          go_wp2
          go_ret
          exact take1_end B1.out G2.out H2.out O2.out hog.out R2.out hlow (erase_len HL.out hkm hm4.out) (fun y hy => HN.out.byt y (List.mem_of_mem_eraseIdx hy))
        exact Go.HeldT.AllReadyT.nil
      exact Go.HeldT.AllReadyT.nil
    exact Go.HeldT.AllReadyT.nil
  exact Go.HeldT.AllReadyT.nil
end Go.Proofs.Ytgeeioaeonmneaa.Net
