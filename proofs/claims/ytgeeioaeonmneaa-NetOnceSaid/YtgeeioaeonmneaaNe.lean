import Derived.Test.YtgeeioaeonmneaaNd
import Derived.Test.YtgeeioaeonmneaaHT
set_option linter.unusedVariables false
set_option linter.unusedSimpArgs false
namespace Go.Proofs.Ytgeeioaeonmneaa.Net
open Go.RowKit Go.Proofs.YtgeeioaeonmneaaW.PrintWords Go.Proofs.YtgeeioaeonmneaaW.PrintLast Go.Proofs.YtgeeioaeonmneaaW.PrintMore
open Go.Proofs.Ytgeeioaeonmneaa.PNetOnce

theorem NetI.own {w : World} {b base : Nat} {n : Int} {v : Value} {k0 k1 k2 k3 : Bool} {L : List S32} (h : NetI w b base n v k0 k1 k2 k3 L) (hp : 0 < L.length) :
    ∃ g c m, v = .slice (some ⟨g, 0, none⟩) (m + 1) c ∧ L.length = m + 1 ∧ g < w.heap.size ∧ base ≤ g ∧ ∃ cells, w.heap[g]? = some (.cells cells 32 (0, 0)) := by
  obtain ⟨g, cap, hv, hb, hl, hc⟩ := Kd.R_form h.row hp
  exact ⟨g, cap, L.length - 1, by rw [hv, show L.length - 1 + 1 = L.length by omega], by omega, hl, hb, hc⟩

/-- An old block of another type than the row's is as it was. -/
theorem grown_other {w w1 : World} {g bn t : Nat} {cs : Array Value} {cells : Array Value} (hn : w.heap[bn]? = some (.cells cs t (0, 0))) (hg : w.heap[g]? = some (.cells cells 32 (0, 0))) (ht : t ≠ 32) (h : w.grownBy w1 (some g)) : w1.heap[bn]? = some (.cells cs t (0, 0)) :=
  (h.block bn (blk_lt hn) (fun e => by injection e with e; subst e; rw [hn] at hg; injection hg with hg; injection hg with _ hg; exact ht hg)).trans hn

theorem kept_put' {w w1 w2 : World} {b g : Nat} {n c : Nat} {u : Value} (h1 : Below w.heap.size w w1) (h3 : w1.grownBy w2 (some g)) (i : Nat) : Kept w (w2.setCell ⟨b, i, none⟩ u) b (.slice (some ⟨g, 0, none⟩) n c) :=
  kept_put h1 (Below.refl _ _) (by simpa [Value.ownBlock] using h3) i

theorem erase_len {L : List S32} {m k : Nat} (h : L.length = m + 1) (hk : k < m + 1) (hm : m + 1 ≤ 4096) : (L.eraseIdx k).length ≤ 4096 := by
  rw [List.length_eraseIdx_of_lt (by omega)]; omega

def NetEnd (w : World) (b base : Nat) (n : Int) (v : Value) (k0 k1 k2 k3 : Bool) (L' : List S32) (r : Int) (e : Ending) (w' : World) : Prop :=
  ∃ v', e = .returned (.int .i64 r) ∧ NetI w' b base n v' k0 k1 k2 k3 L' ∧ Kept w w' b v

set_option maxRecDepth 100000 in
set_option maxHeartbeats 1000000 in
theorem drop1_calls (b base g c m k bn bk : Nat) (n : Int) (k0 k1 k2 k3 : Bool) (L : List S32) (x0 x1 x2 : Value) (w : World) (hN : NetI w b base n (.slice (some ⟨g, 0, none⟩) (m + 1) c) k0 k1 k2 k3 L)
    (hL : L.length = m + 1) (hk : k < m + 1) (hbn : w.heap[bn]? = some (.cells #[.pointer (some ⟨b, 0, none⟩)] 24 (0, 0))) (hbk : w.heap[bk]? = some (.cells #[.int .i64 (k : Int)] 3 (0, 0))) (cells : Array Value) (hg : w.heap[g]? = some (.cells cells 32 (0, 0))) :
    Calls Try.prog 20 #[.agg #[x0, x1, x2], .pointer (some ⟨bn, 0, none⟩), .pointer (some ⟨bk, 0, none⟩)] w (NetEnd w b base n (.slice (some ⟨g, 0, none⟩) (m + 1) c) k0 k1 k2 k3 (L.eraseIdx k) 0) := by
  have HN := Aside0.mk hN
  have HL := Aside0.mk hL
  have hkm : k < m + 1 := hk
  have hm4 := Aside0.mk (show m + 1 ≤ 4096 by rw [← hL]; exact hN.len)
  have hlow := hN.low
  have hbl := hN.lt
  have BN := Aside0.mk hbn
  have BK := Aside0.mk hbk
  have BG := Aside0.mk hg
  have e0 := (blk_cell hbn 0).trans (show _ = some (Value.pointer (some ⟨b, 0, none⟩)) from rfl)
  have e1 := (blk_cell hbk 0).trans (show _ = some (Value.int .i64 (k : Int)) from rfl)
  have lt0 := blk_lt hbn
  have lt1 := blk_lt hbk
  obtain ⟨hc0, hc1, hf1⟩ := hN.cells
  clear hN hL hbn hbk hg hk
  have hWB := Aside0.mk (below_alloc (Below.refl w.heap.size w) (.cells #[x0, x1, x2] 32 (0, 0)))
  have hw1 : IntKind.i64.wrap ((k : Int) + 1) = (k : Int) + 1 := by rw [IntKind.wrap_i64]; have := hm4.out; omega
  go_enter Try.func20, Try.ntmps20
  go_wp2_with fail
  refine Go.HeldT.region (fun w' => w'.cell? ⟨bn, 0, none⟩ = some (.pointer (some ⟨b, 0, none⟩)) ∧ w'.cell? ⟨bk, 0, none⟩ = some (.int .i64 (k : Int)) ∧ w'.cell? ⟨b, 1, none⟩ = some (.slice (some ⟨g, 0, none⟩) (m + 1) c)) 11 (by kernel_rfl) ?_ (fun hHeld0 => ?_)
  · (try dsimp only); (first | go_keep | (refine ⟨?_, ?_, ?_, ?_, ?_, ?_⟩ <;> go_keep))
  refine Go.HeldT.take (i := 0) (oi := { dst := some 5, op := Op.load 24 (Operand.tmp 1), type := 24, pos := "net.go:81", after := #[], guard := none }) (v := ?_) rfl (by kernel_rfl) (by kernel_rfl) (by kernel_rfl) (by kernel_rfl) (fun _ _ _ h => h) (Or.inl ⟨by rfl, ?_⟩) (by assumption) ?_
  rotate_left
  · (intro w_ hSw; (try dsimp only at hSw); go_simp; try (with_reducible rfl))
  try simp only [Act.put, List.setIfInBounds_toArray, List.set_cons_zero, List.set_cons_succ]
  refine Go.HeldT.take (i := 1) (oi := { dst := some 6, op := Op.load 24 (Operand.tmp 1), type := 24, pos := "net.go:81", after := #[], guard := none }) (v := ?_) rfl (by kernel_rfl) (by kernel_rfl) (by kernel_rfl) (by kernel_rfl) (fun _ _ _ h => h) (Or.inl ⟨by rfl, ?_⟩) (by assumption) ?_
  rotate_left
  · (intro w_ hSw; (try dsimp only at hSw); go_simp; try (with_reducible rfl))
  try simp only [Act.put, List.setIfInBounds_toArray, List.set_cons_zero, List.set_cons_succ]
  refine Go.HeldT.take (i := 2) (oi := { dst := some 7, op := Op.nilCheck (Operand.tmp 6), type := 0, pos := "net.go:81", after := #[{ on := 1, ground := Ground.data }], guard := none }) (v := ?_) rfl (by kernel_rfl) (by kernel_rfl) (by kernel_rfl) (by kernel_rfl) (fun _ _ _ h => h) (Or.inl ⟨by rfl, ?_⟩) (by assumption) ?_
  rotate_left
  · (intro w_ hSw; (try dsimp only at hSw); go_simp; try (with_reducible rfl))
  try simp only [Act.put, List.setIfInBounds_toArray, List.set_cons_zero, List.set_cons_succ]
  refine Go.HeldT.take (i := 3) (oi := { dst := some 8, op := Op.fieldAddr 46 (Operand.tmp 7) 1, type := 0, pos := "net.go:81", after := #[{ on := 2, ground := Ground.data }], guard := none }) (v := ?_) rfl (by kernel_rfl) (by kernel_rfl) (by kernel_rfl) (by kernel_rfl) (fun _ _ _ h => h) (Or.inl ⟨by rfl, ?_⟩) (by assumption) ?_
  rotate_left
  · (intro w_ hSw; (try dsimp only at hSw); go_simp; try (with_reducible rfl))
  try simp only [Act.put, List.setIfInBounds_toArray, List.set_cons_zero, List.set_cons_succ]
  refine Go.HeldT.take (i := 4) (oi := { dst := some 9, op := Op.load 35 (Operand.tmp 8), type := 35, pos := "net.go:81", after := #[{ on := 3, ground := Ground.data }], guard := none }) (v := ?_) rfl (by kernel_rfl) (by kernel_rfl) (by kernel_rfl) (by kernel_rfl) (fun _ _ _ h => h) (Or.inl ⟨by rfl, ?_⟩) (by assumption) ?_
  rotate_left
  · (intro w_ hSw; (try dsimp only at hSw); go_simp; try (with_reducible rfl))
  try simp only [Act.put, List.setIfInBounds_toArray, List.set_cons_zero, List.set_cons_succ]
  refine Go.HeldT.take (i := 5) (oi := { dst := some 10, op := Op.load 3 (Operand.tmp 2), type := 3, pos := "net.go:81", after := #[], guard := none }) (v := ?_) rfl (by kernel_rfl) (by kernel_rfl) (by kernel_rfl) (by kernel_rfl) (fun _ _ _ h => h) (Or.inl ⟨by rfl, ?_⟩) (by assumption) ?_
  rotate_left
  · (intro w_ hSw; (try dsimp only at hSw); go_simp; try (with_reducible rfl))
  try simp only [Act.put, List.setIfInBounds_toArray, List.set_cons_zero, List.set_cons_succ]
  refine Go.HeldT.take (i := 6) (oi := { dst := some 11, op := Op.load 3 (Operand.tmp 2), type := 3, pos := "net.go:81", after := #[], guard := none }) (v := ?_) rfl (by kernel_rfl) (by kernel_rfl) (by kernel_rfl) (by kernel_rfl) (fun _ _ _ h => h) (Or.inl ⟨by rfl, ?_⟩) (by assumption) ?_
  rotate_left
  · (intro w_ hSw; (try dsimp only at hSw); go_simp; try (with_reducible rfl))
  try simp only [Act.put, List.setIfInBounds_toArray, List.set_cons_zero, List.set_cons_succ]
  refine Go.HeldT.take (i := 7) (oi := { dst := some 12, op := Op.binOp BinOp.add 3 (Operand.tmp 11) (Operand.const (Value.int IntKind.i64 1)) 3, type := 3, pos := "net.go:81", after := #[{ on := 6, ground := Ground.data }], guard := none }) (v := ?_) rfl (by kernel_rfl) (by kernel_rfl) (by kernel_rfl) (by kernel_rfl) (fun _ _ _ h => h) (Or.inl ⟨by rfl, ?_⟩) (by assumption) ?_
  rotate_left
  · (intro w_ hSw; (try dsimp only at hSw); go_simp; try (with_reducible rfl))
  try simp only [Act.put, List.setIfInBounds_toArray, List.set_cons_zero, List.set_cons_succ]
  refine Go.HeldT.all (rs := [8]) (by kernel_rfl) (by simp) ?_
  refine Go.HeldT.AllReadyT.cons (o := { dst := some 13, op := Op.call { callee := Callee.value (Operand.func 19), args := #[Operand.tmp 9, Operand.tmp 10, Operand.tmp 12], argTypes := #[35, 3, 3] }, type := 35, pos := "net.go:81", after := #[{ on := 4, ground := Ground.data }, { on := 5, ground := Ground.data }, { on := 7, ground := Ground.data }], guard := none }) rfl (fun K hK => ?_) ?_
  · skip
    (first
        | ((go_simp); go_at_call 19; refine (delete_calls base g c k m L _ (Kd.R_drew (Kd.R_alloc HN.out.row _)) hkm hm4.out (by show base ≤ (w.alloc _).heap.size; simp; omega)).mono ?_; rintro e w2 ⟨rfl, hR2, hG2⟩; have hG := grown_drew hG2; have K2 := grown_other (blko HN.out.blk _) (blko BG.out _) (by decide) hG; have N2 := grown_other (blko BN.out _) (blko BG.out _) (by decide) hG; have M2 := grown_other (blko BK.out _) (blko BG.out _) (by decide) hG; have s1 := blk_cell K2 1; have s1f := blk_frozen K2 1; have s2 := blk_cell N2 0; have s3 := blk_cell M2 0; simp at s1 s2 s3; have R2 := Aside0.mk hR2; have G2 := Aside0.mk hG; have H2 := Aside0.mk K2; clear hR2 hG2 hG K2 N2 M2))
    refine hK.out _ _ ?_ (fun hHeld1 => ?_)
    · (intro _; (try dsimp only); (first | go_keep | (refine ⟨?_, ?_, ?_, ?_, ?_, ?_⟩ <;> go_keep)))
    clear hK K hHeld0
    replace hHeld1 := hHeld1 (by decide)
    try simp only [Act.put, List.setIfInBounds_toArray, List.set_cons_zero, List.set_cons_succ]
    refine Go.HeldT.all (rs := [9]) (by kernel_rfl) (by simp) ?_
    refine Go.HeldT.AllReadyT.cons (o := { dst := some 14, op := Op.nilCheck (Operand.tmp 5), type := 0, pos := "net.go:81", after := #[{ on := 0, ground := Ground.data }, { on := 0, ground := Ground.phase }, { on := 1, ground := Ground.phase }, { on := 2, ground := Ground.phase }, { on := 3, ground := Ground.phase }, { on := 4, ground := Ground.phase }, { on := 5, ground := Ground.phase }, { on := 6, ground := Ground.phase }, { on := 7, ground := Ground.phase }, { on := 8, ground := Ground.phase }], guard := none }) rfl (fun K hK => ?_) ?_
    · skip
      go_simp
      refine hK.out _ _ ?_ (fun hHeld2 => ?_)
      · (intro _; (try dsimp only); (first | go_keep | (refine ⟨?_, ?_, ?_, ?_, ?_, ?_⟩ <;> go_keep)))
      clear hK K hHeld1
      replace hHeld2 := hHeld2 (by decide)
      try simp only [Act.put, List.setIfInBounds_toArray, List.set_cons_zero, List.set_cons_succ]
      refine Go.HeldT.take (i := 10) (oi := { dst := some 15, op := Op.fieldAddr 46 (Operand.tmp 14) 1, type := 0, pos := "net.go:81", after := #[{ on := 9, ground := Ground.data }, { on := 0, ground := Ground.phase }, { on := 1, ground := Ground.phase }, { on := 2, ground := Ground.phase }, { on := 3, ground := Ground.phase }, { on := 4, ground := Ground.phase }, { on := 5, ground := Ground.phase }, { on := 6, ground := Ground.phase }, { on := 7, ground := Ground.phase }, { on := 8, ground := Ground.phase }], guard := none }) (v := ?_) rfl (by kernel_rfl) (by kernel_rfl) (by kernel_rfl) (by kernel_rfl) (fun _ _ _ h => h) (Or.inl ⟨by rfl, ?_⟩) (by assumption) ?_
      rotate_left
      · (intro w_ hSw; (try dsimp only at hSw); go_simp; try (with_reducible rfl))
      try simp only [Act.put, List.setIfInBounds_toArray, List.set_cons_zero, List.set_cons_succ]
      refine Go.HeldT.all (rs := [11]) (by kernel_rfl) (by simp) ?_
      refine Go.HeldT.AllReadyT.cons (o := { dst := none, op := Op.store 35 (Operand.tmp 15) (Operand.tmp 13), type := 0, pos := "net.go:81", after := #[{ on := 10, ground := Ground.data }, { on := 8, ground := Ground.data }, { on := 8, ground := Ground.chain }, { on := 0, ground := Ground.phase }, { on := 1, ground := Ground.phase }, { on := 2, ground := Ground.phase }, { on := 3, ground := Ground.phase }, { on := 4, ground := Ground.phase }, { on := 5, ground := Ground.phase }, { on := 6, ground := Ground.phase }, { on := 7, ground := Ground.phase }, { on := 8, ground := Ground.phase }], guard := none }) rfl (fun K hK => ?_) ?_
      · skip
        go_simp
        refine hK.out _ _ ?_ (fun hHeld3 => ?_)
        · exact fun h => absurd rfl h
        clear hK K hHeld2
        try simp only [Act.put, List.setIfInBounds_toArray, List.set_cons_zero, List.set_cons_succ]
        refine Go.HeldT.done (by kernel_rfl) ?_ _
        go_wp2
        go_ret
        exact ⟨_, rfl, NetI.put H2.out R2.out hlow (erase_len HL.out hkm hm4.out) (fun y hy => HN.out.byt y (List.mem_of_mem_eraseIdx hy)), kept_put' hWB.out G2.out 1⟩
      exact Go.HeldT.AllReadyT.nil
    exact Go.HeldT.AllReadyT.nil
  exact Go.HeldT.AllReadyT.nil
end Go.Proofs.Ytgeeioaeonmneaa.Net
