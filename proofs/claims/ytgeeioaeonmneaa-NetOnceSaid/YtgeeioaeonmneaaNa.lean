import Derived.Test.YtgeeioaeonmneaaPNetOncex1
import Derived.Test.YtgeeioaeonmneaaWSized
import Derived.WalkSpells
import Derived.Outline
import Derived.Lib.Hide
set_option linter.unusedVariables false
set_option linter.unusedSimpArgs false
namespace Go.Proofs.Ytgeeioaeonmneaa.Net
open Go.RowKit Go.Proofs.YtgeeioaeonmneaaW.PrintWords Go.Proofs.YtgeeioaeonmneaaW.PrintLast Go.Proofs.YtgeeioaeonmneaaW.PrintMore
open Go.Proofs.Ytgeeioaeonmneaa.PNetOnce

def Cloned (w : World) (xs : List Int) (e : Ending) (w' : World) : Prop :=
  ∃ v, e = .returned v ∧ (Kd.int .u8).R 5 w' w.heap.size (fun _ => True) v xs ∧ Below w.heap.size w w'

set_option maxHeartbeats 400000 in
theorem clone_calls (A : Option Addr) (c : Nat) (xs : List Int) (w : World) (hr : (Kd.int .u8).C w A xs.length xs) (hl : xs.length ≤ 5000) :
    Calls Try.prog 22 #[.slice A xs.length c] w (Cloned w xs) := by
  have HR := Aside0.mk hr
  clear hr
  have hnil := fun (W : World) (a : Option Addr) (n c : Nat) => Lib.run_eql_slice_nil (P := Try.prog) W 30 5 a n c 0 0 Try.underlying30
  cases A with
  | none =>
    have hx : xs = [] := by
      cases xs with
      | nil => rfl
      | cons x xs => obtain ⟨ad, h, _⟩ := HR.out.2.2 (by simp); cases h
    subst hx
    go_enter Try.func22, Try.ntmps22
    go_wp2
    go_ret
    exact ⟨_, rfl, Kd.R_nil _ _ _ _ _, Below.refl _ _⟩
  | some ad =>
    go_enter Try.func22, Try.ntmps22
    have h0 : ((w.alloc (.cells #[] 5)).ownsRow w.heap.size 5 1 (.slice (some ⟨w.heap.size, 0, none⟩) 0 0) 0 []) := by
      have h := World.ownsRow_lit (base := w.heap.size) (e := 5) (size := 1) w #[] 0 (Nat.le_refl _) (by simp [maxLen]) (by simp)
      simpa using h
    have HO := Aside0.mk (Kd.R_of_own (enc := Value.int .u8) (h1 := fun _ => rfl) (ok := fun _ => True) (xs := []) h0 (fun _ _ => trivial))
    clear h0
    go_wp2_with (at_builtin; refine Kd.R_append_row (Value.int .u8) 0 (w0 := w) w.heap.size rfl (.tmp 5) (.tmp 6) 30 5 (.int .u8 0) 1 rfl Try.underlying30 info5 rfl (by decide) _ [] xs (some ad) xs.length c (fun _ => True) rfl rfl (fun _ _ => trivial) HO.out (Kd.C_alloc HR.out _) ((Below.refl _ _).alloc (Nat.le_refl _) _) (by simp) (by simp <;> omega) ?_; intro v1 w1 hR hB hg hat; have HX := Aside0.mk hR; have HY := Aside0.mk hB; clear hR hB hg hat)
    go_ret
    exact ⟨_, rfl, HX.out, HY.out⟩

theorem bcell {W w1 : World} (hb : Below W.heap.size W w1) : (∀ b o, b < W.heap.size → w1.cell? ⟨b, o, none⟩ = W.cell? ⟨b, o, none⟩) ∧ (∀ b o, b < W.heap.size → w1.frozen? ⟨b, o, none⟩ = W.frozen? ⟨b, o, none⟩) :=
  ⟨fun b o h => hb.cell (p := ⟨b, o, none⟩) h, fun b o h => hb.frozen (p := ⟨b, o, none⟩) h⟩

def Wholed (w : World) (f t : Int) (xs : List Int) (e : Ending) (w' : World) : Prop :=
  ∃ v, e = .returned (.agg #[.int .i64 f, .int .i64 t, v]) ∧ (Kd.int .u8).R 5 w' w.heap.size (fun _ => True) v xs ∧ Below w.heap.size w w'

theorem blkn (w : World) (o : Obj) : (w.alloc o).heap[w.heap.size]? = some o := by
  show (w.heap.push o)[w.heap.size]? = some o
  simp
theorem blko {w : World} {g : Nat} {o : Obj} (h : w.heap[g]? = some o) (o' : Obj) : (w.alloc o').heap[g]? = some o := (Below.heap_alloc w o' g (blk_lt h)).trans h
theorem blkb {w w1 : World} {g : Nat} {o : Obj} (h : w.heap[g]? = some o) (hb : Below w.heap.size w w1) : w1.heap[g]? = some o := (hb.block g (blk_lt h)).trans h

theorem R_setLow {α : Type} {d : Kd α} {e : Nat} {w : World} {base : Nat} {ok : Nat → Prop} {v : Value} {xs : List α} (h : d.R e w base ok v xs) {p : Addr} (hp : p.block < base) (u : Value) : d.R e (w.setCell p u) base ok v xs :=
  Kd.R_mono (Kd.R_move (Kd.R_bound h) (fun k hk => Below.heap_setCell _ _ _ _ (by have := hk.2.1; omega))) (fun _ hk => hk.1)

set_option maxHeartbeats 400000 in
theorem whole_calls (f t : Int) (A : Option Addr) (c : Nat) (xs : List Int) (w : World) (hr : (Kd.int .u8).C w A xs.length xs) (hl : xs.length ≤ 5000) :
    Calls Try.prog 15 #[.agg #[.int .i64 f, .int .i64 t, .slice A xs.length c]] w (Wholed w f t xs) := by
  have HR := Aside0.mk hr
  clear hr
  have B0 := Aside0.mk (blko (blkn w (.cells #[.int .i64 f, .int .i64 t, .slice A xs.length c] 32 (0, 0))) (.cells #[.int .i64 0, .int .i64 0, .slice none 0 0] 32 (0, 0)))
  have B1 := Aside0.mk (blkn (w.alloc (.cells #[.int .i64 f, .int .i64 t, .slice A xs.length c] 32 (0, 0))) (.cells #[.int .i64 0, .int .i64 0, .slice none 0 0] 32 (0, 0)))
  go_enter Try.func15, Try.ntmps15
  go_wp2_with (go_at_call 22; refine (clone_calls A c xs _ (Kd.C_alloc (Kd.C_alloc HR.out _) _) hl).mono ?_; rintro e w1 ⟨v, rfl, hR, hB⟩; obtain ⟨A1, c1, rfl, hl1, hC1⟩ := Kd.R_reads hR; have HX := Aside0.mk hR; have HY := Aside0.mk hB; have C0 := blkb B0.out hB; have C1 := blkb B1.out hB; have HC0 := Aside0.mk C0; have HC1 := Aside0.mk C1; have k0 := blk_cell C0 0; have k1 := blk_cell C0 1; have k2 := blk_cell C0 2; have f2 := blk_frozen C0 2; have m0 := blk_cell C1 0; have m1 := blk_cell C1 1; have m2 := blk_cell C1 2; have g0 := blk_frozen C1 0; have g1 := blk_frozen C1 1; have g2 := blk_frozen C1 2; simp at k0 k1 k2 f2 m0 m1 m2 g0 g1 g2; clear hR hB hC1 hl1 C0 C1)
  refine bodyPost_ret (v := .agg #[.int .i64 f, .int .i64 t, .slice A1 xs.length c1]) (by simp [results, Try.results15, go_sem, m0, m1, m2]) rfl ⟨_, rfl, ?_, ?_⟩
  · refine Kd.R_lower (R_setLow (R_setLow (R_setLow (R_setLow HX.out (by simp <;> omega) _) (by simp <;> omega) _) (by simp <;> omega) _) (by simp <;> omega) _) (by simp <;> omega)
  · exact (((((((Below.refl _ _).alloc (Nat.le_refl _) _).alloc (by simp) _).trans (HY.out.mono (by simp <;> omega))).setCell (by simp) _).setCell (by simp) _).setCell (by simp) _).setCell (by simp) _
end Go.Proofs.Ytgeeioaeonmneaa.Net
