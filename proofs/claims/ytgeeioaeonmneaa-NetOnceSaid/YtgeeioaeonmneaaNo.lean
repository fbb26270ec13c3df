import Derived.Test.YtgeeioaeonmneaaNn
import Derived.Lib.SlBytesConst
set_option linter.unusedVariables false
set_option linter.unusedSimpArgs false
namespace Go.Proofs.Ytgeeioaeonmneaa.Net
open Go.RowKit Go.Proofs.YtgeeioaeonmneaaW.PrintWords Go.Proofs.YtgeeioaeonmneaaW.PrintLast Go.Proofs.YtgeeioaeonmneaaW.PrintMore
open Go.Proofs.Ytgeeioaeonmneaa.PNetOnce

def CutIs (w : World) (b base : Nat) (n : Int) (v : Value) (L : List S32) (k0 k1 k2 k3 : Bool) (e : Ending) (w' : World) : Prop :=
  e = .returned (.int .i64 0) ∧ NetI w' b base n v k0 k1 k2 k3 L ∧ Kept w w' b v
set_option maxRecDepth 100000 in
set_option maxHeartbeats 1000000 in
theorem cut_one (b base : Nat) (v : Value) (k0 k1 k2 k3 : Bool) (L : List S32) (f : Bool) (w : World) (hN : NetI w b base 2 v k0 k1 k2 k3 L) :
    Calls Try.prog 13 #[.pointer (some ⟨b, 0, none⟩), .int .i64 1, .bool f] w (CutIs w b base 2 v L k0 f k2 k3) := by
  obtain ⟨hc0, hc1, hf1⟩ := hN.cells
  have hcq := hN.cut 1 (by omega)
  have hfq := blk_frozen hN.blk (2 + 1)
  have HE := Aside0.mk (hN.mark (q := 1) f (by omega) (by omega))
  simp at hcq hfq
  clear hN
  go_enter Try.func13, Try.ntmps13
  go_wp2
  go_ret
  exact ⟨rfl, HE.out⟩

def xOne : S32 := ⟨1, 0, [120]⟩
theorem wrap_one : wrap64 (1 + 0) = 1 := by unfold wrap64; omega
theorem gate_one : gateB 2 1 0 = true := by unfold gateB; rw [wrap_one]; decide
theorem send_one (L : List S32) (h : L.length < 4096) : sendF 2 L xOne = (0, L ++ [xOne]) := by
  unfold sendF
  rw [if_neg (by show ¬ gateB 2 1 0 = false; rw [gate_one]; decide), if_neg (by show ¬ 4096 < 1; omega), if_neg (by omega)]
theorem send_bad (L : List S32) : sendF 2 L ⟨1, 2, []⟩ = (1, L) := by
  unfold sendF
  rw [if_pos (by show gateB 2 1 2 = false; unfold gateB; simp)]
theorem C_one (W : World) (fr : Nat × Nat) : (Kd.int .u8).C (W.alloc (.cells #[.int .u8 120] 5 fr)) (some ⟨W.heap.size, 0, none⟩) 1 [120] := by
  refine ⟨rfl, by omega, fun _ => ⟨_, rfl, fun j p hj => ⟨[.int .u8 120], rfl, ?_, fun i u hu => ?_⟩⟩⟩
  · cases j with
    | zero => simp at hj; subst hj; rfl
    | succ j => simp at hj
  · cases j with
    | succ j => simp at hj
    | zero =>
      cases i with
      | succ i => simp at hu
      | zero =>
        have : Value.int .u8 120 = u := by simpa using hu
        subst this
        show (W.alloc (.cells #[.int .u8 120] 5 fr)).cell? ((⟨W.heap.size, 0, none⟩ : Addr).add 0) = _
        rw [show (⟨W.heap.size, 0, none⟩ : Addr).add 0 = ⟨W.heap.size, 0, none⟩ from rfl]
        show (match (W.alloc (.cells #[.int .u8 120] 5 fr)).heap[W.heap.size]? with | some (.cells c _ _) => _ | _ => none) = _
        rw [blkn]; rfl

theorem R_kept {base base' b : Nat} {n : Int} {v u : Value} {k0 k1 k2 k3 : Bool} {L : List S32} {ok : Nat → Prop} {xs : List Int} {w w' : World} (h : (Kd.int .u8).R 5 w base ok u xs) (hN : NetI w b base' n v k0 k1 k2 k3 L) (hK : Kept w w' b v) : (Kd.int .u8).R 5 w' base ok u xs :=
  Kd.R_mono (Kd.R_move (Kd.R_bound h) (fun j hj => by
    obtain ⟨_, _, hjl, q, hq, cells, hc⟩ := hj
    have h5 : q = 5 := by simpa [Kd.int, Kd.scalar] using hq
    subst h5
    refine hK.block j hjl (fun he => ?_) (fun he => ?_)
    · subst he; rw [hN.blk] at hc; injection hc with hc; injection hc with _ hc; exact absurd hc (by decide)
    · exact R_ne hN.row hc (by decide) he)) (fun _ hk => hk.1)
theorem below_kept {base b B : Nat} {n : Int} {v : Value} {k0 k1 k2 k3 : Bool} {L : List S32} {w w1 w2 : World} (h : Below B w w1) (hN : NetI w1 b base n v k0 k1 k2 k3 L) (hK : Kept w1 w2 b v) (hb : B ≤ base) (hB : B ≤ w1.heap.size) : Below B w w2 :=
  ⟨hK.os.trans h.os, hK.tape.trans h.tape, hK.output.trans h.output, Nat.le_trans h.size hK.size, fun j hj => by
    rw [hK.block j (by omega) (by have := hN.low; omega) (fun he => by have := Kd.R_base hN.row j he.symm; omega), h.block j hj]⟩

def Goes (w : World) (e : Ending) (w' : World) : Prop := e = .returned (.bool true) ∧ Below w.heap.size w w'

set_option maxRecDepth 100000 in
set_option maxHeartbeats 2000000 in
theorem goes_calls (w : World) : Calls Try.prog 14 #[] w (Goes w) := by
  have kc := fun (W : World) (C : Array Value) (n c : Nat) => Lib.run_convert_bytes_const (P := Try.prog) W 30 5 C n c Try.underlying30 Try.underlying5
  go_enter Try.func14, Try.ntmps14
  go_wp2_with fail
  refine (new_calls 2 _ (by omega) (by omega)).mono ?_
  rintro e w1 ⟨rfl, hN, hB⟩
  have N1 := Aside0.mk hN
  have B1 := Aside0.mk hB
  have s1 := hB.size
  clear hN hB
  go_wp2_with fail
  refine (send_calls _ _ 2 _ _ _ _ _ [] xOne _ _ _ (N1.out.alloc _) (C_one w1 (1, 2)) (by decide)).mono ?_
  rintro e w2 ⟨v2, rfl, hN, hK⟩
  rw [send_one [] (by decide)] at hN ⊢
  have N2 := Aside0.mk hN
  have B2 := Aside0.mk (below_kept (below_alloc B1.out _) (N1.out.alloc _) hK (Nat.le_refl _) (by simp; omega))
  clear hN hK
  go_wp2_with fail
  refine (send_calls _ _ 2 _ _ _ _ _ _ ⟨1, 2, []⟩ none 0 _ N2.out (Kd.C_nil _ _) (by decide)).mono ?_
  rintro e w3 ⟨v3, rfl, hN, hK⟩
  rw [send_bad] at hN ⊢
  have N3 := Aside0.mk hN
  have B3 := Aside0.mk (below_kept B2.out N2.out hK (Nat.le_refl _) B2.out.size)
  clear hN hK
  go_wp2_with fail
  refine (cut_one _ _ _ _ _ _ _ _ true _ N3.out).mono ?_
  rintro e w4 ⟨rfl, hN, hK⟩
  have N4 := Aside0.mk hN
  have B4 := Aside0.mk (below_kept B3.out N3.out hK (Nat.le_refl _) B3.out.size)
  clear hN hK
  go_wp2_with fail
  obtain ⟨g, c, m, hv3, hm, _, _, cells, hg⟩ := N4.out.own (by simp)
  have hm0 : m = 0 := by simpa using hm.symm
  subst hm0
  have N4' := Aside0.mk (hv3 ▸ N4.out)
  clear hm hg
  refine (take_cut _ _ _ _ 0 0 1 2 _ _ _ _ _ xOne _ N4'.out (by rfl) (by omega) (by rfl) wrap_one (by omega) (by rfl)).mono ?_
  rintro e w5 ⟨rfl, hB⟩
  have N5 := Aside0.mk (N4'.out.below hB)
  have B5 := Aside0.mk (B4.out.trans (hB.mono B4.out.size))
  have s5 := B5.out.size
  clear hB
  go_wp2_with fail
  refine (cut_one _ _ _ _ _ _ _ _ false _ (N5.out.alloc _)).mono ?_
  rintro e w6 ⟨rfl, hN, hK⟩
  have N6 := Aside0.mk hN
  have B6 := Aside0.mk (below_kept (below_alloc B5.out _) (N5.out.alloc _) hK (Nat.le_refl _) (by simp; omega))
  clear hN hK
  go_wp2_with fail
  refine (double_yes _ _ _ _ 0 0 2 _ _ _ _ _ xOne _ N6.out (by rfl) (by omega) (by rfl)).mono ?_
  rintro e w7 ⟨v7, rfl, hN, hK⟩
  rw [send_one _ (by decide)] at hN
  have N7 := Aside0.mk hN
  have B7 := Aside0.mk (below_kept B6.out N6.out hK (Nat.le_refl _) B6.out.size)
  clear hN hK
  go_wp2_with fail
  obtain ⟨g7, c7, m7, hv7, hm7, _, _, cells7, hg7⟩ := N7.out.own (by simp)
  have hm1 : m7 = 1 := by simpa using hm7.symm
  subst hm1
  have N7' := Aside0.mk (hv7 ▸ N7.out)
  have G7 := Aside0.mk hg7
  clear hm7 hg7
  refine (take_yes _ _ _ _ 1 0 1 2 _ _ _ _ _ xOne _ N7'.out (by rfl) (by omega) (by rfl) cells7 G7.out wrap_one (by omega) (by rfl)).mono ?_
  rintro e w8 ⟨v8, A8, c8, rfl, hN, hK, hR⟩
  have N8 := Aside0.mk hN
  have R8 := Aside0.mk hR
  have B8 := Aside0.mk (below_kept B7.out N7'.out hK (Nat.le_refl _) B7.out.size)
  have s8 := B8.out.size
  clear hN hK hR
  go_wp2_with fail
  obtain ⟨g8, c8', m8, hv8, hm8, _, _, cells8, hg8⟩ := (N8.out.alloc (.cells #[.int .i64 xOne.f0, .int .i64 xOne.f1, .slice A8 xOne.f2.length c8] 32 (0, 0))).own (by simp)
  have hm2 : m8 = 0 := by simpa using hm8.symm
  subst hm2
  have N8' := Aside0.mk (hv8 ▸ N8.out.alloc (.cells #[.int .i64 xOne.f0, .int .i64 xOne.f1, .slice A8 xOne.f2.length c8] 32 (0, 0)))
  have G8 := Aside0.mk hg8
  have K8 := Aside0.mk (blkn w8 (.cells #[.int .i64 xOne.f0, .int .i64 xOne.f1, .slice A8 xOne.f2.length c8] 32 (0, 0)))
  clear hm8 hg8
  refine (take_yes _ _ _ _ 0 0 1 2 _ _ _ _ _ xOne _ N8'.out (by rfl) (by omega) (by rfl) cells8 G8.out wrap_one (by omega) (by rfl)).mono ?_
  rintro e w9 ⟨v9, A9, c9, rfl, hN, hK, hR⟩
  have N9 := Aside0.mk hN
  have R9 := Aside0.mk hR
  have R8' := Aside0.mk (R_kept (Kd.R_alloc R8.out _) N8'.out hK)
  have B9 := Aside0.mk (below_kept (below_alloc B8.out _) N8'.out hK (Nat.le_refl _) (by simp; omega))
  have K9 := Aside0.mk (hK)
  have s9 := B9.out.size
  clear hN hK hR
  go_wp2_with fail
  refine (take_no _ _ 2 _ _ _ _ _ _ 0 _ (N9.out.alloc _) (Or.inr (by simp))).mono ?_
  rintro e w10 ⟨rfl, hB⟩
  have hw8 : some w8.heap.size ≠ v8.ownBlock := fun he => by have := Kd.R_lt N8.out.row _ he.symm; omega
  have hw8b : w8.heap.size ≠ w.heap.size := by have := N8.out.lt; omega
  have Q9 := Aside0.mk ((K9.out.block w8.heap.size (by simp) hw8b (by rw [← hv8]; exact hw8)).trans K8.out)
  have Q10 := Aside0.mk (blko (blkb (blko Q9.out (.cells #[.int .i64 xOne.f0, .int .i64 xOne.f1, .slice A9 xOne.f2.length c9] 32 (0, 0))) hB) (.cells #[.int .i64 0, .int .i64 0, .slice none 0 0] 32 (0, 0)))
  have P10 := Aside0.mk (blko (blkb (blkn w9 (.cells #[.int .i64 xOne.f0, .int .i64 xOne.f1, .slice A9 xOne.f2.length c9] 32 (0, 0))) hB) (.cells #[.int .i64 0, .int .i64 0, .slice none 0 0] 32 (0, 0)))
  have T8 := (blk_cell Q10.out 2).trans (show _ = some (Value.slice A8 1 c8) from rfl)
  have T9 := (blk_cell P10.out 2).trans (show _ = some (Value.slice A9 1 c9) from rfl)
  have hstr : strOfNums [120] = ⟨#[120]⟩ := by rfl
  have C8 := (Kd.R_reads' (Kd.R_alloc (Kd.R_below (Kd.R_alloc R8'.out (.cells #[.int .i64 xOne.f0, .int .i64 xOne.f1, .slice A9 xOne.f2.length c9] 32 (0, 0))) hB) (.cells #[.int .i64 0, .int .i64 0, .slice none 0 0] 32 (0, 0)))).2.2
  have C9 := (Kd.R_reads' (Kd.R_alloc (Kd.R_below (Kd.R_alloc R9.out (.cells #[.int .i64 xOne.f0, .int .i64 xOne.f1, .slice A9 xOne.f2.length c9] 32 (0, 0))) hB) (.cells #[.int .i64 0, .int .i64 0, .slice none 0 0] 32 (0, 0)))).2.2
  have V8 := Kd.C_string (P := Try.prog) (src := 30) (dst := 9) (c := c8) Try.underlying30 Try.underlying5 Try.underlying9 C8
  have V9 := Kd.C_string (P := Try.prog) (src := 30) (dst := 9) (c := c9) Try.underlying30 Try.underlying5 Try.underlying9 C9
  have hx2 : xOne.f2 = [120] := rfl
  rw [hx2, hstr] at V8 V9
  replace V8 : (convert 30 9 (Value.slice A8 1 c8)).run Try.prog (w10.alloc (.cells #[.int .i64 0, .int .i64 0, .slice none 0 0] 32 (0, 0))) = .ok (.string ⟨#[120]⟩) (w10.alloc (.cells #[.int .i64 0, .int .i64 0, .slice none 0 0] 32 (0, 0))) := V8
  replace V9 : (convert 30 9 (Value.slice A9 1 c9)).run Try.prog (w10.alloc (.cells #[.int .i64 0, .int .i64 0, .slice none 0 0] 32 (0, 0))) = .ok (.string ⟨#[120]⟩) (w10.alloc (.cells #[.int .i64 0, .int .i64 0, .slice none 0 0] 32 (0, 0))) := V9
  have B10 := Aside0.mk (below_alloc ((below_alloc B9.out (.cells #[.int .i64 xOne.f0, .int .i64 xOne.f1, .slice A9 xOne.f2.length c9] 32 (0, 0))).trans (hB.mono (by simp; omega))) (.cells #[.int .i64 0, .int .i64 0, .slice none 0 0] 32 (0, 0)))
  clear hB C8 C9 hstr hx2 hw8 hw8b kc
  go_wp2_with fail
  go_ret
  exact ⟨rfl, B10.out⟩
end Go.Proofs.Ytgeeioaeonmneaa.Net
