import Derived.Test.YtgeeioaeonmneaaNq
set_option linter.unusedVariables false
set_option linter.unusedSimpArgs false
namespace Go.Proofs.Ytgeeioaeonmneaa.Net
open Go.RowKit Go.Proofs.YtgeeioaeonmneaaW.PrintWords Go.Proofs.YtgeeioaeonmneaaW.PrintLast Go.Proofs.YtgeeioaeonmneaaW.PrintMore
open Go.Proofs.Ytgeeioaeonmneaa.PNetOnce

theorem LI.below {w wr w' : World} {b M j n : Nat} {v : Value} {k0 k1 k2 k3 : Bool} {L : List S32} {f : List UInt8 → Int} (h : LI w wr b M j v k0 k1 k2 k3 L n f) (hb : Below wr.heap.size wr w') : LI w w' b M j v k0 k1 k2 k3 L n f :=
  ⟨h.net.below hb, h.cnt.below hb, h.num, h.good, h.cov, h.bnd, h.low, h.bel.trans (hb.mono h.bel.size)⟩
theorem LI.next {w wr : World} {b M j n : Nat} {v : Value} {k0 k1 k2 k3 : Bool} {L : List S32} {f : List UInt8 → Int} (h : LI w wr b M j v k0 k1 k2 k3 L n f) : LI w wr b M (j + 1) v k0 k1 k2 k3 L n f :=
  ⟨h.net, h.cnt, by have := h.num; omega, h.good, h.cov, fun s => by have := h.bnd s; omega, h.low, h.bel⟩
theorem LI.kept {w wr w' : World} {b M j n : Nat} {v v' : Value} {k0 k1 k2 k3 j0 j1 j2 j3 : Bool} {L L' : List S32} {f : List UInt8 → Int} (h : LI w wr b M j v k0 k1 k2 k3 L n f) (hN : NetI w' b w.heap.size 3 v' j0 j1 j2 j3 L') (hK : Kept wr w' b v)
    (good : ∀ x ∈ L', gateB 3 x.f0 x.f1 = true) (cov : ∀ s, (L'.countP (fun y => nm y == s) : Int) ≤ f s) : LI w w' b M (j + 1) v' j0 j1 j2 j3 L' n f :=
  ⟨hN, h.cnt.kept h.net hK, by have := h.num; omega, good, cov, fun s => by have := h.bnd s; omega, h.low, below_kept h.bel h.net hK (Nat.le_refl _) h.bel.size⟩
theorem kept_other {w w' : World} {b base q t : Nat} {n : Int} {v : Value} {k0 k1 k2 k3 : Bool} {L : List S32} {cs : Array Value} (hN : NetI w b base n v k0 k1 k2 k3 L) (hK : Kept w w' b v) (hq : w.heap[q]? = some (.cells cs t (0, 0))) (h1 : t ≠ 46) (h2 : t ≠ 32) : w'.heap[q]? = some (.cells cs t (0, 0)) :=
  (hK.block q (blk_lt hq) (fun he => by subst he; rw [hN.blk] at hq; injection hq with hq; injection hq with _ hq; exact h1 hq.symm) (fun he => R_ne hN.row hq (fun he => h2 he.symm) he)).trans hq
theorem LI.mapped {w w5 w6 : World} {b M j n : Nat} {v : Value} {k0 k1 k2 k3 : Bool} {L : List S32} {f' : List UInt8 → Int} (hN : NetI w5 b w.heap.size 3 v k0 k1 k2 k3 L) (hM : ∃ es clock, w5.heap[M]? = some (.map es clock)) (hC : Counts w6 M (n + 1) f') (hG : w5.grownBy w6 (some M)) (hn : n ≤ 2 * j) (hlow : w.heap.size ≤ M) (hB : Below w.heap.size w w5)
    (good : ∀ x ∈ L, gateB 3 x.f0 x.f1 = true) (cov : ∀ s, (L.countP (fun y => nm y == s) : Int) ≤ f' s) (bnd : ∀ s, 0 ≤ f' s ∧ f' s ≤ ((j + 1 : Nat) : Int)) : LI w w6 b M (j + 1) v k0 k1 k2 k3 L (n + 1) f' := by
  obtain ⟨es, clock, hM⟩ := hM
  exact ⟨hN.mapped hM hG, hC, by omega, good, cov, bnd, hlow, hB.grown hG hB.size (fun k hk => by injection hk with hk; omega)⟩
theorem send_cases (n : Int) (L : List S32) (x : S32) : (∃ r : Int, sendF n L x = (r, L) ∧ (r == 0) = false) ∨ (sendF n L x = (0, L ++ [x]) ∧ gateB n x.f0 x.f1 = true) := by
  unfold sendF
  split
  · exact .inl ⟨1, rfl, by decide⟩
  · rename_i h
    split
    · exact .inl ⟨2, rfl, by decide⟩
    · split
      · exact .inl ⟨3, rfl, by decide⟩
      · exact .inr ⟨rfl, by simpa using h⟩
theorem NetI.lower {w : World} {b base base' : Nat} {n : Int} {v : Value} {k0 k1 k2 k3 : Bool} {L : List S32} (h : NetI w b base n v k0 k1 k2 k3 L) (hb : base' ≤ base) : NetI w b base' n v k0 k1 k2 k3 L :=
  ⟨h.blk, Kd.R_lower h.row hb, Nat.le_trans hb h.low, h.len, h.byt⟩
theorem R_at {w : World} {base g c n k : Nat} {ok : Nat → Prop} {L : List S32} (h : k32.R 32 w base ok (.slice (some ⟨g, 0, none⟩) n c) L) {x : S32} (hx : L[k]? = some x) :
    ∃ A cx, w.cell? ⟨g, k * 3, none⟩ = some (.int .i64 x.f0) ∧ w.cell? ⟨g, k * 3 + 1, none⟩ = some (.int .i64 x.f1) ∧ w.cell? ⟨g, k * 3 + 2, none⟩ = some (.slice A x.f2.length cx) ∧ x.f2.length ≤ cx ∧ (Kd.int .u8).C w A x.f2.length x.f2 := by
  have hk : k < L.length := (List.getElem?_eq_some_iff.1 hx).1
  obtain ⟨_, inner, ⟨hl, ho⟩, hr⟩ := h
  have hM := hr.2 k x hx
  obtain ⟨v2, hcs, hR⟩ := k32_openM hM
  obtain ⟨A, cx, rfl, hle, hC⟩ := Kd.R_reads hR
  rcases ho with ⟨hv, _⟩ | ⟨g', cap, cur, hv, hb, hh, hnc, hcm, hcs', htake⟩
  · cases hv
  · injection hv with ha hn hc
    injection ha with ha
    injection ha with hg
    subst hg
    have hin : ∀ j, j < 3 → w.cell? ⟨g, k * 3 + j, none⟩ = ((inner.drop (k * 3)).take 3)[j]? := by
      intro j hj
      rw [blk_cell hh, List.getElem?_take, if_pos hj, List.getElem?_drop, ← htake, List.getElem?_take, if_pos (by show k * 3 + j < L.length * 3; omega), Array.getElem?_toList]
    have hcs3 : (inner.drop (k * 3)).take 3 = [.int .i64 x.f0, .int .i64 x.f1, .slice A x.f2.length cx] := hcs
    refine ⟨A, cx, ?_, ?_, ?_, hle, hC⟩
    · have := hin 0 (by omega); rw [hcs3] at this; simpa using this
    · have := hin 1 (by omega); rw [hcs3] at this; simpa using this
    · have := hin 2 (by omega); rw [hcs3] at this; simpa using this
theorem R_high_kept {α : Type} {d : Kd α} {e lo b : Nat} {ok : Nat → Prop} {u v : Value} {xs : List α} {w w' : World} (h : d.R e w lo ok u xs) (hK : Kept w w' b v) (hb : b < lo) (hv : ∀ k, v.ownBlock = some k → k < lo) : d.R e w' lo ok u xs :=
  Kd.R_mono (Kd.R_move (Kd.R_bound h) (fun j hj => hK.block j hj.2.2.1 (by have := hj.2.1; omega) (fun he => by have := hv j he.symm; have := hj.2.1; omega))) (fun _ hk => hk.1)
theorem R5_mapped {base M : Nat} {ok : Nat → Prop} {u : Value} {xs : List Int} {w w' : World} (h : (Kd.int .u8).R 5 w base ok u xs) (hM : ∃ es clock, w.heap[M]? = some (.map es clock)) (hG : w.grownBy w' (some M)) : (Kd.int .u8).R 5 w' base ok u xs := by
  obtain ⟨es, clock, hM⟩ := hM
  refine Kd.R_mono (Kd.R_move (Kd.R_bound h) (fun j hj => hG.block j hj.2.2.1 (fun he => ?_))) (fun _ hk => hk.1)
  injection he with he
  subst he
  obtain ⟨_, _, _, q, _, cells, hc⟩ := hj
  rw [hM] at hc; cases hc
theorem blk_mapped {M q t : Nat} {cs : Array Value} {w w' : World} (h : w.heap[q]? = some (.cells cs t (0, 0))) (hM : ∃ es clock, w.heap[M]? = some (.map es clock)) (hG : w.grownBy w' (some M)) : w'.heap[q]? = some (.cells cs t (0, 0)) := by
  obtain ⟨es, clock, hM⟩ := hM
  refine (hG.block q (blk_lt h) (fun he => ?_)).trans h
  injection he with he
  subst he
  rw [hM] at h; cases h
theorem bump_at (f : List UInt8 → Int) (s : List UInt8) (q : Int) : bump f s q s = q := by unfold bump; rw [if_pos rfl]
theorem nat_of {k : Int} {n : Nat} (h : ¬ (k < 0 ∨ (n : Int) ≤ k)) : ∃ q : Nat, k = (q : Int) ∧ q < n := ⟨k.toNat, by omega, by omega⟩
theorem start_LI {w w1 w2 : World} (h2 : NetI w2 w1.heap.size w1.heap.size 3 (.slice none 0 0) false false false false []) (h1 : Below w.heap.size w w1) (hB : Below w.heap.size w w2) : LI w (w2.alloc (.map #[] 0)) w1.heap.size w2.heap.size 0 (.slice none 0 0) false false false false [] 0 (fun _ => 0) :=
  ⟨(h2.alloc _).lower h1.size, Counts.made w2, by omega, by simp, by simp, by simp, hB.size, below_alloc hB _⟩

set_option maxRecDepth 100000 in
set_option maxHeartbeats 4000000 in
theorem once_calls (A0 : Option Addr) (c0 : Nat) (l : List S34) (w : World) (hr0 : Kd.C k34 w A0 l.length l) (hc0 : l.length ≤ c0) :
    Calls Try.prog 3 #[.slice A0 l.length c0] w (Goes w) := by
  obtain ⟨r, hg0, hgr⟩ := great_from l 201 0 rfl (fun j hj => by omega)
  have hg := quitrentlaw28_great.calls (2 * 201 + 2) A0 c0 l r w hr0 hc0 hg0
  have HG := Aside0.mk hg
  have HR := Aside0.mk hr0
  clear hg hg0 hr0
  cases r with
  | true =>
    clear hgr
    go_enter Try.func3, Try.ntmps3
    go_wp2_with (go_at_call 4; refine (HG.out).mono ?_; rintro e w1 ⟨rfl, hD⟩; have B1 := Aside0.mk hD.below; clear hD)
    go_ret
    exact ⟨rfl, B1.out⟩
  | false =>
    obtain ⟨hl2, hok⟩ := hgr rfl
    have HOK := Aside0.mk hok
    clear hgr hok
    have hmm := @run_makeMap Try.prog
    go_enter Try.func3, Try.ntmps3
    go_wp2_with fail
    refine (HG.out).mono ?_
    rintro e w1 ⟨rfl, hD⟩
    have B1 := Aside0.mk hD.below
    clear hD
    go_wp2_with fail
    refine (new_calls 3 _ (by omega) (by omega)).mono ?_
    rintro e w2 ⟨rfl, hN, hB⟩
    have N2 := Aside0.mk hN
    have B2 := Aside0.mk (B1.out.trans (hB.mono B1.out.size))
    clear hN hB
    go_wp2_with fail
    go_loopw [6] (fun i wr => ∃ (j : Nat) (v : Value) (k0 k1 k2 k3 : Bool) (L : List S32) (n : Nat) (f : List UInt8 → Int), j ≤ l.length ∧ i = .int .i64 j ∧ Aside0 (LI w wr w1.heap.size w2.heap.size j v k0 k1 k2 k3 L n f)) (fun i _ => l.length - (intOf i).toNat)
    case atStart => 
      exact ⟨0, _, _, _, _, _, _, _, _, Nat.zero_le _, rfl, ⟨start_LI N2.out B1.out B2.out⟩⟩
    case round =>
      obtain ⟨j, v, k0, k1, k2, k3, L, n, f, hj, rfl, HI⟩ := hrel
      by_cases hlt : j < l.length
      · have hlt' : (j : Int) < (l.length : Int) := by omega
        have hj0 : (0 : Int) ≤ (j : Int) := by omega
        obtain ⟨ad, A3, c3, e, y0, y1, y2, y3, y4, hle, hC⟩ := at_T34 HR.out (j : Int) hj0 hlt'
        subst e
        replace y0 := pw_cell_below HI.out.bel y0
        replace y1 := pw_cell_below HI.out.bel y1
        replace y2 := pw_cell_below HI.out.bel y2
        replace y3 := pw_cell_below HI.out.bel y3
        replace y4 := pw_cell_below HI.out.bel y4
        have hokj := HOK.out j hlt
        unfold okAt at hokj
        obtain ⟨act, hact⟩ : ∃ act, act = rd_T34 l (j : Int) := ⟨_, rfl⟩
        rw [← hact] at y0 y1 y2 y3 y4 hle hC hokj
        rw [Int.toNat_natCast] at y0 y1 y2 y3 y4
        have HCa := Aside0.mk hC
        clear hact hC
        go_wp2_with fail
        refine (letters_calls _ _ _ _ _ _ _ _ _ _ (HI.out.net.alloc _)).mono ?_
        rintro e w3 ⟨vl, rfl, hRl, hBl⟩
        have AB := blkb (blkn wr (.cells #[.int .u8 act.f0, .int .i64 act.f1.f0, .int .i64 act.f1.f1, .slice A3 act.f1.f2.length c3, .int .i64 act.f2] 34 (0, 0))) hBl
        have HBl := (below_alloc (Below.refl wr.heap.size wr) (.cells #[.int .u8 act.f0, .int .i64 act.f1.f0, .int .i64 act.f1.f1, .slice A3 act.f1.f2.length c3, .int .i64 act.f2] 34 (0, 0))).trans (hBl.mono (by simp))
        have a0 := (blk_cell AB 0).trans (show _ = some (Value.int .u8 act.f0) from rfl)
        have a1 := (blk_cell AB 1).trans (show _ = some (Value.int .i64 act.f1.f0) from rfl)
        have a2 := (blk_cell AB 2).trans (show _ = some (Value.int .i64 act.f1.f1) from rfl)
        have a3 := (blk_cell AB 3).trans (show _ = some (Value.slice A3 act.f1.f2.length c3) from rfl)
        have a4 := (blk_cell AB 4).trans (show _ = some (Value.int .i64 act.f2) from rfl)
        have HAB := Aside0.mk AB
        have HI3 := Aside0.mk (HI.out.below HBl)
        have sw3 := HBl.size
        have RL := Aside0.mk hRl
        have HBW := Aside0.mk HI.out.net.lt
        have HVW := Aside0.mk (Kd.R_lt HI.out.net.row)
        clear y0 y1 y2 y3 y4 hRl hBl HBl AB HI
        go_wp2_with fail
        · -- Send
          refine (send_calls _ _ 3 _ _ _ _ _ L act.f1 A3 c3 _ HI3.out.net (Kd.C_below HCa.out HI3.out.bel) (by omega)).mono ?_
          rintro e w4 ⟨v4, rfl, hN, hK⟩
          rcases send_cases 3 L act.f1 with ⟨r, hs, hr⟩ | ⟨hs, hgt⟩
          · rw [hs] at hN ⊢
            have HI4 := Aside0.mk (HI3.out.kept hN hK HI3.out.good HI3.out.cov)
            clear hN hK hs
            go_wp2
            go_roundw
            case rel => exact ⟨j + 1, _, _, _, _, _, _, _, _, by omega, by go_num, HI4⟩
            case measure => simp [intOf]; omega
          · rw [hs] at hN ⊢
            have N4 := Aside0.mk hN
            have AB4 := kept_other HI3.out.net hK HAB.out (by decide) (by decide)
            have D4 := Aside0.mk (HI3.out.cnt.kept HI3.out.net hK)
            have B4 := Aside0.mk (below_kept HI3.out.bel HI3.out.net hK (Nat.le_refl _) HI3.out.bel.size)
            have b1 := (blk_cell AB4 1).trans (show _ = some (Value.int .i64 act.f1.f0) from rfl)
            have b2 := (blk_cell AB4 2).trans (show _ = some (Value.int .i64 act.f1.f1) from rfl)
            have b3 := (blk_cell AB4 3).trans (show _ = some (Value.slice A3 act.f1.f2.length c3) from rfl)
            have fb := HI3.out.bnd (nmB act.f1).data.toList
            have fb0 := fb.1
            have fb1 := fb.2
            have hnl := Aside0.mk (show (nmB act.f1).size ≤ maxLen by rw [nmB_size]; unfold maxLen; omega)
            clear hN hK hs AB4 fb
            go_wp2_with fail
            refine (quitrentlaw28_name.calls act.f1.f0 act.f1.f1 A3 c3 act.f1.f2 (nmB act.f1) _ (Kd.C_below HCa.out B4.out) hle (name_some act.f1 hokj)).mono ?_
            rintro e w5 ⟨rfl, hB5⟩
            have D5 := Aside0.mk (D4.out.below hB5)
            have N5 := Aside0.mk (N4.out.below hB5)
            have B5 := Aside0.mk (B4.out.trans (hB5.mono B4.out.size))
            have lk := D5.out.look (nmB act.f1) hnl.out
            clear hB5
            go_wp2_with (at_mapUpdate; refine Counts.put rfl D5.out rfl (.tmp 55) (.tmp 58) (.tmp 60) rfl rfl (nmB act.f1) hnl.out rfl (f (nmB act.f1).data.toList + 1) rfl (WalkArith.wf_i64 (by omega)) (by have := HI3.out.num; unfold maxLen; omega) ?_; intro w6 hC6 hG6; have C6 := Aside0.mk hC6; have G6 := Aside0.mk hG6; clear hC6 hG6)
            go_roundw
            case rel =>
              have HI6 := Aside0.mk (LI.mapped N5.out D5.out.obj C6.out G6.out HI3.out.num HI3.out.low B5.out (fun y hy => by rcases List.mem_append.1 hy with h | h; exact HI3.out.good y h; rw [List.mem_singleton.1 h]; exact hgt) (cov_add HI3.out.cov act.f1) (bump_bnd HI3.out.bnd _ _ (by omega) (by omega)))
              exact ⟨j + 1, _, _, _, _, _, _, _, _, by omega, by go_num, HI6⟩
            case measure => simp [intOf]; omega
        · -- Take
          by_cases hv : act.f2 < 0 ∨ (L.length : Int) ≤ act.f2
          · refine (take_no _ _ 3 _ _ _ _ _ L act.f2 _ HI3.out.net hv).mono ?_
            rintro e w4 ⟨rfl, hB4⟩
            have HI4 := Aside0.mk ((HI3.out.below hB4).below (below_alloc (Below.refl _ _) (.cells #[.int .i64 0, .int .i64 0, .slice none 0 0] 32 (0, 0)))).next
            clear hB4
            go_wp2
            go_roundw
            case rel => exact ⟨j + 1, _, _, _, _, _, _, _, _, by omega, by go_num, HI4⟩
            case measure => simp [intOf]; omega
          · obtain ⟨k, hk, hkl⟩ := nat_of hv
            obtain ⟨g, c, m, rfl, hm, _, _, cells, hgb⟩ := HI3.out.net.own (by omega)
            have hx : L[k]? = some (L[k]'hkl) := List.getElem?_eq_getElem hkl
            obtain ⟨x, hxx⟩ : ∃ x, x = L[k]'hkl := ⟨_, rfl⟩
            rw [← hxx] at hx
            have hxm := List.mem_of_getElem? hx
            obtain ⟨q, hq, hq3⟩ := gate_q (HI3.out.good x hxm)
            clear hxx
            rw [hk]
            cases hcut : cutAt k0 k1 k2 k3 q with
            | true =>
              refine (take_cut _ _ _ _ _ k q 3 _ _ _ _ L x _ HI3.out.net hm (by omega) hx hq hq3 hcut).mono ?_
              rintro e w4 ⟨rfl, hB4⟩
              have HI4 := Aside0.mk ((HI3.out.below hB4).below (below_alloc (Below.refl _ _) (.cells #[.int .i64 0, .int .i64 0, .slice none 0 0] 32 (0, 0)))).next
              clear hB4 hm hx hq hcut hk
              go_wp2
              go_roundw
              case rel => exact ⟨j + 1, _, _, _, _, _, _, _, _, by omega, by go_num, HI4⟩
              case measure => simp [intOf]; omega
            | false =>
              refine (take_yes _ _ _ _ _ k q 3 _ _ _ _ L x _ HI3.out.net hm (by omega) hx cells hgb hq hq3 hcut).mono ?_
              rintro e w4 ⟨v4, A4, c4, rfl, hN, hK, hR⟩
              have hx5 : x.f2.length ≤ 5000 := by have := HI3.out.net.byt x hxm; omega
              have N4 := Aside0.mk (hN.alloc (.cells #[.int .i64 x.f0, .int .i64 x.f1, .slice A4 x.f2.length c4] 32 (0, 0)))
              have D4 := Aside0.mk ((HI3.out.cnt.kept HI3.out.net hK).below (below_alloc (Below.refl _ _) (.cells #[.int .i64 x.f0, .int .i64 x.f1, .slice A4 x.f2.length c4] 32 (0, 0))))
              have B4 := Aside0.mk (below_alloc (below_kept HI3.out.bel HI3.out.net hK (Nat.le_refl _) HI3.out.bel.size) (.cells #[.int .i64 x.f0, .int .i64 x.f1, .slice A4 x.f2.length c4] 32 (0, 0)))
              have R4 := Aside0.mk (Kd.R_alloc hR (.cells #[.int .i64 x.f0, .int .i64 x.f1, .slice A4 x.f2.length c4] 32 (0, 0)))
              have X4 := Aside0.mk (blkn w4 (.cells #[.int .i64 x.f0, .int .i64 x.f1, .slice A4 x.f2.length c4] 32 (0, 0)))
              have hct := cov_take HI3.out.cov hx
              have HCT := Aside0.mk hct.2
              have fb := HI3.out.bnd (nmB x).data.toList
              have fb0 : (1 : Int) ≤ f (nmB x).data.toList := hct.1
              have fb1 := fb.2
              have hnl := Aside0.mk (show (nmB x).size ≤ maxLen by rw [nmB_size]; unfold maxLen; omega)
              have HNS := Aside0.mk (name_some x hx5)
              have HGD := Aside0.mk (fun y (hy : y ∈ L.eraseIdx k) => HI3.out.good y (List.mem_of_mem_eraseIdx hy))
              clear hN hK hR hct fb hm hx hq hcut hk hgb hxm
              go_wp2_with fail
              refine (quitrentlaw28_name.calls x.f0 x.f1 A4 c4 x.f2 (nmB x) _ (Kd.R_reads' R4.out).2.2 (Kd.R_reads' R4.out).2.1 HNS.out).mono ?_
              rintro e w5 ⟨rfl, hB5⟩
              have D5 := Aside0.mk (D4.out.below hB5)
              have N5 := Aside0.mk (N4.out.below hB5)
              have R5 := Aside0.mk (Kd.R_below R4.out hB5)
              have X5 := Aside0.mk (blkb X4.out hB5)
              have B5 := Aside0.mk (B4.out.trans (hB5.mono B4.out.size))
              have lk := D5.out.look (nmB x) hnl.out
              clear hB5
              go_wp2_with (at_mapUpdate; refine Counts.put rfl D5.out rfl (.tmp 72) (.tmp 74) (.tmp 76) rfl rfl (nmB x) hnl.out rfl (f (nmB x).data.toList - 1) rfl (WalkArith.wf_i64 (by omega)) (by have := HI3.out.num; unfold maxLen; omega) ?_; intro w6 hC6 hG6; have C6 := Aside0.mk hC6; have G6 := Aside0.mk hG6; have X6 := blk_mapped X5.out D5.out.obj hG6; have z0 := blk_cell X6 0; have z1 := blk_cell X6 1; have z2 := blk_cell X6 2; simp at z0 z1 z2; clear hC6 hG6 X6)
              have R6 := Aside0.mk (R5_mapped R5.out D5.out.obj G6.out)
              refine (quitrentlaw28_name.calls x.f0 x.f1 A4 c4 x.f2 (nmB x) _ (Kd.R_reads' R6.out).2.2 (Kd.R_reads' R6.out).2.1 HNS.out).mono ?_
              rintro e w7 ⟨rfl, hB7⟩
              have lk2 := (C6.out.below hB7).look (nmB x) hnl.out
              rw [bump_at] at lk2
              have hlt0 : decide (f (nmB x).data.toList - 1 < 0) = false := decide_eq_false (by omega)
              have HI7 := Aside0.mk ((LI.mapped N5.out D5.out.obj C6.out G6.out HI3.out.num HI3.out.low B5.out HGD.out HCT.out (bump_bnd HI3.out.bnd _ _ (by omega) (by omega))).below hB7)
              clear hB7
              go_wp2
              go_roundw
              case rel => exact ⟨j + 1, _, _, _, _, _, _, _, _, by omega, by go_num, HI7⟩
              case measure => simp [intOf]; omega
        · -- Drop
          by_cases hv : act.f2 < 0 ∨ (L.length : Int) ≤ act.f2
          · refine (drop_no _ _ 3 _ _ _ _ _ L act.f2 _ HI3.out.net hv).mono ?_
            rintro e w4 ⟨rfl, hB4⟩
            have HI4 := Aside0.mk (HI3.out.below hB4).next
            clear hB4
            go_wp2
            go_roundw
            case rel => exact ⟨j + 1, _, _, _, _, _, _, _, _, by omega, by go_num, HI4⟩
            case measure => simp [intOf]; omega
          · obtain ⟨k, hk, hkl⟩ := nat_of hv
            obtain ⟨g, c, m, rfl, hm, _, _, cells, hgb⟩ := HI3.out.net.own (by omega)
            have hx : L[k]? = some (L[k]'hkl) := List.getElem?_eq_getElem hkl
            rw [hk]
            refine (drop_yes _ _ _ _ m k 3 _ _ _ _ L _ HI3.out.net hm (by omega) cells hgb).mono ?_
            rintro e w4 ⟨v4, rfl, hN, hK⟩
            have HI4 := Aside0.mk (HI3.out.kept hN hK (fun y hy => HI3.out.good y (List.mem_of_mem_eraseIdx hy)) (cov_erase HI3.out.cov k))
            clear hN hK hm hx hk hgb
            go_wp2
            go_roundw
            case rel => exact ⟨j + 1, _, _, _, _, _, _, _, _, by omega, by go_num, HI4⟩
            case measure => simp [intOf]; omega
        · -- Double
          by_cases hv : act.f2 < 0 ∨ (L.length : Int) ≤ act.f2
          · refine (double_no _ _ 3 _ _ _ _ _ L act.f2 _ HI3.out.net hv).mono ?_
            rintro e w4 ⟨rfl, rfl⟩
            have HI4 := Aside0.mk HI3.out.next
            go_wp2
            go_roundw
            case rel => exact ⟨j + 1, _, _, _, _, _, _, _, _, by omega, by go_num, HI4⟩
            case measure => simp [intOf]; omega
          · obtain ⟨k, hk, hkl⟩ := nat_of hv
            obtain ⟨g, c, m, rfl, hm, _, _, cells, hgb⟩ := HI3.out.net.own (by omega)
            have hx : L[k]? = some (L[k]'hkl) := List.getElem?_eq_getElem hkl
            obtain ⟨x, hxx⟩ : ∃ x, x = L[k]'hkl := ⟨_, rfl⟩
            rw [← hxx] at hx
            have hxm := List.mem_of_getElem? hx
            clear hxx
            rw [hk]
            refine (double_yes _ _ _ _ m k 3 _ _ _ _ L x _ HI3.out.net hm (by omega) hx).mono ?_
            rintro e w4 ⟨v4, rfl, hN, hK⟩
            rcases send_cases 3 L x with ⟨r, hs, hr⟩ | ⟨hs, hgt⟩
            · rw [hs] at hN ⊢
              have HI4 := Aside0.mk (HI3.out.kept hN hK HI3.out.good HI3.out.cov)
              clear hN hK hs hm hx hk hgb hxm
              go_wp2
              go_roundw
              case rel => exact ⟨j + 1, _, _, _, _, _, _, _, _, by omega, by go_num, HI4⟩
              case measure => simp [intOf]; omega
            · rw [hs] at hN ⊢
              have hx5 : x.f2.length ≤ 5000 := by have := HI3.out.net.byt x hxm; omega
              obtain ⟨gl, cl, hvl, _, _, _⟩ := Kd.R_form RL.out (by omega)
              subst hvl
              have RL4 := R_high_kept RL.out hK (by have := HBW.out; simp; omega) (fun q hq => by have := HVW.out q hq; simp; omega)
              obtain ⟨A5, c5, p0, p1, p2, hle5, hC5⟩ := R_at RL4 hx
              have AB4 := kept_other HI3.out.net hK HAB.out (by decide) (by decide)
              have b4 := (blk_cell AB4 4).trans (show _ = some (Value.int .i64 act.f2) from rfl)
              rw [hk] at b4
              have N4 := Aside0.mk hN
              have D4 := Aside0.mk (HI3.out.cnt.kept HI3.out.net hK)
              have B4 := Aside0.mk (below_kept HI3.out.bel HI3.out.net hK (Nat.le_refl _) HI3.out.bel.size)
              have C5 := Aside0.mk hC5
              have fb := HI3.out.bnd (nmB x).data.toList
              have fb0 := fb.1
              have fb1 := fb.2
              have hnl := Aside0.mk (show (nmB x).size ≤ maxLen by rw [nmB_size]; unfold maxLen; omega)
              have HNS := Aside0.mk (name_some x hx5)
              have k0' : (0 : Int) ≤ (k : Int) := by omega
              have k1' : (k : Int) < (L.length : Int) := by omega
              have k0b : decide ((0 : Int) ≤ (k : Int)) = true := decide_eq_true k0'
              have k1b : decide ((k : Int) < (L.length : Int)) = true := decide_eq_true k1'
              clear hN hK hs AB4 fb hm hx hk hgb hxm RL4 hC5 a0 a1 a2 a3 a4
              go_wp2_with fail
              refine (quitrentlaw28_name.calls x.f0 x.f1 A5 c5 x.f2 (nmB x) _ C5.out hle5 HNS.out).mono ?_
              rintro e w5 ⟨rfl, hB5⟩
              have D5 := Aside0.mk (D4.out.below hB5)
              have N5 := Aside0.mk (N4.out.below hB5)
              have B5 := Aside0.mk (B4.out.trans (hB5.mono B4.out.size))
              have lk := D5.out.look (nmB x) hnl.out
              clear hB5
              go_wp2_with (at_mapUpdate; refine Counts.put rfl D5.out rfl (.tmp 107) (.tmp 113) (.tmp 115) rfl rfl (nmB x) hnl.out rfl (f (nmB x).data.toList + 1) rfl (WalkArith.wf_i64 (by omega)) (by have := HI3.out.num; unfold maxLen; omega) ?_; intro w6 hC6 hG6; have C6 := Aside0.mk hC6; have G6 := Aside0.mk hG6; clear hC6 hG6)
              go_roundw
              case rel =>
                have HI6 := Aside0.mk (LI.mapped N5.out D5.out.obj C6.out G6.out HI3.out.num HI3.out.low B5.out (fun y hy => by rcases List.mem_append.1 hy with h | h; exact HI3.out.good y h; rw [List.mem_singleton.1 h]; exact hgt) (cov_add HI3.out.cov x) (bump_bnd HI3.out.bnd _ _ (by omega) (by omega)))
                exact ⟨j + 1, _, _, _, _, _, _, _, _, by omega, by go_num, HI6⟩
              case measure => simp [intOf]; omega
        · -- Hold
          by_cases hv : act.f2 < 0 ∨ (L.length : Int) ≤ act.f2
          · refine (hold_no _ _ 3 _ _ _ _ _ L act.f2 _ HI3.out.net hv).mono ?_
            rintro e w4 ⟨rfl, hB4⟩
            have HI4 := Aside0.mk (HI3.out.below hB4).next
            clear hB4
            go_wp2
            go_roundw
            case rel => exact ⟨j + 1, _, _, _, _, _, _, _, _, by omega, by go_num, HI4⟩
            case measure => simp [intOf]; omega
          · obtain ⟨k, hk, hkl⟩ := nat_of hv
            obtain ⟨g, c, m, rfl, hm, _, _, cells, hgb⟩ := HI3.out.net.own (by omega)
            have hx : L[k]? = some (L[k]'hkl) := List.getElem?_eq_getElem hkl
            rw [hk]
            refine (hold_yes _ _ _ _ m k 3 _ _ _ _ L _ HI3.out.net hm (by omega) cells hgb).mono ?_
            rintro e w4 ⟨v4, rfl, hN, hK⟩
            have HI4 := Aside0.mk (HI3.out.kept hN hK (fun y hy => by rw [hx] at hy; rcases List.mem_append.1 hy with h | h; exact HI3.out.good y (List.mem_of_mem_eraseIdx h); have h2 : y = L[k]'hkl := (by simpa using h); rw [h2]; exact HI3.out.good _ (List.getElem_mem hkl)) (by rw [hx]; exact cov_hold HI3.out.cov hx))
            clear hN hK hm hx hk hgb
            go_wp2
            go_roundw
            case rel => exact ⟨j + 1, _, _, _, _, _, _, _, _, by omega, by go_num, HI4⟩
            case measure => simp [intOf]; omega
        · -- Cut
          by_cases hv : act.f1.f0 < 1 ∨ 3 < act.f1.f0
          · refine (cut_no _ _ 3 _ _ _ _ _ L act.f1.f0 _ _ HI3.out.net hv).mono ?_
            rintro e w4 ⟨rfl, rfl⟩
            have HI4 := Aside0.mk HI3.out.next
            go_wp2
            go_roundw
            case rel => exact ⟨j + 1, _, _, _, _, _, _, _, _, by omega, by go_num, HI4⟩
            case measure => simp [intOf]; omega
          · obtain ⟨k, hk, hk1, hk3⟩ : ∃ k : Nat, act.f1.f0 = (k : Int) ∧ 1 ≤ k ∧ k ≤ 3 := ⟨act.f1.f0.toNat, by omega, by omega, by omega⟩
            rw [hk]
            refine (cut_yes _ _ k 3 _ _ _ _ _ L _ _ HI3.out.net hk1 hk3 (by omega)).mono ?_
            rintro e w4 ⟨rfl, j1, j2, j3, hN, hK⟩
            have HI4 := Aside0.mk (HI3.out.kept hN hK HI3.out.good HI3.out.cov)
            clear hN hK hk
            go_wp2
            go_roundw
            case rel => exact ⟨j + 1, _, _, _, _, _, _, _, _, by omega, by go_num, HI4⟩
            case measure => simp [intOf]; omega
      · obtain rfl : j = l.length := by omega
        go_wp2_with fail
        refine (goes_calls _).mono ?_
        rintro e w3 ⟨rfl, hB3⟩
        have B3 := Aside0.mk (HI.out.bel.trans (hB3.mono HI.out.bel.size))
        clear hB3
        go_wp2
        go_ret
        exact ⟨rfl, B3.out⟩
end Go.Proofs.Ytgeeioaeonmneaa.Net
