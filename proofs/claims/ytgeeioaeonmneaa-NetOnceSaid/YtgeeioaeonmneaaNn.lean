import Derived.Test.YtgeeioaeonmneaaNm
set_option linter.unusedVariables false
set_option linter.unusedSimpArgs false
namespace Go.Proofs.Ytgeeioaeonmneaa.Net
open Go.RowKit Go.Proofs.YtgeeioaeonmneaaW.PrintWords Go.Proofs.YtgeeioaeonmneaaW.PrintLast Go.Proofs.YtgeeioaeonmneaaW.PrintMore
open Go.Proofs.Ytgeeioaeonmneaa.PNetOnce

def Told (w : World) (L : List S32) (e : Ending) (w' : World) : Prop :=
  ∃ v, e = .returned v ∧ k32.R 32 w' w.heap.size (fun _ => True) v L ∧ Below w.heap.size w w'

set_option maxRecDepth 100000 in
set_option maxHeartbeats 2000000 in
theorem letters_calls (b base : Nat) (n : Int) (v : Value) (k0 k1 k2 k3 : Bool) (L : List S32) (w : World) (hN : NetI w b base n v k0 k1 k2 k3 L) :
    Calls Try.prog 6 #[.pointer (some ⟨b, 0, none⟩)] w (Told w L) := by
  by_cases hL0 : L.length = 0
  · obtain ⟨Av, cv, rfl, hlv, _⟩ := Kd.R_reads hN.row
    obtain rfl : L = [] := List.eq_nil_of_length_eq_zero hL0
    obtain ⟨hc0, hc1, hf1⟩ := hN.cells
    clear hN
    go_enter Try.func6, Try.ntmps6
    go_wp2
    go_loopw [3, 13] (fun o i wr => o = .slice none 0 0 ∧ i = .int .i64 0 ∧ wr = w) (fun _ _ _ => 0)
    case atStart => exact ⟨rfl, rfl, rfl⟩
    case round =>
      obtain ⟨rfl, rfl, rfl⟩ := hrel
      go_wp2
      go_ret
      exact ⟨_, rfl, Kd.R_nil _ _ _ _ _, Below.refl _ _⟩
  · obtain ⟨g, c, m, rfl, hL, hgl, hbg, cells, hg⟩ := hN.own (by omega)
    obtain ⟨hc0, hc1, hf1⟩ := hN.cells
    have HN := Aside0.mk hN
    have HL := Aside0.mk hL
    have hm4 : m + 1 ≤ 4096 := by rw [← hL]; exact hN.len
    clear hN hL0 hL hg
    go_enter Try.func6, Try.ntmps6
    go_wp2
    go_loopw [3, 13] (fun o i wr => ∃ (j : Nat) (P : List S32), j ≤ m + 1 ∧ i = .int .i64 j ∧ Aside0 (P = L.take j) ∧ Aside0 (k32.R 32 wr w.heap.size (fun _ => True) o P) ∧ Aside0 (Below w.heap.size w wr)) (fun _ i _ => m + 1 - (intOf i).toNat)
    case atStart => exact ⟨0, [], Nat.zero_le _, rfl, ⟨rfl⟩, ⟨Kd.R_nil _ _ _ _ _⟩, ⟨Below.refl _ _⟩⟩
    case round =>
      obtain ⟨j, P, hj, rfl, HP, HR, HB⟩ := hrel
      by_cases hlt : j < m + 1
      · have hNr := HN.out.below HB.out
        obtain ⟨x, A, cx, hx, q0, q1, q2, hM, hC⟩ := hNr.at_ HL.out hlt
        obtain ⟨Ao, co, rfl, hlo, _⟩ := Kd.R_reads HR.out
        have HC := Aside0.mk (Kd.C_alloc hC (.cells #[.int .i64 x.f0, .int .i64 x.f1, .slice A x.f2.length cx] 32 (0, 0)))
        have hxl : x.f2.length ≤ 5000 := by have := HN.out.byt x (List.mem_of_getElem? hx); omega
        have HT := Aside0.mk (show P ++ [x] = L.take (j + 1) by rw [HP.out, List.take_add_one, hx]; rfl)
        have HTl := Aside0.mk (show P.length ≤ 4096 by rw [HP.out]; have := List.length_take_le j L; omega)
        have HBl := Aside0.mk HB.out.size
        have hlt' : (j : Int) < (m : Int) + 1 := by omega
        clear hNr hM hC hx
        go_wp2_with (first
          | (go_at_call 15; refine (whole_calls x.f0 x.f1 A cx x.f2 _ HC.out hxl).mono ?_; rintro e w2 ⟨v2, rfl, hR2, hB2⟩; obtain ⟨A2, c2, rfl, hl2, _⟩ := Kd.R_reads hR2; have R2 := Aside0.mk hR2; have hsz : wr.heap.size + 1 ≤ w2.heap.size := (by have := hB2.size; simp at this; omega); have B2 := Aside0.mk ((below_alloc (Below.refl wr.heap.size wr) (.cells #[.int .i64 x.f0, .int .i64 x.f1, .slice A x.f2.length cx] 32 (0, 0))).trans (hB2.mono (by simp))); clear hR2 hB2 hl2)
          | (at_builtin; refine Kd.R_append k32 (w0 := w) w.heap.size rfl (.tmp 17) (.tmp 20) 35 32 _ 40 rfl Try.underlying35 info32 rfl (by decide) (by decide) _ P x [.int .i64 x.f0, .int .i64 x.f1, .slice A2 x.f2.length c2] (fun _ => True) (fun k => wr.heap.size ≤ k) rfl rfl (k32_mkM _ _ _ x (Kd.R_lower (Kd.R_mono (Kd.R_bound R2.out) (fun k hk => by have := hk.2.1; simp at this; omega)) (by have := HBl.out; simp; omega))) (fun k hk => ⟨trivial, fun he => absurd (Kd.R_lt HR.out k he.symm) (by omega)⟩) (fun _ _ => trivial) (Kd.R_below HR.out B2.out) (HB.out.trans (B2.out.mono HBl.out)) (by have := HBl.out; omega) (by have := HTl.out; omega) ?_; intro v1 w3 hR3 hB3 hg3 hat3; have R3 := Aside0.mk hR3; have B3 := Aside0.mk hB3; clear hR3 hB3 hg3 hat3))
        go_roundw
        case rel => exact ⟨j + 1, P ++ [x], by omega, by go_num, HT, R3, B3⟩
        case measure => simp [intOf]; omega
      · obtain rfl : j = m + 1 := by omega
        obtain ⟨Ao, co, rfl, hlo, _⟩ := Kd.R_reads HR.out
        go_wp2
        go_ret
        exact ⟨_, rfl, by have h := HR.out; rwa [show P = L from HP.out.trans (List.take_of_length_le (by rw [HL.out]; exact Nat.le_refl _))] at h ⊢, HB.out⟩
end Go.Proofs.Ytgeeioaeonmneaa.Net
