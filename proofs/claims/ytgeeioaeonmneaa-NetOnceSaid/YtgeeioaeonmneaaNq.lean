import Derived.Test.YtgeeioaeonmneaaNp
set_option linter.unusedVariables false
set_option linter.unusedSimpArgs false
namespace Go.Proofs.Ytgeeioaeonmneaa.Net
open Go.RowKit Go.Proofs.YtgeeioaeonmneaaW.PrintWords Go.Proofs.YtgeeioaeonmneaaW.PrintLast Go.Proofs.YtgeeioaeonmneaaW.PrintMore
open Go.Proofs.Ytgeeioaeonmneaa.PNetOnce

def nmB (x : S32) : ByteArray := strOfNums [x.f0 % 256, x.f1 % 256] ++ strOfNums x.f2
def nm (x : S32) : List UInt8 := (nmB x).data.toList
theorem strOfNums_size (xs : List Int) : (strOfNums xs).size = xs.length := by simp [strOfNums, ByteArray.size]
theorem nmB_size (x : S32) : (nmB x).size = 2 + x.f2.length := by
  unfold nmB
  rw [ByteArray.size_append, strOfNums_size, strOfNums_size]; rfl
theorem name_some (x : S32) (h : x.f2.length ≤ 5000) : quitrentlaw28_name.f x.f0 x.f1 x.f2 = some (nmB x) := by
  unfold quitrentlaw28_name.f
  simp only [Option.bind_some]
  rw [if_pos (by rw [strOfNums_size, strOfNums_size]; simp; omega)]
  rfl

def okAt (l : List S34) (j : Nat) : Prop := (rd_T34 l (j : Int)).f1.f2.length ≤ 5000
theorem l0_step (K : Nat) (l : List S34) (i : Int) (h : i < (l.length : Int)) (h2 : i < 201) (h0 : 0 ≤ i) :
    quitrentlaw28_great.l0 (K + 2) l i = if ((rd_T34 l i).f1.f2.length : Int) > 5000 then some true else quitrentlaw28_great.l0 K l (wrap64 (i + 1)) := by
  rw [quitrentlaw28_great.l0, if_pos h, quitrentlaw28_great.j1, if_pos (decide_eq_true h2), if_pos h0, if_pos h]
theorem l0_stop (K : Nat) (l : List S34) (i : Int) (h2 : ¬ i < 201) : quitrentlaw28_great.l0 (K + 2) l i = some (decide ((l.length : Int) > 200)) := by
  rw [quitrentlaw28_great.l0]
  split
  · rw [quitrentlaw28_great.j1, if_neg (by simpa using h2)]
  · rw [quitrentlaw28_great.j1, if_neg (by decide)]
theorem l0_end (K : Nat) (l : List S34) (i : Int) (h : ¬ i < (l.length : Int)) : quitrentlaw28_great.l0 (K + 2) l i = some (decide ((l.length : Int) > 200)) := by
  rw [quitrentlaw28_great.l0, if_neg h, quitrentlaw28_great.j1, if_neg (by decide)]
theorem great_from (l : List S34) : ∀ (d i : Nat), i + d = 201 → (∀ j, j < i → j < l.length → okAt l j) →
    ∃ r, quitrentlaw28_great.l0 (2 * d + 2) l (i : Int) = some r ∧ (r = false → l.length ≤ 200 ∧ ∀ j, j < l.length → okAt l j) := by
  intro d
  induction d with
  | zero =>
    intro i hi hok
    refine ⟨_, l0_stop (2 * 0) l _ (by omega), fun h => ?_⟩
    have h' := of_decide_eq_false h
    exact ⟨by omega, fun j hj => hok j (by omega) hj⟩
  | succ d ih =>
    intro i hi hok
    by_cases h : (i : Int) < (l.length : Int)
    · rw [show 2 * (d + 1) + 2 = (2 * d + 2) + 2 by omega, l0_step (2 * d + 2) l (i : Int) h (by omega) (by omega)]
      by_cases hb : ((rd_T34 l (i : Int)).f1.f2.length : Int) > 5000
      · exact ⟨true, by rw [if_pos hb], fun h => by cases h⟩
      · rw [if_neg hb, show wrap64 ((i : Int) + 1) = ((i + 1 : Nat) : Int) by unfold wrap64; omega]
        exact ih (i + 1) (by omega) (fun j hj hjl => by
          rcases Nat.lt_or_ge j i with h1 | h1
          · exact hok j h1 hjl
          · obtain rfl : j = i := by omega
            unfold okAt; omega)
    · refine ⟨_, l0_end (2 * (d + 1)) l _ h, fun hr => ⟨?_, fun j hj => hok j (by omega) hj⟩⟩
      have := of_decide_eq_false hr
      omega

/-- The loop's state behind j acts. -/
structure LI (w wr : World) (b M j : Nat) (v : Value) (k0 k1 k2 k3 : Bool) (L : List S32) (n : Nat) (f : List UInt8 → Int) : Prop where
  net : NetI wr b w.heap.size 3 v k0 k1 k2 k3 L
  cnt : Counts wr M n f
  num : n ≤ 2 * j
  good : ∀ x ∈ L, gateB 3 x.f0 x.f1 = true
  cov : ∀ s, (L.countP (fun y => nm y == s) : Int) ≤ f s
  bnd : ∀ s, 0 ≤ f s ∧ f s ≤ j
  low : w.heap.size ≤ M
  bel : Below w.heap.size w wr

theorem gate_q {x0 x1 : Int} (h : gateB 3 x0 x1 = true) : ∃ q : Nat, wrap64 (x0 + x1) = (q : Int) ∧ q ≤ 3 := by
  unfold gateB at h
  simp only [Bool.and_eq_true, decide_eq_true_eq] at h
  exact ⟨(wrap64 (x0 + x1)).toNat, by omega, by omega⟩
theorem bump_bnd {f : List UInt8 → Int} {j : Nat} (h : ∀ s, 0 ≤ f s ∧ f s ≤ j) (s : List UInt8) (q : Int) (h0 : 0 ≤ q) (h1 : q ≤ (j : Int) + 1) : ∀ t, 0 ≤ bump f s q t ∧ bump f s q t ≤ ((j + 1 : Nat) : Int) := by
  intro t
  unfold bump
  split
  · omega
  · have := h t; omega
theorem cov_add {L : List S32} {f : List UInt8 → Int} (h : ∀ s, (L.countP (fun y => nm y == s) : Int) ≤ f s) (x : S32) : ∀ s, ((L ++ [x]).countP (fun y => nm y == s) : Int) ≤ bump f (nm x) (f (nm x) + 1) s := by
  intro s
  have := h s
  rw [List.countP_append, List.countP_singleton]
  unfold bump
  by_cases hs : s = nm x
  · subst hs
    simp
    omega
  · rw [if_neg hs, if_neg (by simpa using fun e => hs e.symm)]
    simpa using this
theorem count_erase (L : List S32) (p : S32 → Bool) : ∀ (k : Nat) (x : S32), L[k]? = some x → L.countP p = (L.eraseIdx k).countP p + (if p x then 1 else 0) := by
  induction L with
  | nil => intro k x h; simp at h
  | cons y L ih =>
    intro k x h
    cases k with
    | zero =>
      have : y = x := by simpa using h
      subst this
      rw [List.eraseIdx_cons_zero, List.countP_cons]
    | succ k =>
      have h' : L[k]? = some x := by simpa using h
      rw [List.eraseIdx_cons_succ, List.countP_cons, List.countP_cons, ih k x h']
      omega
theorem cov_erase {L : List S32} {f : List UInt8 → Int} (h : ∀ s, (L.countP (fun y => nm y == s) : Int) ≤ f s) (k : Nat) : ∀ s, ((L.eraseIdx k).countP (fun y => nm y == s) : Int) ≤ f s := by
  intro s
  have h1 := h s
  have h2 : (L.eraseIdx k).countP (fun y => nm y == s) ≤ L.countP (fun y => nm y == s) := List.Sublist.countP_le (List.eraseIdx_sublist L k)
  omega
theorem cov_take {L : List S32} {f : List UInt8 → Int} {x : S32} {k : Nat} (h : ∀ s, (L.countP (fun y => nm y == s) : Int) ≤ f s) (hx : L[k]? = some x) :
    1 ≤ f (nm x) ∧ ∀ s, ((L.eraseIdx k).countP (fun y => nm y == s) : Int) ≤ bump f (nm x) (f (nm x) - 1) s := by
  refine ⟨?_, fun s => ?_⟩
  · have h1 := h (nm x)
    have h2 := count_erase L (fun y => nm y == nm x) k x hx
    simp at h2
    omega
  · have h1 := h s
    have h2 := count_erase L (fun y => nm y == s) k x hx
    unfold bump
    by_cases hs : s = nm x
    · subst hs; simp at h2 ⊢; omega
    · rw [if_neg hs]
      rw [if_neg (by simpa using fun e => hs e.symm)] at h2
      omega
theorem cov_hold {L : List S32} {f : List UInt8 → Int} {x : S32} {k : Nat} (h : ∀ s, (L.countP (fun y => nm y == s) : Int) ≤ f s) (hx : L[k]? = some x) : ∀ s, ((L.eraseIdx k ++ [x]).countP (fun y => nm y == s) : Int) ≤ f s := by
  intro s
  have h1 := h s
  have h2 := count_erase L (fun y => nm y == s) k x hx
  rw [List.countP_append, List.countP_singleton]
  omega
end Go.Proofs.Ytgeeioaeonmneaa.Net
