import Derived.Test.YtgeeioaeonmneaaWWords
import Derived.Deep.Slices
import Derived.Deep.Strs
import Derived.DataReads
set_option linter.unusedVariables false
set_option linter.unusedSimpArgs false
namespace Go.Proofs.Ytgeeioaeonmneaa.Rd
open Go.RowKit Go.Proofs.YtgeeioaeonmneaaW.PrintWords

/-- What reads at type t is of the kind d. -/
def Rds {α : Type} (P : Program) (t : TypeId) (d : Kd α) : Prop :=
  ∀ (H : Type) (enc : TypeId × Value → H) (W : World) (base : Nat) (spare : Nat → Bool) (held : Bool) (fuel : Nat) (cs : List Value) (y : DataW H × List MemPlace), DataW.trod enc P W base spare held fuel t cs = some y → ∃ x, d.K W x cs
theorem rds_int {P : Program} {t : TypeId} {k : IntKind} (ht : P.underlying t = some (.int k)) : Rds P t (Kd.int k) := by
  intro H enc W base spare held fuel cs y h
  obtain ⟨n, rfl, _, _⟩ := DataW.trod_int ht h
  exact ⟨n, rfl⟩
theorem rds_slice {α : Type} {P : Program} {t e : TypeId} {d : Kd α} [Inhabited α] (ht : P.underlying t = some (.slice e)) (hd : Rds P e d) (hs : P.cellsOf e = d.sz) : Rds P t (Kd.slice e d) := by
  intro H enc W base spare held fuel cs y h
  rcases Go.Deep.open_slice ht h with ⟨rfl, _⟩ | ⟨a, len, cap, m, n, D, Pl, rfl, hb, hl, hc, hm, _, hel⟩
  · exact ⟨[], none, 0, rfl, Nat.le_refl _, Kd.C_nil d W⟩
  · have hlm : len ≤ m := by rw [hm]; split <;> omega
    have hall : ∀ i, i < len → ∃ x : α, ∃ c, d.K W x c ∧ ∀ j u, c[j]? = some u → W.cell? (a.add (i * d.sz + j)) = some u := by
      intro i hi
      obtain ⟨c, hcs, ht'⟩ := hel i (by omega)
      obtain ⟨x, hx⟩ := hd H enc W base spare held n c _ ht'
      refine ⟨x, c, hx, fun j u hu => ?_⟩
      rw [hs] at hcs
      have hj : j < c.length := (List.getElem?_eq_some_iff.1 hu).1
      obtain ⟨_, hl2, hget⟩ := World.cells?_some hcs
      have h3 := hget j (by omega)
      rw [← add_add]
      rw [h3, hu]
    obtain ⟨f, hf⟩ := Go.Deep.choose_lt hall
    refine ⟨(List.range len).map f, some a, cap, by simp, by simpa using hl, ?_⟩
    refine ⟨rfl, by simp; unfold maxLen at hc; omega, fun _ => ⟨a, rfl, fun j p hj => ?_⟩⟩
    have hjl : j < len := by
      have := (List.getElem?_eq_some_iff.1 hj).1
      simpa using this
    have hp : f j = p := by simpa [hjl] using hj
    obtain ⟨c, hK, hcell⟩ := hf j hjl
    rw [hp] at hK
    exact ⟨c, d.K_len hK, hK, hcell⟩
theorem rds_iso {α β : Type} {P : Program} {t : TypeId} {d : Kd α} (h : Rds P t d) (f : β → α) (g : α → β) (hg : ∀ x, f (g x) = x) : Rds P t (Kd.iso d f) := by
  intro H enc W base spare held fuel cs y hy
  obtain ⟨x, hx⟩ := h H enc W base spare held fuel cs y hy
  exact ⟨g x, by show d.K W (f (g x)) cs; rw [hg]; exact hx⟩
theorem rds_struct3 {α β γ : Type} {P : Program} {t : TypeId} {f0 f1 f2 : Field} {a : Kd α} {b : Kd β} {c : Kd γ} (ht : P.underlying t = some (.struct #[f0, f1, f2])) (h0 : Rds P f0.type a) (h1 : Rds P f1.type b) (h2 : Rds P f2.type c)
    (o0 : f0.offset = 0) (o1 : f1.offset = a.sz) (o2 : f2.offset = a.sz + b.sz) (s0 : P.cellsOf f0.type = a.sz) (s1 : P.cellsOf f1.type = b.sz) (s2 : P.cellsOf f2.type = c.sz) (s : P.cellsOf t = a.sz + b.sz + c.sz) :
    Rds P t (Kd.pair a (Kd.pair b c)) := by
  intro H enc W base spare held fuel cs y hy
  obtain ⟨y0, y1, y2, n, _, hl, e0, e1, e2⟩ := Go.Deep.trod_struct3 ht hy
  obtain ⟨x0, k0⟩ := h0 H enc W base spare held n _ _ e0
  obtain ⟨x1, k1⟩ := h1 H enc W base spare held n _ _ e1
  obtain ⟨x2, k2⟩ := h2 H enc W base spare held n _ _ e2
  rw [o0, s0, List.drop_zero] at k0
  rw [o1, s1] at k1
  rw [o2, s2] at k2
  refine ⟨(x0, x1, x2), _, _, ?_, k0, _, _, rfl, k1, k2⟩
  rw [s] at hl
  have e3 : (cs.drop (a.sz + b.sz)).take c.sz = cs.drop (a.sz + b.sz) := List.take_of_length_le (by rw [List.length_drop]; omega)
  rw [e3, ← List.drop_drop, List.take_append_drop, List.take_append_drop]
end Go.Proofs.Ytgeeioaeonmneaa.Rd
