import Derived.Test.YtgeeioaeonmneaaNo
import Derived.Maps.OwnOps
import Derived.Maps.Views
import Derived.StringKeys
set_option linter.unusedVariables false
set_option linter.unusedSimpArgs false
namespace Go.Proofs.Ytgeeioaeonmneaa.Net
open Go.RowKit Go.Proofs.YtgeeioaeonmneaaW.PrintWords Go.Proofs.YtgeeioaeonmneaaW.PrintLast Go.Proofs.YtgeeioaeonmneaaW.PrintMore
open Go.Proofs.Ytgeeioaeonmneaa.PNetOnce Go.WideMaps

/-- Block M is a map of at most n entries: of each text its number. -/
def Counts (w : World) (M n : Nat) (f : List UInt8 → Int) : Prop :=
  ∃ D : DataW Unit, w.ownsMap Try.prog 9 (plainElem Try.prog 3) M n D ∧ ∀ s, D.atKey (.string s) (.lit (.int .i64 0)) = .lit (.int .i64 (f s))
theorem Counts.obj {w : World} {M n : Nat} {f : List UInt8 → Int} (h : Counts w M n f) : ∃ es clock, w.heap[M]? = some (.map es clock) := by
  obtain ⟨D, ⟨es, clock, hb, _⟩, _⟩ := h
  exact ⟨es, clock, hb⟩
theorem Counts.same {w w' : World} {M n : Nat} {f : List UInt8 → Int} (h : Counts w M n f) (hb : w'.heap[M]? = w.heap[M]?) : Counts w' M n f := by
  obtain ⟨D, ⟨es, clock, hm, r⟩, hf⟩ := h
  exact ⟨D, ⟨es, clock, hb.trans hm, r⟩, hf⟩
theorem Counts.lt {w : World} {M n : Nat} {f : List UInt8 → Int} (h : Counts w M n f) : M < w.heap.size := by
  obtain ⟨es, clock, hb⟩ := h.obj
  exact blk_lt hb
theorem Counts.below {w w' : World} {M n : Nat} {f : List UInt8 → Int} (h : Counts w M n f) (hb : Below w.heap.size w w') : Counts w' M n f := h.same (hb.block M h.lt)
theorem Counts.kept {w w' : World} {M n b base : Nat} {m : Int} {v : Value} {k0 k1 k2 k3 : Bool} {L : List S32} {f : List UInt8 → Int} (h : Counts w M n f) (hN : NetI w b base m v k0 k1 k2 k3 L) (hK : Kept w w' b v) : Counts w' M n f := by
  obtain ⟨es, clock, hb⟩ := h.obj
  refine h.same (hK.block M h.lt (fun he => ?_) (fun he => ?_))
  · subst he; rw [hN.blk] at hb; cases hb
  · obtain ⟨_, inner, ho, _⟩ := hN.row
    obtain ⟨cells, hc⟩ := own_typed ho M he.symm
    rw [hb] at hc; cases hc
theorem NetI.mapped {w w' : World} {M b base : Nat} {m : Int} {v : Value} {k0 k1 k2 k3 : Bool} {L : List S32} (hN : NetI w b base m v k0 k1 k2 k3 L) {es : Array MapEntry} {clock : Nat} (hM : w.heap[M]? = some (.map es clock)) (hg : w.grownBy w' (some M)) : NetI w' b base m v k0 k1 k2 k3 L := by
  refine ⟨(hg.block b hN.lt (fun he => ?_)).trans hN.blk, Kd.R_mono (Kd.R_move (Kd.R_bound hN.row) (fun k hk => hg.block k hk.2.2.1 (fun he => ?_))) (fun _ hk => hk.1), hN.low, hN.len, hN.byt⟩
  · injection he with he; subst he; rw [hN.blk] at hM; cases hM
  · injection he with he; subst he
    obtain ⟨_, _, _, q, _, cells, hc⟩ := hk
    rw [hM] at hc; cases hc
theorem Counts.made (w : World) : Counts (w.alloc (.map #[] 0)) w.heap.size 0 (fun _ => 0) :=
  ⟨.map [], World.ownsMap_made _ _ _ _, fun _ => rfl⟩
theorem zero3 (w : World) : (zeroValue 3).run Try.prog w = .ok (.int .i64 0) w := by rfl
theorem Counts.look {w : World} {M n : Nat} {f : List UInt8 → Int} (h : Counts w M n f) (s : ByteArray) (hs : s.size ≤ maxLen) : (Instr.lookup 28 (.map (some M)) (.string s) false).run Try.prog w = .ok (.int .i64 (f s.data.toList)) w := by
  obtain ⟨D, hD, hf⟩ := h
  obtain ⟨c, hrun, hat, _⟩ := hD.lookup_int (Maps.string_keyed Try.underlying9) Try.underlying28 Try.underlying3 (zero3 w) (keyOf_string_mk Try.underlying9 hs)
  rw [hf] at hat
  injection hat with hat
  injection hat with _ hat
  rw [hrun, ← hat]
def bump (f : List UInt8 → Int) (s : List UInt8) (x : Int) : List UInt8 → Int := fun t => if t = s then x else f t
theorem Counts.put {P : Program} (hP : P = Try.prog) {ops : Array Oper} {rest : List Oper} {o : Oper} {a : Act} {Q : Exit → Act → World → Prop} {w : World} {M n : Nat} {f : List UInt8 → Int} (h : Counts w M n f)
    (hg : o.guard = none) (m x v : Operand) (hop : o.op = Op.mapUpdate 28 m x v) (hm : a.eval m = .map (some M)) (s : ByteArray) (hs : s.size ≤ maxLen) (hx : a.eval x = .string s) (q : Int) (hv : a.eval v = .int .i64 q)
    (hq : (Lit.int .i64 q).wf = true) (hn : n < maxLen) (hK : ∀ w', Counts w' M (n + 1) (bump f s.data.toList q) → w.grownBy w' (some M) → wpList P ops Q rest (a.put o.dst undef) w') : wpList P ops Q (o :: rest) a w := by
  subst hP
  obtain ⟨D, hD, hf⟩ := h
  refine wpList_mapUpdate_own w hg m x v 28 hop 9 3 (Maps.string_keyed Try.underlying9) Try.underlying28 _ M n D hm hD hn _ _ _ hx hv (keyOf_string_mk Try.underlying9 hs) _ [] (plainElem_int Try.underlying3 hq) ?_
  intro w' hD' hgr
  refine hK w' ⟨_, hD', fun t => ?_⟩ hgr
  have hM : Maps.IsMap D := by obtain ⟨es, clock, _, _, _, hd⟩ := hD; exact ⟨_, hd⟩
  unfold bump
  split
  · rename_i he
    rw [he, Maps.atKey_put_same hM (by simp [WideAt.IsKeyLit])]
  · rename_i he
    rw [Maps.atKey_put_other (by intro hc; injection hc with hc; exact he hc), hf]
end Go.Proofs.Ytgeeioaeonmneaa.Net
