/- What Go's library reads of its own variables: it stands in blocks that no call of this law writes. -/
import Derived.Test.YtcehdakofmhabaaGreatDoorProg
import Derived.Lib.AppendIntMem
import Derived.Below
namespace Go.Ab
/-- Some int stands in internal/bytealg.MaxLen; the table of powers of ten reads as its initialiser lays it. -/
structure GQ (w : World) : Prop where
  mx : ∃ m, w.cell? ⟨0, 0, none⟩ = some (.int .i64 m)
  tab : Lib.TabIs Go.Proofs.Tryz.prog w "internal/strconv.uint64pow10" .u64 Lib.pow10Tab
theorem GQ.keep {w w' : World} (h : GQ w) (hk : ∀ (b : Nat) (o : Obj), w.heap[b]? = some o → w'.heap[b]? = some o) : GQ w' := by
  have same : ∀ b, b < w.heap.size → w'.heap[b]? = w.heap[b]? := fun b hb => by
    rw [hk b _ (Array.getElem?_eq_getElem hb), Array.getElem?_eq_getElem hb]
  obtain ⟨⟨m, hm⟩, ht⟩ := h
  refine ⟨⟨m, ?_⟩, ?_⟩
  · rw [World.cell?_of_block (w := w) (same _ (World.block_lt_of_cell? w _ hm))]; exact hm
  · unfold Lib.TabIs World.var? at *
    cases hg : Go.Proofs.Tryz.prog.globalNamed "internal/strconv.uint64pow10" with
    | none => simp [hg] at ht
    | some g =>
      simp only [hg, Option.bind_some] at ht ⊢
      have hlt : g < w.heap.size := by
        rcases Nat.lt_or_ge g w.heap.size with h' | h'
        · exact h'
        · rw [Array.getElem?_eq_none h'] at ht; simp at ht
      rw [same g hlt]
      exact ht
/-- Blocks that are left alone; what the library reads stands among them. -/
structure XT where
  f : Nat → Option Obj
  ok : ∀ w : World, (∀ (b : Nat) (o : Obj), f b = some o → w.heap[b]? = some o) → GQ w
instance : CoeFun XT fun _ => Nat → Option Obj := ⟨XT.f⟩
end Go.Ab
