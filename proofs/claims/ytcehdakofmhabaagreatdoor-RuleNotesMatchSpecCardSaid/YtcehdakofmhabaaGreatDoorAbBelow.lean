/- Contracts that the kit has already: nothing that was there is changed. -/
import Derived.Test.YtcehdakofmhabaaGreatDoorAbHanded
import Derived.Below
namespace Go.Ab
set_option linter.unusedVariables false
set_option linter.unusedSimpArgs false
open Go.RowKit
section
variable {P : Program} {X : XT} {E : En} {H : List HB} {w w' : World}
theorem below_heap (hb : Below w.heap.size w w') {b : Nat} {o : Obj} (h : w.heap[b]? = some o) : w'.heap[b]? = some o :=
  (hb.block b (Array.getElem?_eq_some_iff.1 h).1).trans h
theorem Wr.below (h : Wr X E H w) (hb : Below w.heap.size w w') : Wr X E H w' := by
  refine ⟨fun b o hx => below_heap hb (h.frame b o hx), fun b o v hz => ?_, fun i cs hi => ?_, fun t n s ht => ?_, h.sep, h.fresh⟩
  · have hc := h.froz b o v hz
    rw [World.cell?_of_block (w := w) (hb.block b (h.z_lt hz))]; exact hc
  · obtain ⟨b, xs, ty, a1, a2, a3⟩ := h.blk i cs hi
    exact ⟨b, xs, ty, a1, below_heap hb a2, a3⟩
  · rcases h.tip t n s ht with h0 | ⟨b, cap, xs, ty, a1, a2, a3, a4⟩
    · exact .inl h0
    · exact .inr ⟨b, cap, xs, ty, a1, a2, below_heap hb a3, a4⟩
/-- A contract of the kit, as one of these. -/
theorem ret_below {f : Nat} {args : List AV} {r : AV} (hE : Enters P f) (h : ∀ E w (xs : Array Value), GQ w → (∀ b o v, E.z b o = some v → w.cell? ⟨b, o, none⟩ = some v) → Rs E args xs.toList → Calls P f xs w fun e w' => ∃ x, e = .returned x ∧ Below w.heap.size w w' ∧ R E r x) : Ret P f args [] r [] :=
  ⟨hE, fun X E w xs hw hxs => (h E w xs (X.ok w hw.frame) hw.froz hxs).mono fun e w' ⟨x, he, hb, hr⟩ => ⟨x, E, he, .refl _, .refl _ _, hw.below hb, ⟨hb.os, hb.tape, hb.output, hb.size⟩, hr⟩⟩
/-- The world that a law's call begins in: all that is there is left alone, and its cells are known. -/
def En.start (w : World) : En := { φ := fun _ => none, τ := fun _ _ => none, z := fun b o => w.cell? ⟨b, o, none⟩ }
theorem Wr.start (w : World) (hG : GQ w) : Wr ⟨fun b => w.heap[b]?, fun _ h => hG.keep h⟩ (En.start w) [] w :=
  ⟨fun _ _ h => h, fun _ _ _ h => h, fun _ _ h => by simp at h, fun _ _ _ h => by simp at h, fun i j b h1 _ => by rcases h1 with ⟨_, h1, _⟩ | ⟨_, _, _, _, h1, _⟩ <;> simp at h1, fun _ _ => ⟨rfl, fun _ => rfl⟩⟩
/-- A law's contract, as the claim's frame asks for it. -/
theorem calls_of_ret {f : Nat} {args : List AV} {b : Bool} (h : Ret P f args [] (.bool b) []) (w : World) (hG : GQ w) (xs : Array Value) (hxs : Rs (En.start w) args xs.toList) :
    Calls P f xs w fun e w' => e = .returned (.bool b) ∧ Below w.heap.size w w' :=
  (h.2 _ _ w xs (Wr.start w hG) hxs).mono fun e w' ⟨x, E', he, _, _, hw, hx, hr⟩ => by
    rw [hr.bool_inv] at he
    refine ⟨he, hx.os, hx.tape, hx.output, hx.size, fun k hk => ?_⟩
    have hk' : w.heap[k]? = some w.heap[k] := Array.getElem?_eq_getElem hk
    rw [hk']
    exact hw.frame k _ hk'
end
end Go.Ab
