/- The table of types. -/
import Derived.Test.YtcehdakofmhabaaGreatDoorAbRules
import Derived.KernelRfl
namespace Go.Ab
set_option linter.unusedVariables false
set_option linter.unusedSimpArgs false
def isAggD : TypeDesc → Bool
  | .struct _ | .array _ _ => true
  | _ => false
def zerosOf : Option Value → List AV
  | some z => z.cells.toList.map ofConst
  | none => []
def tyI (i u : TypeInfo) : TyI := { d := u.desc, size := i.size, bytes := i.bytes, zs := zerosOf i.zero, agg := isAggD u.desc }
def tyCheck (i u : TypeInfo) : Bool := i.zero.isSome && Nat.beq (zerosOf i.zero).length i.size && (isAggD u.desc || Nat.beq i.size 1)
theorem tyOk_mk {P : Program} {t : Nat} {i u : TypeInfo} (h1 : P.info? t = some i) (h2 : P.underlying t = some u.desc) (h3 : tyCheck i u = true) : TyOk P t (tyI i u) := by
  simp only [tyCheck, Bool.and_eq_true, Bool.or_eq_true] at h3
  obtain ⟨⟨a, b⟩, c⟩ := h3
  obtain ⟨z, hz⟩ := Option.isSome_iff_exists.1 a
  have hb := Nat.eq_of_beq_eq_true b
  refine ⟨h2, ⟨i, z, h1, rfl, rfl, hz, by simp [tyI, zerosOf, hz], fun j c x hc hx E => ?_⟩, rfl, fun hagg => ?_, hb⟩
  · simp only [tyI, zerosOf, hz, List.getElem?_map] at hc
    rw [Array.getElem?_toList, hx] at hc
    simp only [Option.map_some, Option.some.injEq] at hc
    subst hc
    exact ofConst_R x
  · rcases c with c | c
    · have : isAggD u.desc = false := hagg
      rw [this] at c; cases c
    · exact Nat.eq_of_beq_eq_true c
def tyLook : List (Nat × TypeInfo × TypeInfo) → Nat → Option TyI
  | [], _ => none
  | (k, i, u) :: r, t => match Nat.beq k t with
    | true => some (tyI i u)
    | false => tyLook r t
def RowOk (P : Program) (p : Nat × TypeInfo × TypeInfo) : Prop := P.info? p.1 = some p.2.1 ∧ P.underlying p.1 = some p.2.2.desc ∧ tyCheck p.2.1 p.2.2 = true
def TabL (P : Program) (l : List (Nat × TypeInfo × TypeInfo)) : Prop := ∀ p ∈ l, RowOk P p
theorem TabL.nil {P : Program} : TabL P [] := fun p h => by cases h
theorem TabL.cons {P : Program} {p : Nat × TypeInfo × TypeInfo} {l : List (Nat × TypeInfo × TypeInfo)} (h : RowOk P p) (hl : TabL P l) : TabL P (p :: l) := fun q hq => by
  rcases List.mem_cons.1 hq with rfl | hq
  · exact h
  · exact hl q hq
theorem tabOk_of {P : Program} : ∀ {l : List (Nat × TypeInfo × TypeInfo)}, TabL P l → TabOk P (tyLook l)
  | [], _, t, i, h => by cases h
  | (k, a, u) :: r, hl, t, i, h => by
    simp only [tyLook] at h
    split at h
    · rename_i hb
      have := Nat.eq_of_beq_eq_true hb
      subst this
      simp only [Option.some.injEq] at h; subst h
      have h0 := hl (k, a, u) (by simp)
      exact tyOk_mk h0.1 h0.2.1 h0.2.2
    · exact tabOk_of (fun p hp => hl p (List.mem_cons_of_mem _ hp)) t i h
end Go.Ab
