/- Tags and kinds of notes: both sides say the same. -/
import Derived.Test.YtcehdakofmhabaaGreatDoorAbNote
namespace Go.Proofs.YtcehdakofmhabaaGreatDoor.Ab
open Go Go.Ab Go.RowKit
set_option linter.unusedVariables false
set_option linter.unusedSimpArgs false
def refTag (s : List UInt8) : Bool := decide (s.length ≥ 2) && (begL true s && decide (s.length ≤ 6))
theorem dw_nil {α : Type} (p : α → Bool) (l : List α) : (l.dropWhile p = []) ↔ ∀ x ∈ l, p x = true := by
  induction l with
  | nil => simp
  | cons a l ih =>
    rw [List.dropWhile_cons]
    cases h : p a <;> simp [h, ih]
theorem trimS_nil (l cs : List UInt8) : (Go.Lib.trimS l cs = []) ↔ ∀ b ∈ l, b ∈ cs := by
  unfold Go.Lib.trimS Go.Lib.trimLeftS Go.Lib.trimRightS
  rw [dw_nil]
  simp only [List.contains_eq_mem, decide_eq_true_eq]
  constructor
  · intro h b hb
    by_cases hm : b ∈ List.dropWhile (fun x => decide (x ∈ cs)) l.reverse
    · exact h b (by simpa using hm)
    · have hb2 : b ∈ List.takeWhile (fun x => decide (x ∈ cs)) l.reverse ++ List.dropWhile (fun x => decide (x ∈ cs)) l.reverse := by
        rw [List.takeWhile_append_dropWhile]; simpa using hb
      rcases List.mem_append.1 hb2 with h3 | h3
      · have := List.all_eq_true.1 (List.all_takeWhile (p := fun x => decide (x ∈ cs)) (l := l.reverse)) b h3
        simpa using this
      · exact absurd h3 hm
  · intro h b hb
    have hb' : b ∈ List.dropWhile (fun x => decide (x ∈ cs)) l.reverse := by simpa using hb
    have := (List.dropWhile_sublist (fun x => decide (x ∈ cs)) (l := l.reverse)).subset hb'
    exact h b (by simpa using this)
theorem tagSet_mem (b : UInt8) : decide (b ∈ tagSet) = (cap b || dig b) := by
  have h : ∀ n : Fin 256, decide ((UInt8.ofNat n.val) ∈ tagSet) = (cap (UInt8.ofNat n.val) || dig (UInt8.ofNat n.val)) := by decide +kernel
  have := h ⟨b.toNat, b.toNat_lt⟩
  simpa using this
theorem caps_index (b : UInt8) : decide (Lib.indexByte caps b ≥ 0) = cap b := by
  have h : ∀ n : Fin 256, decide (Lib.indexByte caps (UInt8.ofNat n.val) ≥ 0) = cap (UInt8.ofNat n.val) := by decide +kernel
  have := h ⟨b.toNat, b.toNat_lt⟩
  simpa using this
theorem begL_all : ∀ r : List UInt8, begL false r = r.all fun b => cap b || dig b
  | [] => rfl
  | b :: r => by
    rw [begL, List.all_cons, begL_all r]
    cases cap b <;> cases dig b <;> simp
theorem refTag_eq (s : List UInt8) : refTag s = ruleTag s := by
  unfold refTag ruleTag
  rw [caps_index]
  have ht : (Lib.trimS s tagSet == []) = s.all fun b => cap b || dig b := by
    rw [Bool.eq_iff_iff, beq_iff_eq, trimS_nil, List.all_eq_true]
    constructor
    · intro h b hb; rw [← tagSet_mem]; simpa using h b hb
    · intro h b hb; have := h b hb; rw [← tagSet_mem] at this; simpa using this
  rw [ht]
  cases s with
  | nil => rfl
  | cons b r =>
    rw [begL, begL_all, List.all_cons]
    simp only [List.headD_cons]
    generalize (r.all fun b => cap b || dig b) = x
    generalize decide ((b :: r).length ≥ 2) = y
    generalize decide ((b :: r).length ≤ 6) = z
    cases cap b <;> cases dig b <;> cases x <;> cases y <;> cases z <;> rfl
theorem noteKind_eq (k : Int) (h0 : 0 ≤ k) (h1 : k < 256) : noteKind k = (k == 80 || k == 82 || k == 69 || k == 67 || k == 76) := by
  have h : ∀ n : Fin 256, noteKind (n.val : Int) = ((n.val : Int) == 80 || (n.val : Int) == 82 || (n.val : Int) == 69 || (n.val : Int) == 67 || (n.val : Int) == 76) := by decide +kernel
  have := h ⟨k.toNat, by omega⟩
  have e : (k.toNat : Int) = k := by omega
  simpa [e] using this
end Go.Proofs.YtcehdakofmhabaaGreatDoor.Ab
