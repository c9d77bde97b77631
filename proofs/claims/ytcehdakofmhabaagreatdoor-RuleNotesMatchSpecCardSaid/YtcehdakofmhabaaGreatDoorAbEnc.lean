/- Conditions as values without addresses. -/
import Derived.Test.YtcehdakofmhabaaGreatDoorAbTab
import Derived.Test.YtcehdakofmhabaaGreatDoorAbEsc
namespace Go.Proofs.YtcehdakofmhabaaGreatDoor.Ab
open Go Go.Ab
set_option linter.unusedVariables false
set_option linter.unusedSimpArgs false
inductive Cond where
  | mk (kind : Int) (of : List Cond) (path : List UInt8) (values : List (List UInt8)) (low high : Int)
mutual
def encC : Cond → AV
  | .mk k of p v lo hi => .agg [.int .i64 k, .row 6 (encL of) .no, .str p, .row 1 (v.map .str) .no, .int .i64 lo, .int .i64 hi]
def encL : List Cond → List AV
  | [] => []
  | c :: r => encC c :: encL r
end
theorem encL_eq : ∀ l, encL l = l.map encC
  | [] => by simp [encL]
  | c :: r => by simp [encL, encL_eq r]
/-- A condition's fields in line. -/
def Cond.cs : Cond → List AV
  | .mk k of p v lo hi => [.int .i64 k, .row 6 (encL of) .no, .str p, .row 1 (v.map .str) .no, .int .i64 lo, .int .i64 hi]
theorem encC_cs (c : Cond) : encC c = .agg c.cs := by cases c; simp [encC, Cond.cs]
theorem encC_cells (c : Cond) : (encC c).cells = c.cs := by rw [encC_cs]; rfl
theorem cs_len (c : Cond) : c.cs.length = 6 := by cases c; rfl
theorem cs_toG (c : Cond) : ∀ x ∈ c.cs, x.toG = some x := by
  cases c
  intro x hx
  simp only [Cond.cs, List.mem_cons, List.not_mem_nil, or_false] at hx
  rcases hx with rfl | rfl | rfl | rfl | rfl | rfl <;> rfl
def zeroC : Cond := .mk 0 [] [] [] 0 0
theorem fits_enc0 (I : Nat → Nat → Prop) (c : Cond) : fitsL (fits0 I) c.cs c.cs := by
  cases c
  exact ⟨⟨rfl, rfl⟩, ⟨trivial, .inr rfl, rfl⟩, rfl, ⟨trivial, .inr rfl, rfl⟩, ⟨rfl, rfl⟩, ⟨rfl, rfl⟩, trivial⟩
theorem fits_enc (n : Nat) (c : Cond) : fits n (encC c) (encC c) := by rw [encC_cs]; exact fits_enc0 _ c
theorem fits_enc1 (I : Nat → Nat → Prop) (c : Cond) : fits1 I (encC c) (encC c) := by rw [encC_cs]; exact fits_enc0 _ c
theorem cs_fits (I : Nat → Nat → Prop) (c : Cond) : ∀ x ∈ c.cs, fits1 I x x := by
  cases c
  intro x hx
  simp only [Cond.cs, List.mem_cons, List.not_mem_nil, or_false] at hx
  rcases hx with rfl | rfl | rfl | rfl | rfl | rfl
  · exact ⟨rfl, rfl⟩
  · exact ⟨trivial, .inr rfl, rfl⟩
  · exact rfl
  · exact ⟨trivial, .inr rfl, rfl⟩
  · exact ⟨rfl, rfl⟩
  · exact ⟨rfl, rfl⟩
theorem encL_cells (l : List Cond) : ∀ e ∈ encL l, e.cells.length = 6 := by
  rw [encL_eq]
  intro e he
  obtain ⟨c, _, rfl⟩ := List.mem_map.1 he
  rw [encC_cells]; exact cs_len c
theorem encL_toG (l : List Cond) : ∀ e ∈ encL l, e.cells.length = 6 ∧ ∀ c ∈ e.cells, c.toG = some c := by
  rw [encL_eq]
  intro e he
  obtain ⟨c, _, rfl⟩ := List.mem_map.1 he
  rw [encC_cells]; exact ⟨cs_len c, cs_toG c⟩
theorem encL_fits (I : Nat → Nat → Prop) (l : List Cond) (k : Nat) : fitsL (fits1 I) ((encL l).flatMap AV.cells ++ List.replicate k .undef) ((encL l).flatMap AV.cells ++ List.replicate k .undef) := by
  refine fitsL_refl fun c hc => ?_
  rcases List.mem_append.1 hc with h | h
  · obtain ⟨e, he, hc⟩ := List.mem_flatMap.1 h
    rw [encL_eq] at he
    obtain ⟨x, _, rfl⟩ := List.mem_map.1 he
    rw [encC_cells] at hc
    exact cs_fits I x c hc
  · rw [(List.mem_replicate.1 h).2]; trivial
theorem wrap_id {n : Int} (h0 : -9223372036854775808 ≤ n) (h1 : n < 9223372036854775808) : IntKind.i64.wrap n = n := by rw [IntKind.wrap_i64]; omega
theorem mix : Tryz.prog.follows .mixedOrders = true := by kernel_rfl
end Go.Proofs.YtcehdakofmhabaaGreatDoor.Ab
