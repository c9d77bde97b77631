/- Rows that grow: append. -/
import Derived.Test.YtcehdakofmhabaaGreatDoorAbGrow2
namespace Go.Ab
set_option linter.unusedVariables false
set_option linter.unusedSimpArgs false
section
variable {P : Program} {X : XT} {E : En} {H : List HB} {w : World} {T : Nat → Option TyI}

theorem run_app_nil (t u ty e e' : TypeId) (i : TypeInfo) (z : Value) (ht : P.underlying t = some (.slice e)) (hu : P.underlying u = some (.slice e')) (hi : P.info? e = some i) (hz : i.zero = some z)
    (a : Addr) (n c : Nat) (news : List Value) (hl : news.length = n * i.size) (hnews : ∀ (j : Nat) (v : Value), news[j]? = some v → w.cell? (a.add j) = some v)
    (h0 : 0 < n) (h63 : (n : Int) ≤ 9223372036854775807) (h48 : n * i.bytes ≤ 281474976710656) :
    (Builtin.append_ #[t, u] ty #[.slice none 0 0, .slice (some a) n c]).run P w =
      .ok (.slice (some ⟨w.heap.size, 0, none⟩) n (grownCap w n 0 e)) (w.drew.alloc (.cells (news.toArray ++ Builtin.zeroCells z.cells (grownCap w n 0 e - n)) e)) := by
  have hn : n ≠ 0 := by omega
  have h63' : ¬ (9223372036854775807 < (n : Int)) := by omega
  have h48' : ¬ (281474976710656 < Builtin.nextslicecap n 0 * i.bytes) := by rw [nextslicecap_zero h0]; omega
  have hf := run_firstCells_some (P := P) w.drew i.size n a n c news hl (by simpa using hnews)
  simp [Builtin.append_, run_underlying ht, run_underlying hu, sizeOf, typeInfo, zeroValue, hi, hz, Builtin.lenOf, hn, h63', h48', Question.forced, run_firstCells_none, hf, newRow, grownCap]
theorem run_app_grow (t u ty e e' : TypeId) (i : TypeInfo) (z : Value) (ht : P.underlying t = some (.slice e)) (hu : P.underlying u = some (.slice e')) (hi : P.info? e = some i) (hz : i.zero = some z)
    (b : Addr) (sLen sCap : Nat) (olds : List Value) (hlo : olds.length = sLen * i.size) (holds : ∀ (j : Nat) (v : Value), olds[j]? = some v → w.cell? (b.add j) = some v)
    (a : Addr) (n c : Nat) (news : List Value) (hl : news.length = n * i.size) (hnews : ∀ (j : Nat) (v : Value), news[j]? = some v → w.cell? (a.add j) = some v)
    (hg : sCap < sLen + n) (h63 : ((sLen + n : Nat) : Int) ≤ 9223372036854775807) (hfit : Builtin.nextslicecap (sLen + n) sCap * i.bytes ≤ 281474976710656) :
    (Builtin.append_ #[t, u] ty #[.slice (some b) sLen sCap, .slice (some a) n c]).run P w =
      .ok (.slice (some ⟨w.heap.size, 0, none⟩) (sLen + n) (grownCap w (sLen + n) sCap e))
        (w.drew.alloc (.cells (olds.toArray ++ news.toArray ++ Builtin.zeroCells z.cells (grownCap w (sLen + n) sCap e - (sLen + n))) e)) := by
  have hn : ¬ (sLen + n ≤ sCap) := by omega
  have h63' : ¬ (9223372036854775807 < ((sLen : Int) + (n : Int))) := by omega
  have h48' : ¬ (281474976710656 < Builtin.nextslicecap (sLen + n) sCap * i.bytes) := by omega
  have hf := run_firstCells_some (P := P) w.drew i.size n a n c news hl (by simpa using hnews)
  have hfo := run_firstCells_some (P := P) w.drew i.size sLen b sLen sCap olds hlo (by simpa using holds)
  simp [Builtin.append_, run_underlying ht, run_underlying hu, sizeOf, typeInfo, zeroValue, hi, hz, Builtin.lenOf, hn, h63', h48', Question.forced, hf, hfo, newRow, grownCap]
  congr 2
  apply Array.ext'
  simp [List.append_assoc]
theorem run_app_room (t u ty e e' e2 : TypeId) (i : TypeInfo) (ht : P.underlying t = some (.slice e)) (hu : P.underlying u = some (.slice e')) (hi : P.info? e = some i)
    (g sLen sCap : Nat) (cur : Array Value) (hg : w.heap[g]? = some (.cells cur e2 (0, 0)))
    (a : Addr) (m c : Nat) (news : List Value) (hl : news.length = m * i.size) (hnews : ∀ (j : Nat) (u : Value), news[j]? = some u → w.cell? (a.add j) = some u) (h1 : ∀ u ∈ news, u.oneCell' = true)
    (hroom : sLen + m ≤ sCap) (hfit : sLen * i.size + news.length ≤ cur.size) :
    (Builtin.append_ #[t, u] ty #[.slice (some ⟨g, 0, none⟩) sLen sCap, .slice (some a) m c]).run P w =
      .ok (.slice (some ⟨g, 0, none⟩) (sLen + m) sCap) (w.setRow g (cur.toList.take (sLen * i.size) ++ news ++ cur.toList.drop (sLen * i.size + news.length)).toArray) := by
  have hf := run_firstCells_some (P := P) w i.size m a m c news hl hnews
  have hst := run_storeCells_at P g (sLen * i.size) e2 news 0 cur w hg (by simpa using hfit) h1
  simp only [Nat.add_zero] at hst
  simp [Builtin.append_, run_underlying ht, run_underlying hu, sizeOf, typeInfo, hi, Builtin.lenOf, hroom, hf, Addr.add_lit, hst]
/-- Nothing is put behind. -/
theorem run_app_none (t u ty e e' : TypeId) (i : TypeInfo) (ht : P.underlying t = some (.slice e)) (hu : P.underlying u = some (.slice e')) (hi : P.info? e = some i)
    (A B : Option Addr) (n cap c : Nat) (h : n ≤ cap) : (Builtin.append_ #[t, u] ty #[.slice A n cap, .slice B 0 c]).run P w = .ok (.slice A n cap) w := by
  have hl : ∀ (x : Addr), (loadCells x 0).run P w = .ok #[] w := fun x => by simpa using run_loadCells_list (P := P) w x [] (by simp)
  cases A <;> cases B <;> simp [Builtin.append_, run_underlying ht, run_underlying hu, sizeOf, typeInfo, hi, Builtin.lenOf, h, Builtin.firstCells, hl, storeCells]

/-- The cells behind a row. -/
theorem row_cells {z : Nat → Nat → Option Value} {sz : Nat} {l : List AV} {A : Option Addr} {n cap : Nat} (h : G z (.row sz l .no) (.slice A n cap)) (hsz : 1 ≤ sz) : n = l.length ∧ n ≤ cap ∧ ((A = none ∧ n = 0 ∧ cap = 0) ∨ (∃ a, A = some a ∧ n = 0) ∨ ∃ b off, ∃ xs : List Value, A = some ⟨b, off, none⟩ ∧ xs.length = n * sz ∧
    (∀ (j : Nat) (v : Value), xs[j]? = some v → z b (off + j) = some v ∧ v.oneCell' = true) ∧
    (∀ (i : Nat) (e : AV), l[i]? = some e → e.cells.length = sz) ∧
    ∀ (i : Nat) (e : AV) (j : Nat) (c : AV), l[i]? = some e → e.cells[j]? = some c → ∃ x, xs[i * sz + j]? = some x ∧ G z c x) := by
  cases h with
  | row0 => exact ⟨rfl, Nat.le_refl _, .inl ⟨rfl, rfl, rfl⟩⟩
  | row00 _ a cap => exact ⟨rfl, by simp, .inr (.inl ⟨a, rfl, rfl⟩)⟩
  | row _ _ b off _ vs h1 h2 h3 h4 h5 =>
    refine ⟨rfl, h1, .inr (.inr ⟨b, off, (List.range (l.length * sz)).map (fun q => vs (q / sz) (q % sz)), rfl, by simp, fun j v hv => ?_, h3, fun i e j c he hc => ?_⟩)⟩
    · have hj : j < l.length * sz := by have := (List.getElem?_eq_some_iff.1 hv).1; simpa using this
      simp [hj] at hv
      subst hv
      have hi : j / sz < l.length := Nat.div_lt_of_lt_mul (by rwa [Nat.mul_comm])
      have he := List.getElem?_eq_getElem hi
      have hc : j % sz < (l[j / sz]).cells.length := by rw [h3 _ _ he]; exact Nat.mod_lt _ (by omega)
      have hcc := List.getElem?_eq_getElem hc
      refine ⟨?_, (h5 _ _ _ _ he hcc).one⟩
      have := h4 _ _ _ _ he hcc
      rwa [show off + j / sz * sz + j % sz = off + j by have := Nat.div_add_mod j sz; rw [Nat.mul_comm] at this; omega] at this
    · have hi := (List.getElem?_eq_some_iff.1 he).1
      have hj : j < sz := by have := (List.getElem?_eq_some_iff.1 hc).1; rwa [h3 _ _ he] at this
      have hq : i * sz + j < l.length * sz := by
        have : (i + 1) * sz ≤ l.length * sz := Nat.mul_le_mul_right _ hi
        rw [Nat.add_mul] at this; omega
      refine ⟨vs i j, ?_, h5 _ _ _ _ he hc⟩
      have d1 : (i * sz + j) / sz = i := by rw [Nat.mul_comm, Nat.mul_add_div (by omega), Nat.div_eq_of_lt hj, Nat.add_zero]
      have d2 : (i * sz + j) % sz = j := by rw [Nat.mul_comm, Nat.mul_add_mod, Nat.mod_eq_of_lt hj]
      simp [hq, d1, d2]

/-- Where a growing row stands after a step. -/
def En.stand (E : En) (t n b cap : Nat) : En := { E with τ := fun t' k => if t' = t ∧ k = n then some (b, 0, cap) else E.τ t' k }

/-- Two rows, one behind the other. -/
theorem row_append {z : Nat → Nat → Option Value} {b sz cap : Nat} {l m : List AV} {xs ys : List Value} (hsz : 1 ≤ sz)
    (hx : xs.length = l.length * sz) (hy : ys.length = m.length * sz) (hcap : l.length + m.length ≤ cap) (hbig : l.length + m.length ≤ big)
    (hz : ∀ (j : Nat) (v : Value), (xs ++ ys)[j]? = some v → z b j = some v)
    (h1 : ∀ (i : Nat) (e : AV), l[i]? = some e → e.cells.length = sz) (h2 : ∀ (i : Nat) (e : AV), m[i]? = some e → e.cells.length = sz)
    (g1 : ∀ (i : Nat) (e : AV) (j : Nat) (c : AV), l[i]? = some e → e.cells[j]? = some c → ∃ x, xs[i * sz + j]? = some x ∧ G z c x)
    (g2 : ∀ (i : Nat) (e : AV) (j : Nat) (c : AV), m[i]? = some e → e.cells[j]? = some c → ∃ x, ys[i * sz + j]? = some x ∧ G z c x) :
    G z (.row sz (l ++ m) .no) (.slice (some ⟨b, 0, none⟩) (l.length + m.length) cap) := by
  have key : ∀ (i : Nat) (e : AV) (j : Nat) (c : AV), (l ++ m)[i]? = some e → e.cells[j]? = some c → ∃ x, (xs ++ ys)[i * sz + j]? = some x ∧ G z c x := by
    intro i e j c he hc
    by_cases hi : i < l.length
    · rw [List.getElem?_append_left hi] at he
      obtain ⟨x, hx', hg⟩ := g1 i e j c he hc
      refine ⟨x, ?_, hg⟩
      rw [List.getElem?_append_left (List.getElem?_eq_some_iff.1 hx').1]; exact hx'
    · rw [List.getElem?_append_right (by omega)] at he
      obtain ⟨x, hx', hg⟩ := g2 _ e j c he hc
      refine ⟨x, ?_, hg⟩
      have : l.length * sz ≤ i * sz := Nat.mul_le_mul_right _ (by omega)
      rw [List.getElem?_append_right (by omega), ← hx', hx]
      congr 1
      rw [Nat.sub_mul]; omega
  have hlen : (l ++ m).length = l.length + m.length := by simp
  rw [← hlen]
  refine G.row sz (l ++ m) b 0 cap (fun i j => (xs ++ ys).getD (i * sz + j) Go.undef) (by omega) (by omega) (fun i e he => ?_) (fun i e j c he hc => ?_) (fun i e j c he hc => ?_)
  · by_cases hi : i < l.length
    · rw [List.getElem?_append_left hi] at he; exact h1 i e he
    · rw [List.getElem?_append_right (by omega)] at he; exact h2 _ e he
  · obtain ⟨x, hx', _⟩ := key i e j c he hc
    rw [Nat.zero_add, hz _ _ hx', List.getD, hx']; rfl
  · obtain ⟨x, hx', hg⟩ := key i e j c he hc
    rw [List.getD, hx']; exact hg
end
end Go.Ab
