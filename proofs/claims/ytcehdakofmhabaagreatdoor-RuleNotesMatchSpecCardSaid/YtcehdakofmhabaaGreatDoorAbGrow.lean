/- Composites, new rows, rows that grow. -/
import Derived.Test.YtcehdakofmhabaaGreatDoorAbRows
namespace Go.Ab
set_option linter.unusedVariables false
set_option linter.unusedSimpArgs false
section
variable {P : Program} {X : XT} {E : En} {H : List HB} {w : World} {T : Nat → Option TyI}

theorem foldl_set (us : List Value) : ∀ (off k : Nat) (xs : Array Value), off + k + us.length ≤ xs.size →
    ((us.zipIdx k).foldl (fun (cs : Array Value) (p : Value × Nat) => cs.setIfInBounds (off + p.2) p.1) xs).toList = xs.toList.take (off + k) ++ us ++ xs.toList.drop (off + k + us.length) := by
  induction us with
  | nil => intro off k xs h; simp
  | cons u r ih =>
    intro off k xs h
    simp only [List.length_cons] at h
    simp only [List.zipIdx_cons, List.foldl_cons]
    rw [ih off (k + 1) _ (by simp; omega)]
    rw [Array.toList_setIfInBounds]
    apply List.ext_getElem?
    intro j
    simp only [List.append_assoc, List.getElem?_append, List.length_take, List.length_set, Array.length_toList, List.length_cons, List.getElem?_take, List.getElem?_set, List.getElem?_drop]
    by_cases h1 : j < off + k
    · have : j < min (off + (k + 1)) xs.size := by omega
      have h2 : j < min (off + k) xs.size := by omega
      simp [this, h2, h1, show j < off + (k + 1) by omega, show ¬ (off + k = j) by omega]
    · by_cases h2 : j = off + k
      · subst h2
        have a1 : off + k < min (off + (k + 1)) xs.size := by omega
        have a2 : ¬ off + k < min (off + k) xs.size := by omega
        have a3 : min (off + k) xs.size = off + k := by omega
        simp [a1, a2, a3, show off + k < xs.size by omega, show off + k < off + (k + 1) by omega]
      · have a1 : ¬ j < min (off + (k + 1)) xs.size := by omega
        have a2 : ¬ j < min (off + k) xs.size := by omega
        have m1 : min (off + (k + 1)) xs.size = off + k + 1 := by omega
        have m2 : min (off + k) xs.size = off + k := by omega
        rw [if_neg a1, if_neg a2, m1, m2]
        have e1 : j - (off + k) = (j - (off + k + 1)) + 1 := by omega
        rw [e1, List.getElem?_cons_succ]
        by_cases h3 : j - (off + k + 1) < r.length
        · rw [if_pos h3, if_pos (by omega)]
        · rw [if_neg h3, if_neg (by omega), if_neg (by omega)]
          congr 1
          omega

theorem fill_ok (place place' : Nat → Option (Nat × Nat)) (hpl : ∀ i x, place i = some x → place' i = some x) : ∀ (parts : List (Nat × AV)) (us : List (Nat × Value)) (cs : List AV) (xs : Array Value) (cs' : List AV),
    parts.length = us.length → (∀ (j : Nat) (p : Nat × AV) (q : Nat × Value), parts[j]? = some p → us[j]? = some q → p.1 = q.1 ∧ R E p.2 q.2 ∧ p.2.cells.all AV.leaf = true) → Rs E cs xs.toList →
    aFill place cs parts = some cs' → ∃ xs', Instr.fill place' xs us = some xs' ∧ Rs E cs' xs'.toList
  | [], us, cs, xs, cs', hl, _, hr, h => by
    cases us with
    | nil => simp only [aFill, Option.some.injEq] at h; subst h; exact ⟨xs, rfl, hr⟩
    | cons _ _ => simp at hl
  | (i, v) :: rest, us, cs, xs, cs', hl, hp, hr, h => by
    cases us with
    | nil => simp at hl
    | cons q us =>
      obtain ⟨i', u⟩ := q
      obtain ⟨h1, h2, h3⟩ := hp 0 (i, v) (i', u) rfl rfl
      simp only at h1; subst h1
      simp only [aFill] at h
      split at h
      · cases h
      · rename_i off size hpl1
        split at h
        · rename_i g1 g2
          have g1 := Nat.eq_of_beq_eq_true g1
          have g2 := Nat.le_of_ble_eq_true g2
          obtain ⟨hrs, _⟩ := cells_Rs h2 h3
          have hlen := hrs.1
          have hlx := hr.1
          simp only [Array.length_toList] at hlen hlx
          have hfs := foldl_set u.cells.toList off 0 xs (by simp; omega)
          simp only [Nat.add_zero, Array.length_toList] at hfs
          have hset := Rs.setAt hr hrs off
          simp only [Array.length_toList] at hset
          rw [← hfs] at hset
          obtain ⟨xs', e1, e2⟩ := fill_ok place place' hpl rest us _ (u.cells.zipIdx.foldl (fun cs (c, j) => cs.setIfInBounds (off + j) c) xs) cs' (by simpa using hl)
            (fun j p q hj hq => hp (j + 1) p q (by simpa using hj) (by simpa using hq)) (by
              have : (u.cells.zipIdx.foldl (fun cs (c, j) => cs.setIfInBounds (off + j) c) xs) = ((u.cells.toList.zipIdx 0).foldl (fun (cs : Array Value) (p : Value × Nat) => cs.setIfInBounds (off + p.2) p.1) xs) := by
                rw [← Array.foldl_toList, Array.toList_zipIdx]
              rw [this]; exact hset) h
          refine ⟨xs', ?_, e2⟩
          simp only [Instr.fill, hpl _ _ hpl1]
          rw [if_neg]
          · exact e1
          · simp; omega
        · cases h

theorem evParts_ok {s : St} {nt : Nat} {a : Act} (h : Rel X E s nt a w) : ∀ (ps : List (Nat × Operand)) (vs : List (Nat × AV)), evParts s ps = some vs →
    vs.length = ps.length ∧ ∀ (j : Nat) (p : Nat × AV) (q : Nat × Value), vs[j]? = some p → (ps.map fun p => (p.1, a.eval p.2))[j]? = some q → p.1 = q.1 ∧ R E p.2 q.2 ∧ p.2.cells.all AV.leaf = true
  | [], vs, hv => by simp only [evParts, Option.some.injEq] at hv; subst hv; simp
  | (i, x) :: r, vs, hv => by
    simp only [evParts] at hv
    split at hv
    · cases hv
    · rename_i v h1
      split at hv
      · cases hv
      · rename_i hleaf
        split at hv
        · cases hv
        · rename_i us h2
          simp only [Option.some.injEq] at hv; subst hv
          obtain ⟨ih1, ih2⟩ := evParts_ok h r us h2
          refine ⟨by simp [ih1], fun j p q hp hq => ?_⟩
          cases j with
          | zero => simp at hp hq; subst hp; subst hq; exact ⟨rfl, h.ev h1, hleaf⟩
          | succ j => exact ih2 j p q (by simpa using hp) (by simpa using hq)

theorem places_list (hT : TabOk P T) : ∀ (fs : List Field), known T fs = true → ∃ pl : List (Nat × Nat), (fs.mapM (m := Sem) fun f => do pure (f.offset, ← sizeOf f.type)).run P w = .ok pl w ∧
    pl.length = fs.length ∧ ∀ (k : Nat) (f : Field) (j : TyI), fs[k]? = some f → T f.type = some j → pl[k]? = some (f.offset, j.size)
  | [], _ => ⟨[], rfl, rfl, by simp⟩
  | f :: r, hk => by
    simp only [known] at hk
    split at hk
    · rename_i j hj
      obtain ⟨pl, h1, h2, h3⟩ := places_list hT r hk
      refine ⟨(f.offset, j.size) :: pl, ?_, by simp [h2], fun k f' j' hf hj' => ?_⟩
      · rw [List.mapM_cons]
        simp only [Sem.run_bind, (hT _ _ hj).run_size, Result.andThen_ok, Sem.run_pure, h1]
      · cases k with
        | zero => simp at hf; subst hf; rw [hj] at hj'; cases hj'; rfl
        | succ k => exact h3 k f' j' (by simpa using hf) hj'
    · cases hk
theorem places_ok (hT : TabOk P T) (fields : Array Field) (hk : known T fields.toList = true) :
    ∃ places : Array (Nat × Nat), (fields.mapM (m := Sem) fun f => do pure (f.offset, ← sizeOf f.type)).run P w = .ok places w ∧ ∀ k x, fieldPlaces T fields k = some x → places[k]? = some x := by
  obtain ⟨pl, h1, h2, h3⟩ := places_list (P := P) (w := w) hT fields.toList hk
  refine ⟨pl.toArray, ?_, fun k x hx => ?_⟩
  · rw [Array.mapM_eq_mapM_toList, Sem.run_map, h1]; rfl
  · unfold fieldPlaces at hx
    split at hx
    · cases hx
    · rename_i f hf
      split at hx
      · cases hx
      · rename_i j hj
        simp only [Option.some.injEq] at hx
        subst hx
        simpa using h3 k f j (by simpa using hf) hj

theorem aBuild_ok (hT : TabOk P T) (hw : Wr X E H w) {t : Nat} {i : TyI} (hi : TyOk P t i) {vs : List (Nat × AV)} {us : Array (Nat × Value)} (hl : vs.length = us.toList.length)
    (hp : ∀ (j : Nat) (p : Nat × AV) (q : Nat × Value), vs[j]? = some p → us.toList[j]? = some q → p.1 = q.1 ∧ R E p.2 q.2 ∧ p.2.cells.all AV.leaf = true) :
    (aBuild i T vs H).Ok fun v' H' => Does P X E (Instr.build t us) w v' H' := by
  have hu := hi.und
  unfold aBuild
  split
  · rename_i fields hd
    rw [hd] at hu
    split
    · rename_i hk
      split
      · rename_i cs hcs
        obtain ⟨z, hz, hr⟩ := hi.run_zero (P := P) (w := w) (E := E)
        obtain ⟨places, hpl, hpl2⟩ := places_ok (P := P) (w := w) hT fields hk
        obtain ⟨xs', e1, e2⟩ := fill_ok (fieldPlaces T fields) (places[·]?) hpl2 vs us.toList i.zs z.cells cs hl hp hr hcs
        exact Does.pure hw (x := .agg xs') (by simp only [Instr.build, Sem.run_bind, hz, run_underlying hu, hpl, Result.andThen_ok, e1]; rfl) (Rs.agg e2)
      · trivial
    · trivial
  · trivial
end
end Go.Ab
