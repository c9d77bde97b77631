/- append keeps to what is told of it. -/
import Derived.Test.YtcehdakofmhabaaGreatDoorAbGrow3
namespace Go.Ab
set_option linter.unusedVariables false
set_option linter.unusedSimpArgs false
section
variable {P : Program} {X : XT} {E : En} {H : List HB} {w : World} {T : Nat → Option TyI}

theorem stand_self (E : En) (t n b cap : Nat) : (E.stand t n b cap).τ t n = some (b, 0, cap) := if_pos ⟨rfl, rfl⟩
theorem stand_other (E : En) {t n b cap t' k : Nat} (h : ¬ (t' = t ∧ k = n)) : (E.stand t n b cap).τ t' k = E.τ t' k := if_neg h
theorem stand_le (E : En) {t n b cap : Nat} (h : E.τ t n = none ∨ E.τ t n = some (b, 0, cap)) : E.le (E.stand t n b cap) := by
  refine ⟨fun _ _ h => h, fun t' k x hx => ?_, fun _ _ _ h => h⟩
  by_cases hk : t' = t ∧ k = n
  · obtain ⟨rfl, rfl⟩ := hk
    rw [stand_self]
    rcases h with h | h
    · rw [h] at hx; cases hx
    · rw [h] at hx; exact hx
  · rw [stand_other E hk]; exact hx

/-- A row has moved to a new block: 'Hn' is the variables behind it. -/
theorem Wr.moved (h : Wr X E H w) (t N cap sz : Nat) (arr : Array Value) (ty : TypeId) (hsz : arr.size = cap * sz) (hN : N ≤ cap)
    (hτ : ∀ m, N ≤ m → E.τ t m = none) (Hn : List HB) (hHn : (t = H.length ∧ Hn = H ++ [.tip N sz]) ∨ (∃ n0 s0, H[t]? = some (.tip n0 s0) ∧ Hn = H.set t (.tip N sz))) :
    Wr X ((E.freeze w.heap.size arr (N * sz)).stand t N w.heap.size cap) Hn (w.alloc (.cells arr ty)) := by
  have hw1 := h.alloc_frozen arr (N * sz) ty
  have hle1 := h.freeze_le arr (N * sz)
  have hle2 : (E.freeze w.heap.size arr (N * sz)).le ((E.freeze w.heap.size arr (N * sz)).stand t N w.heap.size cap) := stand_le _ (.inl (hτ N (Nat.le_refl _)))
  have get : ∀ i x, Hn[i]? = some x → (i = t ∧ x = .tip N sz) ∨ (i ≠ t ∧ H[i]? = some x) := by
    intro i x hx
    rcases hHn with ⟨rfl, rfl⟩ | ⟨n0, s0, h0, rfl⟩
    · rcases getElem?_snoc hx with ⟨hl, h3⟩ | ⟨rfl, h3⟩
      · exact .inr ⟨by omega, h3⟩
      · exact .inl ⟨rfl, h3⟩
    · rw [List.getElem?_set] at hx
      split at hx
      · rename_i hh
        split at hx
        · exact .inl ⟨hh.symm, (Option.some.inj hx).symm⟩
        · cases hx
      · rename_i hh; exact .inr ⟨fun e => hh e.symm, hx⟩
  have len : H.length ≤ Hn.length := by
    rcases hHn with ⟨rfl, rfl⟩ | ⟨n0, s0, h0, rfl⟩ <;> simp
  have tlt : t < Hn.length := by
    rcases hHn with ⟨rfl, rfl⟩ | ⟨n0, s0, h0, rfl⟩
    · simp
    · have := (List.getElem?_eq_some_iff.1 h0).1; simpa using this
  have own : ∀ i b, owns ((E.freeze w.heap.size arr (N * sz)).stand t N w.heap.size cap) Hn i b → (i = t ∧ b = w.heap.size) ∨ (i ≠ t ∧ owns E H i b) := by
    intro i b ho
    rcases ho with ⟨cs, h1, h2⟩ | ⟨n, s, off, c, h1, h2⟩
    · rcases get i _ h1 with ⟨_, h3⟩ | ⟨hne, h3⟩
      · cases h3
      · exact .inr ⟨hne, .inl ⟨cs, h3, h2⟩⟩
    · rcases get i _ h1 with ⟨rfl, h3⟩ | ⟨hne, h3⟩
      · cases h3
        rw [stand_self] at h2
        simp only [Option.some.injEq, Prod.mk.injEq] at h2
        exact .inl ⟨rfl, h2.1.symm⟩
      · rw [stand_other _ (fun hh => hne hh.1)] at h2
        exact .inr ⟨hne, .inr ⟨n, s, off, c, h3, h2⟩⟩
  refine ⟨hw1.frame, hw1.froz, fun i cs hi => ?_, fun t' n' s' ht => ?_, fun i j b h1 h2 => ?_, fun i hi => ?_⟩
  · rcases get i _ hi with ⟨_, h3⟩ | ⟨hne, h3⟩
    · cases h3
    · obtain ⟨b, xs, ty', a1, a2, a3, a4, a5, a6⟩ := hw1.blk i cs h3
      exact ⟨b, xs, ty', a1, a2, a3, a4, a5, fun j c x hc hx => (a6 j c x hc hx).mono hle2⟩
  · rcases get t' _ ht with ⟨rfl, h3⟩ | ⟨hne, h3⟩
    · cases h3
      refine .inr ⟨w.heap.size, cap, arr, ty, stand_self _ _ _ _ _, fun m hm => ?_, heap_alloc_new w _, h.x_new (Nat.le_refl _), fun o ho => ?_, hsz.symm, hN⟩
      · rw [stand_other _ (by omega)]; exact hτ m (by omega)
      · show (if w.heap.size = w.heap.size then (if o < N * sz then arr[o]? else none) else _) = none
        rw [if_pos rfl, if_neg (by omega)]
    · rcases hw1.tip t' n' s' h3 with ⟨a1, a2⟩ | ⟨b, c, xs, ty', a1, a2, a3, a4, a5, a6⟩
      · exact .inl ⟨a1, fun m => by rw [stand_other _ (fun hh => hne hh.1)]; exact a2 m⟩
      · exact .inr ⟨b, c, xs, ty', by rw [stand_other _ (fun hh => hne hh.1)]; exact a1, fun m hm => by rw [stand_other _ (fun hh => hne hh.1)]; exact a2 m hm, a3, a4, a5, a6⟩
  · rcases own i b h1 with ⟨rfl, hb⟩ | ⟨_, o1⟩ <;> rcases own j b h2 with ⟨rfl, hb'⟩ | ⟨_, o2⟩
    · rfl
    · have := owns_lt h o2; omega
    · have := owns_lt h o1; omega
    · exact h.sep i j b o1 o2
  · have hf := h.fresh i (by omega)
    refine ⟨hf.1, fun n => ?_⟩
    rw [stand_other _ (by omega)]; exact hf.2 n

/-- A row has grown where it stands. -/
def En.more (E : En) (b o n : Nat) (xs : List Value) : En := { E with z := fun b' o' => if b' = b ∧ o ≤ o' ∧ o' < n then xs[o' - o]? else E.z b' o' }
theorem more_in (E : En) {b o n o' : Nat} {xs : List Value} (h : o ≤ o' ∧ o' < n) : (E.more b o n xs).z b o' = xs[o' - o]? := if_pos ⟨rfl, h⟩
theorem more_out (E : En) {b o n b' o' : Nat} {xs : List Value} (h : ¬ (b' = b ∧ o ≤ o' ∧ o' < n)) : (E.more b o n xs).z b' o' = E.z b' o' := if_neg h

theorem Wr.grown (h : Wr X E H w) {t n cap sz b : Nat} {cur : Array Value} {ty : TypeId} (ht : H[t]? = some (.tip n sz)) (hτ : E.τ t n = some (b, 0, cap))
    (hb : w.heap[b]? = some (.cells cur ty (0, 0))) (hz : ∀ o, n * sz ≤ o → E.z b o = none) (hcur : cap * sz = cur.size) (m : Nat) (hm : n + m ≤ cap)
    (hmore : ∀ k, n < k → E.τ t k = none) (ys : List Value) (hy : ys.length = m * sz) :
    let E' := (E.more b (n * sz) ((n + m) * sz) ys).stand t (n + m) b cap
    E.le E' ∧ Off X E E' ∧ Wr X E' (H.set t (.tip (n + m) sz)) (w.setRow b (cur.toList.take (n * sz) ++ ys ++ cur.toList.drop (n * sz + ys.length)).toArray) := by
  intro E'
  have hsum : (n + m) * sz = n * sz + m * sz := Nat.add_mul _ _ _
  have hcap : (n + m) * sz ≤ cur.size := by rw [← hcur]; exact Nat.mul_le_mul_right _ hm
  have hown : owns E H t b := .inr ⟨n, sz, 0, cap, ht, hτ⟩
  have hX := owns_x h hown
  have hle : E.le E' := by
    refine ⟨fun _ _ h => h, (stand_le _ ?_).τ, fun b' o v hv => ?_⟩
    · rcases Nat.eq_zero_or_pos m with rfl | hp
      · exact .inr hτ
      · exact .inl (hmore _ (by omega))
    · show (E.more b (n * sz) ((n + m) * sz) ys).z b' o = some v
      rw [more_out]
      · exact hv
      · rintro ⟨rfl, h1, h2⟩
        rw [hz o h1] at hv; cases hv
  have hoff : Off X E E' := by
    intro b' o v h1 h2
    have h1' : (E.more b (n * sz) ((n + m) * sz) ys).z b' o = some v := h1
    by_cases hc : b' = b ∧ n * sz ≤ o ∧ o < (n + m) * sz
    · rw [hc.1]; exact hX
    · rw [more_out E hc, h2] at h1'; cases h1'
  refine ⟨hle, hoff, ?_⟩
  have hlt : b < w.heap.size := (Array.getElem?_eq_some_iff.1 hb).1
  let new := (cur.toList.take (n * sz) ++ ys ++ cur.toList.drop (n * sz + ys.length)).toArray
  have hnew : new.size = cur.size := by simp [new]; omega
  have other : ∀ k, k ≠ b → (w.setRow b new).heap[k]? = w.heap[k]? := fun k hk => setRow_other w b k new hk
  have here : (w.setRow b new).heap[b]? = some (.cells new ty (0, 0)) := setRow_heap w b cur new ty _ hb
  have get : ∀ i x, (H.set t (.tip (n + m) sz))[i]? = some x → (i = t ∧ x = .tip (n + m) sz) ∨ (i ≠ t ∧ H[i]? = some x) := by
    intro i x hx
    rw [List.getElem?_set] at hx
    split at hx
    · rename_i hh
      split at hx
      · exact .inl ⟨hh.symm, (Option.some.inj hx).symm⟩
      · cases hx
    · rename_i hh; exact .inr ⟨fun e => hh e.symm, hx⟩
  have own : ∀ i b', owns E' (H.set t (.tip (n + m) sz)) i b' → owns E H i b' := by
    intro i b' ho
    rcases ho with ⟨cs, h1, h2⟩ | ⟨n', s, off, c, h1, h2⟩
    · rcases get i _ h1 with ⟨_, h3⟩ | ⟨hne, h3⟩
      · cases h3
      · exact .inl ⟨cs, h3, h2⟩
    · rcases get i _ h1 with ⟨rfl, h3⟩ | ⟨hne, h3⟩
      · cases h3
        rw [stand_self] at h2
        simp only [Option.some.injEq, Prod.mk.injEq] at h2
        rw [← h2.1]; exact hown
      · rw [stand_other _ (fun hh => hne hh.1)] at h2
        exact .inr ⟨n', s, off, c, h3, h2⟩
  refine ⟨fun b' o ho => ?_, fun b' o v hv => ?_, fun i cs hi => ?_, fun t' n' s' ht' => ?_, fun i j b' h1 h2 => h.sep i j b' (own i b' h1) (own j b' h2), fun i hi => ?_⟩
  · rw [other b' (fun e => by subst e; rw [hX] at ho; cases ho)]; exact h.frame b' o ho
  · have hv' : (E.more b (n * sz) ((n + m) * sz) ys).z b' o = some v := hv
    by_cases hb' : b' = b
    · subst hb'
      rw [cell_of_row _ b' o new ty _ here]
      by_cases hc : n * sz ≤ o ∧ o < (n + m) * sz
      · rw [more_in E hc] at hv'
        have hol : (cur.toList.take (n * sz)).length = n * sz := by simp; omega
        simp only [new, List.getElem?_toArray, List.append_assoc]
        rw [List.getElem?_append_right (by omega), hol, List.getElem?_append_left (by omega)]
        exact hv'
      · rw [more_out E (fun hh => hc hh.2)] at hv'
        have ho : o < n * sz := by
          rcases Nat.lt_or_ge o (n * sz) with hh | hh
          · exact hh
          · rw [hz o hh] at hv'; cases hv'
        have hcell := h.froz b' o v hv'
        rw [cell_of_row _ b' o cur ty _ hb] at hcell
        simp only [new, List.getElem?_toArray, List.append_assoc]
        rw [List.getElem?_append_left (by simp; omega), List.getElem?_take, if_pos ho]
        simpa using hcell
    · rw [more_out E (fun hh => hb' hh.1)] at hv'
      rw [World.cell?_of_block (w := w) (other b' hb')]
      exact h.froz b' o v hv'
  · rcases get i _ hi with ⟨_, h3⟩ | ⟨hne, h3⟩
    · cases h3
    · obtain ⟨b2, xs, ty', a1, a2, a3, a4, a5, a6⟩ := h.blk i cs h3
      have hb2 : b2 ≠ b := fun e => hne (h.sep i t b (by subst e; exact .inl ⟨cs, h3, a1⟩) hown)
      exact ⟨b2, xs, ty', a1, by rw [other b2 hb2]; exact a2, a3, fun o => (more_out E (fun hh => hb2 hh.1)).trans (a4 o), a5, fun j c x hc hx => (a6 j c x hc hx).mono hle⟩
  · rcases get t' _ ht' with ⟨rfl, h3⟩ | ⟨hne, h3⟩
    · cases h3
      refine .inr ⟨b, cap, new, ty, stand_self _ _ _ _ _, fun k hk => ?_, here, hX, fun o ho => ?_, by rw [hnew]; exact hcur, hm⟩
      · rw [stand_other _ (by omega)]; exact hmore k (by omega)
      · show (E.more b (n * sz) ((n + m) * sz) ys).z b o = none
        rw [more_out E (by omega)]; exact hz o (by omega)
    · rcases h.tip t' n' s' h3 with ⟨a1, a2⟩ | ⟨b2, c, xs, ty', a1, a2, a3, a4, a5, a6⟩
      · exact .inl ⟨a1, fun k => by rw [stand_other _ (fun hh => hne hh.1)]; exact a2 k⟩
      · have hb2 : b2 ≠ b := fun e => hne (h.sep t' t b (by subst e; exact .inr ⟨n', s', 0, c, h3, a1⟩) hown)
        exact .inr ⟨b2, c, xs, ty', by rw [stand_other _ (fun hh => hne hh.1)]; exact a1, fun k hk => by rw [stand_other _ (fun hh => hne hh.1)]; exact a2 k hk, by rw [other b2 hb2]; exact a3, a4,
          fun o ho => (more_out E (fun hh => hb2 hh.1)).trans (a5 o ho), a6⟩
  · have hf := h.fresh i (by simpa using hi)
    have htl : t < H.length := (List.getElem?_eq_some_iff.1 ht).1
    refine ⟨hf.1, fun k => ?_⟩
    rw [stand_other _ (by simp at hi; omega)]; exact hf.2 k
end
end Go.Ab
