/- A call that is handed variables of the caller's. -/
import Derived.Test.YtcehdakofmhabaaGreatDoorAbDraw4
namespace Go.Ab
set_option linter.unusedVariables false
set_option linter.unusedSimpArgs false
section
variable {P : Program}

/-- 'σ' names, for each variable that the callee is told of, the caller's. -/
def inI (σ : List Nat) (i j : Nat) : Prop := σ[j]? = some i
def outI (σ : List Nat) (j i : Nat) : Prop := σ[j]? = some i
def hbI (I : Nat → Nat → Prop) : HB → HB → Prop
  | _, .dead => True
  | .blk cs, .blk ds => fitsL (fits1 I) cs ds
  | .tip a s, .tip b u => a = b ∧ s = u
  | _, _ => False

theorem ret_handed {f : Nat} {args args' : List AV} {r r' : AV} {Hc Hc' : List HB} (σ : List Nat) (H H' : List HB) (h : Ret P f args' Hc r Hc') (hσ : σ.length = Hc.length) (hlen : H'.length = H.length) (hc' : Hc'.length = Hc.length)
    (hdist : ∀ (j j' i : Nat), σ[j]? = some i → σ[j']? = some i → j = j')
    (hin : ∀ (j i : Nat), σ[j]? = some i → ∃ b b0, H[i]? = some b ∧ Hc[j]? = some b0 ∧ hbI (inI σ) b b0)
    (hout : ∀ (j i : Nat), σ[j]? = some i → ∃ b1 b2, Hc'[j]? = some b1 ∧ H'[i]? = some b2 ∧ hbI (outI σ) b1 b2) (hrest : ∀ (i : Nat), (∀ (j : Nat), σ[j]? ≠ some i) → H'[i]? = H[i]?)
    (hfit : fitsL (fitsI (inI σ)) args args') (hres : fitsI (outI σ) r r') : Ret P f args H r' H' := by
  refine ⟨h.1, fun X E w xs hw hxs => ?_⟩
  classical
  let foreign : Nat → Prop := fun b => ∃ i : Nat, (∀ j : Nat, σ[j]? ≠ some i) ∧ owns E H i b
  let X2 : XT := ⟨fun b => if foreign b then w.heap[b]? else X b, fun w1 h1 => X.ok w1 fun b o ho => h1 b o (by
    by_cases hb : foreign b
    · simp only [hb, if_true]; exact hw.frame b o ho
    · simp only [hb, if_false]; exact ho)⟩
  have hX2o : ∀ {b}, foreign b → X2 b = w.heap[b]? := fun h => if_pos h
  have hX2n : ∀ {b}, ¬ foreign b → X2 b = X b := fun h => if_neg h
  let E2 : En := { φ := fun j => σ[j]?.bind E.φ, τ := fun j k => σ[j]?.bind fun i => E.τ i k, z := E.z }
  have renIn : Ren (inI σ) E E2 := ⟨fun i j b hI hb => by show σ[j]?.bind E.φ = some b; rw [show σ[j]? = some i from hI]; exact hb,
    fun i j k x hI hx => by show (σ[j]?.bind fun i => E.τ i k) = some x; rw [show σ[j]? = some i from hI]; exact hx, fun _ _ _ h => h⟩
  have sig : ∀ {j : Nat}, j < Hc.length → ∃ i : Nat, σ[j]? = some i := fun hj => ⟨_, List.getElem?_eq_getElem (by omega)⟩
  have φ2 : ∀ {j i : Nat}, σ[j]? = some i → E2.φ j = E.φ i := fun hji => by show σ[_]?.bind E.φ = _; rw [hji]; rfl
  have τ2 : ∀ {j i : Nat} (k : Nat), σ[j]? = some i → E2.τ j k = E.τ i k := fun k hji => by show (σ[_]?.bind fun i => E.τ i k) = _; rw [hji]; rfl
  have own2 : ∀ (j b : Nat), owns E2 Hc j b → ∃ i : Nat, σ[j]? = some i ∧ owns E H i b := by
    intro j b ho
    have hj : j < Hc.length := by rcases ho with ⟨_, h1, _⟩ | ⟨_, _, _, _, h1, _⟩ <;> exact (List.getElem?_eq_some_iff.1 h1).1
    obtain ⟨i, hi⟩ := sig hj
    obtain ⟨b1, b0, k1, k2, k3⟩ := hin j i hi
    refine ⟨i, hi, ?_⟩
    rcases ho with ⟨cs, h1, h2⟩ | ⟨n, s, off, c, h1, h2⟩
    · rw [k2] at h1; obtain rfl := Option.some.inj h1
      cases b1 with
      | blk ds => exact .inl ⟨ds, k1, by rw [← φ2 hi]; exact h2⟩
      | _ => exact k3.elim
    · rw [k2] at h1; obtain rfl := Option.some.inj h1
      cases b1 with
      | tip m u => obtain ⟨rfl, rfl⟩ := k3; exact .inr ⟨m, u, off, c, k1, by rw [← τ2 _ hi]; exact h2⟩
      | _ => exact k3.elim
  have notForeign : ∀ {i j b : Nat}, σ[j]? = some i → owns E H i b → ¬ foreign b := by
    rintro i j b hji ho ⟨i', hn, ho'⟩
    have := hw.sep i i' b ho ho'
    subst this
    exact hn j hji
  have hw2 : Wr X2 E2 Hc w := by
    refine ⟨fun b o ho => ?_, hw.froz, fun j cs hj => ?_, fun j n s hj => ?_, fun j j' b h1 h2 => ?_, fun j hj => ?_⟩
    · by_cases hb : foreign b
      · rw [hX2o hb] at ho; exact ho
      · rw [hX2n hb] at ho; exact hw.frame b o ho
    · obtain ⟨i, hi⟩ := sig (List.getElem?_eq_some_iff.1 hj).1
      obtain ⟨b1, b0, k1, k2, k3⟩ := hin j i hi
      rw [k2] at hj; obtain rfl := Option.some.inj hj
      cases b1 with
      | blk ds =>
        obtain ⟨b, ys, ty, a1, a2, a3, a4, a5, a6⟩ := hw.blk i ds k1
        have hrs := fitsL_R (E := E) (E2 := E2) (fun a b x hf h => fits1_R renIn h hf) k3 (.of_agg a5 a6)
        exact ⟨b, ys, ty, (φ2 hi).trans a1, a2, (hX2n (notForeign hi (.inl ⟨ds, k1, a1⟩))).trans a3, a4, by simpa using hrs.1, fun q c x hc hx => hrs.2 q c x hc (by simpa using hx)⟩
      | _ => exact k3.elim
    · obtain ⟨i, hi⟩ := sig (List.getElem?_eq_some_iff.1 hj).1
      obtain ⟨b1, b0, k1, k2, k3⟩ := hin j i hi
      rw [k2] at hj; obtain rfl := Option.some.inj hj
      cases b1 with
      | tip m u =>
        obtain ⟨rfl, rfl⟩ := k3
        rcases hw.tip i m u k1 with ⟨a1, a2⟩ | ⟨b, cap, ys, ty, a1, a2, a3, a4, a5⟩
        · exact .inl ⟨a1, fun k => (τ2 k hi).trans (a2 k)⟩
        · exact .inr ⟨b, cap, ys, ty, (τ2 _ hi).trans a1, fun k hk => (τ2 k hi).trans (a2 k hk), a3, (hX2n (notForeign hi (.inr ⟨m, u, 0, cap, k1, a1⟩))).trans a4, a5⟩
      | _ => exact k3.elim
    · obtain ⟨i, hi, o1⟩ := own2 j b h1
      obtain ⟨i', hi', o2⟩ := own2 j' b h2
      have := hw.sep i i' b o1 o2
      subst this
      exact hdist j j' i hi hi'
    · have hn : σ[j]? = none := List.getElem?_eq_none (by omega)
      exact ⟨by show σ[j]?.bind E.φ = none; rw [hn]; rfl, fun n => by show (σ[j]?.bind fun i => E.τ i n) = none; rw [hn]; rfl⟩
  have hxs2 : Rs E2 args' xs.toList := fitsL_R (fun a b x hf h => fitsI_R renIn h hf) hfit hxs
  refine (h.2 X2 E2 w xs hw2 hxs2).mono ?_
  rintro e w' ⟨x, E3, rfl, g1, g2, g3, g4, g5⟩
  let back : Nat → Option Nat := fun t => if h : ∃ j : Nat, σ[j]? = some t then some (Classical.choose h) else none
  have back_some : ∀ {j t : Nat}, σ[j]? = some t → back t = some j := by
    intro j t hjt
    have hex : ∃ j : Nat, σ[j]? = some t := ⟨j, hjt⟩
    show (if h : ∃ j : Nat, σ[j]? = some t then some (Classical.choose h) else none) = some j
    rw [dif_pos hex]
    exact congrArg some (hdist _ _ t (Classical.choose_spec hex) hjt)
  have back_none : ∀ {t : Nat}, (∀ j : Nat, σ[j]? ≠ some t) → back t = none := fun hn => dif_neg (fun ⟨j, hj⟩ => hn j hj)
  let E4 : En := { φ := fun t => match back t with | some j => E3.φ j | none => E.φ t, τ := fun t k => match back t with | some j => E3.τ j k | none => E.τ t k, z := E3.z }
  have φ4 : ∀ {j t : Nat}, σ[j]? = some t → E4.φ t = E3.φ j := fun h => by show (match back _ with | some j => E3.φ j | none => E.φ _) = _; rw [back_some h]
  have τ4 : ∀ {j t : Nat} (k : Nat), σ[j]? = some t → E4.τ t k = E3.τ j k := fun k h => by show (match back _ with | some j => E3.τ j k | none => E.τ _ k) = _; rw [back_some h]
  have φ4n : ∀ {t : Nat}, (∀ j : Nat, σ[j]? ≠ some t) → E4.φ t = E.φ t := fun h => by show (match back _ with | some j => E3.φ j | none => E.φ _) = _; rw [back_none h]
  have τ4n : ∀ {t : Nat} (k : Nat), (∀ j : Nat, σ[j]? ≠ some t) → E4.τ t k = E.τ t k := fun k h => by show (match back _ with | some j => E3.τ j k | none => E.τ _ k) = _; rw [back_none h]
  have le4 : E.le E4 := by
    refine ⟨fun i b hb => ?_, fun t k y hy => ?_, fun b o v hv => g1.z b o v hv⟩
    · by_cases hi : ∃ j : Nat, σ[j]? = some i
      · obtain ⟨j, hj⟩ := hi
        rw [φ4 hj]; exact g1.φ _ _ ((φ2 hj).trans hb)
      · rw [φ4n (fun j hj => hi ⟨j, hj⟩)]; exact hb
    · by_cases hi : ∃ j : Nat, σ[j]? = some t
      · obtain ⟨j, hj⟩ := hi
        rw [τ4 k hj]; exact g1.τ _ _ _ ((τ2 k hj).trans hy)
      · rw [τ4n k (fun j hj => hi ⟨j, hj⟩)]; exact hy
  have renOut : Ren (outI σ) E3 E4 := ⟨fun j i b hI hb => by rw [φ4 hI]; exact hb, fun j i k y hI hy => by rw [τ4 k hI]; exact hy, fun _ _ _ h => h⟩
  have kept : ∀ {i b : Nat}, (∀ j : Nat, σ[j]? ≠ some i) → owns E H i b → w'.heap[b]? = w.heap[b]? := by
    intro i b hn ho
    have hlt := owns_lt hw ho
    have hb : w.heap[b]? = some w.heap[b] := Array.getElem?_eq_getElem hlt
    have := g3.frame b w.heap[b] (by rw [hX2o ⟨i, hn, ho⟩]; exact hb)
    rw [this, hb]
  have znone : ∀ {i b o : Nat}, (∀ j : Nat, σ[j]? ≠ some i) → owns E H i b → E.z b o = none → E3.z b o = none := by
    intro i b o hn ho hz
    cases hz' : E3.z b o with
    | none => rfl
    | some y =>
      have h1 := g2 b o y hz' hz
      rw [hX2o ⟨i, hn, ho⟩, Array.getElem?_eq_getElem (owns_lt hw ho)] at h1
      cases h1
  have xnone : ∀ {b}, X2 b = none → X b = none := by
    intro b hb
    by_cases hf : foreign b
    · obtain ⟨i, hn, ho⟩ := hf
      exact owns_x hw ho
    · rw [hX2n hf] at hb; exact hb
  have ownIn : ∀ {j i b : Nat}, σ[j]? = some i → owns E4 H' i b → owns E3 Hc' j b := by
    intro j i b hji ho
    obtain ⟨b1, b2, k1, k2, k3⟩ := hout j i hji
    rcases ho with ⟨cs, h1, h2⟩ | ⟨n, s, off, c, h1, h2⟩
    · rw [k2] at h1; obtain rfl := Option.some.inj h1
      cases b1 with
      | blk ds => exact .inl ⟨ds, k1, by rw [← φ4 hji]; exact h2⟩
      | _ => exact k3.elim
    · rw [k2] at h1; obtain rfl := Option.some.inj h1
      cases b1 with
      | tip m u => obtain ⟨rfl, rfl⟩ := k3; exact .inr ⟨m, u, off, c, k1, by rw [← τ4 _ hji]; exact h2⟩
      | _ => exact k3.elim
  have ownOut : ∀ {i b : Nat}, (∀ j : Nat, σ[j]? ≠ some i) → owns E4 H' i b → owns E H i b := by
    intro i b hn ho
    rcases ho with ⟨cs, h1, h2⟩ | ⟨n, s, off, c, h1, h2⟩
    · exact .inl ⟨cs, by rw [← hrest i hn]; exact h1, by rw [← φ4n hn]; exact h2⟩
    · exact .inr ⟨n, s, off, c, by rw [← hrest i hn]; exact h1, by rw [← τ4n n hn]; exact h2⟩
  refine ⟨x, E4, rfl, le4, fun b o y hv h0 => xnone (g2 b o y hv h0), ?_, g4, fitsI_R renOut g5 hres⟩
  refine ⟨fun b o ho => ?_, g3.froz, fun i cs hi => ?_, fun i n s hi => ?_, fun i i' b h1 h2 => ?_, fun i hi => ?_⟩
  · have hf : ¬ foreign b := by rintro ⟨i, _, ho'⟩; rw [owns_x hw ho'] at ho; cases ho
    exact g3.frame b o ((hX2n hf).trans ho)
  · by_cases hs : ∃ j : Nat, σ[j]? = some i
    · obtain ⟨j, hj⟩ := hs
      obtain ⟨b1, b2, k1, k2, k3⟩ := hout j i hj
      rw [k2] at hi; obtain rfl := Option.some.inj hi
      cases b1 with
      | blk ds =>
        obtain ⟨b, ys, ty, a1, a2, a3, a4, a5, a6⟩ := g3.blk j ds k1
        have hrs := fitsL_R (E := E3) (E2 := E4) (fun a b x hf h => fits1_R renOut h hf) k3 (.of_agg a5 a6)
        exact ⟨b, ys, ty, (φ4 hj).trans a1, a2, xnone a3, a4, by simpa using hrs.1, fun q c x hc hx => hrs.2 q c x hc (by simpa using hx)⟩
      | _ => exact k3.elim
    · have hn : ∀ j : Nat, σ[j]? ≠ some i := fun j hj => hs ⟨j, hj⟩
      rw [hrest i hn] at hi
      obtain ⟨b, ys, ty, a1, a2, a3, a4, a5, a6⟩ := hw.blk i cs hi
      have ho : owns E H i b := .inl ⟨cs, hi, a1⟩
      exact ⟨b, ys, ty, (φ4n hn).trans a1, by rw [kept hn ho]; exact a2, a3, fun o => znone hn ho (a4 o), a5, fun q c x hc hx => (a6 q c x hc hx).mono le4⟩
  · by_cases hs : ∃ j : Nat, σ[j]? = some i
    · obtain ⟨j, hj⟩ := hs
      obtain ⟨b1, b2, k1, k2, k3⟩ := hout j i hj
      rw [k2] at hi; obtain rfl := Option.some.inj hi
      cases b1 with
      | tip m u =>
        obtain ⟨rfl, rfl⟩ := k3
        rcases g3.tip j m u k1 with ⟨a1, a2⟩ | ⟨b, cap, ys, ty, a1, a2, a3, a4, a5⟩
        · exact .inl ⟨a1, fun k => (τ4 k hj).trans (a2 k)⟩
        · exact .inr ⟨b, cap, ys, ty, (τ4 _ hj).trans a1, fun k hk => (τ4 k hj).trans (a2 k hk), a3, xnone a4, a5⟩
      | _ => exact k3.elim
    · have hn : ∀ j : Nat, σ[j]? ≠ some i := fun j hj => hs ⟨j, hj⟩
      rw [hrest i hn] at hi
      rcases hw.tip i n s hi with ⟨a1, a2⟩ | ⟨b, cap, ys, ty, a1, a2, a3, a4, a5, a6⟩
      · exact .inl ⟨a1, fun k => (τ4n k hn).trans (a2 k)⟩
      · have ho : owns E H i b := .inr ⟨n, s, 0, cap, hi, a1⟩
        exact .inr ⟨b, cap, ys, ty, (τ4n _ hn).trans a1, fun k hk => (τ4n k hn).trans (a2 k hk), by rw [kept hn ho]; exact a3, a4, fun o h => znone hn ho (a5 o h), a6⟩
  · by_cases hs : ∃ j : Nat, σ[j]? = some i <;> by_cases hs' : ∃ j : Nat, σ[j]? = some i'
    · obtain ⟨j, hj⟩ := hs
      obtain ⟨j', hj'⟩ := hs'
      have := g3.sep j j' b (ownIn hj h1) (ownIn hj' h2)
      subst this
      rw [hj] at hj'; exact Option.some.inj hj'
    · obtain ⟨j, hj⟩ := hs
      have ho := ownOut (fun q hq => hs' ⟨q, hq⟩) h2
      have hx := owns_x g3 (ownIn hj h1)
      rw [hX2o ⟨i', fun q hq => hs' ⟨q, hq⟩, ho⟩, Array.getElem?_eq_getElem (owns_lt hw ho)] at hx
      cases hx
    · obtain ⟨j', hj'⟩ := hs'
      have ho := ownOut (fun q hq => hs ⟨q, hq⟩) h1
      have hx := owns_x g3 (ownIn hj' h2)
      rw [hX2o ⟨i, fun q hq => hs ⟨q, hq⟩, ho⟩, Array.getElem?_eq_getElem (owns_lt hw ho)] at hx
      cases hx
    · exact hw.sep i i' b (ownOut (fun q hq => hs ⟨q, hq⟩) h1) (ownOut (fun q hq => hs' ⟨q, hq⟩) h2)
  · have hn : ∀ j : Nat, σ[j]? ≠ some i := by
      intro j hj
      obtain ⟨b, b0, k1, _⟩ := hin j i hj
      have := (List.getElem?_eq_some_iff.1 k1).1
      omega
    have hf := hw.fresh i (by omega)
    exact ⟨(φ4n hn).trans hf.1, fun n => (τ4n n hn).trans (hf.2 n)⟩
end
end Go.Ab
