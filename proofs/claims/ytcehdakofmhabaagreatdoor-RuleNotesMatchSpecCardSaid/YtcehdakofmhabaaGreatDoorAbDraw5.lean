/- A region that leaves its order open, told by what is done: for each set of operations that may be done, a state. -/
import Derived.Test.YtcehdakofmhabaaGreatDoorAbEsc
namespace Go.Ab
set_option linter.unusedVariables false
set_option linter.unusedSimpArgs false
def SubL (env : List (Nat × AV)) : List (Nat × AV) → Prop
  | [] => True
  | (t, v) :: r => look env t = some v ∧ SubL env r
theorem SubL.mem {env : List (Nat × AV)} : ∀ {l : List (Nat × AV)}, SubL env l → ∀ {t : Nat} {v : AV}, (t, v) ∈ l → look env t = some v
  | [], _, _, _, h => by cases h
  | (a, b) :: r, hs, t, v, h => by
    rcases List.mem_cons.1 h with h | h
    · cases h; exact hs.1
    · exact hs.2.mem h
/-- What 's2' knows 's' knows. -/
def Sub (s s2 : St) : Prop := s2.H = s.H ∧ SubL s.env s2.env
theorem Rel.sub {X : XT} {E : En} {s s2 : St} {nt : Nat} {a : Act} {w : World} (h : Rel X E s nt a w) (hs : Sub s s2) : Rel X E s2 nt a w :=
  ⟨h.defers, h.size, fun t v hv => h.env t v (hs.2.mem (look_mem hv)), by rw [hs.1]; exact h.wr⟩
def readyM (ops : Array Oper) (m i : Nat) : Bool := !m.testBit i && match ops[i]? with
  | some o => o.after.toList.all fun e => !Region.binds .any e || m.testBit e.on
  | none => false
def closedM (ops : Array Oper) (reach : List Nat) (pairs : List (Nat × Nat)) (full : Nat) : Bool :=
  reach.all fun m => (List.range ops.size).all (fun i => !readyM ops m i || pairs.contains (m, i)) && (List.range ops.size).all (fun i => !readyM ops m i || reach.contains (m ||| 2 ^ i)) && (Nat.beq m full || (List.range ops.size).any (readyM ops m))
def allP {α : Type} : List α → (α → Prop) → Prop
  | [], _ => True
  | a :: r, f => f a ∧ allP r f
theorem allP.at {α : Type} {f : α → Prop} : ∀ {l : List α}, allP l f → ∀ a ∈ l, f a
  | [], _, a, h => by cases h
  | b :: r, hl, a, h => by
    rcases List.mem_cons.1 h with rfl | h
    · exact hl.1
    · exact hl.2.at a h
section
variable {P : Program} {T : Nat → Option TyI} {fn : Func} {nt n0 : Nat} {Post : AV → List HB → Prop} {ops : Array Oper}
/-- One operation takes a state to one of these. -/
def StepsTo (P : Program) (nt : Nat) (ops : Array Oper) (i : Nat) (s : St) (Q : St → Prop) : Prop :=
  ∀ (X : XT) (E : En) (a : Act) (w : World), Rel X E s nt a w → ∀ (K : Act → World → Prop) (Qx : Exit → Act → World → Prop),
    (∀ s' a' w' E', Q s' → E.le E' → Off X E E' → Ext w w' → Rel X E' s' nt a' w' → K a' w') → Go.wpOp P ops Qx i K a w
theorem StepsTo.of (hT : TabOk P T) {i : Nat} {o : Oper} {s s2 : St} {v : AV} {H : List HB} (h : StepOk P T nt ops o s v H) (ho : ops[i]? = some o) (hd : canPut nt o.dst = true) (hs : Sub (s.put o.dst v H) s2) :
    StepsTo P nt ops i s fun s' => s' = s2 := by
  intro X E a w hr K Qx hK
  exact h.wpOp hT ho hd hr (fun a' w' E' g1 g2 g3 g4 => hK s2 a' w' E' rfl g1 g2 g3 (g4.sub hs))
theorem StepsTo.val (hT : TabOk P T) {i : Nat} {o : Oper} {s s2 : St} {v : AV} {H : List HB} (ho : ops[i]? = some o) (hg : guardOf nt ops s o = .go) (he : exec1 T s o.op = .val v H) (hd : canPut nt o.dst = true) (hs : Sub (s.put o.dst v H) s2) :
    StepsTo P nt ops i s fun s' => s' = s2 := StepsTo.of hT (.val hg he) ho hd hs
theorem StepsTo.valc (hT : TabOk P T) {i : Nat} {o : Oper} {s s2 : St} {v : AV} {H : List HB} {c : Prop} (ho : ops[i]? = some o) (hg : guardOf nt ops s o = .go) (he : exec1 T s o.op = .valc v H c) (hc : c) (hd : canPut nt o.dst = true) (hs : Sub (s.put o.dst v H) s2) :
    StepsTo P nt ops i s fun s' => s' = s2 := StepsTo.of hT (.valc hg he hc) ho hd hs
theorem StepsTo.call (hT : TabOk P T) {i : Nat} {o : Oper} {s : St} {f : Nat} {args : List AV} {Q : AV → List HB → Prop} (ho : ops[i]? = some o) (hg : guardOf nt ops s o = .go) (he : exec1 T s o.op = .call f args) (hd : canPut nt o.dst = true) (hret : RetE P f args s.H Q) :
    StepsTo P nt ops i s fun s' => ∃ r H', Q r H' ∧ s' = s.put o.dst r H' := by
  intro X E a w hr K Qx hK
  have hw := (guard_go hr).1 hg
  obtain ⟨xs, hxs, hrun⟩ := run_call hr he hret.1
  unfold Go.wpOp
  simp only [ho, hw, if_true]
  refine .inl ?_
  simp only [Oper.wp, hrun, Oper.upon]
  refine Calls.mono (hret.2 X E w xs hr.wr hxs) ?_
  rintro e w' ⟨x, E', r, H', hQ, rfl, g3, g4, g5, g6, g7⟩
  refine hK (s.put o.dst r H') _ _ E' ⟨r, H', hQ, rfl⟩ g3 g4 g6 ?_
  have := (hr.mono g3 g5).put (v := r) (x := x) hd g7
  cases hod : o.dst with
  | none => rw [hod] at this; exact this
  | some t => rw [hod] at this; exact this
theorem StepsTo.mono {i : Nat} {s : St} {Q Q' : St → Prop} (h : StepsTo P nt ops i s Q) (hq : ∀ s', Q s' → ∃ s2, Sub s' s2 ∧ Q' s2) : StepsTo P nt ops i s Q' := by
  intro X E a w hr K Qx hK
  refine h X E a w hr K Qx (fun s' a' w' E' g0 g1 g2 g3 g4 => ?_)
  obtain ⟨s2, h1, h2⟩ := hq s' g0
  exact hK s2 a' w' E' h2 g1 g2 g3 (g4.sub h1)

theorem StepsTo.valM {κ : Type} {S2 : κ → St} (hT : TabOk P T) {i : Nat} {o : Oper} {s : St} {v : AV} {H : List HB} (ho : ops[i]? = some o) (hg : guardOf nt ops s o = .go) (he : exec1 T s o.op = .val v H) (hd : canPut nt o.dst = true) (x : κ) (hs : Sub (s.put o.dst v H) (S2 x)) :
    StepsTo P nt ops i s fun s' => ∃ x', s' = S2 x' := fun X E a w hr K Qx hK => StepsTo.val hT ho hg he hd hs X E a w hr K Qx (fun s' a' w' E' g0 => hK s' a' w' E' ⟨x, g0⟩)
theorem StepsTo.callM {κ : Type} {S2 : κ → St} (hT : TabOk P T) {i : Nat} {o : Oper} {s : St} {f : Nat} {args : List AV} {Q : AV → List HB → Prop} (ho : ops[i]? = some o) (hg : guardOf nt ops s o = .go) (he : exec1 T s o.op = .call f args) (hd : canPut nt o.dst = true) (hret : RetE P f args s.H Q)
    (hs : ∀ r H', Q r H' → ∃ x, Sub (s.put o.dst r H') (S2 x)) : StepsTo P nt ops i s fun s' => ∃ x', s' = S2 x' := (StepsTo.call hT ho hg he hd hret).mono fun s' ⟨r, H', hQ, he⟩ => by
      subst he
      obtain ⟨x, hx⟩ := hs r H' hQ
      exact ⟨_, hx, x, rfl⟩

theorem draw_masks {κ : Type} (S : Nat → κ → St) (reach : List Nat) (pairs : List (Nat × Nat)) (full : Nat) (hcl : closedM ops reach pairs full = true) (step : allP pairs fun q => ∀ x, StepsTo P nt ops q.2 (S q.1 x) fun s' => ∃ x', s' = S (q.1 ||| 2 ^ q.2) x')
    {X : XT} {E0 : En} {w0 : World} : ∀ (fuel : Nat) (listed : Array Bool) (a : Act) (w : World) (m : Nat), listed.size = ops.size → m ∈ reach → (∀ j, m.testBit j = listed.getD j false) → left listed ops.size ≤ fuel →
    (∃ E x, E0.le E ∧ Off X E0 E ∧ Ext w0 w ∧ Rel X E (S m x) nt a w) →
    wpAny P .any ops (fun e a' w' => e = .normal ∧ ∃ E x, E0.le E ∧ Off X E0 E ∧ Ext w0 w' ∧ Rel X E (S full x) nt a' w') fuel listed a w := by
  have hcl' := List.all_eq_true.1 hcl
  have ready : ∀ (listed : Array Bool) (m i : Nat), listed.size = ops.size → (∀ j, m.testBit j = listed.getD j false) → (i ∈ Region.ready .any ops listed ↔ readyM ops m i = true) := by
    intro listed m i hsz hm
    rw [mem_ready]
    constructor
    · rintro ⟨h1, o, ho, h2⟩
      have hlt : i < listed.size := by rw [hsz]; exact (Array.getElem?_eq_some_iff.1 ho).1
      have hl : m.testBit i = false := by
        rw [hm]
        simp [Array.getD_eq_getD_getElem?, hlt] at h1 ⊢
        exact h1
      simp only [readyM, hl, ho, Bool.not_false, Bool.true_and, List.all_eq_true]
      intro e he
      cases hb : Region.binds .any e with
      | false => rfl
      | true => simp only [Bool.not_true, Bool.false_or]; rw [hm]; exact h2 e (by simpa using he) hb
    · intro h
      unfold readyM at h
      cases ho : ops[i]? with
      | none => rw [ho] at h; simp at h
      | some o =>
        rw [ho] at h
        simp only [Bool.and_eq_true, Bool.not_eq_true', List.all_eq_true] at h
        have hlt : i < listed.size := by rw [hsz]; exact (Array.getElem?_eq_some_iff.1 ho).1
        refine ⟨?_, o, rfl, fun e he hb => ?_⟩
        · have := h.1
          rw [hm] at this
          simp [Array.getD_eq_getD_getElem?, hlt] at this ⊢
          exact this
        · have := h.2 e (by simpa using he)
          rw [hb] at this
          rw [← hm]; simpa using this
  have fin : ∀ (listed : Array Bool) (m : Nat), listed.size = ops.size → m ∈ reach → (∀ j, m.testBit j = listed.getD j false) → Region.ready .any ops listed = [] → m = full := by
    intro listed m hsz hr hm hn
    have h1 := hcl' m hr
    simp only [Bool.and_eq_true, Bool.or_eq_true] at h1
    rcases h1.2 with h2 | h2
    · exact Nat.eq_of_beq_eq_true h2
    · obtain ⟨i, hi, h3⟩ := List.any_eq_true.1 h2
      have := (ready listed m i hsz hm).2 h3
      rw [hn] at this; cases this
  intro fuel
  induction fuel with
  | zero =>
    intro listed a w m hsz hr hm hleft hinv
    have hall := left_zero (listed := listed) ops.size (by omega)
    have hn : Region.ready .any ops listed = [] := by
      apply List.eq_nil_iff_forall_not_mem.2
      intro i hi
      rw [mem_ready] at hi
      obtain ⟨h1, o, ho, _⟩ := hi
      have hlt := (Array.getElem?_eq_some_iff.1 ho).1
      have := hall i hlt
      have h2 : i < listed.size := by omega
      simp [Array.getD_eq_getD_getElem?, h2] at h1 this
      rw [h1] at this; cases this
    have := fin listed m hsz hr hm hn
    subst this
    exact ⟨hn, rfl, hinv⟩
  | succ fuel ih =>
    intro listed a w m hsz hr hm hleft hinv
    refine ⟨fun hn => ?_, fun i hi => ?_⟩
    · have := fin listed m hsz hr hm hn
      subst this
      exact ⟨rfl, hinv⟩
    · have hrd := (ready listed m i hsz hm).1 hi
      rw [mem_ready] at hi
      obtain ⟨hun, o, ho, hedges⟩ := hi
      have hlt := (Array.getElem?_eq_some_iff.1 ho).1
      have hils : i < listed.size := by omega
      have hL : listed.getD i false = false := by
        simp [Array.getD_eq_getD_getElem?, hils] at hun ⊢
        exact hun
      have get : ∀ j, (listed.setIfInBounds i true).getD j false = if j = i then true else listed.getD j false := by
        intro j
        by_cases hj : j = i
        · subst hj; simp [Array.getD_eq_getD_getElem?, hils]
        · rw [if_neg hj, Array.getD_eq_getD_getElem?, Array.getElem?_setIfInBounds_ne (Ne.symm hj), ← Array.getD_eq_getD_getElem?]
      have hreach : m ||| 2 ^ i ∈ reach := by
        have h1 := hcl' m hr
        simp only [Bool.and_eq_true] at h1
        have := List.all_eq_true.1 h1.1.2 i (List.mem_range.2 hlt)
        rw [hrd] at this
        simpa using this
      have hpair : (m, i) ∈ pairs := by
        have h1 := hcl' m hr
        simp only [Bool.and_eq_true] at h1
        have := List.all_eq_true.1 h1.1.1 i (List.mem_range.2 hlt)
        rw [hrd] at this
        simpa using this
      obtain ⟨E, x, h1, h2, h3, h4⟩ := hinv
      refine step.at _ hpair x _ _ _ _ h4 _ _ (fun s' a' w' E' g0 g1 g2 g3 g4 => ?_)
      obtain ⟨x', rfl⟩ := g0
      refine ih _ a' w' (m ||| 2 ^ i) (by simpa using hsz) hreach (fun j => ?_) (by have := left_set hL hils ops.size hlt; omega) ⟨E', x', h1.trans g1, h2.trans g2, h3.trans g3, g4⟩
      rw [get, Nat.testBit_or, Nat.testBit_two_pow, hm]
      by_cases hj : j = i
      · subst hj; simp
      · simp [hj, show ¬ i = j from fun e => hj e.symm]
/-- The rule. -/
theorem awp_masks {κ : Type} (hmix : P.follows .mixedOrders = true) {id : Nat} {k : List Item} {s : St} (S : Nat → κ → St) (reach : List Nat) (pairs : List (Nat × Nat)) (full : Nat) (hcl : closedM ops reach pairs full = true) (x0 : κ) (h0 : 0 ∈ reach) (hs : Sub s (S 0 x0))
    (step : allP pairs fun q => ∀ x, StepsTo P nt ops q.2 (S q.1 x) fun s' => ∃ x', s' = S (q.1 ||| 2 ^ q.2) x') (h : ∀ x, Awp P fn nt n0 k (S full x) Post) :
    Awp P fn nt n0 (.code (.region id ops true) :: k) s Post := by
  intro X E0 E a w w0 h1 h2 h3 h4 h5 b cs
  have hfalse : ∀ j, (Array.replicate ops.size false).getD j false = false := by
    intro j
    rw [Array.getD_eq_getD_getElem?]
    by_cases hj : j < ops.size <;> simp [hj]
  have hany := draw_masks S reach pairs full hcl step (X := X) (E0 := E0) (w0 := w0) ops.size (Array.replicate ops.size false) a w.drew 0 (by simp) h0 (fun j => by rw [hfalse]; simp) (by
      have : ∀ n, left (Array.replicate ops.size false) n ≤ n := by
        intro n
        induction n with
        | zero => exact Nat.le_refl _
        | succ n ih => simp only [left]; split <;> omega
      exact this _) ⟨E, x0, h1, h2, h4.trans (.drew _), (show Rel X E s nt a w.drew from ⟨h5.defers, h5.size, h5.env, h5.wr.drew⟩).sub hs⟩
  have hwp := wp_region_any (id := id) hmix hany
  obtain ⟨e, a', w', ⟨rfl, E', x, g1, g2, g3, g4⟩, harr⟩ := hwp b k cs
  exact goes_steps harr (h x X E0 E' a' w' w0 g1 g2 h3 g3 g4 b cs)
end
end Go.Ab
