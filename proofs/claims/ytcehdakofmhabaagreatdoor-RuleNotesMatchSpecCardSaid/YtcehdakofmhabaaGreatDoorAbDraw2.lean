/- A region that leaves its order open: the proof. -/
import Derived.Test.YtcehdakofmhabaaGreatDoorAbDraw
namespace Go.Ab
set_option linter.unusedVariables false
set_option linter.unusedSimpArgs false
section
variable {P : Program} {T : Nat → Option TyI} {fn : Func} {nt n0 : Nat} {Post : AV → List HB → Prop} {ops : Array Oper}

theorem writes_touches {o : Op} (h : writes o = true) : touches o = true := by
  cases o with
  | call c =>
    obtain ⟨callee, args, tys⟩ := c
    cases callee with
    | builtin b => cases b <;> first | rfl | cases h
    | value f => cases h
    | invoke r m => cases h
  | alloc t => rfl
  | box t x => rfl
  | store t x v => rfl
  | makeSlice t l c => rfl
  | _ => cases h

theorem guardOf_congr {s s' : St} {o : Oper} (h : ∀ t ∈ o.looksAt ops, look s.env t = look s'.env t) : guardOf nt ops s o = guardOf nt ops s' o := by
  unfold guardOf
  cases hg : o.guard with
  | none => rfl
  | some g =>
    obtain ⟨j, want⟩ := g
    simp only
    cases hj : ops[j]? with
    | none => rfl
    | some p =>
      simp only
      cases hd : p.dst with
      | none => rfl
      | some t =>
        have := h t (by simp [Oper.looksAt, hg, hj, hd])
        simp only [this]

theorem StepOk.H_same {o : Oper} {s : St} {v : AV} {H : List HB} (h : StepOk P T nt ops o s v H) (hw : writes o.op = false) : H = s.H := by
  cases h with
  | skip => rfl
  | val _ h => exact exec1_H hw (.inl h)
  | valc _ h _ => exact exec1_H hw (.inr ⟨_, h⟩)
  | call => rfl
  | elem => rfl
theorem StepOk.move {o : Oper} {s s2 : St} {v : AV} {H : List HB} (h : StepOk P T nt ops o s v H) (hev : ∀ x ∈ o.op.operands.toList, s2.ev x = s.ev x) (hgd : guardOf nt ops s2 o = guardOf nt ops s o)
    (hH : touches o.op = true → s2.H = s.H) : StepOk P T nt ops o s2 v (if writes o.op then H else s2.H) := by
  by_cases hw : writes o.op = true
  · rw [if_pos hw]
    have e := hH (writes_touches hw)
    have ex := exec1_congr (T := T) hev e
    cases h with
    | skip g => rw [← e]; exact .skip (hgd.trans g)
    | val g h1 => exact .val (hgd.trans g) (ex.trans h1)
    | valc g h1 c => exact .valc (hgd.trans g) (ex.trans h1) c
    | call g h1 hr => rw [← e]; exact .call (hgd.trans g) (ex.trans h1) hr
    | elem g h1 h2 h3 => rw [← e]; exact .elem (hgd.trans g) (ex.trans h1) h2 h3
  · rw [if_neg hw]
    have hw' : writes o.op = false := by simpa using hw
    have ex : exec1 T s2 o.op = (exec1 T s o.op).withH s2.H ∨ (exec1 T s2 o.op = exec1 T s o.op ∧ s2.H = s.H) := by
      by_cases ht : touches o.op = true
      · exact .inr ⟨exec1_congr hev (hH ht), hH ht⟩
      · refine .inl ?_
        have h1 := exec1_free (T := T) (env := s2.env) (H := s.H) (H2 := s2.H) (by simpa using ht : touches o.op = false)
        have h2 : exec1 T ⟨s2.env, s.H⟩ o.op = exec1 T s o.op := exec1_congr (fun x hx => hev x hx) rfl
        rw [h2] at h1
        exact h1
    cases h with
    | skip g => exact .skip (hgd.trans g)
    | val g h1 =>
      refine .val (hgd.trans g) ?_
      rcases ex with ex | ⟨ex, e⟩
      · rw [ex, h1]; rfl
      · rw [ex, h1, e, exec1_H hw' (.inl h1)]
    | valc g h1 c =>
      refine .valc (hgd.trans g) ?_ c
      rcases ex with ex | ⟨ex, e⟩
      · rw [ex, h1]; rfl
      · rw [ex, h1, e, exec1_H hw' (.inr ⟨_, h1⟩)]
    | call g h1 hr =>
      refine .call (hgd.trans g) ?_ hr
      rcases ex with ex | ⟨ex, e⟩
      · rw [ex, h1]; rfl
      · rw [ex, h1]
    | elem g h1 h2 h3 =>
      refine .elem (hgd.trans g) ?_ h2 h3
      rcases ex with ex | ⟨ex, e⟩
      · rw [ex, h1]; rfl
      · rw [ex, h1]

/-- What an operation that is told does, in the kit's own words. -/
theorem StepOk.wpOp (hT : TabOk P T) {o : Oper} {s : St} {v : AV} {H : List HB} (h : StepOk P T nt ops o s v H) {i : Nat} (ho : ops[i]? = some o) (hd : canPut nt o.dst = true)
    {X : XT} {E : En} {a : Act} {w : World} (hr : Rel X E s nt a w) {K : Act → World → Prop} {Q : Exit → Act → World → Prop}
    (hK : ∀ a' w' E', E.le E' → Off X E E' → Ext w w' → Rel X E' (s.put o.dst v H) nt a' w' → K a' w') : Go.wpOp P ops Q i K a w := by
  have rel : ∀ {E' : En} {x : Value} {w' : World}, E.le E' → Wr X E' H w' → R E' v x → Rel X E' (s.put o.dst v H) nt (a.put o.dst x) w' := by
    intro E' x w' h1 h2 h3
    have := (hr.mono h1 h2).put (v := v) (x := x) hd h3
    cases hod : o.dst with
    | none => rw [hod] at this; exact this
    | some t => rw [hod] at this; exact this
  have val : Region.wanted o (yielded ops a.tmps) = true → OpDoes P X E (execOp a.eval o) w v H → Go.wpOp P ops Q i K a w := by
    rintro hw ⟨x, nx, w', E', g1, g2, g3, g4, g5, g6, g7⟩
    unfold Go.wpOp
    simp only [ho, hw, if_true]
    refine .inl ?_
    rcases g2 with rfl | ⟨rfl, rfl⟩
    · simp only [Oper.wp, g1, Oper.upon]
      exact hK _ _ E' g3 g4 g6 (rel g3 g5 g7)
    · simp only [Oper.wp, g1, Oper.upon]
      exact hK _ _ E' g3 g4 g6 (rel g3 g5 g7)
  cases h with
  | skip g =>
    have hw := (guard_go hr).2.1 g
    unfold Go.wpOp
    simp only [ho, hw, Bool.false_eq_true, if_false]
    exact hK _ _ E (.refl _) (.refl _ _) (.refl _) (rel (.refl _) hr.wr (.undef _))
  | val g h1 =>
    have := exec1_ok hT hr o
    rw [h1] at this
    exact val ((guard_go hr).1 g) this
  | valc g h1 c =>
    have := exec1_ok hT hr o
    rw [h1] at this
    exact val ((guard_go hr).1 g) (this c)
  | elem g h1 h2 h3 => exact val ((guard_go hr).1 g) (run_elem hT hr h1 h2 _ h3)
  | call g h1 hret =>
    have hw := (guard_go hr).1 g
    obtain ⟨xs, hxs, hrun⟩ := run_call hr h1 (hret s.H).1
    unfold Go.wpOp
    simp only [ho, hw, if_true]
    refine .inl ?_
    simp only [Oper.wp, hrun, Oper.upon]
    refine Calls.mono ((hret s.H).2 X E w xs hr.wr hxs) ?_
    rintro e w' ⟨x, E', rfl, g3, g4, g5, g6, g7⟩
    exact hK _ _ E' g3 g4 g6 (rel g3 g5 g7)

theorem Rel.congr {X : XT} {E : En} {s s' : St} {a : Act} {w : World} (h : Rel X E s nt a w) (he : ∀ t, look s'.env t = look s.env t) (hH : s'.H = s.H) : Rel X E s' nt a w :=
  ⟨h.defers, h.size, fun t v hv => h.env t v (by rw [← he]; exact hv), by rw [hH]; exact h.wr⟩

section main
variable {st : Nat → St} {v : Nat → AV}
theorem stL_all (hF : ∀ j, j < ops.size → ∃ o, ops[j]? = some o ∧ canPut nt o.dst = true ∧ StepOk P T nt ops o (st j) (v j) (st (j + 1)).H ∧ (st (j + 1)).env = ((st j).put o.dst (v j) (st j).H).env) {L : Nat → Bool} : ∀ n, n ≤ ops.size → (∀ j, j < n → L j = true) → (∀ t, look (stL ops st v L n).env t = look (st n).env t) ∧ (stL ops st v L n).H = (st n).H
  | 0, _, _ => ⟨fun _ => rfl, rfl⟩
  | n + 1, hn, hL => by
    obtain ⟨i1, i2⟩ := stL_all hF n (by omega) (fun j hj => hL j (by omega))
    obtain ⟨o, ho, _, hs, he⟩ := hF n (by omega)
    have hdst : dstOf ops n = o.dst := by simp [dstOf, ho]
    have hwr : wrOf ops n = writes o.op := by simp [wrOf, ho]
    simp only [stL, hL n (by omega), hdst, hwr, he]
    constructor
    · intro t
      cases o.dst with
      | none => exact i1 t
      | some d =>
        simp only [St.put, look]
        split
        · rfl
        · exact i1 t
    · cases hw : writes o.op with
      | true => rfl
      | false => simp only; rw [i2]; exact (hs.H_same hw).symm
theorem stL_cut (hF : ∀ j, j < ops.size → ∃ o, ops[j]? = some o ∧ canPut nt o.dst = true ∧ StepOk P T nt ops o (st j) (v j) (st (j + 1)).H ∧ (st (j + 1)).env = ((st j).put o.dst (v j) (st j).H).env) {i : Nat} : ∀ n, i ≤ n → stL ops st v (fun j => decide (j < i)) n = stL ops st v (fun j => decide (j < i)) i := by
  have _ := hF
  intro n h
  induction n with
  | zero =>
    have h0 : i = 0 := by omega
    subst h0; rfl
  | succ n ih =>
    by_cases hi : i = n + 1
    · subst hi; rfl
    · have := ih (by omega)
      have hf : decide (n < i) = false := by simp; omega
      show (match decide (n < i) with | true => _ | false => stL ops st v (fun j => decide (j < i)) n) = _
      rw [hf]
      exact this

/-- Which operations are done: with each all that it hangs on. -/
def Down (ops : Array Oper) (L : Nat → Bool) : Prop := ∀ i j, i < ops.size → L i = true → ((masks ops.toList).getD i 0).testBit j = true → L j = true

theorem calm_at (hF : ∀ j, j < ops.size → ∃ o, ops[j]? = some o ∧ canPut nt o.dst = true ∧ StepOk P T nt ops o (st j) (v j) (st (j + 1)).H ∧ (st (j + 1)).env = ((st j).put o.dst (v j) (st j).H).env) (hc : calm ops = true) {i : Nat} {o : Oper} (ho : ops[i]? = some o) :
    (masks ops.toList).getD i 0 = maskOf (masks ops.toList) o.after.toList ∧ (∀ e ∈ o.after.toList, Region.binds .any e = true → e.on < i) ∧
    ∀ j p, j < i → ops[j]? = some p → conf ops p o = true → ((masks ops.toList).getD i 0).testBit j = true := by
  have _ := hF
  have hlt : i < ops.size := (Array.getElem?_eq_some_iff.1 ho).1
  have h := List.all_eq_true.1 hc i (List.mem_range.2 hlt)
  simp only [calmAt, ho, Bool.and_eq_true] at h
  obtain ⟨⟨h1, h2⟩, h3⟩ := h
  refine ⟨Nat.eq_of_beq_eq_true h1, fun e he hb => ?_, fun j p hj hp hcf => ?_⟩
  · have := List.all_eq_true.1 h2 e he
    rw [hb] at this
    simpa [Nat.blt_eq] using this
  · have := List.all_eq_true.1 h3 j (List.mem_range.2 hj)
    rw [hp] at this
    simp only [hcf] at this
    simpa using this

theorem hangs (hF : ∀ j, j < ops.size → ∃ o, ops[j]? = some o ∧ canPut nt o.dst = true ∧ StepOk P T nt ops o (st j) (v j) (st (j + 1)).H ∧ (st (j + 1)).env = ((st j).put o.dst (v j) (st j).H).env) (hc : calm ops = true) {L : Nat → Bool} (hD : Down ops L) {i : Nat} {o : Oper} (ho : ops[i]? = some o) (hready : ∀ e ∈ o.after.toList, Region.binds .any e = true → L e.on = true) (hlt0 : ∀ j, ops.size ≤ j → L j = false)
    {j : Nat} (hb : ((masks ops.toList).getD i 0).testBit j = true) : L j = true := by
  rw [(calm_at hF hc ho).1] at hb
  obtain ⟨e, he, hbi, h⟩ := maskOf_bit hb
  have hl := hready e he hbi
  rcases h with rfl | h
  · exact hl
  · refine hD e.on j ?_ hl h
    rcases Nat.lt_or_ge e.on ops.size with h' | h'
    · exact h'
    · rw [hlt0 _ h'] at hl; cases hl
/-- What a ready operation sees. -/
theorem seen (hF : ∀ j, j < ops.size → ∃ o, ops[j]? = some o ∧ canPut nt o.dst = true ∧ StepOk P T nt ops o (st j) (v j) (st (j + 1)).H ∧ (st (j + 1)).env = ((st j).put o.dst (v j) (st j).H).env) (hc : calm ops = true) {L : Nat → Bool} (hD : Down ops L) {i : Nat} {o : Oper} (ho : ops[i]? = some o) (hi : L i = false) (hready : ∀ e ∈ o.after.toList, Region.binds .any e = true → L e.on = true) (hlt0 : ∀ j, ops.size ≤ j → L j = false)
    {j : Nat} {p : Oper} (hp : ops[j]? = some p) (h1 : j < i → conf ops p o = true) (h2 : i < j → conf ops o p = true) (hne : j ≠ i) : L j = decide (j < i) := by
  rcases Nat.lt_or_gt_of_ne hne with hlt | hgt
  · rw [show decide (j < i) = true by simpa using hlt]
    exact hangs hF hc hD ho hready hlt0 ((calm_at hF hc ho).2.2 j p hlt hp (h1 hlt))
  · rw [show decide (j < i) = false by simp; omega]
    cases hL : L j with
    | false => rfl
    | true =>
      have hj : j < ops.size := (Array.getElem?_eq_some_iff.1 hp).1
      have := hD j i hj hL ((calm_at hF hc hp).2.2 i o hgt ho (h2 hgt))
      rw [this] at hi; cases hi

theorem conf_dst (hF : ∀ j, j < ops.size → ∃ o, ops[j]? = some o ∧ canPut nt o.dst = true ∧ StepOk P T nt ops o (st j) (v j) (st (j + 1)).H ∧ (st (j + 1)).env = ((st j).put o.dst (v j) (st j).H).env) {p o : Oper} {t : Nat} (hp : p.dst = some t) (ht : t ∈ o.looksAt ops) : conf ops p o = true ∧ conf ops o p = true := by
  have _ := hF
  have : (o.looksAt ops).contains t = true := by simpa using ht
  constructor <;> simp [conf, hp, ht]
theorem conf_same (hF : ∀ j, j < ops.size → ∃ o, ops[j]? = some o ∧ canPut nt o.dst = true ∧ StepOk P T nt ops o (st j) (v j) (st (j + 1)).H ∧ (st (j + 1)).env = ((st j).put o.dst (v j) (st j).H).env) {p o : Oper} {t : Nat} (hp : p.dst = some t) (ho : o.dst = some t) : conf ops o p = true := by have _ := hF; simp [conf, hp, ho, Nat.beq_refl]
theorem conf_mem (hF : ∀ j, j < ops.size → ∃ o, ops[j]? = some o ∧ canPut nt o.dst = true ∧ StepOk P T nt ops o (st j) (v j) (st (j + 1)).H ∧ (st (j + 1)).env = ((st j).put o.dst (v j) (st j).H).env) {p o : Oper} (hp : writes p.op = true) (ho : touches o.op = true) : conf ops p o = true ∧ conf ops o p = true := by have _ := hF; constructor <;> simp [conf, hp, ho]

theorem wrOf_some (hF : ∀ j, j < ops.size → ∃ o, ops[j]? = some o ∧ canPut nt o.dst = true ∧ StepOk P T nt ops o (st j) (v j) (st (j + 1)).H ∧ (st (j + 1)).env = ((st j).put o.dst (v j) (st j).H).env) {j : Nat} (h : wrOf ops j = true) : ∃ p, ops[j]? = some p ∧ writes p.op = true := by
  have _ := hF
  unfold wrOf at h
  split at h
  · rename_i p hp; exact ⟨p, hp, h⟩
  · cases h
theorem dstOf_some (hF : ∀ j, j < ops.size → ∃ o, ops[j]? = some o ∧ canPut nt o.dst = true ∧ StepOk P T nt ops o (st j) (v j) (st (j + 1)).H ∧ (st (j + 1)).env = ((st j).put o.dst (v j) (st j).H).env) {j t : Nat} (h : dstOf ops j = some t) : ∃ p, ops[j]? = some p ∧ p.dst = some t := by
  have _ := hF
  unfold dstOf at h
  cases hp : ops[j]? with
  | none => rw [hp] at h; cases h
  | some p => rw [hp] at h; exact ⟨p, rfl, h⟩

/-- One more operation is done. -/
theorem step_one (hF : ∀ j, j < ops.size → ∃ o, ops[j]? = some o ∧ canPut nt o.dst = true ∧ StepOk P T nt ops o (st j) (v j) (st (j + 1)).H ∧ (st (j + 1)).env = ((st j).put o.dst (v j) (st j).H).env) (hc : calm ops = true) {L : Nat → Bool} (hD : Down ops L) {i : Nat} {o : Oper} (ho : ops[i]? = some o) (hi : L i = false) (hready : ∀ e ∈ o.after.toList, Region.binds .any e = true → L e.on = true) (hlt0 : ∀ j, ops.size ≤ j → L j = false) :
    let L' : Nat → Bool := fun j => if j = i then true else L j
    Down ops L' ∧ (∀ j, ops.size ≤ j → L' j = false) ∧ canPut nt o.dst = true ∧ StepOk P T nt ops o (stL ops st v L ops.size) (v i) (if writes o.op then (st (i + 1)).H else (stL ops st v L ops.size).H) ∧
    (∀ t, look (stL ops st v L' ops.size).env t = look ((stL ops st v L ops.size).put o.dst (v i) (if writes o.op then (st (i + 1)).H else (stL ops st v L ops.size).H)).env t) ∧
    (stL ops st v L' ops.size).H = (if writes o.op then (st (i + 1)).H else (stL ops st v L ops.size).H) := by
  intro L'
  have hlt : i < ops.size := (Array.getElem?_eq_some_iff.1 ho).1
  obtain ⟨o', ho', hput, hs, _⟩ := hF i hlt
  rw [ho] at ho'; obtain rfl := Option.some.inj ho'
  have hdst : dstOf ops i = o.dst := by simp [dstOf, ho]
  have hwr : wrOf ops i = writes o.op := by simp [wrOf, ho]
  have cutE : ∀ t, look (stL ops st v (fun j => decide (j < i)) ops.size).env t = look (st i).env t := by
    intro t
    rw [stL_cut hF ops.size (by omega)]
    exact (stL_all hF i (by omega) (fun j hj => by simpa using hj)).1 t
  have cutH : ∀ k, k ≤ ops.size → (stL ops st v (fun j => decide (j < k)) ops.size).H = (st k).H := by
    intro k hk
    rw [stL_cut hF ops.size hk]
    exact (stL_all hF k hk (fun j hj => by simpa using hj)).2
  have lookE : ∀ t ∈ o.looksAt ops, look (stL ops st v L ops.size).env t = look (st i).env t := by
    intro t ht
    rw [← cutE]
    refine stL_look st v ops.size (fun j hj hd => ?_)
    obtain ⟨p, hp, hpd⟩ := dstOf_some hF hd
    by_cases hne : j = i
    · subst hne; rw [hi]; simp
    · exact seen hF hc hD ho hi hready hlt0 hp (fun _ => (conf_dst hF hpd ht).1) (fun _ => (conf_dst hF hpd ht).2) hne
  have hev : ∀ x ∈ o.op.operands.toList, (stL ops st v L ops.size).ev x = (st i).ev x := by
    intro x hx
    cases x with
    | tmp t => exact lookE t (List.mem_append_left _ (List.mem_filterMap.2 ⟨.tmp t, hx, rfl⟩))
    | _ => rfl
  have hgd := guardOf_congr (nt := nt) (ops := ops) (o := o) (s := stL ops st v L ops.size) (s' := st i) lookE
  have hH : touches o.op = true → (stL ops st v L ops.size).H = (st i).H := by
    intro ht
    rw [← cutH i (by omega)]
    refine stL_H st v ops.size (fun j hj hw => ?_)
    obtain ⟨p, hp, hpw⟩ := wrOf_some hF hw
    by_cases hne : j = i
    · subst hne; rw [hi]; simp
    · exact seen hF hc hD ho hi hready hlt0 hp (fun _ => (conf_mem hF hpw ht).1) (fun _ => (conf_mem hF hpw ht).2) hne
  refine ⟨fun k j hk hL hb => ?_, fun j hj => ?_, hput, hs.move hev hgd hH, fun t => ?_, ?_⟩
  · by_cases hki : k = i
    · subst hki
      have := hangs hF hc hD ho hready hlt0 hb
      simp only [L']; split
      · rfl
      · exact this
    · have hLk : L k = true := by simpa [L', hki] using hL
      have := hD k j hk hLk hb
      simp only [L']; split
      · rfl
      · exact this
  · simp only [L', show ¬ j = i by omega, if_false]; exact hlt0 j hj
  · by_cases hd : o.dst = some t
    · have hl := stL_last (ops := ops) st v (L := L') (i := i) (t := t) (by simp [L']) (by rw [hdst, hd]) ops.size hlt (fun j h1 h2 h3 => by
        obtain ⟨p, hp, hpd⟩ := dstOf_some hF h3
        have := seen hF hc hD ho hi hready hlt0 hp (fun hh => by omega) (fun _ => conf_same hF hpd hd) (by omega)
        simp only [L', show ¬ j = i by omega, if_false, this]
        simp; omega)
      rw [hl, hd]
      simp [St.put, look, Nat.beq_refl]
    · have h1 : look (stL ops st v L' ops.size).env t = look (stL ops st v L ops.size).env t := by
        refine stL_look st v ops.size (fun j hj h3 => ?_)
        have hne : j ≠ i := fun e => by subst e; rw [hdst] at h3; exact hd h3
        simp [L', hne]
      rw [h1]
      cases hod : o.dst with
      | none => rfl
      | some d =>
        have hne : d ≠ t := fun e => hd (by rw [hod, e])
        simp only [St.put, look]
        split
        · rename_i hb; exact absurd (Nat.eq_of_beq_eq_true hb) hne
        · rfl
  · cases hw : writes o.op with
    | true =>
      rw [if_pos rfl, ← cutH (i + 1) (by omega)]
      refine stL_H st v ops.size (fun j hj hwj => ?_)
      obtain ⟨p, hp, hpw⟩ := wrOf_some hF hwj
      by_cases hne : j = i
      · subst hne; simp [L']
      · have := seen hF hc hD ho hi hready hlt0 hp (fun _ => (conf_mem hF hpw (writes_touches hw)).1) (fun _ => (conf_mem hF hpw (writes_touches hw)).2) hne
        simp only [L', hne, if_false, this]
        congr 1
        simp; omega
    | false =>
      rw [if_neg (by simp)]
      refine stL_H st v ops.size (fun j hj hwj => ?_)
      have hne : j ≠ i := fun e => by subst e; rw [hwr, hw] at hwj; cases hwj
      simp [L', hne]
end main
end
end Go.Ab
