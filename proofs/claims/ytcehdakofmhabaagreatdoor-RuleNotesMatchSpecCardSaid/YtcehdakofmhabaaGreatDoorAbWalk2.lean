/- Where the machine stops, the proof goes on. -/
import Derived.Test.YtcehdakofmhabaaGreatDoorAbWalk
namespace Go.Ab
set_option linter.unusedVariables false
set_option linter.unusedSimpArgs false
section
variable {P : Program} {T : Nat → Option TyI} {fn : Func} {nt n0 : Nat} {Post : AV → List HB → Prop}

/-- What a result variable holds. -/
def resSem (tmps : Array Value) : ResultVar → Sem Value
  | .tmp t => Pure.pure (tmps.getD t Go.undef)
  | .cell a t => do loadVar t (← asAddr (tmps.getD a Go.undef))
theorem results_eq (fn : Func) (tmps : Array Value) : results fn tmps = (do
    let vs ← fn.results.mapM (resSem tmps)
    Pure.pure (if h : vs.size = 1 then vs[0] else .tuple vs)) := rfl

theorem resOne_ok (hT : TabOk P T) {X : XT} {E : En} {s : St} {a : Act} {w : World} (h : Rel X E s nt a w) {r : ResultVar} {v : AV} (hv : resOne T s r = some v) :
    ∃ x, (resSem a.tmps r).run P w = .ok x w ∧ R E v x := by
  cases r with
  | tmp t => exact ⟨_, rfl, h.env t v hv⟩
  | cell b t =>
    simp only [resOne] at hv
    split at hv
    · rename_i x i hx hi
      split at hv
      · rename_i v' H' hv'
        simp only [Option.some.injEq] at hv; subst hv
        obtain ⟨_, ad, y, e1, e2, e3⟩ := aLoad_run (P := P) h.wr (hT _ _ hi) (h.env b x hx) hv'
        exact ⟨y, by simp only [resSem, e1, asAddr, Sem.run_bind, Sem.run_pure, Result.andThen_ok, e2], e3⟩
      · cases hv
    · cases hv

theorem results_ok (hT : TabOk P T) {X : XT} {E : En} {s : St} {a : Act} {w : World} (h : Rel X E s nt a w) {r : AV} (hr : resAV T s fn.results.toList = some r) :
    ∃ x, (results fn a.tmps).run P w = .ok x w ∧ R E r x := by
  have key : ∀ (l : List ResultVar) (vs : List AV), resAll T s l = some vs → ∃ xs : List Value, (l.mapM (resSem a.tmps)).run P w = .ok xs w ∧ Rs E vs xs := by
    intro l
    induction l with
    | nil => intro vs hv; simp only [resAll, Option.some.injEq] at hv; subst hv; exact ⟨[], rfl, .nil⟩
    | cons x r ih =>
      intro vs hv
      simp only [resAll] at hv
      split at hv
      · cases hv
      · rename_i v h1
        split at hv
        · cases hv
        · rename_i us h2
          simp only [Option.some.injEq] at hv; subst hv
          obtain ⟨xs, e1, e2⟩ := ih us h2
          obtain ⟨y, f1, f2⟩ := resOne_ok hT h h1
          refine ⟨y :: xs, ?_, .cons f2 e2⟩
          rw [List.mapM_cons]
          simp only [Sem.run_bind, Sem.run_pure, Result.andThen_ok, e1, f1]
  unfold resAV at hr
  have fin : ∀ (xs : List Value), (fn.results.toList.mapM (resSem a.tmps)).run P w = .ok xs w →
      (results fn a.tmps).run P w = .ok (if h : xs.toArray.size = 1 then xs.toArray[0] else .tuple xs.toArray) w := by
    intro xs hxs
    rw [results_eq, Sem.run_bind, Array.mapM_eq_mapM_toList, Sem.run_map, hxs]
    rfl
  split at hr
  · rename_i v hv
    simp only [Option.some.injEq] at hr; subst hr
    obtain ⟨xs, e1, e2⟩ := key _ _ hv
    obtain ⟨x, rx, rfl, h1, h2⟩ := e2.cons_inv
    have hn := h2.nil_inv
    subst hn
    exact ⟨x, by rw [fin _ e1]; rfl, h1⟩
  · rename_i vs hne hv
    simp only [Option.some.injEq] at hr; subst hr
    obtain ⟨xs, e1, e2⟩ := key _ _ hv
    have hl : ¬ xs.toArray.size = 1 := by
      intro h1
      have := e2.1
      simp at h1
      rw [h1] at this
      match vs, this with
      | [v], _ => exact hne v rfl
    exact ⟨.tuple xs.toArray, by rw [fin _ e1, dif_neg hl], .tuple _ _ (by simpa using e2.1) (fun j c x hc hx => e2.2 j c x hc (by simpa using hx))⟩
  · cases hr

theorem awp_ret (hT : TabOk P T) {k : List Item} {s : St} (hk : k = [] ∨ ∃ k', k = .code .ret :: k') {r : AV} (hr : resAV T s fn.results.toList = some r) (hp : Post r s.H) : Awp P fn nt n0 k s Post := by
  intro X E0 E a w w0 h1 h2 h3 h4 h5 b cs
  obtain ⟨x, hx, hR⟩ := results_ok hT h5 hr
  rcases hk with rfl | ⟨k', rfl⟩
  · exact ⟨a, w, _, E, x, r, s.H, .one step_end, h5.defers, hx, h1, h2, h5.wr, h4, hR, hp⟩
  · exact ⟨a, w, _, E, x, r, s.H, .one step_ret, h5.defers, hx, h1, h2, h5.wr, h4, hR, hp⟩

/-- One operation of a region. -/
theorem awp_op {k : List Item} {s : St} {ops : Array Oper} {i : Nat} {rest : List Nat} {o : Oper} (ho : ops[i]? = some o) (hd : canPut nt o.dst = true)
    {v : AV} {H' : List HB} (hop : ∀ X E a w, Rel X E s nt a w → Region.wanted o (yielded ops a.tmps) = true ∧ OpDoes P X E (execOp a.eval o) w v H')
    (h : Awp P fn nt n0 (.inRegion ops rest :: k) (s.put o.dst v H') Post) : Awp P fn nt n0 (.inRegion ops (i :: rest) :: k) s Post := by
  intro X E0 E a w w0 h1 h2 h3 h4 h5 b cs
  obtain ⟨hw, x, nx, w', E', g1, g2, g3, g4, g5, g6, g7⟩ := hop X E a w h5
  have hg := stepG_op (P := P) (b := b) (k := k) (cs := cs) (w := w) (rest := rest) ho hw
  have hfin : ∀ v, (b.at a (.inRegion ops (i :: rest) :: k)).finish v = b.at (a.put o.dst v) (.inRegion ops rest :: k) := by
    intro v; rw [Frame.finish_at, ho]; rfl
  have hstep : step P (lone (b.at a (.inRegion ops (i :: rest) :: k)) cs w) = .next (lone (b.at (a.put o.dst x) (.inRegion ops rest :: k)) cs w') := by
    rcases g2 with rfl | ⟨rfl, rfl⟩
    · refine step_lone_go ?_
      rw [hg, ← hfin]; simp [stepG.apply, g1]
    · refine step_lone_go ?_
      rw [hg, ← hfin]; simp [stepG.apply, g1]
  have hrel : Rel X E' (s.put o.dst v H') nt (a.put o.dst x) w' := by
    have := (h5.mono g3 g5).put (v := v) (x := x) hd g7
    cases hod : o.dst with
    | none => rw [hod] at this; exact this
    | some t => rw [hod] at this; exact this
  exact goes_steps (.one hstep) (h X E0 E' _ w' w0 (h1.trans g3) (h2.trans g4) h3 (h4.trans g6) hrel b cs)

theorem awp_skip {k : List Item} {s : St} {ops : Array Oper} {i : Nat} {rest : List Nat} {o : Oper} (ho : ops[i]? = some o) (hd : canPut nt o.dst = true)
    (hop : ∀ X E a w, Rel X E s nt a w → Region.wanted o (yielded ops a.tmps) = false)
    (h : Awp P fn nt n0 (.inRegion ops rest :: k) (s.put o.dst .undef s.H) Post) : Awp P fn nt n0 (.inRegion ops (i :: rest) :: k) s Post := by
  intro X E0 E a w w0 h1 h2 h3 h4 h5 b cs
  have hs := step_op_skip (P := P) (b := b) (a := a) (k := k) (cs := cs) (w := w) (ops := ops) (i := i) (rest := rest) (by simp [ho, hop X E a w h5])
  simp only [ho, Option.bind_some] at hs
  exact goes_steps (.one hs) (h X E0 E _ w w0 h1 h2 h3 h4 (h5.skipped hd) b cs)

theorem awp_call {k : List Item} {s : St} {ops : Array Oper} {i : Nat} {rest : List Nat} {o : Oper} (ho : ops[i]? = some o) (hd : canPut nt o.dst = true) {f : Nat} {args : List AV} {Q : AV → List HB → Prop}
    (hop : ∀ X E a w, Rel X E s nt a w → Region.wanted o (yielded ops a.tmps) = true ∧ ∃ xs : Array Value, Rs E args xs.toList ∧ (execOp a.eval o).run P w = .ok (.enter f xs) w) (hret : RetE P f args s.H Q)
    (h : ∀ r H', Q r H' → Awp P fn nt n0 (.inRegion ops rest :: k) (s.put o.dst r H') Post) : Awp P fn nt n0 (.inRegion ops (i :: rest) :: k) s Post := by
  intro X E0 E a w w0 h1 h2 h3 h4 h5 b cs
  obtain ⟨hw, xs, hxs, hrun⟩ := hop X E a w h5
  have hg := stepG_op (P := P) (b := b) (k := k) (cs := cs) (w := w) (rest := rest) ho hw
  have hfin : ∀ v, (b.at a (.inRegion ops (i :: rest) :: k)).finish v = b.at (a.put o.dst v) (.inRegion ops rest :: k) := by
    intro v; rw [Frame.finish_at, ho]; rfl
  have henter : step P (lone (b.at a (.inRegion ops (i :: rest) :: k)) cs w) =
      .next (lone (Frame.enter P f xs .normal) (b.at a (.inRegion ops (i :: rest) :: k) :: cs) w) :=
    step_lone_go (by rw [hg]; simp [stepG.apply, hrun, Frame.at])
  obtain ⟨e, w', fr, ⟨x, E', r, H', hQ, rfl, g3, g4, g5, g6, g7⟩, hsteps, _, hleave⟩ := hret.2 X E w xs h5.wr hxs (b.at a (.inRegion ops (i :: rest) :: k) :: cs)
  have hlast : step P (lone fr (b.at a (.inRegion ops (i :: rest) :: k) :: cs) w') = .next (lone (b.at (a.put o.dst x) (.inRegion ops rest :: k)) cs w') := by
    rw [← hfin]; exact step_leave_returned hleave
  have hrel : Rel X E' (s.put o.dst r H') nt (a.put o.dst x) w' := by
    have := (h5.mono g3 g5).put (v := r) (x := x) hd g7
    cases hod : o.dst with
    | none => rw [hod] at this; exact this
    | some t => rw [hod] at this; exact this
  exact goes_steps (.head henter (Steps.trans hsteps (.one hlast))) (h r H' hQ X E0 E' _ w' w0 (h1.trans g3) (h2.trans g4) h3 (h4.trans g6) hrel b cs)

theorem opEnv_R {X : XT} {E : En} {s : St} {a : Act} {w : World} (h : Rel X E s nt a w) {G : Bool} (hG : G = true) : ∀ {l : List Operand}, opNeeds G s l → ∀ t v, look (opEnv G s l) t = some v → R E v (a.tmps.getD t Go.undef)
  | [], _, t, v, hv => by cases hv
  | x :: r, hn, t, v, hv => by
    have ih := fun h' => opEnv_R h hG (l := r) h' t v
    cases x with
    | tmp u =>
      simp only [opEnv, opNeeds] at hv hn
      split at hv
      · rename_i g1 v1 hl
        rw [hl] at hn
        simp only [look] at hv
        split at hv
        · rename_i hb
          have := Nat.eq_of_beq_eq_true hb
          subst this
          simp only [Option.some.injEq] at hv; subst hv
          exact (h.env _ _ hl).when_true (hn.1 hG)
        · exact ih hn.2 hv
      · rename_i v1 hne hl
        simp only [look] at hv
        have hn' : opNeeds G s r := by
          rw [hl] at hn
          split at hn
          · rename_i g1 v2 he; cases he; exact hn.2
          · exact hn
        split at hv
        · rename_i hb
          have := Nat.eq_of_beq_eq_true hb
          subst this
          simp only [Option.some.injEq] at hv; subst hv
          exact h.env _ _ hl
        · exact ih hn' hv
      · rename_i hl
        rw [hl] at hn
        exact ih hn hv
    | const c => exact ih hn hv
    | global g => exact ih hn hv
    | func f => exact ih hn hv
theorem rawEnv_R {X : XT} {E : En} {s : St} {a : Act} {w : World} (h : Rel X E s nt a w) : ∀ {l : List Operand}, ∀ t v, look (rawEnv s l) t = some v → R E v (a.tmps.getD t Go.undef)
  | [], t, v, hv => by cases hv
  | x :: r, t, v, hv => by
    have ih := rawEnv_R h (l := r) t v
    cases x with
    | tmp u =>
      simp only [rawEnv] at hv
      split at hv
      · rename_i v1 hl
        simp only [look] at hv
        split at hv
        · rename_i hb
          have := Nat.eq_of_beq_eq_true hb
          subst this
          simp only [Option.some.injEq] at hv; subst hv
          exact h.env _ _ hl
        · exact ih hv
      · exact ih hv
    | const c => exact ih hv
    | global g => exact ih hv
    | func f => exact ih hv
theorem look_append {a b : List (Nat × AV)} {t : Nat} {v : AV} (h : look (a ++ b) t = some v) : look a t = some v ∨ look b t = some v := by
  induction a with
  | nil => exact .inr h
  | cons p r ih =>
    obtain ⟨k, u⟩ := p
    simp only [List.cons_append, look] at h ⊢
    split at h
    · exact .inl h
    · exact ih h
theorem gEnv_Rel {X : XT} {E : En} {s : St} {a : Act} {w : World} (h : Rel X E s nt a w) {G : Bool} (hG : G = true) {op : Op} (hn : (gEnv G s op).2) : Rel X E ⟨(gEnv G s op).1, s.H⟩ nt a w := by
  refine ⟨h.defers, h.size, fun t v hv => ?_, h.wr⟩
  unfold gEnv at hv hn
  split at hv
  · rcases look_append hv with hv | hv
    · exact opEnv_R h hG hn t v hv
    · exact rawEnv_R h t v hv
  · rename_i hne
    have hn' : opNeeds G s op.operands.toList := by
      split at hn
      · rename_i c x y; exact absurd rfl (hne c x y)
      · exact hn
    exact opEnv_R h hG hn' t v hv

/-- A guarded operation, told with its guard. -/
theorem awp_guarded {k : List Item} {s : St} {ops : Array Oper} {i : Nat} {rest : List Nat} {o : Oper} (ho : ops[i]? = some o) (hd : canPut nt o.dst = true) {G : Bool} {v : AV}
    (hw : ∀ X E a w, Rel X E s nt a w → Region.wanted o (yielded ops a.tmps) = G) (hop : G = true → ∀ X E a w, Rel X E s nt a w → OpDoes P X E (execOp a.eval o) w v s.H)
    (h : Awp P fn nt n0 (.inRegion ops rest :: k) (s.put o.dst (.whenB G v) s.H) Post) : Awp P fn nt n0 (.inRegion ops (i :: rest) :: k) s Post := by
  cases G with
  | true =>
    refine awp_op ho hd (fun X E a w hr => ⟨hw X E a w hr, ?_⟩) h
    obtain ⟨x, n, w', E', g1, g2, g3, g4, g5, g6, g7⟩ := hop rfl X E a w hr
    exact ⟨x, n, w', E', g1, g2, g3, g4, g5, g6, .whenT g7⟩
  | false =>
    intro X E0 E a w w0 h1 h2 h3 h4 h5 b cs
    have hs := step_op_skip (P := P) (b := b) (a := a) (k := k) (cs := cs) (w := w) (ops := ops) (i := i) (rest := rest) (by simp [ho, hw X E a w h5])
    simp only [ho, Option.bind_some] at hs
    exact goes_steps (.one hs) (h X E0 E _ w w0 h1 h2 h3 h4 (h5.put hd (.whenF v)) b cs)

theorem awp_branch {k : List Item} {s : St} {t : Nat} {g : Bool} (hl : look s.env t = some (.bool g)) (yes : g = true → Awp P fn nt n0 k { s with env := (t, .tt) :: s.env } Post) (no : g = false → Awp P fn nt n0 k { s with env := (t, .ff) :: s.env } Post) :
    Awp P fn nt n0 k s Post := by
  intro X E0 E a w w0 h1 h2 h3 h4 h5
  have hb := (h5.env t _ hl).bool_inv
  cases g
  · exact no rfl X E0 E a w w0 h1 h2 h3 h4 (h5.bool hb)
  · exact yes rfl X E0 E a w w0 h1 h2 h3 h4 (h5.bool hb)
theorem awp_cond {k : List Item} {s : St} {c : Operand} {x y : Code} {b : Bool} (hc : ∀ X E a w, Rel X E s nt a w → a.eval c = .bool b) (h : Awp P fn nt n0 (.code (if b then x else y) :: k) s Post) :
    Awp P fn nt n0 (.code (.cond c x y) :: k) s Post :=
  awp_step (fun X E a w hr bb cs => step_cond (hc X E a w hr)) h

section
variable {go : List Item → St → Prop → Stop}
theorem runG_ok (hgo : ∀ k s vc, (go k s vc).Ok P T fn nt n0 Post → vc ∧ Awp P fn nt n0 k s Post) (hT : TabOk P T) {ops : Array Oper} {i : Nat} {r : List Nat} {o : Oper} {k : List Item} {s : St} {vc : Prop} (ho : ops[i]? = some o) (hd : canPut nt o.dst = true) (hg : guardOf nt ops s o = .go)
    (h : (runG T nt go ops i r o k s vc).Ok P T fn nt n0 Post) : vc ∧ Awp P fn nt n0 (.inRegion ops (i :: r) :: k) s Post := by
  unfold runG at h
  split at h
  · rename_i v H he
    refine ⟨(hgo _ _ _ h).1, awp_op ho hd (fun X E a w hr => ⟨(guard_go hr).1 hg, ?_⟩) (hgo _ _ _ h).2⟩
    have := exec1_ok hT hr o
    rw [he] at this; exact this
  · rename_i v H c he
    obtain ⟨⟨h1, hc⟩, h2⟩ := hgo _ _ _ h
    refine ⟨h1, awp_op ho hd (fun X E a w hr => ⟨(guard_go hr).1 hg, ?_⟩) h2⟩
    have := exec1_ok hT hr o
    rw [he] at this; exact this hc
  · rename_i f args he
    obtain ⟨h1, Q, h2, h3⟩ := h
    exact ⟨h1, awp_call ho hd (fun X E a w hr => ⟨(guard_go hr).1 hg, run_call hr he h2.1⟩) h2 h3⟩
  · rename_i l ix he
    obtain ⟨h1, h2, e, h3, h4⟩ := h
    exact ⟨h1, awp_op ho hd (fun X E a w hr => ⟨(guard_go hr).1 hg, run_elem hT hr he h2 e h3⟩) h4⟩
  · exact h
theorem runP_ok (hgo : ∀ k s vc, (go k s vc).Ok P T fn nt n0 Post → vc ∧ Awp P fn nt n0 k s Post) (hT : TabOk P T) {other : Stop} {G : Bool} {ops : Array Oper} {i : Nat} {r : List Nat} {o : Oper} {k : List Item} {s : St} {vc : Prop} (ho : ops[i]? = some o) (hd : canPut nt o.dst = true)
    (hw : ∀ X E a w, Rel X E s nt a w → Region.wanted o (yielded ops a.tmps) = G) (hoth : other.Ok P T fn nt n0 Post → vc ∧ Awp P fn nt n0 (.inRegion ops (i :: r) :: k) s Post)
    (h : (runP T nt go other G ops r o k s vc).Ok P T fn nt n0 Post) : vc ∧ Awp P fn nt n0 (.inRegion ops (i :: r) :: k) s Post := by
  unfold runP at h
  split at h
  · exact hoth h
  · rename_i hwr
    split at h
    · rename_i v H he
      obtain ⟨⟨h1, hn⟩, h2⟩ := hgo _ _ _ h
      refine ⟨h1, awp_guarded ho hd hw (fun hG X E a w hr => ?_) h2⟩
      have := exec1_ok hT (gEnv_Rel hr hG hn) o
      rw [he] at this
      have hh : H = s.H := exec1_H (s := ⟨(gEnv G s o.op).1, s.H⟩) hwr (.inl he)
      rw [← hh]; exact this
    · rename_i v H c he
      obtain ⟨⟨⟨h1, hn⟩, hc⟩, h2⟩ := hgo _ _ _ h
      refine ⟨h1, awp_guarded ho hd hw (fun hG X E a w hr => ?_) h2⟩
      have := exec1_ok hT (gEnv_Rel hr hG hn) o
      rw [he] at this
      have hh : H = s.H := exec1_H (s := ⟨(gEnv G s o.op).1, s.H⟩) hwr (.inr ⟨c, he⟩)
      rw [← hh]; exact this (hc hG)
    · exact hoth h
theorem runR_ok (hgo : ∀ k s vc, (go k s vc).Ok P T fn nt n0 Post → vc ∧ Awp P fn nt n0 k s Post) (hT : TabOk P T) {ops : Array Oper} {i : Nat} {r : List Nat} {k : List Item} {s : St} {vc : Prop}
    (h : (runR T nt go ops i r k s vc).Ok P T fn nt n0 Post) : vc ∧ Awp P fn nt n0 (.inRegion ops (i :: r) :: k) s Post := by
  unfold runR at h
  split at h
  · exact h
  · rename_i o ho
    split at h
    · exact h
    · rename_i hd
      split at h
      · exact h
      · rename_i hg
        exact ⟨(hgo _ _ _ h).1, awp_skip ho hd (fun X E a w hr => (guard_go hr).2.1 hg) (hgo _ _ _ h).2⟩
      · rename_i t g w' hg
        refine runP_ok hgo hT ho hd (fun X E a w hr => ((guard_go hr).2.2.1 _ _ _ hg).2) (fun h => ?_) h
        obtain ⟨h1, h2, h3⟩ := h
        refine ⟨h1, ?_⟩
        intro X E0 E a w w0 r1 r2 r3 r4 r5
        exact awp_branch ((guard_go r5).2.2.1 _ _ _ hg).1.1 h2 h3 X E0 E a w w0 r1 r2 r3 r4 r5
      · rename_i g1 g w' hg
        exact runP_ok (other := .stuck (.inRegion ops (i :: r) :: k) s vc) hgo hT ho hd (fun X E a w hr => (guard_go hr).2.2.2 _ _ _ hg) (fun h => h) h
      · rename_i hg
        exact runG_ok hgo hT ho hd hg h
theorem runB_ok (hgo : ∀ k s vc, (go k s vc).Ok P T fn nt n0 Post → vc ∧ Awp P fn nt n0 k s Post) {c : Operand} {x y : Code} {k : List Item} {s : St} {vc : Prop} (h : (runB go c x y k s vc).Ok P T fn nt n0 Post) : vc ∧ Awp P fn nt n0 (.code (.cond c x y) :: k) s Post := by
  unfold runB at h
  split at h
  · rename_i hc
    exact ⟨(hgo _ _ _ h).1, awp_cond (b := true) (fun X E a w hr => (hr.ev hc).tt_inv) (hgo _ _ _ h).2⟩
  · rename_i hc
    exact ⟨(hgo _ _ _ h).1, awp_cond (b := false) (fun X E a w hr => (hr.ev hc).ff_inv) (hgo _ _ _ h).2⟩
  · rename_i g hc
    split at h
    · rename_i t
      obtain ⟨h1, h2, h3⟩ := h
      refine ⟨h1, awp_branch (t := t) hc (fun hg => ?_) (fun hg => ?_)⟩
      · exact awp_cond (b := true) (fun X E a w hr => (hr.ev (v := .tt) (by simp [St.ev, look, Nat.beq_refl])).tt_inv) (h2 hg)
      · exact awp_cond (b := false) (fun X E a w hr => (hr.ev (v := .ff) (by simp [St.ev, look, Nat.beq_refl])).ff_inv) (h3 hg)
    · exact h
  · exact h
theorem runC_ok (hgo : ∀ k s vc, (go k s vc).Ok P T fn nt n0 Post → vc ∧ Awp P fn nt n0 k s Post) (hT : TabOk P T) {c : Code} {k : List Item} {s : St} {vc : Prop} (h : (runC go c k s vc).Ok P T fn nt n0 Post) : vc ∧ Awp P fn nt n0 (.code c :: k) s Post := by
  unfold runC at h
  split at h
  · obtain ⟨h1, r, h2, h3⟩ := h
    exact ⟨h1, awp_ret hT (.inr ⟨_, rfl⟩) h2 h3⟩
  · exact ⟨(hgo _ _ _ h).1, awp_step (fun _ _ _ _ _ _ _ => step_skip) (hgo _ _ _ h).2⟩
  · exact ⟨(hgo _ _ _ h).1, awp_step (fun _ _ _ _ _ _ _ => step_label) (hgo _ _ _ h).2⟩
  · exact ⟨(hgo _ _ _ h).1, awp_step (fun _ _ _ _ _ _ _ => step_seq) (hgo _ _ _ h).2⟩
  · exact ⟨(hgo _ _ _ h).1, awp_step (fun _ _ _ _ _ _ _ => step_block) (hgo _ _ _ h).2⟩
  · exact ⟨(hgo _ _ _ h).1, awp_step (fun _ _ _ _ _ b cs => step_lone_go (by simp [stepG, stepG.exec, Frame.at])) (hgo _ _ _ h).2⟩
  · split at h
    · rename_i k' hk
      exact ⟨(hgo _ _ _ h).1, awp_step (fun _ _ _ _ _ _ _ => step_exit hk) (hgo _ _ _ h).2⟩
    · exact h
  · exact runB_ok hgo h
  · exact h
  · exact h
  · exact ⟨(hgo _ _ _ h).1, awp_step (fun _ _ _ _ _ _ _ => step_region) (hgo _ _ _ h).2⟩
  · exact h
end

theorem run_ok (hT : TabOk P T) : ∀ (n : Nat) (k : List Item) (s : St) (vc : Prop), (run T nt n k s vc).Ok P T fn nt n0 Post → vc ∧ Awp P fn nt n0 k s Post := by
  intro n
  induction n with
  | zero => intro k s vc h; exact h
  | succ n ih =>
    intro k s vc h
    unfold run at h
    split at h
    · obtain ⟨h1, r, h2, h3⟩ := h
      exact ⟨h1, awp_ret hT (.inl rfl) h2 h3⟩
    · exact runC_ok ih hT h
    · exact ⟨(ih _ _ _ h).1, awp_step (fun _ _ _ _ _ _ _ => step_inBlock) (ih _ _ _ h).2⟩
    · exact ⟨(ih _ _ _ h).1, awp_step (fun _ _ _ _ _ b cs => step_lone_go (by simp [stepG, stepG.exec, Frame.at])) (ih _ _ _ h).2⟩
    · exact h
    · exact ⟨(ih _ _ _ h).1, awp_step (fun _ _ _ _ _ _ _ => step_region_end) (ih _ _ _ h).2⟩
    · exact runR_ok ih hT h
    · exact h
end
end Go.Ab
