/- One operation. -/
import Derived.Test.YtcehdakofmhabaaGreatDoorAbGrow5
namespace Go.Ab
set_option linter.unusedVariables false
set_option linter.unusedSimpArgs false
section
variable {P : Program} {X : XT} {E : En} {s : St} {nt : Nat} {a : Act} {w : World} {T : Nat → Option TyI}

/-- What an operation does to world and variables. -/
def OpDoes (P : Program) (X : XT) (E : En) (m : Sem Next) (w : World) (v : AV) (H' : List HB) : Prop :=
  ∃ x n w' E', m.run P w = .ok n w' ∧ (n = .value x ∨ (n = .skip ∧ x = Go.undef)) ∧ E.le E' ∧ Off X E E' ∧ Wr X E' H' w' ∧ Ext w w' ∧ R E' v x
theorem does_op {m : Sem Value} {v : AV} {H' : List HB} (h : Does P X E m w v H') : OpDoes P X E (do pure (.value (← m))) w v H' := by
  obtain ⟨x, w', E', h1, h2⟩ := h
  exact ⟨x, .value x, w', E', by rw [Sem.run_bind, h1]; rfl, .inl rfl, h2⟩
theorem Out.Ok.op {o : Out} {m : Sem Value} (h : o.Ok fun v H' => Does P X E m w v H') : o.Ok fun v H' => OpDoes P X E (do pure (.value (← m))) w v H' := by
  cases o <;> simp only [Out.Ok] at h ⊢
  · exact does_op h
  · exact fun hc => does_op (h hc)
theorem OpDoes.pure {H : List HB} {m : Sem Next} {v : AV} {x : Value} (hw : Wr X E H w) (hr : m.run P w = .ok (.value x) w) (h : R E v x) : OpDoes P X E m w v H :=
  ⟨x, _, w, E, hr, .inl rfl, .refl _, .refl _ _, hw, .refl _, h⟩

theorem R.when_true {g : Bool} {v : AV} {x : Value} (h : R E (.whenB g v) x) (hg : g = true) : R E v x := by
  subst hg
  cases h with
  | ground h => cases h
  | whenT h => exact h

theorem aIndexAddr_ok (hT : TabOk P T) (hw : Wr X E s.H w) {t : Nat} {i : TyI} (hi : TyOk P t i) {x y : AV} {u v : Value} (hx : R E x u) (hy : R E y v) :
    (aIndexAddr i T x y s.H).Ok fun v' H' => Does P X E (Instr.indexAt t u v) w v' H' := by
  have hu := hi.und
  unfold aIndexAddr
  split
  · rename_i e k n hd
    rw [hd] at hu
    obtain rfl := hy.int_inv
    split
    · rename_i j hj
      have hsz := (hT _ _ hj).run_size (w := w)
      split
      · split <;> trivial
      · rename_i id off len
        obtain ⟨b, off', cap, hb, hcap, hbig, ho, rfl⟩ := hx.ref_inv
        intro ⟨h0, h1⟩
        have : off' = off := by rcases ho with h | h <;> omega
        subst this
        exact Does.pure hw (by simp [Instr.indexAt, asIntOf, run_underlying hu, h0, h1, hsz, Addr.add_lit]) (.ptr _ hb)
      · trivial
    · trivial
  · trivial
theorem aIndexAddr_elem (hT : TabOk P T) (hw : Wr X E s.H w) {t : Nat} {i : TyI} (hi : TyOk P t i) {x y : AV} {u v : Value} (hx : R E x u) (hy : R E y v) {l : List AV} {ix : Int}
    (h : aIndexAddr i T x y s.H = .elem l ix) (h0 : 0 ≤ ix) (e : AV) (he : l[ix.toNat]? = some e) : Does P X E (Instr.indexAt t u v) w (.fptr e.cells) s.H := by
  have hu := hi.und
  unfold aIndexAddr at h
  split at h
  · rename_i el k n hd
    rw [hd] at hu
    obtain rfl := hy.int_inv
    split at h
    · rename_i j hj
      have hsz := (hT _ _ hj).run_size (w := w)
      split at h
      · rename_i sz l' tok
        split at h
        · rename_i hs
          have hs := Nat.eq_of_beq_eq_true hs
          subst hs
          cases h
          have hg := hx.row_g
          cases hg with
          | row0 => simp at he
          | row00 => simp at he
          | row _ _ b off cap vs h1 h2 h3 h4 h5 =>
            have hlt : ix.toNat < l.length := (List.getElem?_eq_some_iff.1 he).1
            have hix : ix < (l.length : Int) := by omega
            refine Does.pure hw (x := .pointer (some ⟨b, off + ix.toNat * j.size, none⟩)) (by simp [Instr.indexAt, asIntOf, run_underlying hu, h0, hix, hsz, Addr.add_lit]) ?_
            exact .fptr _ b _ (fun q => vs ix.toNat q) (fun q c hc => h4 _ _ _ _ he hc) (fun q c hc => h5 _ _ _ _ he hc)
        · cases h
      · cases h
      · cases h
    · cases h
  · cases h

theorem oMove_ok (hw : Wr X E s.H w) (h : Rel X E s nt a w) (x : Operand) {m : Sem Next} (hm : m.run P w = .ok (.value (a.eval x)) w) : (oMove s x).Ok fun v H' => OpDoes P X E m w v H' := by
  unfold oMove
  split
  · rename_i v hv; exact OpDoes.pure hw hm (h.ev hv)
  · trivial

theorem aPick_ok (hw : Wr X E s.H w) (h : Rel X E s nt a w) (c x y : Operand) : (oPick s c x y).Ok fun v H' => OpDoes P X E (do pure (.value (if ← asBool (a.eval c) then a.eval x else a.eval y))) w v H' := by
  have tt : ∀ {b : Bool}, a.eval c = .bool b → ∀ {v : AV}, R E v (if b = true then a.eval x else a.eval y) → OpDoes P X E (do pure (.value (if ← asBool (a.eval c) then a.eval x else a.eval y))) w v s.H := by
    intro b hb v hv
    refine OpDoes.pure hw ?_ hv
    rw [hb]; rfl
  unfold oPick
  split
  · rename_i h1
    refine oMove_ok hw h x ?_
    rw [(h.ev h1).tt_inv]; rfl
  · rename_i h1
    refine oMove_ok hw h y ?_
    rw [(h.ev h1).ff_inv]; rfl
  · rename_i g h1
    have hc := (h.ev h1).bool_inv
    split
    · rename_i p q h2 h3
      have hx := h.ev h2
      have hy := h.ev h3
      unfold pickB
      split
      · split
        · rename_i r1 r2 e1 e2
          rintro ⟨k1, k2⟩
          refine tt hc ?_
          cases g
          · rw [if_neg (by simp), toB_ok e2 (hy.when_true (k2 rfl))]; exact .ground (.bool _)
          · rw [if_pos rfl, toB_ok e1 (hx.when_true (k1 rfl))]; exact .ground (.bool _)
        · trivial
      · split
        · rename_i r1 r2 e1 e2
          intro k1
          refine tt hc ?_
          cases g
          · rw [if_neg (by simp), toB_ok e2 hy]; exact .ground (.bool _)
          · rw [if_pos rfl, toB_ok e1 (hx.when_true (k1 rfl))]; exact .ground (.bool _)
        · trivial
      · split
        · rename_i r1 r2 e1 e2
          intro k2
          refine tt hc ?_
          cases g
          · rw [if_neg (by simp), toB_ok e2 (hy.when_true (k2 rfl))]; exact .ground (.bool _)
          · rw [if_pos rfl, toB_ok e1 hx]; exact .ground (.bool _)
        · trivial
      · split
        · rename_i r1 r2 e1 e2
          refine tt hc ?_
          cases g
          · rw [if_neg (by simp), toB_ok e2 hy]; exact .ground (.bool _)
          · rw [if_pos rfl, toB_ok e1 hx]; exact .ground (.bool _)
        · trivial
    · trivial
  · trivial

theorem evO_ok (h : Rel X E s nt a w) {o : Option Operand} {v : Option AV} (hv : evO s o = some v) : OR E v (o.map a.eval) := by
  cases o with
  | none => simp only [evO, Option.some.injEq] at hv; subst hv; exact .inl ⟨rfl, rfl⟩
  | some x =>
    simp only [evO] at hv
    split at hv
    · rename_i u hu
      simp only [Option.some.injEq] at hv; subst hv
      exact .inr ⟨_, _, rfl, rfl, h.ev hu⟩
    · cases hv

theorem oCall_ok (hT : TabOk P T) (h : Rel X E s nt a w) (o : Oper) (c : Call) (ho : o.op = .call c) : (oCall T s c.callee c.args.toList c.argTypes.toList).Ok fun v H' => OpDoes P X E (execOp a.eval o) w v H' := by
  have hw := h.wr
  obtain ⟨callee, args, argTypes⟩ := c
  obtain ⟨dst, op, ty, pos, after, guard⟩ := o
  simp only at ho
  subst ho
  unfold oCall
  split
  · rename_i b vs hcal hvs
    simp only at hcal
    subst hcal
    have hr := h.evs hvs
    unfold aBuiltin
    split
    · rename_i t x htys
      obtain ⟨u, r, hxs, h1, h2⟩ := hr.cons_inv
      have hr0 := h2.nil_inv
      subst hr0
      have hargs : args.map a.eval = #[u] := by apply Array.toList_inj.1; simpa using hxs
      have hty : argTypes = #[t] := by apply Array.toList_inj.1; simpa using htys
      split
      · rename_i i hi
        have := (aLen_ok (H := s.H) hw (hT _ _ hi) h1 ty).op (P := P)
        have he : execOp a.eval ⟨dst, .call ⟨.builtin .len, args, argTypes⟩, ty, pos, after, guard⟩ = (do pure (.value (← Builtin.len_ #[t] ty #[u]))) := by
          simp [execOp, resolve, invoke, builtin, hargs, hty]
        rw [he]; exact this
      · trivial
    · rename_i t t' x y htys
      obtain ⟨u, r, hxs, h1, h2⟩ := hr.cons_inv
      obtain ⟨u2, r2, rfl, h3, h4⟩ := h2.cons_inv
      have hr0 := h4.nil_inv
      subst hr0
      have hargs : args.map a.eval = #[u, u2] := by apply Array.toList_inj.1; simpa using hxs
      have hty : argTypes = #[t, t'] := by apply Array.toList_inj.1; simpa using htys
      split
      · rename_i i j hi hj
        have := (aAppend_ok (H := s.H) hT hw (hT _ _ hi) (hT _ _ hj) ty h1 h3).op (P := P)
        have he : execOp a.eval ⟨dst, .call ⟨.builtin .append, args, argTypes⟩, ty, pos, after, guard⟩ = (do pure (.value (← Builtin.append_ #[t, t'] ty #[u, u2]))) := by
          simp [execOp, resolve, invoke, builtin, hargs, hty]
        rw [he]; exact this
      · trivial
    · rename_i x y
      obtain ⟨u, r, hxs, h1, h2⟩ := hr.cons_inv
      obtain ⟨u2, r2, rfl, h3, h4⟩ := h2.cons_inv
      have hr0 := h4.nil_inv
      subst hr0
      have hargs : args.map a.eval = #[u, u2] := by apply Array.toList_inj.1; simpa using hxs
      have := (aMin_ok (P := P) (H := s.H) hw true argTypes ty h1 h3).op
      have he : execOp a.eval ⟨dst, .call ⟨.builtin .min, args, argTypes⟩, ty, pos, after, guard⟩ = (do pure (.value (← Builtin.min_ argTypes ty #[u, u2]))) := by
        simp [execOp, resolve, invoke, builtin, hargs]
      rw [he]; simpa using this
    · rename_i x y
      obtain ⟨u, r, hxs, h1, h2⟩ := hr.cons_inv
      obtain ⟨u2, r2, rfl, h3, h4⟩ := h2.cons_inv
      have hr0 := h4.nil_inv
      subst hr0
      have hargs : args.map a.eval = #[u, u2] := by apply Array.toList_inj.1; simpa using hxs
      have := (aMin_ok (P := P) (H := s.H) hw false argTypes ty h1 h3).op
      have he : execOp a.eval ⟨dst, .call ⟨.builtin .max, args, argTypes⟩, ty, pos, after, guard⟩ = (do pure (.value (← Builtin.max_ argTypes ty #[u, u2]))) := by
        simp [execOp, resolve, invoke, builtin, hargs]
      rw [he]; simpa using this
    · trivial
  · split
    · unfold aCallee; split <;> trivial
    · trivial
  · trivial

theorem oNil_ok (h : Rel X E s nt a w) (o : Oper) (x : Operand) (ho : o.op = .nilCheck x) : (oNil s x).Ok fun v H' => OpDoes P X E (execOp a.eval o) w v H' := by
  have hw := h.wr
  unfold oNil
  split
  · rename_i i o' hv
    have hr := h.ev hv
    obtain ⟨b, hb, hx⟩ := hr.ptr_inv
    exact OpDoes.pure hw (by simp only [execOp, ho, hx]; rfl) (hx ▸ hr)
  · rename_i cs hv
    have hr := h.ev hv
    obtain ⟨b, off, vs, hx, _⟩ := hr.fptr_inv
    exact OpDoes.pure hw (by simp only [execOp, ho, hx]; rfl) (hx ▸ hr)
  · rename_i f cs hv
    have hr := h.ev hv
    obtain ⟨xs, hx, _⟩ := hr.func_inv
    exact OpDoes.pure hw (by simp only [execOp, ho, hx]; rfl) (hx ▸ hr)
  · trivial

theorem oStore_ok (hT : TabOk P T) (h : Rel X E s nt a w) (t : Nat) (x v : Operand) : (oStore T s t x v).Ok fun v' H' => OpDoes P X E (do Instr.storeAt t (a.eval x) (a.eval v); pure .skip) w v' H' := by
  unfold oStore
  split
  · rename_i i p q hi hp hq
    split
    · rename_i H' hH
      obtain ⟨w', h1, h2, h3⟩ := aStore_ok h.wr (hT _ _ hi) (h.ev hp) (h.ev hq) hH
      exact ⟨Go.undef, .skip, w', E, by rw [Sem.run_bind, h1]; rfl, .inr ⟨rfl, rfl⟩, .refl _, .refl _ _, h2, h3, .undef _⟩
    · trivial
  · trivial
theorem oMakeFunc_ok (h : Rel X E s nt a w) (fn : Fn) (first caps : Array Operand) : (oMakeFunc s fn first.toList caps.toList).Ok fun v H' => OpDoes P X E (do pure (.value (← Instr.makeFunc fn (first.map a.eval) (caps.map a.eval)))) w v H' := by
  unfold oMakeFunc
  split
  · rename_i f vs hf hv
    have hr := h.evs hv
    have hfe : first = #[] := by cases first; simp at hf; simp [hf]
    subst hfe
    refine OpDoes.pure h.wr (x := .func (.func f) #[] (caps.map a.eval)) (by simp [Instr.makeFunc]) ?_
    exact .func f vs _ (by have := hr.1; simpa using this) (fun j c x hc hx => hr.2 j c x hc (by simpa using hx))
  · trivial

theorem oBuild_ok (hT : TabOk P T) (h : Rel X E s nt a w) (t : Nat) (parts : Array (Nat × Operand)) : (oBuild T s t parts.toList).Ok fun v H' => Does P X E (Instr.build t (parts.map fun p => (p.1, a.eval p.2))) w v H' := by
  unfold oBuild
  split
  · rename_i i ps hi hps
    obtain ⟨e1, e2⟩ := evParts_ok h _ _ hps
    exact aBuild_ok hT h.wr (hT _ _ hi) (by simpa using e1) (fun j p q hp hq => e2 j p q hp (by simpa using hq))
  · trivial
theorem oBuildSlice_ok (hT : TabOk P T) (h : Rel X E s nt a w) (t len : Nat) (parts : Array (Nat × Operand)) : (oBuildSlice T s t len parts.toList).Ok fun v H' => Does P X E (Instr.buildSlice t len (parts.map fun p => (p.1, a.eval p.2))) w v H' := by
  unfold oBuildSlice
  split
  · rename_i i ps hi hps
    obtain ⟨e1, e2⟩ := evParts_ok h _ _ hps
    exact aBuildSlice_ok hT h.wr (hT _ _ hi) len (by simpa using e1) (fun j p q hp hq => e2 j p q hp (by simpa using hq))
  · trivial

theorem aop_ok (hT : TabOk P T) (h : Rel X E s nt a w) (o : Oper) : (aop T s o.op).Ok fun v H' => OpDoes P X E (execOp a.eval o) w v H' := by
  have hw := h.wr
  obtain ⟨dst, op, ty, pos, after, guard⟩ := o
  cases op with
  | move x => exact oMove_ok hw h x rfl
  | assign x => exact oMove_ok hw h x rfl
  | pick c x y => exact aPick_ok hw h c x y
  | nilCheck x => exact oNil_ok h ⟨dst, .nilCheck x, ty, pos, after, guard⟩ x rfl
  | alloc t =>
    show (oAlloc T s t).Ok _
    unfold oAlloc
    split
    · rename_i i hi; exact (aAlloc_ok hw (hT _ _ hi)).op
    · trivial
  | box t x =>
    show (oBox s x).Ok _
    unfold oBox
    split
    · rename_i v hv; exact (aBox_ok hw t (h.ev hv)).op
    · trivial
  | build t parts =>
    have he : execOp a.eval ⟨dst, .build t parts, ty, pos, after, guard⟩ = (do pure (.value (← Instr.build t (parts.map fun p => (p.1, a.eval p.2))))) := rfl
    rw [he]
    exact (oBuild_ok hT h t parts).op
  | buildSlice t len parts =>
    have he : execOp a.eval ⟨dst, .buildSlice t len parts, ty, pos, after, guard⟩ = (do pure (.value (← Instr.buildSlice t len (parts.map fun p => (p.1, a.eval p.2))))) := rfl
    rw [he]
    exact (oBuildSlice_ok hT h t len parts).op
  | load t x =>
    show (oLoad T s t x).Ok _
    unfold oLoad
    split
    · rename_i i v hi hv; exact (aLoad_ok hw (hT _ _ hi) (h.ev hv)).op
    · trivial
  | store t x v => exact oStore_ok hT h t x v
  | binOp op t x y yt =>
    show (oBin T s op t x y).Ok _
    unfold oBin
    split
    · rename_i p q hp hq; exact (aBin_ok hw t (fun i hi => hT _ _ hi) op p q _ _ (h.ev hp) (h.ev hq) x y).op
    · trivial
  | unOp op t x =>
    show (oUn s op x).Ok _
    unfold oUn
    split
    · rename_i p hp; exact (aUn_ok hw op p _ (h.ev hp)).op
    · trivial
  | convert t t' x =>
    show (oConvert T s t t' x).Ok _
    unfold oConvert
    split
    · rename_i i j p hi hj hp; exact (aConvert_ok hw (hT _ _ hi) (hT _ _ hj) (h.ev hp)).op
    · trivial
  | makeFunc fn first caps => exact oMakeFunc_ok h fn first caps
  | makeSlice t l c =>
    show (oMakeSlice T s t l c).Ok _
    unfold oMakeSlice
    split
    · rename_i i p q hi hp hq; exact (aMakeSlice_ok hT hw (hT _ _ hi) (h.ev hp) (h.ev hq)).op
    · trivial
  | slice t x lo hi mx =>
    show (oSlice T s t x lo hi mx).Ok _
    unfold oSlice
    split
    · rename_i i p l hh m hi' hp hl hh' hm; exact (aSlice_ok hT hw (hT _ _ hi') (h.ev hp) (evO_ok h hl) (evO_ok h hh') (evO_ok h hm)).op
    · trivial
  | fieldAddr t x f =>
    show (oFieldAddr T s t x f).Ok _
    unfold oFieldAddr
    split
    · rename_i i p hi hp; exact (aFieldAddr_ok hT hw hi p _ (h.ev hp) f).op
    · trivial
  | field t x f =>
    show (oField T s t x f).Ok _
    unfold oField
    split
    · rename_i i p hi hp; exact (aField_ok hT hw hi p _ (h.ev hp) f).op
    · trivial
  | indexAddr t x ix =>
    show (oIndexAddr T s t x ix).Ok _
    unfold oIndexAddr
    split
    · rename_i i p q hi hp hq; exact (aIndexAddr_ok hT hw (hT _ _ hi) (h.ev hp) (h.ev hq)).op
    · trivial
  | index t x ix =>
    show (oIndex T s t x ix).Ok _
    unfold oIndex
    split
    · rename_i i p q hi hp hq; exact (aIndex_ok hw (hT _ _ hi) (h.ev hp) (h.ev hq)).op
    · trivial
  | extract x ix =>
    show (oExtract s x ix).Ok _
    unfold oExtract
    split
    · rename_i p hp; exact (aExtract_ok hw (h.ev hp) ix).op
    · trivial
  | call c => exact oCall_ok hT h ⟨dst, .call c, ty, pos, after, guard⟩ c rfl
  | _ => trivial

theorem exec1_ok (hT : TabOk P T) (h : Rel X E s nt a w) (o : Oper) : (exec1 T s o.op).Ok fun v H' => OpDoes P X E (execOp a.eval o) w v H' := by
  have h0 := aop_ok hT h o
  have key : ∀ {r : Out}, (r.Ok fun v H' => OpDoes P X E (execOp a.eval o) w v H') → (r.noStop.Ok fun v H' => OpDoes P X E (execOp a.eval o) w v H') := by
    intro r hr
    cases r <;> first | exact hr | trivial
  generalize o.op = op at h0 ⊢
  cases op <;> first | exact h0 | exact key h0
def Out.isStop : Out → Bool
  | .call _ _ => true
  | .elem _ _ => true
  | _ => false
theorem isStop_call {r : Out} (hr : r.isStop = false) {f : Nat} {args : List AV} (h : r = .call f args) : False := by subst h; cases hr
theorem isStop_elem {r : Out} (hr : r.isStop = false) {l : List AV} {i : Int} (h : r = .elem l i) : False := by subst h; cases hr
theorem noStop_isStop (r : Out) : r.noStop.isStop = false := by cases r <;> rfl
theorem exec1_isStop (o : Op) (h1 : ∀ c, o ≠ .call c) (h2 : ∀ t x ix, o ≠ .indexAddr t x ix) : (exec1 T s o).isStop = false := by
  cases o with
  | call c => exact absurd rfl (h1 c)
  | indexAddr t x ix => exact absurd rfl (h2 t x ix)
  | _ => first | rfl | exact noStop_isStop (aop T s _)
theorem oIndexAddr_call {t : Nat} {x ix : Operand} {f : Nat} {args : List AV} (h : oIndexAddr T s t x ix = .call f args) : False := by
  unfold oIndexAddr at h
  split at h
  · unfold aIndexAddr at h
    split at h
    · split at h
      · split at h
        · split at h <;> cases h
        · cases h
        · cases h
      · cases h
    · cases h
  · cases h
theorem exec1_call {o : Op} {f : Nat} {args : List AV} (h : exec1 T s o = .call f args) : ∃ c : Call, o = .call c ∧ oCall T s c.callee c.args.toList c.argTypes.toList = .call f args := by
  by_cases h1 : ∃ c, o = .call c
  · obtain ⟨c, rfl⟩ := h1; exact ⟨c, rfl, h⟩
  · by_cases h2 : ∃ t x ix, o = .indexAddr t x ix
    · obtain ⟨t, x, ix, rfl⟩ := h2; exact (oIndexAddr_call h).elim
    · exact (isStop_call (exec1_isStop o (fun c hc => h1 ⟨c, hc⟩) (fun t x ix hc => h2 ⟨t, x, ix, hc⟩)) h).elim
theorem aLen_ns (i : TyI) (x : AV) (H : List HB) : (aLen i x H).isStop = false := by unfold aLen; split <;> rfl
theorem aMin_ns (m : Bool) (x y : AV) (H : List HB) : (aMin m x y H).isStop = false := by
  unfold aMin
  split
  · split
    · cases m <;> rfl
    · rfl
  · rfl
theorem aAppend_ns (i j : TyI) (x y : AV) (H : List HB) : (aAppend i j T x y H).isStop = false := by
  unfold aAppend
  split
  · split
    · split
      · split
        · split <;> rfl
        · rfl
        · split
          · split <;> rfl
          · rfl
        · rfl
      · rfl
    · rfl
  · rfl
theorem aBuiltin_ns (b : Builtin) (tys : List Nat) (vs : List AV) (H : List HB) : (aBuiltin T b tys vs H).isStop = false := by
  unfold aBuiltin
  split
  · split
    · exact aLen_ns _ _ _
    · rfl
  · split
    · exact aAppend_ns _ _ _ _ _
    · rfl
  · exact aMin_ns _ _ _ _
  · exact aMin_ns _ _ _ _
  · rfl
theorem aBuiltin_call {b : Builtin} {tys : List Nat} {vs : List AV} {H : List HB} {f : Nat} {args : List AV} (h : aBuiltin T b tys vs H = .call f args) : False := isStop_call (aBuiltin_ns _ _ _ _) h
theorem aBuiltin_elem {b : Builtin} {tys : List Nat} {vs : List AV} {H : List HB} {l : List AV} {i : Int} (h : aBuiltin T b tys vs H = .elem l i) : False := isStop_elem (aBuiltin_ns _ _ _ _) h
theorem oCall_elem {c : Callee} {args : List Operand} {tys : List Nat} {l : List AV} {i : Int} (h : oCall T s c args tys = .elem l i) : False := by
  unfold oCall at h
  split at h
  · exact aBuiltin_elem h
  · split at h
    · unfold aCallee at h; split at h <;> cases h
    · cases h
  · cases h
theorem exec1_elem {o : Op} {l : List AV} {i : Int} (h : exec1 T s o = .elem l i) : ∃ t x ix, o = .indexAddr t x ix ∧ oIndexAddr T s t x ix = .elem l i := by
  by_cases h1 : ∃ c, o = .call c
  · obtain ⟨c, rfl⟩ := h1; exact (oCall_elem h).elim
  · by_cases h2 : ∃ t x ix, o = .indexAddr t x ix
    · obtain ⟨t, x, ix, rfl⟩ := h2; exact ⟨t, x, ix, rfl, h⟩
    · exact (isStop_elem (exec1_isStop o (fun c hc => h1 ⟨c, hc⟩) (fun t x ix hc => h2 ⟨t, x, ix, hc⟩)) h).elim

/-- May the function be entered? -/
def Enters (P : Program) (f : Nat) : Prop := ∃ fn, P.funcs[f]? = some fn ∧ fn.body.isSome = true ∧ (fn.name == "runtime.NumGoroutine") = false
theorem run_call (h : Rel X E s nt a w) {o : Oper} {f : Nat} {args : List AV} (hf : exec1 T s o.op = .call f args) (hE : Enters P f) :
    ∃ xs : Array Value, Rs E args xs.toList ∧ (execOp a.eval o).run P w = .ok (.enter f xs) w := by
  obtain ⟨c, ho, hc⟩ := exec1_call hf
  obtain ⟨callee, cargs, argTypes⟩ := c
  unfold oCall at hc
  split at hc
  · exact (aBuiltin_call hc).elim
  · rename_i g vs hcal hvs
    simp only at hcal hvs
    split at hc
    · rename_i gv hg
      unfold aCallee at hc
      split at hc
      · rename_i f' caps
        cases hc
        have hr := h.ev hg
        obtain ⟨xs, hx, h1, h2⟩ := hr.func_inv
        have hvs' := h.evs hvs
        obtain ⟨fn, e1, e2, e3⟩ := hE
        have e2' : ¬ fn.body = none := by cases hb : fn.body <;> simp_all
        have e3' : ¬ fn.name = "runtime.NumGoroutine" := by simpa using e3
        refine ⟨cargs.map a.eval ++ xs, by simpa using hvs'.append (.of_agg h1 h2), ?_⟩
        simp [execOp, ho, resolve, hcal, hx, Deferred.ofValue, invoke, callFunc, e1, e2', e3']
      · cases hc
    · cases hc
  · cases hc
theorem run_elem (hT : TabOk P T) (h : Rel X E s nt a w) {o : Oper} {l : List AV} {i : Int} (hf : exec1 T s o.op = .elem l i) (h0 : 0 ≤ i) (e : AV) (he : l[i.toNat]? = some e) :
    OpDoes P X E (execOp a.eval o) w (.fptr e.cells) s.H := by
  obtain ⟨t, x, ix, ho, hx⟩ := exec1_elem hf
  unfold oIndexAddr at hx
  split at hx
  · rename_i ti p q hi hp hq
    have := does_op (aIndexAddr_elem hT h.wr (hT _ _ hi) (h.ev hp) (h.ev hq) hx h0 e he)
    have he : execOp a.eval o = (do pure (.value (← Instr.indexAt t (a.eval x) (a.eval ix)))) := by
      obtain ⟨dst, op, ty, pos, after, guard⟩ := o
      simp only at ho; subst ho; rfl
    rw [he]; exact this
  · cases hx
end
end Go.Ab
