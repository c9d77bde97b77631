/- What the machine over values without addresses says of an operation is what the operation does. -/
import Derived.Test.YtcehdakofmhabaaGreatDoorAbRun
import Derived.Laws.Tables
import Derived.Laws.Build
import Derived.Laws.Strings
import Derived.Laws.Slices
namespace Go.Ab
set_option linter.unusedVariables false
set_option linter.unusedSimpArgs false

structure TyOk (P : Program) (t : Nat) (i : TyI) : Prop where
  und : P.underlying t = some i.d
  info : ∃ inf z, P.info? t = some inf ∧ inf.size = i.size ∧ inf.bytes = i.bytes ∧ inf.zero = some z ∧ i.zs.length = z.cells.size ∧
    ∀ (j : Nat) (c : AV) (x : Value), i.zs[j]? = some c → z.cells[j]? = some x → ∀ E, R E c x
  agg : i.agg = (match i.d with | .struct _ | .array _ _ => true | _ => false)
  one : i.agg = false → i.size = 1
  zlen : i.zs.length = i.size
def TabOk (P : Program) (T : Nat → Option TyI) : Prop := ∀ t i, T t = some i → TyOk P t i

structure Rel (X : XT) (E : En) (s : St) (nt : Nat) (a : Act) (w : World) : Prop where
  defers : a.defers = []
  size : a.tmps.size = nt
  env : ∀ t v, look s.env t = some v → R E v (a.tmps.getD t Go.undef)
  wr : Wr X E s.H w

section
variable {P : Program} {X : XT} {E : En} {s : St} {nt : Nat} {a : Act} {w : World} {T : Nat → Option TyI}

theorem ofConst_R (v : Value) : R E (ofConst v) v := by
  unfold ofConst
  split
  · exact .ground (.int _ _)
  · exact .ground .tt
  · exact .ground .ff
  · split
    · rename_i s h
      exact .ground (.str _ (Nat.le_trans (Nat.le_of_ble_eq_true h) (by decide)))
    · exact .undef _
  · exact .full (.row0 0)
  · exact .ground .nilptr
  · exact .ground .nilfunc
  · exact .undef _

theorem Rel.ev (h : Rel X E s nt a w) {o : Operand} {v : AV} (hv : s.ev o = some v) : R E v (a.eval o) := by
  cases o with
  | tmp t => exact h.env t v hv
  | const c => simp only [St.ev, Option.some.injEq] at hv; subst hv; exact ofConst_R c
  | global g => simp [St.ev] at hv
  | func f =>
    simp only [St.ev, Option.some.injEq] at hv; subst hv
    exact .func f [] #[] rfl (by simp)

/-- Lists of operands, and what they are. -/
def Rs (E : En) (vs : List AV) (xs : List Value) : Prop := vs.length = xs.length ∧ ∀ (j : Nat) (v : AV) (x : Value), vs[j]? = some v → xs[j]? = some x → R E v x
theorem Rs.nil : Rs E [] [] := ⟨rfl, by simp⟩
theorem Rs.cons {v : AV} {x : Value} {vs : List AV} {xs : List Value} (h : R E v x) (hs : Rs E vs xs) : Rs E (v :: vs) (x :: xs) := by
  refine ⟨by simp [hs.1], ?_⟩
  intro j v' x' h1 h2
  cases j with
  | zero => simp at h1 h2; subst h1; subst h2; exact h
  | succ j => simp at h1 h2; exact hs.2 j v' x' h1 h2
theorem Rs.cons_inv {v : AV} {vs : List AV} {xs : List Value} (h : Rs E (v :: vs) xs) : ∃ x r, xs = x :: r ∧ R E v x ∧ Rs E vs r := by
  cases xs with
  | nil => have := h.1; simp at this
  | cons x r => exact ⟨x, r, rfl, h.2 0 v x rfl rfl, by have := h.1; simpa using this, fun j v' x' h1 h2 => h.2 (j + 1) v' x' (by simpa using h1) (by simpa using h2)⟩
theorem Rs.nil_inv {xs : List Value} (h : Rs E [] xs) : xs = [] := by have := h.1; cases xs <;> simp_all
theorem Rs.append {vs us : List AV} {xs ys : List Value} (h : Rs E vs xs) (g : Rs E us ys) : Rs E (vs ++ us) (xs ++ ys) := by
  induction vs generalizing xs with
  | nil => rw [h.nil_inv]; exact g
  | cons v r ih => obtain ⟨x, rx, rfl, h1, h2⟩ := h.cons_inv; exact .cons h1 (ih h2)
theorem Rs.mono {E' : En} (hE : E.le E') {vs : List AV} {xs : List Value} (h : Rs E vs xs) : Rs E' vs xs := ⟨h.1, fun j v x h1 h2 => (h.2 j v x h1 h2).mono hE⟩
theorem Rs.take {vs : List AV} {xs : List Value} (h : Rs E vs xs) (n : Nat) : Rs E (vs.take n) (xs.take n) := by
  refine ⟨by simp [h.1], fun j v x h1 h2 => ?_⟩
  rw [List.getElem?_take] at h1 h2
  split at h1
  · rename_i hj; rw [if_pos hj] at h2; exact h.2 j v x h1 h2
  · cases h1
theorem Rs.drop {vs : List AV} {xs : List Value} (h : Rs E vs xs) (n : Nat) : Rs E (vs.drop n) (xs.drop n) := by
  refine ⟨by simp [h.1], fun j v x h1 h2 => ?_⟩
  rw [List.getElem?_drop] at h1 h2
  exact h.2 _ v x h1 h2
theorem Rs.of_agg {cs : List AV} {xs : Array Value} (h1 : cs.length = xs.size) (h2 : ∀ (j : Nat) (c : AV) (x : Value), cs[j]? = some c → xs[j]? = some x → R E c x) : Rs E cs xs.toList :=
  ⟨by simpa using h1, fun j c x hc hx => h2 j c x hc (by simpa using hx)⟩
theorem Rs.agg {cs : List AV} {xs : Array Value} (h : Rs E cs xs.toList) : R E (.agg cs) (.agg xs) := .agg cs xs (by simpa using h.1) (fun j c x hc hx => h.2 j c x hc (by simpa using hx))

theorem Rel.evs (h : Rel X E s nt a w) : ∀ {os : List Operand} {vs : List AV}, Ab.evs s os = some vs → Rs E vs (os.map a.eval)
  | [], vs, hv => by simp only [Ab.evs, Option.some.injEq] at hv; subst hv; exact .nil
  | o :: r, vs, hv => by
    simp only [Ab.evs] at hv
    split at hv
    · cases hv
    · rename_i v h1
      split at hv
      · cases hv
      · rename_i us h2
        simp only [Option.some.injEq] at hv; subst hv
        exact .cons (h.ev h1) (h.evs h2)

theorem leaf_one {v : AV} {x : Value} (h : R E v x) (hl : v.leaf = true) : x.oneCell' = true ∧ x.cells = #[x] ∧ v.cells = [v] := by
  cases h with
  | undef => simp [AV.leaf] at hl
  | ground h => exact ⟨h.one, h.cells_one, h.av_cells⟩
  | full h => exact ⟨rfl, rfl, rfl⟩
  | own h _ => exact ⟨rfl, rfl, rfl⟩
  | own0 => exact ⟨rfl, rfl, rfl⟩
  | fptr => exact ⟨rfl, rfl, rfl⟩
  | ptr => exact ⟨rfl, rfl, rfl⟩
  | ref => exact ⟨rfl, rfl, rfl⟩
  | agg => simp [AV.leaf] at hl
  | tuple => simp [AV.leaf] at hl
  | func => exact ⟨rfl, rfl, rfl⟩
  | whenT => simp [AV.leaf] at hl
  | whenF => simp [AV.leaf] at hl
/-- The cells of a value stand for the cells of what it is. -/
theorem cells_Rs {v : AV} {x : Value} (h : R E v x) (hl : v.cells.all AV.leaf = true) : Rs E v.cells x.cells.toList ∧ ∀ u ∈ x.cells.toList, u.oneCell' = true := by
  by_cases hv : ∃ cs, v = .agg cs
  · obtain ⟨cs, rfl⟩ := hv
    obtain ⟨xs, rfl, h1, h2⟩ := h.agg_inv
    refine ⟨.of_agg h1 h2, fun u hu => ?_⟩
    obtain ⟨j, hj⟩ := List.mem_iff_getElem?.1 hu
    have hlt : j < cs.length := by
      have : j < xs.toList.length := (List.getElem?_eq_some_iff.1 hj).1
      rw [h1]; simpa using this
    have hc := List.getElem?_eq_getElem hlt
    exact (leaf_one (h2 j _ u hc (by simpa [Value.cells] using hj)) (List.all_eq_true.1 hl _ (List.getElem_mem hlt))).1
  · have hc : v.cells = [v] := by cases v <;> first | rfl | (exact absurd ⟨_, rfl⟩ hv)
    rw [hc] at hl
    have hl' : v.leaf = true := by simpa using hl
    obtain ⟨h1, h2, h3⟩ := leaf_one h hl'
    rw [hc, h2]
    exact ⟨.cons h .nil, by simp [h1]⟩

/-- What a computation does to world and variables. -/
def Does (P : Program) (X : XT) (E : En) (m : Sem Value) (w : World) (v : AV) (H' : List HB) : Prop :=
  ∃ x w' E', m.run P w = .ok x w' ∧ E.le E' ∧ Off X E E' ∧ Wr X E' H' w' ∧ Ext w w' ∧ R E' v x
theorem Does.pure {H : List HB} {m : Sem Value} {v : AV} {x : Value} (hw : Wr X E H w) (hr : m.run P w = .ok x w) (h : R E v x) : Does P X E m w v H :=
  ⟨x, w, E, hr, .refl _, .refl _ _, hw, .refl _, h⟩

end

def Out.Ok (o : Out) (K : AV → List HB → Prop) : Prop :=
  match o with
  | .val v H => K v H
  | .valc v H c => c → K v H
  | _ => True

section
variable {P : Program} {X : XT} {E : En} {H : List HB} {w : World} {T : Nat → Option TyI}

theorem aBinInt_ok (hw : Wr X E H w) (t : TypeId) (op : BinOp) (k : IntKind) (a b : Int) (hs : op ≠ .shl ∧ op ≠ .shr) :
    (aBinInt op k a b H).Ok fun v H' => Does P X E (binOp op t (.int k a) (.int k b)) w v H' := by
  cases op <;> simp only [aBinInt, Out.Ok] <;> (try intro hc) <;> first
    | trivial
    | exact .pure hw (by simp [binOp, Op.intArith, Op.intDiv, Op.intBits, Op.intCmp, *] <;> rfl) (.ground (.int _ _))
    | exact .pure hw (by simp [binOp, Op.intArith, Op.intDiv, Op.intBits, Op.intCmp, *] <;> rfl) (.ground (.bool _))
    | (exfalso; simp at hs)

theorem aBinStr_ok (hw : Wr X E H w) (t : TypeId) (op : BinOp) (a b : List UInt8) :
    (aBinStr op a b H).Ok fun v H' => Does P X E (binOp op t (.string ⟨a.toArray⟩) (.string ⟨b.toArray⟩)) w v H' := by
  cases op <;> simp only [aBinStr, Out.Ok] <;> (try intro hc) <;> first
    | trivial
    | (refine .pure hw ?_ (.ground (.str _ (by simpa using hc)))
       have h1 := run_string_add_sum (P := P) (w := w) ⟨a.toArray⟩ ⟨b.toArray⟩ (by
         have : (ByteArray.mk a.toArray).size = a.length := by simp [ByteArray.size]
         have : (ByteArray.mk b.toArray).size = b.length := by simp [ByteArray.size]
         simp only [big] at hc; omega)
       rw [ByteArray.mk_append_mk] at h1
       simpa [binOp] using h1)
    | exact .pure hw (by simp [binOp, Op.stringOp]) (.ground (.bool _))

theorem toB_ok {x : AV} {b : Bool} {v : Value} (h : toB x = some b) (hx : R E x v) : v = .bool b := by
  cases x <;> simp only [toB, Option.some.injEq, reduceCtorEq] at h
  · subst h; exact hx.tt_inv
  · subst h; exact hx.ff_inv
  · subst h; exact hx.bool_inv

theorem equal_bool (t : TypeId) (a b : Bool) (ht : P.underlying t = some .bool) : (Op.equal t (.bool a) (.bool b)).run P w = .ok (a == b) w := by
  have hm : Op.maxDepth = 9999 + 1 := rfl
  rw [Op.equal, hm, Op.equalIn]
  simp [run_underlying ht]

theorem eqGuard_run (op : BinOp) (t : TypeId) (x y : Operand) (a b : Value) (ha : a.oneCell' = true) (hi : a ≠ .nilIface ∨ b ≠ .nilIface) : (eqGuard op t x y a b).run P w = .ok () w := by
  unfold eqGuard
  cases op <;> first
    | rfl
    | (cases a <;> cases b <;> first | rfl | (simp [Value.oneCell'] at ha; done) | (simp at hi; done))

theorem aBin_ok (hw : Wr X E H w) (t : TypeId) (ht : ∀ i, T t = some i → TyOk P t i) (op : BinOp) (x y : AV) (u v : Value) (hx : R E x u) (hy : R E y v) (xo yo : Operand) :
    (aBin (descOf T t) op x y H).Ok fun v' H' => Does P X E (do eqGuard op t xo yo u v; binOp op t u v) w v' H' := by
  have pre : ∀ {v' H'}, Does P X E (binOp op t u v) w v' H' → u.oneCell' = true → (u ≠ .nilIface ∨ v ≠ .nilIface) → Does P X E (do eqGuard op t xo yo u v; binOp op t u v) w v' H' := by
    intro v' H' ⟨z, w', E', h, r⟩ h1 h2
    exact ⟨z, w', E', by rw [Sem.run_bind, eqGuard_run op t xo yo u v h1 h2, Result.andThen_ok]; exact h, r⟩
  have lift : ∀ {o : Out}, (o.Ok fun v' H' => Does P X E (binOp op t u v) w v' H') → u.oneCell' = true → (u ≠ .nilIface ∨ v ≠ .nilIface) → o.Ok fun v' H' => Does P X E (do eqGuard op t xo yo u v; binOp op t u v) w v' H' := by
    intro o h h1 h2
    cases o <;> simp only [Out.Ok] at h ⊢
    · exact pre h h1 h2
    · exact fun hc => pre (h hc) h1 h2
  unfold aBin
  split
  · rename_i k a k' b
    obtain rfl := hx.int_inv
    obtain rfl := hy.int_inv
    split
    · refine lift ?_ rfl (.inl (by simp)); intro h0
      exact .pure hw (by simp [binOp, Op.shift, Int.not_lt.2 h0]) (.ground (.int _ _))
    · refine lift ?_ rfl (.inl (by simp)); intro h0
      exact .pure hw (by simp [binOp, Op.shift, Int.not_lt.2 h0]) (.ground (.int _ _))
    · rename_i h1 h2
      split
      · rename_i hk
        obtain rfl := kNum_inj hk
        exact lift (aBinInt_ok hw t op k a b ⟨h1, h2⟩) rfl (.inl (by simp))
      · trivial
  · rename_i a b
    obtain ⟨rfl, _⟩ := hx.str_inv
    obtain ⟨rfl, _⟩ := hy.str_inv
    exact lift (aBinStr_ok hw t op a b) rfl (.inl (by simp))
  · split
    · rename_i a b hd ha hb
      obtain rfl := toB_ok ha hx
      obtain rfl := toB_ok hb hy
      have hu : P.underlying t = some .bool := by
        unfold descOf at hd
        split at hd
        · rename_i i hi
          rw [(ht i hi).und]; exact hd
        · cases hd
      exact lift (.pure hw (by simp [binOp, equal_bool t a b hu]) (.ground (.bool _)) : Does P X E _ w _ H) rfl (.inl (by simp))
    · rename_i a b hd ha hb
      obtain rfl := toB_ok ha hx
      obtain rfl := toB_ok hb hy
      have hu : P.underlying t = some .bool := by
        unfold descOf at hd
        split at hd
        · rename_i i hi
          rw [(ht i hi).und]; exact hd
        · cases hd
      exact lift (.pure hw (by simp [binOp, equal_bool t a b hu]) (.ground (.bool _)) : Does P X E _ w _ H) rfl (.inl (by simp))
    · trivial

theorem aUn_ok (hw : Wr X E H w) (op : UnOp) (x : AV) (u : Value) (hx : R E x u) : (aUn op x H).Ok fun v' H' => Does P X E (Op.unary op u) w v' H' := by
  unfold aUn
  split
  · obtain rfl := hx.int_inv
    exact Does.pure hw (by simp [Op.unary, Op.intArith]) (.ground (.int _ _))
  · obtain rfl := hx.tt_inv
    exact Does.pure hw (by simp [Op.unary]) (.ground .ff)
  · obtain rfl := hx.ff_inv
    exact Does.pure hw (by simp [Op.unary]) (.ground .tt)
  · obtain rfl := hx.bool_inv
    exact Does.pure hw (by simp [Op.unary]) (.ground (.bool _))
  · trivial

section ty
variable {t : Nat} {i : TyI}
theorem TyOk.run_isAgg (h : TyOk P t i) : (isAgg t).run P w = .ok i.agg w := by
  rw [h.agg]
  simp only [isAgg, Sem.run_bind, run_underlying h.und, Result.andThen_ok]
  cases i.d <;> rfl
theorem TyOk.run_size (h : TyOk P t i) : (sizeOf t).run P w = .ok i.size w := by
  obtain ⟨inf, z, h1, h2, _⟩ := h.info
  simp [sizeOf, typeInfo, h1, h2]
theorem TyOk.run_zero (h : TyOk P t i) : ∃ z, (zeroValue t).run P w = .ok z w ∧ Rs E i.zs z.cells.toList := by
  obtain ⟨inf, z, h1, h2, h3, h4, h5, h6⟩ := h.info
  refine ⟨z, by simp [zeroValue, typeInfo, h1, h4], by simpa using h5, fun j c x hc hx => h6 j c x hc (by simpa using hx) E⟩
end ty

/-- A part of a row of cells. -/
theorem part_ok {t : Nat} {j : TyI} (hj : TyOk P t j) {cs : List AV} {xs : Array Value} (h : Rs E cs xs.toList) {off : Nat} {v : AV} (hv : part j.agg j.size cs off = some v) :
    ∃ x, (Go.part t xs off).run P w = .ok x w ∧ R E v x := by
  unfold Ab.part at hv
  cases ha : j.agg with
  | true =>
    rw [ha] at hv
    simp only at hv
    split at hv
    · rename_i hb
      simp only [Option.some.injEq] at hv
      subst hv
      refine ⟨.agg (xs.extract off (off + j.size)), by simp [Go.part, hj.run_isAgg, ha, hj.run_size], ?_⟩
      have := (h.drop off).take j.size
      refine Rs.agg ?_
      rw [Array.toList_extract]
      simpa [List.extract_eq_take_drop] using this
    · cases hv
  | false =>
    rw [ha] at hv
    simp only at hv
    have hlt : off < xs.size := by
      have := (List.getElem?_eq_some_iff.1 hv).1
      have h1 := h.1
      simp at h1; omega
    refine ⟨xs[off], by simp [Go.part, hj.run_isAgg, ha, Array.getElem?_eq_getElem hlt], ?_⟩
    exact h.2 off v _ hv (by simp [hlt])

theorem aField_ok (hT : TabOk P T) (hw : Wr X E H w) {t : Nat} {i : TyI} (hi : T t = some i) (x : AV) (u : Value) (hx : R E x u) (f : Nat) :
    (aField i T x f H).Ok fun v' H' => Does P X E (Instr.field t u f) w v' H' := by
  unfold aField
  split
  · rename_i fields cs hd
    obtain ⟨xs, rfl, h1, h2⟩ := hx.agg_inv
    split
    · rename_i fl hf
      split
      · rename_i j hj
        split
        · rename_i v hv
          obtain ⟨y, hy, hr⟩ := part_ok (P := P) (w := w) (hT _ _ hj) (Rs.of_agg h1 h2) hv
          have hu := (hT _ _ hi).und
          rw [hd] at hu
          exact Does.pure hw (by simp [Instr.field, run_underlying hu, hf, asAgg, hy]) hr
        · trivial
      · trivial
    · trivial
  · trivial
end
end Go.Ab
