/- New rows, rows that grow. -/
import Derived.Test.YtcehdakofmhabaaGreatDoorAbGrow
namespace Go.Ab
set_option linter.unusedVariables false
set_option linter.unusedSimpArgs false
section
variable {P : Program} {X : XT} {E : En} {H : List HB} {w : World} {T : Nat → Option TyI}

theorem repl_len (zs : List AV) (n : Nat) : (repl zs n).length = n * zs.length := by
  induction n with
  | zero => simp [repl]
  | succ n ih => simp [repl, ih, Nat.add_mul]; omega
theorem repl_get (zs : List AV) (n j : Nat) (h : j < n * zs.length) : (repl zs n)[j]? = zs[j % zs.length]? := by
  induction n generalizing j with
  | zero => simp at h
  | succ n ih =>
    simp only [repl]
    by_cases hj : j < zs.length
    · rw [List.getElem?_append_left hj, Nat.mod_eq_of_lt hj]
    · have h' : j - zs.length < n * zs.length := by rw [Nat.add_mul] at h; omega
      rw [List.getElem?_append_right (by omega), ih _ h']
      congr 1
      exact (Nat.mod_eq_sub_mod (by omega)).symm
theorem repl_Rs {zs : List AV} {z : Array Value} (h : Rs E zs z.toList) (n : Nat) : Rs E (repl zs n) ((Array.range (n * zs.length)).map (z[· % z.size]!)).toList := by
  have hl : zs.length = z.size := by simpa using h.1
  refine ⟨by simp [repl_len], fun j v x hv hx => ?_⟩
  have hj : j < n * zs.length := by have := (List.getElem?_eq_some_iff.1 hv).1; rwa [repl_len] at this
  rw [repl_get zs n j hj] at hv
  have hpos : 0 < zs.length := by
    rcases Nat.eq_zero_or_pos zs.length with h0 | h0
    · rw [h0] at hj; simp at hj
    · exact h0
  have hm : j % z.size < z.size := Nat.mod_lt _ (by omega)
  simp [hj, hm] at hx
  rw [hl] at hv
  exact h.2 _ v x hv (by simp [hm, ← hx])

theorem setAt_len {cs vs : List AV} {off : Nat} (h : off + vs.length ≤ cs.length) : (setAt cs off vs).length = cs.length := by simp [setAt]; omega
theorem aFill_len {place : Nat → Option (Nat × Nat)} : ∀ {parts : List (Nat × AV)} {cs cs' : List AV}, aFill place cs parts = some cs' → cs'.length = cs.length
  | [], cs, cs', h => by simp only [aFill, Option.some.injEq] at h; rw [h]
  | (i, v) :: r, cs, cs', h => by
    simp only [aFill] at h
    split at h
    · cases h
    · split at h
      · rename_i g1 g2
        rw [aFill_len h, setAt_len (Nat.le_of_ble_eq_true g2)]
      · cases h

theorem toGs_ok : ∀ {cs us : List AV} {xs : List Value}, toGs cs = some us → Rs E cs xs → us.length = cs.length ∧ (∀ (j : Nat) (u : AV), us[j]? = some u → u.cells = [u]) ∧
    ∀ (j : Nat) (u : AV) (x : Value), us[j]? = some u → xs[j]? = some x → G E.z u x
  | [], us, xs, h, hr => by simp only [toGs, Option.some.injEq] at h; subst h; simp
  | v :: r, us, xs, h, hr => by
    obtain ⟨x, rx, rfl, h1, h2⟩ := hr.cons_inv
    simp only [toGs] at h
    split at h
    · cases h
    · rename_i u hu
      split at h
      · cases h
      · rename_i us' hus
        simp only [Option.some.injEq] at h; subst h
        obtain ⟨i1, i2, i3⟩ := toGs_ok hus h2
        refine ⟨by simp [i1], fun j u' hj => ?_, fun j u' x' hj hx => ?_⟩
        · cases j with
          | zero => simp at hj; subst hj; exact AV.toG_cells hu
          | succ j => exact i2 j u' (by simpa using hj)
        · cases j with
          | zero => simp at hj hx; subst hj; subst hx; exact AV.toG_ok h1 hu
          | succ j => exact i3 j u' x' (by simpa using hj) (by simpa using hx)

theorem chunk_ok {agg : Bool} {sz : Nat} (h1 : agg = false → sz = 1) : ∀ (n : Nat) (us : List AV), us.length = n * sz → (∀ (j : Nat) (u : AV), us[j]? = some u → u.cells = [u]) →
    (chunk agg sz n us).length = n ∧ ∀ (i : Nat) (e : AV), (chunk agg sz n us)[i]? = some e → e.cells.length = sz ∧ ∀ (j : Nat) (c : AV), e.cells[j]? = some c → us[i * sz + j]? = some c
  | 0, us, _, _ => ⟨rfl, by simp [chunk]⟩
  | n + 1, us, hl, hc => by
    cases agg with
    | true =>
      have hl' : (us.drop sz).length = n * sz := by rw [List.length_drop, hl, Nat.add_mul]; omega
      obtain ⟨i1, i2⟩ := chunk_ok (agg := true) h1 n (us.drop sz) hl' (fun j u hj => hc (sz + j) u (by simpa using hj))
      refine ⟨by simp [chunk, i1], fun i e he => ?_⟩
      cases i with
      | zero =>
        simp [chunk] at he; subst he
        refine ⟨by simp [AV.cells, hl, Nat.add_mul], fun j c hj => ?_⟩
        simp only [AV.cells, List.getElem?_take] at hj
        split at hj
        · simpa using hj
        · cases hj
      | succ i =>
        simp [chunk] at he
        obtain ⟨a, b⟩ := i2 i e he
        refine ⟨a, fun j c hj => ?_⟩
        have := b j c hj
        rw [List.getElem?_drop] at this
        rw [show (i + 1) * sz + j = sz + (i * sz + j) by rw [Nat.add_mul]; omega]
        exact this
    | false =>
      obtain rfl := h1 rfl
      cases us with
      | nil => simp at hl
      | cons u r =>
        have hl' : r.length = n * 1 := by simpa using hl
        obtain ⟨i1, i2⟩ := chunk_ok (agg := false) h1 n r hl' (fun j u hj => hc (j + 1) u (by simpa using hj))
        refine ⟨by simp [chunk, i1], fun i e he => ?_⟩
        cases i with
        | zero =>
          simp [chunk] at he; subst he
          have := hc 0 u rfl
          refine ⟨by simp [this], fun j c hj => ?_⟩
          rw [this] at hj
          cases j with
          | zero => simpa using hj
          | succ j => simp at hj
        | succ i =>
          simp [chunk] at he
          obtain ⟨a, b⟩ := i2 i e he
          refine ⟨a, fun j c hj => ?_⟩
          have := b j c hj
          rw [show (i + 1) * 1 + j = (i * 1 + j) + 1 by omega]
          simpa using this

/-- A row of new cells reads as a row. -/
theorem row_new {b n cap sz : Nat} {l : List AV} {us : List AV} {xs : Array Value} (hl : l.length = n) (hcap : n ≤ cap) (hbig : n ≤ big) (hz : ∀ j, j < n * sz → E.z b j = xs[j]?) (hx : n * sz ≤ xs.size)
    (hg : ∀ (j : Nat) (u : AV) (x : Value), us[j]? = some u → xs[j]? = some x → G E.z u x) (hul : us.length = n * sz)
    (hc : ∀ (i : Nat) (e : AV), l[i]? = some e → e.cells.length = sz ∧ ∀ (j : Nat) (c : AV), e.cells[j]? = some c → us[i * sz + j]? = some c) :
    G E.z (.row sz l .no) (.slice (some ⟨b, 0, none⟩) n cap) := by
  subst hl
  refine G.row sz l b 0 cap (fun i j => xs.getD (i * sz + j) Go.undef) hcap hbig (fun i e he => (hc i e he).1) (fun i e j c he hcc => ?_) (fun i e j c he hcc => ?_)
  · have h1 := (hc i e he).2 j c hcc
    have hlt : i * sz + j < l.length * sz := by have := (List.getElem?_eq_some_iff.1 h1).1; omega
    have hlt' : i * sz + j < xs.size := by omega
    rw [Nat.zero_add, hz _ hlt]
    simp [hlt']
  · have h1 := (hc i e he).2 j c hcc
    have hlt : i * sz + j < xs.size := by have := (List.getElem?_eq_some_iff.1 h1).1; omega
    exact hg _ c _ h1 (by simp [hlt])

theorem aBuildSlice_ok (hT : TabOk P T) (hw : Wr X E H w) {t : Nat} {i : TyI} (hi : TyOk P t i) (len : Nat) {vs : List (Nat × AV)} {us : Array (Nat × Value)} (hl : vs.length = us.toList.length)
    (hp : ∀ (j : Nat) (p : Nat × AV) (q : Nat × Value), vs[j]? = some p → us.toList[j]? = some q → p.1 = q.1 ∧ R E p.2 q.2 ∧ p.2.cells.all AV.leaf = true) :
    (aBuildSlice i T len vs H).Ok fun v' H' => Does P X E (Instr.buildSlice t len us) w v' H' := by
  have hu := hi.und
  unfold aBuildSlice
  split
  · rename_i e hd
    rw [hd] at hu
    split
    · rename_i j hj
      have hjo := hT _ _ hj
      split
      · rename_i g1 g2
        have g1 := Nat.le_of_ble_eq_true g1
        have g2 := Nat.le_of_ble_eq_true g2
        split
        · rename_i cs hcs
          split
          · rename_i us' hus
            obtain ⟨z, hz, hr⟩ := hjo.run_zero (P := P) (w := w) (E := E)
            have hzl : z.cells.size = j.size := by have := hr.1; rw [hjo.zlen] at this; simpa using this.symm
            have hrep := repl_Rs hr len
            rw [hjo.zlen] at hrep
            obtain ⟨xs, e1, e2⟩ := fill_ok (fun i => some (i * j.size, j.size)) (fun i => some (i * j.size, j.size)) (fun _ _ h => h) vs us.toList _ _ cs hl hp hrep hcs
            have hcl : cs.length = len * j.size := by rw [aFill_len hcs, repl_len, hjo.zlen]
            have hxl : xs.size = len * j.size := by have := e2.1; rw [hcl] at this; simpa using this.symm
            obtain ⟨a1, a2, a3⟩ := toGs_ok hus e2
            obtain ⟨b1, b2⟩ := chunk_ok hjo.one len us' (by rw [a1, hcl]) a2
            have hle := hw.freeze_le xs xs.size
            have hlen : len ≤ len * j.size := Nat.le_mul_of_pos_right _ (by omega)
            refine ⟨.slice (some ⟨w.heap.size, 0, none⟩) len len, w.alloc (.cells xs e), E.freeze w.heap.size xs xs.size, ?_, hle, hw.freeze_off _ _, hw.alloc_frozen xs xs.size e, .alloc _ _, ?_⟩
            · have hm : ¬ (len * j.size > 2 ^ 24) := by omega
              by_cases h0 : len * j.size = 0
              · have hr0 : (Array.range (len * j.size)).map (z.cells[· % z.cells.size]!) = #[] := by simp [h0, Array.range_zero']
                rw [hr0] at e1
                have hrun : (Instr.buildSlice t len us).run P w = .ok (.slice (some ⟨w.heap.size, 0, none⟩) len len) (w.alloc (.cells xs e)) := by
                  simp [Instr.buildSlice, run_underlying hu, hjo.run_size, h0, Array.range_zero', e1, newRow]
                exact hrun
              · simp [Instr.buildSlice, run_underlying hu, hjo.run_size, hm, h0, hz]
                simp [e1, newRow]
            · refine .full (row_new (us := us') (xs := xs) b1 (Nat.le_refl _) (Nat.le_trans hlen (Nat.le_trans g2 (by decide))) (fun k hk => freeze_z (by omega)) (by omega) (fun k u x hu hx => (a3 k u x hu (by simpa using hx)).mono hle.z) (by rw [a1, hcl]) b2)
          · trivial
        · trivial
      · trivial
    · trivial
  · trivial

theorem aMin_ok (hw : Wr X E H w) (mn : Bool) (tys : Array TypeId) (ty : TypeId) {x y : AV} {u v : Value} (hx : R E x u) (hy : R E y v) :
    (aMin mn x y H).Ok fun v' H' => Does P X E (if mn then Builtin.min_ tys ty #[u, v] else Builtin.max_ tys ty #[u, v]) w v' H' := by
  unfold aMin
  split
  · rename_i k a k' b
    obtain rfl := hx.int_inv
    obtain rfl := hy.int_inv
    split
    · cases mn
      · exact Does.pure hw (by simp [Builtin.max_, Builtin.max2]) (.ground (.int _ _))
      · exact Does.pure hw (by simp [Builtin.min_, Builtin.min2]) (.ground (.int _ _))
    · trivial
  · trivial

theorem aMakeSlice_ok (hT : TabOk P T) (hw : Wr X E H w) {t : Nat} {i : TyI} (hi : TyOk P t i) {x y : AV} {u v : Value} (hx : R E x u) (hy : R E y v) :
    (aMakeSlice i T x y H).Ok fun v' H' => Does P X E (Instr.makeSlice t u v) w v' H' := by
  have hu := hi.und
  unfold aMakeSlice
  split
  · rename_i e k l k' c hd
    rw [hd] at hu
    obtain rfl := hx.int_inv
    obtain rfl := hy.int_inv
    split
    · rename_i j hj
      have hjo := hT _ _ hj
      split
      · rename_i z g1 hz
        have g1 := Nat.eq_of_beq_eq_true g1
        intro ⟨h0, h1, h2, h3⟩
        subst h1
        obtain ⟨inf, zv, i1, i2, i3, i4, i5, i6⟩ := hjo.info
        have hzl : zv.cells.size = 1 := by rw [← i5, hz]; rfl
        have hr := run_make (P := P) w t e inf zv hu i1 i4 k k' l l h0 (Int.le_refl _) (by rw [i3, Int.mul_comm]; omega) (by omega)
        rw [i2, g1, Nat.mul_one] at hr
        have hRs : Rs E (List.replicate l.toNat z) (madeCells zv.cells l.toNat).toList := by
          refine ⟨by simp [madeCells], fun q v x hv hx => ?_⟩
          have hq : q < l.toNat := by have := (List.getElem?_eq_some_iff.1 hv).1; simpa using this
          simp [hq] at hv
          subst hv
          simp [madeCells, hq, hzl, Nat.mod_one] at hx
          exact i6 0 z x (by rw [hz]; rfl) (by rw [← hx]; simp [hzl]) E
        exact ⟨_, _, _, hr, hw.name_le _, off_name hw _, hw.alloc_blk hRs e, .alloc _ _, .ref 0 0 _ _ (if_pos rfl) (Nat.le_refl _) (by simp only [big]; omega) (.inl rfl)⟩
      · trivial
    · trivial
  · trivial
end
end Go.Ab
