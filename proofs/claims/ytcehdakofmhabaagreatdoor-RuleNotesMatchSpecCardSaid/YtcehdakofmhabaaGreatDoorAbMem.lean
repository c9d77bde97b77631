/- New blocks, stores into a variable of the call's own, loads. -/
import Derived.Test.YtcehdakofmhabaaGreatDoorAbOps
namespace Go.Ab
set_option linter.unusedVariables false
set_option linter.unusedSimpArgs false
section
variable {P : Program} {X : XT} {E : En} {H : List HB} {w : World} {T : Nat → Option TyI}

theorem Wr.x_new (h : Wr X E H w) {b : Nat} (hb : w.heap.size ≤ b) : X b = none := by
  cases hx : X b with
  | none => rfl
  | some o =>
    have := h.frame b o hx
    have hlt := (Array.getElem?_eq_some_iff.1 this).1
    omega
theorem Wr.φ_lt (h : Wr X E H w) {i : Nat} {cs : List AV} (hi : H[i]? = some (.blk cs)) {b : Nat} (hb : E.φ i = some b) : b < w.heap.size := by
  obtain ⟨b', xs, ty, h1, h2, _⟩ := h.blk i cs hi
  rw [hb] at h1
  obtain rfl := Option.some.inj h1
  exact (Array.getElem?_eq_some_iff.1 h2).1
theorem owns_lt (h : Wr X E H w) {i b : Nat} (ho : owns E H i b) : b < w.heap.size := by
  rcases ho with ⟨cs, h1, h2⟩ | ⟨n, sz, off, cap, h1, h2⟩
  · exact h.φ_lt h1 h2
  · obtain ⟨rfl, h3⟩ | ⟨b', cap', xs, ty, h3, _, h4, _⟩ := h.tip i n sz h1
    · rw [h3 _] at h2; cases h2
    · rw [h2] at h3
      simp only [Option.some.injEq, Prod.mk.injEq] at h3
      obtain ⟨rfl, _, _⟩ := h3
      exact (Array.getElem?_eq_some_iff.1 h4).1
theorem owns_x (h : Wr X E H w) {i b : Nat} (ho : owns E H i b) : X b = none := by
  rcases ho with ⟨cs, h1, h2⟩ | ⟨n, sz, off, cap, h1, h2⟩
  · obtain ⟨b', xs, ty, h3, _, h4, _⟩ := h.blk i cs h1
    rw [h2] at h3; obtain rfl := Option.some.inj h3; exact h4
  · obtain ⟨rfl, h3⟩ | ⟨b', cap', xs, ty, h3, _, _, h4, _⟩ := h.tip i n sz h1
    · rw [h3 _] at h2; cases h2
    · rw [h2] at h3
      simp only [Option.some.injEq, Prod.mk.injEq] at h3
      obtain ⟨rfl, _, _⟩ := h3
      exact h4
theorem owns_id (h : Wr X E H w) {i b : Nat} (ho : owns E H i b) : i < H.length := by
  rcases ho with ⟨cs, h1, _⟩ | ⟨n, sz, off, cap, h1, _⟩ <;> exact (List.getElem?_eq_some_iff.1 h1).1

/-- A new block that is never written again. -/
def En.freeze (E : En) (b : Nat) (xs : Array Value) (n : Nat) : En :=
  { E with z := fun b' o => if b' = b then (if o < n then xs[o]? else none) else E.z b' o }
theorem Wr.freeze_le (h : Wr X E H w) (xs : Array Value) (n : Nat) : E.le (E.freeze w.heap.size xs n) := by
  refine ⟨fun _ _ h => h, fun _ _ _ h => h, fun b o v hv => ?_⟩
  have hlt := h.z_lt hv
  show (if b = w.heap.size then _ else E.z b o) = some v
  rw [if_neg (by omega)]; exact hv
theorem Wr.freeze_off (h : Wr X E H w) (xs : Array Value) (n : Nat) : Off X E (E.freeze w.heap.size xs n) := by
  intro b o v h1 h2
  by_cases hb : b = w.heap.size
  · subst hb; exact h.x_new (Nat.le_refl _)
  · have : (E.freeze w.heap.size xs n).z b o = E.z b o := if_neg hb
    rw [this, h2] at h1; cases h1
theorem freeze_z {b o : Nat} {xs : Array Value} {n : Nat} (ho : o < n) : (E.freeze b xs n).z b o = xs[o]? := by
  show (if b = b then (if o < n then xs[o]? else none) else _) = _
  rw [if_pos rfl, if_pos ho]
theorem cell?_alloc (w : World) (o : Obj) {a : Addr} {v : Value} (h : w.cell? a = some v) : (w.alloc o).cell? a = some v := by
  rw [World.cell?_alloc_lt w o a (World.block_lt_of_cell? w a h)]; exact h
theorem heap_alloc {w : World} {b : Nat} {o x : Obj} (h : w.heap[b]? = some x) : (w.alloc o).heap[b]? = some x := by
  first | (rw [heap_alloc_old w o b (Array.getElem?_eq_some_iff.1 h).1]; exact h) | (rw [heap_alloc_old w o (Array.getElem?_eq_some_iff.1 h).1]; exact h)
theorem Wr.alloc_frozen (h : Wr X E H w) (xs : Array Value) (n : Nat) (ty : TypeId) : Wr X (E.freeze w.heap.size xs n) H (w.alloc (.cells xs ty)) := by
  have hle := h.freeze_le xs n
  refine ⟨fun b o hx => heap_alloc (h.frame b o hx), fun b o v hz => ?_, fun i cs hi => ?_, fun t n' sz ht => ?_, fun i j b h1 h2 => h.sep i j b h1 h2, fun i hi => h.fresh i hi⟩
  · by_cases hb : b = w.heap.size
    · subst hb
      have : (if o < n then xs[o]? else none) = some v := by
        have h0 : (E.freeze w.heap.size xs n).z w.heap.size o = (if o < n then xs[o]? else none) := if_pos rfl
        rw [← h0]; exact hz
      split at this
      · rw [World.cell?_alloc_new]; exact this
      · cases this
    · have : (E.freeze w.heap.size xs n).z b o = E.z b o := if_neg hb
      rw [this] at hz
      exact cell?_alloc w _ (h.froz b o v hz)
  · obtain ⟨b, ys, ty', h1, h2, h3, h4, h5, h6⟩ := h.blk i cs hi
    refine ⟨b, ys, ty', h1, heap_alloc h2, h3, fun o => ?_, h5, fun j c x hc hx => (h6 j c x hc hx).mono hle⟩
    have hlt := (Array.getElem?_eq_some_iff.1 h2).1
    have : (E.freeze w.heap.size xs n).z b o = E.z b o := if_neg (by omega)
    rw [this]; exact h4 o
  · rcases h.tip t n' sz ht with ⟨h0, h1⟩ | ⟨b, cap, ys, ty', h1, h2, h3, h4, h5, h6⟩
    · exact .inl ⟨h0, h1⟩
    · refine .inr ⟨b, cap, ys, ty', h1, h2, heap_alloc h3, h4, fun o ho => ?_, h6⟩
      have hlt := (Array.getElem?_eq_some_iff.1 h3).1
      have : (E.freeze w.heap.size xs n).z b o = E.z b o := if_neg (by omega)
      rw [this]; exact h5 o ho

/-- A new variable of the call's own. -/
def En.name (E : En) (i b : Nat) : En := { E with φ := fun j => if j = i then some b else E.φ j }
theorem Wr.name_le (h : Wr X E H w) (b : Nat) : E.le (E.name H.length b) := by
  refine ⟨fun i b' hb => ?_, fun _ _ _ h => h, fun _ _ _ h => h⟩
  show (if i = H.length then some b else E.φ i) = some b'
  by_cases hi : i = H.length
  · subst hi; rw [(h.fresh _ (Nat.le_refl _)).1] at hb; cases hb
  · rw [if_neg hi]; exact hb
theorem getElem?_snoc {α : Type} {l : List α} {a : α} {i : Nat} {b : α} (h : (l ++ [a])[i]? = some b) : (i < l.length ∧ l[i]? = some b) ∨ (i = l.length ∧ b = a) := by
  rcases Nat.lt_trichotomy i l.length with hl | hl | hl
  · rw [List.getElem?_append_left hl] at h; exact .inl ⟨hl, h⟩
  · subst hl; simp at h; exact .inr ⟨rfl, h.symm⟩
  · rw [List.getElem?_eq_none (by simp; omega)] at h; cases h
theorem owns_snoc (h : Wr X E H w) {nb : HB} {b0 i b : Nat} (ho : owns (E.name H.length b0) (H ++ [nb]) i b) :
    (i < H.length ∧ owns E H i b) ∨ (i = H.length ∧ b = b0) := by
  rcases ho with ⟨cs, h1, h2⟩ | ⟨n, sz, off, cap, h1, h2⟩
  · rcases getElem?_snoc h1 with ⟨hl, h3⟩ | ⟨rfl, _⟩
    · refine .inl ⟨hl, .inl ⟨cs, h3, ?_⟩⟩
      have : (E.name H.length b0).φ i = E.φ i := if_neg (by omega)
      rw [← this]; exact h2
    · have : (E.name H.length b0).φ H.length = some b0 := if_pos rfl
      rw [this] at h2
      exact .inr ⟨rfl, (Option.some.inj h2).symm⟩
  · rcases getElem?_snoc h1 with ⟨hl, h3⟩ | ⟨rfl, _⟩
    · exact .inl ⟨hl, .inr ⟨n, sz, off, cap, h3, h2⟩⟩
    · have h2' : E.τ H.length n = some (b, off, cap) := h2
      rw [(h.fresh _ (Nat.le_refl _)).2 n] at h2'; cases h2'
theorem Wr.alloc_blk (h : Wr X E H w) {cs : List AV} {xs : Array Value} (hr : Rs E cs xs.toList) (ty : TypeId) :
    Wr X (E.name H.length w.heap.size) (H ++ [.blk cs]) (w.alloc (.cells xs ty)) := by
  have hle := h.name_le w.heap.size
  refine ⟨fun b o hx => heap_alloc (h.frame b o hx), fun b o v hz => cell?_alloc w _ (h.froz b o v hz), fun i cs' hi => ?_, fun t n' sz ht => ?_, fun i j b h1 h2 => ?_, fun i hi => ?_⟩
  · rcases getElem?_snoc hi with ⟨hl, h3⟩ | ⟨rfl, h3⟩
    · obtain ⟨b, ys, ty', h1, h2, h3, h4, h5, h6⟩ := h.blk i cs' h3
      exact ⟨b, ys, ty', hle.φ _ _ h1, heap_alloc h2, h3, h4, h5, fun j c x hc hx => (h6 j c x hc hx).mono hle⟩
    · simp only [HB.blk.injEq] at h3
      subst h3
      refine ⟨w.heap.size, xs, ty, if_pos rfl, heap_alloc_new w _, h.x_new (Nat.le_refl _), fun o => h.z_new (Nat.le_refl _), by simpa using hr.1, fun j c x hc hx => ?_⟩
      exact (hr.2 j c x hc (by simpa using hx)).mono hle
  · rcases getElem?_snoc ht with ⟨hl, h3⟩ | ⟨_, h3⟩
    · rcases h.tip t n' sz h3 with ⟨h0, h1⟩ | ⟨b, cap, ys, ty', h1, h2, h3, h4, h5, h6⟩
      · exact .inl ⟨h0, h1⟩
      · exact .inr ⟨b, cap, ys, ty', h1, h2, heap_alloc h3, h4, h5, h6⟩
    · cases h3
  · rcases owns_snoc h h1 with ⟨_, h1'⟩ | ⟨h1', hb1⟩ <;> rcases owns_snoc h h2 with ⟨_, h2'⟩ | ⟨h2', hb2⟩
    · exact h.sep i j b h1' h2'
    · have := owns_lt h h1'; omega
    · have := owns_lt h h2'; omega
    · omega
  · have hi' : H.length + 1 ≤ i := by simpa using hi
    refine ⟨?_, (h.fresh i (by omega)).2⟩
    have : (E.name H.length w.heap.size).φ i = E.φ i := if_neg (by omega)
    rw [this]; exact (h.fresh i (by omega)).1

theorem off_name (h : Wr X E H w) (b : Nat) : Off X E (E.name H.length b) := fun b' o v h1 h2 => by
  have : E.z b' o = some v := h1
  rw [this] at h2; cases h2

/-- Does it for a new variable. -/
theorem does_blk (h : Wr X E H w) {m : Sem Value} {cs : List AV} {xs : Array Value} {ty : TypeId} (hr : Rs E cs xs.toList)
    (hm : m.run P w = .ok (.pointer (some ⟨w.heap.size, 0, none⟩)) (w.alloc (.cells xs ty))) : Does P X E m w (.ptr H.length 0) (H ++ [.blk cs]) :=
  ⟨_, _, _, hm, h.name_le _, off_name h _, h.alloc_blk hr ty, .alloc _ _, .ptr 0 (if_pos rfl)⟩

theorem aAlloc_ok (hw : Wr X E H w) {t : Nat} {i : TyI} (hi : TyOk P t i) : (aAlloc i H).Ok fun v' H' => Does P X E (Instr.alloc t true (.tuple #[])) w v' H' := by
  obtain ⟨z, hz, hr⟩ := hi.run_zero (P := P) (w := w) (E := E)
  exact does_blk hw hr (by simp [Instr.alloc, hz, newVar, newRow]; rfl)
theorem aBox_ok (hw : Wr X E H w) (t : Nat) {v : AV} {x : Value} (hx : R E v x) : (aBox v H).Ok fun v' H' => Does P X E (Instr.box t x) w v' H' := by
  unfold aBox
  split
  · rename_i hl
    obtain ⟨h1, _⟩ := cells_Rs hx hl
    exact does_blk hw h1 (by simp [Instr.box, newVar, newRow]; rfl)
  · trivial

/-- A load. -/
theorem loadVar_ok {t : Nat} {i : TyI} (hi : TyOk P t i) {cs : List AV} {xs : List Value} (h : Rs E cs xs) {b off : Nat} {v : AV}
    (hc : ∀ (j : Nat) (x : Value), xs[j]? = some x → w.cell? ⟨b, off + j, none⟩ = some x) {o : Nat} (hv : part i.agg i.size cs o = some v) :
    ∃ x, (loadVar t ⟨b, off + o, none⟩).run P w = .ok x w ∧ R E v x := by
  unfold Ab.part at hv
  cases ha : i.agg with
  | true =>
    rw [ha] at hv
    simp only at hv
    split at hv
    · rename_i hb
      have hb := Nat.le_of_ble_eq_true hb
      simp only [Option.some.injEq] at hv
      subst hv
      have hl : ((xs.drop o).take i.size).length = i.size := by
        have := h.1
        simp; omega
      have := run_loadCells_list (P := P) w ⟨b, off + o, none⟩ ((xs.drop o).take i.size) (fun j x hj => by
        rw [Addr.add_lit]
        rw [List.getElem?_take] at hj
        split at hj
        · rw [List.getElem?_drop] at hj
          have := hc _ _ hj
          rwa [← Nat.add_assoc] at this
        · cases hj)
      rw [hl] at this
      exact ⟨.agg ((xs.drop o).take i.size).toArray, by simp [loadVar, hi.run_isAgg, ha, hi.run_size, this], Rs.agg (by simpa using (h.drop o).take i.size)⟩
    · cases hv
  | false =>
    rw [ha] at hv
    simp only at hv
    have hlt : o < xs.length := by
      have := (List.getElem?_eq_some_iff.1 hv).1
      have h1 := h.1
      omega
    have := hc o _ (List.getElem?_eq_getElem hlt)
    exact ⟨xs[o], by simp [loadVar, hi.run_isAgg, ha, this], h.2 o v _ hv (List.getElem?_eq_getElem hlt)⟩

theorem aLoad_run (hw : Wr X E H w) {t : Nat} {i : TyI} (hi : TyOk P t i) {v : AV} {x : Value} (hx : R E v x) {u : AV} {H' : List HB} (h : aLoad i v H = .val u H') :
    H' = H ∧ ∃ ad y, x = .pointer (some ad) ∧ (loadVar t ad).run P w = .ok y w ∧ R E u y := by
  unfold aLoad at h
  split at h
  · rename_i id off
    obtain ⟨b, hb, rfl⟩ := hx.ptr_inv
    split at h
    · rename_i cs hH
      obtain ⟨b', xs, ty, h1, h2, _, _, h5, h6⟩ := hw.blk id cs hH
      rw [hb] at h1; obtain rfl := Option.some.inj h1
      split at h
      · rename_i u hu
        cases h
        obtain ⟨y, hy, hr⟩ := loadVar_ok (P := P) (w := w) hi (Rs.of_agg h5 h6) (b := b) (off := 0) (fun j x hj => by
          rw [cell_of_row w b _ xs ty _ h2]; simpa using hj) hu
        simp only [Nat.zero_add] at hy
        exact ⟨rfl, _, y, rfl, hy, hr⟩
      · cases h
    · cases h
  · rename_i cs
    obtain ⟨b, off, vs, rfl, h1, h2⟩ := hx.fptr_inv
    split at h
    · rename_i u hu
      cases h
      have hrs : Rs E cs ((List.range cs.length).map vs) := by
        refine ⟨by simp, fun j c x hc hx => ?_⟩
        have hlt := (List.getElem?_eq_some_iff.1 hc).1
        simp [hlt] at hx
        subst hx
        exact .ground (h2 j c hc)
      obtain ⟨y, hy, hr⟩ := loadVar_ok (P := P) (w := w) hi hrs (b := b) (off := off) (fun j x hj => by
        have hlt := (List.getElem?_eq_some_iff.1 hj).1
        simp at hlt
        simp [hlt] at hj
        subst hj
        exact hw.froz _ _ _ (h1 j _ (List.getElem?_eq_getElem hlt))) hu
      simp only [Nat.add_zero] at hy
      exact ⟨rfl, _, y, rfl, hy, hr⟩
    · cases h
  · cases h
theorem aLoad_ok (hw : Wr X E H w) {t : Nat} {i : TyI} (hi : TyOk P t i) {v : AV} {x : Value} (hx : R E v x) : (aLoad i v H).Ok fun v' H' => Does P X E (Instr.loadAt t x) w v' H' := by
  cases h : aLoad i v H with
  | val u H' =>
    obtain ⟨rfl, ad, y, rfl, h1, h2⟩ := aLoad_run (P := P) hw hi hx h
    exact Does.pure hw (by simp [Instr.loadAt, Instr.sureAddr, h1]) h2
  | valc u H' c =>
    unfold aLoad at h
    split at h
    · split at h
      · split at h <;> cases h
      · cases h
    · split at h <;> cases h
    · cases h
  | _ => trivial

/-- A store into a variable of the call's own. -/
theorem Wr.setRow (h : Wr X E H w) {id b : Nat} {cs cs' : List AV} {xs xs' : Array Value} {ty : TypeId} (hi : H[id]? = some (.blk cs)) (hb : E.φ id = some b)
    (hg : w.heap[b]? = some (.cells xs ty (0, 0))) (hr : Rs E cs' xs'.toList) : Wr X E (H.set id (.blk cs')) (w.setRow b xs') := by
  have hid := (List.getElem?_eq_some_iff.1 hi).1
  have hown : owns E H id b := .inl ⟨cs, hi, hb⟩
  have hz : ∀ o, E.z b o = none := by
    obtain ⟨b', _, _, h1, _, _, h4, _⟩ := h.blk id cs hi
    rw [hb] at h1; obtain rfl := Option.some.inj h1; exact h4
  have hx := owns_x h hown
  have own' : ∀ {i b'}, owns E (H.set id (.blk cs')) i b' → owns E H i b' := by
    intro i b' ho
    rcases ho with ⟨cs2, h1, h2⟩ | ⟨n, sz, off, cap, h1, h2⟩
    · rw [List.getElem?_set] at h1
      split at h1
      · rename_i hh; subst hh; exact .inl ⟨cs, hi, h2⟩
      · exact .inl ⟨cs2, h1, h2⟩
    · rw [List.getElem?_set] at h1
      split at h1
      · cases h1
      · exact .inr ⟨n, sz, off, cap, h1, h2⟩
  refine ⟨fun b' o ho => ?_, fun b' o v hv => ?_, fun i cs2 h1 => ?_, fun t n sz h1 => ?_, fun i j b' h1 h2 => h.sep i j b' (own' h1) (own' h2), fun i hi' => h.fresh i (by simpa using hi')⟩
  · rw [setRow_other w b b' xs' (fun e => by subst e; rw [hx] at ho; cases ho)]
    exact h.frame b' o ho
  · have hne : b' ≠ b := fun e => by subst e; rw [hz] at hv; cases hv
    have := h.froz b' o v hv
    rw [World.cell?_of_block (w := w) (setRow_other w b b' xs' hne)]
    exact this
  · rw [List.getElem?_set] at h1
    split at h1
    · rename_i hh
      subst hh
      simp only [Option.some.injEq, HB.blk.injEq] at h1
      subst h1
      exact ⟨b, xs', ty, hb, setRow_heap w b xs xs' ty _ hg, hx, hz, by simpa using hr.1, fun j c x hc hx => hr.2 j c x hc (by simpa using hx)⟩
    · rename_i hh
      obtain ⟨b2, ys, ty', h2, h3, h4⟩ := h.blk i cs2 h1
      have hne : b2 ≠ b := fun e => by subst e; exact hh (h.sep id i b2 hown (.inl ⟨cs2, h1, h2⟩))
      exact ⟨b2, ys, ty', h2, by rw [setRow_other w b b2 xs' hne]; exact h3, h4⟩
  · rw [List.getElem?_set] at h1
    split at h1
    · cases h1
    · rename_i hh
      rcases h.tip t n sz h1 with h2 | ⟨b2, cap, ys, ty', h2, h3, h4, h5⟩
      · exact .inl h2
      · have hne : b2 ≠ b := fun e => by subst e; exact hh (h.sep id t b2 hown (.inr ⟨n, sz, 0, cap, h1, h2⟩))
        exact .inr ⟨b2, cap, ys, ty', h2, h3, by rw [setRow_other w b b2 xs' hne]; exact h4, h5⟩

theorem Rs.setAt {cs vs : List AV} {xs us : List Value} (h : Rs E cs xs) (g : Rs E vs us) (off : Nat) : Rs E (Ab.setAt cs off vs) (xs.take off ++ us ++ xs.drop (off + us.length)) := by
  unfold Ab.setAt
  rw [List.append_assoc, ← g.1]
  exact (h.take off).append (g.append (h.drop _))

theorem Ext.setRow (w : World) (g : Nat) (cs : Array Value) : Ext w (w.setRow g cs) := ⟨rfl, rfl, rfl, by simp [World.setRow]⟩

theorem aStore_ok (hw : Wr X E H w) {t : Nat} {i : TyI} (hi : TyOk P t i) {p v : AV} {x y : Value} (hp : R E p x) (hv : R E v y) {H' : List HB} (h : aStore i p v H = some H') :
    ∃ w', (Instr.storeAt t x y).run P w = .ok () w' ∧ Wr X E H' w' ∧ Ext w w' := by
  unfold aStore at h
  split at h
  · rename_i id off
    obtain ⟨b, hb, rfl⟩ := hp.ptr_inv
    split at h
    · rename_i cs hH
      split at h
      · rename_i h1 h2 h3
        simp only [Option.some.injEq] at h
        subst h
        obtain ⟨b', xs, ty, g1, g2, _, _, g5, g6⟩ := hw.blk id cs hH
        rw [hb] at g1; obtain rfl := Option.some.inj g1
        obtain ⟨hrs, hone⟩ := cells_Rs hv h1
        have hlen := hrs.1
        have h2 := Nat.eq_of_beq_eq_true h2
        have h3 := Nat.le_of_ble_eq_true h3
        have hst := run_storeCells_at P b off ty y.cells.toList 0 xs w g2 (by simp at hlen ⊢; omega) hone
        simp only [Nat.add_zero] at hst
        have hrs' := Rs.setAt (Rs.of_agg g5 g6) hrs off
        refine ⟨w.setRow b (xs.toList.take off ++ y.cells.toList ++ xs.toList.drop (off + y.cells.toList.length)).toArray, ?_, hw.setRow (cs' := Ab.setAt cs off v.cells) hH hb g2 (by simpa using hrs'), .setRow _ _ _⟩
        · have hsz : y.cells.size = i.size := by simp at hlen; omega
          simp only [Instr.storeAt, Instr.sureAddr, storeVar, Sem.run_bind, Sem.run_pure, Result.andThen_ok, hi.run_size, hsz, ne_eq, not_true_eq_false, if_false, hst]
      · cases h
    · cases h
  · cases h

theorem aFieldAddr_ok (hT : TabOk P T) (hw : Wr X E H w) {t : Nat} {i : TyI} (hi : T t = some i) (x : AV) (u : Value) (hx : R E x u) (f : Nat) :
    (aFieldAddr i T x f H).Ok fun v' H' => Does P X E (Instr.fieldAt t u f) w v' H' := by
  unfold aFieldAddr
  split
  · rename_i fields hd
    split
    · rename_i fl hf
      split
      · rename_i j hj
        split
        · trivial
        · rename_i n hn
          have hu := (hT _ _ hi).und
          rw [hd] at hu
          have hs : ∀ w : World, (sizeOf fl.type).run P w = .ok (n + 1) w := fun w => by rw [(hT _ _ hj).run_size, hn]
          split
          · rename_i id off
            obtain ⟨b, hb, rfl⟩ := hx.ptr_inv
            exact Does.pure hw (by simp [Instr.fieldAt, run_underlying hu, hf, Instr.sureAddr, fieldPlace, hs, Addr.add_lit]) (.ptr _ hb)
          · rename_i cs
            obtain ⟨b, off, vs, rfl, h1, h2⟩ := hx.fptr_inv
            refine Does.pure hw (by simp [Instr.fieldAt, run_underlying hu, hf, Instr.sureAddr, fieldPlace, hs, Addr.add_lit]) (.fptr _ b (off + fl.offset) (fun j => vs (fl.offset + j)) (fun j c hc => ?_) (fun j c hc => ?_))
            · rw [List.getElem?_drop] at hc
              rw [Nat.add_assoc]; exact h1 _ c hc
            · rw [List.getElem?_drop] at hc
              exact h2 _ c hc
          · trivial
      · trivial
    · trivial
  · trivial

theorem aExtract_ok (hw : Wr X E H w) {x : AV} {u : Value} (hx : R E x u) (ix : Nat) : (aExtract x ix H).Ok fun v' H' => Does P X E (Instr.extract u ix) w v' H' := by
  unfold aExtract
  split
  · rename_i vs
    obtain ⟨xs, rfl, h1, h2⟩ := hx.tuple_inv
    split
    · rename_i v hv
      have hlt : ix < xs.size := by have := (List.getElem?_eq_some_iff.1 hv).1; omega
      exact Does.pure hw (by simp [Instr.extract, Array.getElem?_eq_getElem hlt]) (h2 ix v _ hv (Array.getElem?_eq_getElem hlt))
    · trivial
  · trivial

theorem bs_size (s : List UInt8) : (ByteArray.mk s.toArray).size = s.length := List.size_toArray

theorem aLen_ok (hw : Wr X E H w) {t : Nat} {i : TyI} (hi : TyOk P t i) {x : AV} {u : Value} (hx : R E x u) (ty : Nat) : (aLen i x H).Ok fun v' H' => Does P X E (Builtin.len_ #[t] ty #[u]) w v' H' := by
  have hu := hi.und
  unfold aLen
  split
  · rename_i s hd
    rw [hd] at hu
    obtain ⟨rfl, _⟩ := hx.str_inv
    exact Does.pure hw (by simp only [Builtin.len_]; simp [run_underlying hu, goInt, bs_size]) (.ground (.int _ _))
  · rename_i e l tok hd
    rw [hd] at hu
    obtain ⟨A, cap, rfl, _⟩ := hx.row_slice
    exact Does.pure hw (by simp only [Builtin.len_]; simp [run_underlying hu, goInt]) (.ground (.int _ _))
  · rename_i e id off n hd
    rw [hd] at hu
    obtain ⟨b, off', cap, _, _, _, _, rfl⟩ := hx.ref_inv
    exact Does.pure hw (by simp only [Builtin.len_]; simp [run_underlying hu, goInt]) (.ground (.int _ _))
  · trivial

theorem aIndex_ok (hw : Wr X E H w) {t : Nat} {i : TyI} (hi : TyOk P t i) {x y : AV} {u v : Value} (hx : R E x u) (hy : R E y v) : (aIndex i x y H).Ok fun v' H' => Does P X E (Instr.index t u v) w v' H' := by
  have hu := hi.und
  unfold aIndex
  split
  · rename_i s k n hd
    rw [hd] at hu
    obtain ⟨rfl, _⟩ := hx.str_inv
    obtain rfl := hy.int_inv
    intro ⟨h0, h1⟩
    have hlt : n.toNat < s.length := by omega
    have hb : (ByteArray.mk s.toArray)[n.toNat]? = some (s.getD n.toNat 0) := by
      rw [ByteArray.getElem?_lt' _ _ (by simpa [ByteArray.size] using hlt)]
      simp [ByteArray.getElem_eq_getElem_data, List.getD, List.getElem?_eq_getElem hlt]
    exact Does.pure hw (by simp only [Instr.index, asIntOf, Sem.run_bind, Sem.run_pure, Result.andThen_ok, run_underlying hu, h0, if_true, hb]) (.ground (.int _ _))
  · trivial

theorem encode_le (n : Int) : (Utf8.encode n).data.toList.length ≤ big := by
  have h : (Utf8.encode n).data.toList.length ≤ 4 := by
    unfold Utf8.encode
    simp only []
    generalize (if Utf8.valid n = true then n.toNat else Utf8.runeError) = c
    split
    · simp
    · split
      · simp
      · split <;> simp
  exact Nat.le_trans h (by decide)

theorem aConvert_ok (hw : Wr X E H w) {t t' : Nat} {i j : TyI} (hi : TyOk P t i) (hj : TyOk P t' j) {x : AV} {u : Value} (hx : R E x u) :
    (aConvert i j T x H).Ok fun v' H' => Does P X E (convert t t' u) w v' H' := by
  have hu := hi.und
  have hu' := hj.und
  unfold aConvert
  split
  · rename_i k0 k k1 n h1 h2
    rw [h1] at hu; rw [h2] at hu'
    obtain rfl := hx.int_inv
    exact Does.pure hw (by simp [convert, run_underlying hu, run_underlying hu', Conv.intToInt]) (.ground (.int _ _))
  · rename_i k0 k1 n h1 h2
    rw [h1] at hu; rw [h2] at hu'
    obtain rfl := hx.int_inv
    refine Does.pure hw (x := .string (Utf8.encode n)) (by simp [convert, run_underlying hu, run_underlying hu', Conv.intToString]) ?_
    exact .ground (.str _ (encode_le n))
  · rename_i s h1 h2
    rw [h1] at hu; rw [h2] at hu'
    obtain ⟨rfl, hl⟩ := hx.str_inv
    exact Does.pure hw (by simp [convert, run_underlying hu, run_underlying hu']) (.ground (.str _ hl))
  · trivial
end
end Go.Ab
