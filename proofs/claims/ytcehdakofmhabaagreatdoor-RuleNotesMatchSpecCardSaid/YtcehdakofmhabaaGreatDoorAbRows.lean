/- Rows: parts of them, new ones, growing ones. -/
import Derived.Test.YtcehdakofmhabaaGreatDoorAbMem
namespace Go.Ab
set_option linter.unusedVariables false
set_option linter.unusedSimpArgs false
section
variable {P : Program} {X : XT} {E : En} {H : List HB} {w : World} {T : Nat → Option TyI}

/-- A part of a row reads as a row. -/
theorem G.sub {z : Nat → Nat → Option Value} {l : List AV} {b off sz : Nat} {vs : Nat → Nat → Value} (hb : l.length ≤ big)
    (h3 : ∀ (i : Nat) (e : AV), l[i]? = some e → e.cells.length = sz)
    (h4 : ∀ (i : Nat) (e : AV) (j : Nat) (c : AV), l[i]? = some e → e.cells[j]? = some c → z b (off + i * sz + j) = some (vs i j))
    (h5 : ∀ (i : Nat) (e : AV) (j : Nat) (c : AV), l[i]? = some e → e.cells[j]? = some c → G z c (vs i j))
    (lo hi cap' off' : Nat) (h0 : lo ≤ hi) (h1 : hi ≤ l.length) (hc : hi - lo ≤ cap') (ho : off' = off + lo * sz ∨ hi - lo = 0) :
    G z (.row sz ((l.take hi).drop lo) .no) (.slice (some ⟨b, off', none⟩) (hi - lo) cap') := by
  have hlen : ((l.take hi).drop lo).length = hi - lo := by simp; omega
  have get : ∀ (i : Nat) (e : AV), ((l.take hi).drop lo)[i]? = some e → l[lo + i]? = some e := by
    intro i e he
    rw [List.getElem?_drop, List.getElem?_take] at he
    split at he
    · exact he
    · cases he
  have := G.row (z := z) sz ((l.take hi).drop lo) b off' cap' (fun i j => vs (lo + i) j) (by omega) (by omega)
    (fun i e he => h3 _ e (get i e he))
    (fun i e j c he hcc => by
      have hi' := (List.getElem?_eq_some_iff.1 he).1
      rcases ho with rfl | ho
      · have := h4 _ e j c (get i e he) hcc
        rw [show off + lo * sz + i * sz + j = off + (lo + i) * sz + j by rw [Nat.add_mul]; omega]
        exact this
      · omega)
    (fun i e j c he hcc => h5 _ e j c (get i e he) hcc)
  rw [hlen] at this
  exact this

theorem G.sub' {z : Nat → Nat → Option Value} {sz : Nat} {l : List AV} {A : Option Addr} {n cap : Nat} (h : G z (.row sz l .no) (.slice A n cap)) (s : Nat) (hs : sz = s) (lo hi m : Nat) (h0 : lo ≤ hi) (h1 : hi ≤ l.length)
    (hm : hi ≤ m) (hm' : m ≤ cap) : G z (.row sz ((l.take hi).drop lo) .no) (.slice (if m = lo then A else A.map (·.add (lo * s))) (hi - lo) (m - lo)) := by
  subst hs
  cases h with
  | row0 =>
    have e1 : hi = 0 := by simpa using h1
    have e2 : lo = 0 := by omega
    subst e1; subst e2
    obtain rfl : m = 0 := by omega
    simpa using G.row0 sz
  | row00 _ a cap =>
    have e1 : hi = 0 := by simpa using h1
    have e2 : lo = 0 := by omega
    subst e1; subst e2
    by_cases hm0 : m = 0
    · rw [if_pos hm0]; simpa using G.row00 (z := z) sz a (m - 0)
    · rw [if_neg hm0]; simpa using G.row00 (z := z) sz (a.add (0 * sz)) (m - 0)
  | row _ _ b off _ vs g1 g2 g3 g4 g5 =>
    by_cases hml : m = lo
    · rw [if_pos hml]
      exact G.sub g2 g3 g4 g5 lo hi (m - lo) off h0 h1 (by omega) (.inr (by omega))
    · rw [if_neg hml]
      simp only [Option.map_some, Addr.add_lit]
      exact G.sub g2 g3 g4 g5 lo hi (m - lo) _ h0 h1 (by omega) (.inl rfl)

theorem intOf_val {E : En} {o : Option AV} {x : Option Value} {d n : Int} (h : intOf o d = some n) (hx : ∀ v, o = some v → ∃ u, x = some u ∧ R E v u) (h0 : o = none → x = none) :
    (x = none ∧ n = d) ∨ ∃ k, x = some (.int k n) := by
  cases o with
  | none => simp only [intOf, Option.some.injEq] at h; exact .inl ⟨h0 rfl, h.symm⟩
  | some v =>
    cases v <;> simp only [intOf, Option.some.injEq, reduceCtorEq] at h
    subst h
    obtain ⟨u, hu, hr⟩ := hx _ rfl
    obtain rfl := hr.int_inv
    exact .inr ⟨_, hu⟩

def OR (E : En) (o : Option AV) (x : Option Value) : Prop := (o = none ∧ x = none) ∨ ∃ v u, o = some v ∧ x = some u ∧ R E v u
theorem OR.int {o : Option AV} {x : Option Value} {d n : Int} (h : OR E o x) (hn : intOf o d = some n) : (x = none ∧ n = d) ∨ ∃ k, x = some (.int k n) := by
  rcases h with ⟨rfl, rfl⟩ | ⟨v, u, rfl, rfl, hr⟩
  · simp only [intOf, Option.some.injEq] at hn; exact .inl ⟨rfl, hn.symm⟩
  · cases v <;> simp only [intOf, Option.some.injEq, reduceCtorEq] at hn
    subst hn
    obtain rfl := hr.int_inv
    exact .inr ⟨_, rfl⟩

theorem run_bound (k : IntKind) (i : Int) (y : Nat) (c : BoundsCode) (h0 : 0 ≤ i) (h1 : i ≤ y) : (Instr.sliceBound (.int k i) y c).run P w = .ok i.toNat w := by
  simp [Instr.sliceBound, asIntOf, h0, h1]
/-- The three bounds of a slice. -/
theorem run_bounds (isS : Bool) (len cap : Nat) (lo hi : Option Value) (l h : Int) (hl : (lo = none ∧ l = 0) ∨ ∃ k, lo = some (.int k l)) (hh : (hi = none ∧ h = len) ∨ ∃ k, hi = some (.int k h))
    (h0 : 0 ≤ l) (h1 : l ≤ h) (h2 : h ≤ len) (hc : len ≤ cap) : (Instr.sliceBounds isS len cap lo hi none).run P w = .ok (l.toNat, h.toNat, cap) w := by
  have hlo : ∀ c, l.toNat ≤ h.toNat := fun _ => by omega
  rcases hl with ⟨rfl, rfl⟩ | ⟨k, rfl⟩ <;> rcases hh with ⟨rfl, rfl⟩ | ⟨k', rfl⟩
  · simp [Instr.sliceBounds]
  · have := run_bound (P := P) (w := w) k' h cap (if isS then .sliceAcap else .sliceAlen) (by omega) (by omega)
    simp [Instr.sliceBounds, this]
  · have := run_bound (P := P) (w := w) k l len .sliceB h0 (by omega)
    simp [Instr.sliceBounds, this]
  · have e1 := run_bound (P := P) (w := w) k' h cap (if isS then .sliceAcap else .sliceAlen) (by omega) (by omega)
    have e2 := run_bound (P := P) (w := w) k l h.toNat .sliceB h0 (by omega)
    simp [Instr.sliceBounds, e1, e2]
theorem run_bounds3 (len cap : Nat) (lo hi : Option Value) (l h : Int) (km : IntKind) (hl : (lo = none ∧ l = 0) ∨ ∃ k, lo = some (.int k l)) (hh : ∃ k, hi = some (.int k h))
    (h0 : 0 ≤ l) (h1 : l ≤ h) (h2 : h ≤ len) (hc : len ≤ cap) : (Instr.sliceBounds true len cap lo hi (some (.int km h))).run P w = .ok (l.toNat, h.toNat, h.toNat) w := by
  obtain ⟨k', rfl⟩ := hh
  have e0 := run_bound (P := P) (w := w) km h cap .slice3Acap (by omega) (by omega)
  have e1 := run_bound (P := P) (w := w) k' h h.toNat .slice3B (by omega) (by omega)
  rcases hl with ⟨rfl, rfl⟩ | ⟨k, rfl⟩
  · simp [Instr.sliceBounds, e0, e1]
  · have e2 := run_bound (P := P) (w := w) k l h.toNat .slice3C h0 (by omega)
    simp [Instr.sliceBounds, e0, e1, e2]

theorem aSlice_ok (hT : TabOk P T) (hw : Wr X E H w) {t : Nat} {i : TyI} (hi : TyOk P t i) {x : AV} {u : Value} (hx : R E x u)
    {lo hi' mx : Option AV} {xlo xhi xmx : Option Value} (hlo : OR E lo xlo) (hhi : OR E hi' xhi) (hmx : OR E mx xmx) :
    (aSlice i T x lo hi' mx H).Ok fun v' H' => Does P X E (Instr.sliceAt t u xlo xhi xmx) w v' H' := by
  have hu := hi.und
  unfold aSlice
  split
  · rename_i s hd
    rw [hd] at hu
    obtain ⟨rfl, hl⟩ := hx.str_inv
    split
    · rename_i l h hl1 hh1
      rcases hmx with ⟨_, rfl⟩ | ⟨_, _, hm, _⟩
      · intro ⟨h0, h1, h2⟩
        have hb := run_bounds (P := P) (w := w) false s.length s.length xlo xhi l h (hlo.int hl1) (hhi.int hh1) h0 h1 h2 (Nat.le_refl _)
        refine Does.pure hw (x := .string ⟨((s.take h.toNat).drop l.toNat).toArray⟩) ?_ (.ground (.str _ (by simp; omega)))
        have he : (ByteArray.mk s.toArray).extract l.toNat h.toNat = ⟨((s.take h.toNat).drop l.toNat).toArray⟩ := by
          apply ByteArray.ext
          rw [ByteArray.data_extract]
          simp [List.extract_eq_take_drop, List.drop_take]
        simp [Instr.sliceAt, Instr.slice, run_underlying hu, bs_size, hb, he]
      · cases hm
    · trivial
  · rename_i e sz xs tok hd
    rw [hd] at hu
    obtain ⟨A, cap, rfl, hcap, hbig⟩ := hx.row_slice
    have hg := hx.row_g
    split
    · rename_i j hj
      have hsz := (hT _ _ hj).run_size (w := w)
      split
      · rename_i l k m hs hl1
        have hs := Nat.eq_of_beq_eq_true hs
        split
        · rename_i kh h
          rcases hmx with ⟨hm, _⟩ | ⟨_, um, hm, rfl, hrm⟩
          · cases hm
          · cases hm
            obtain rfl := hrm.int_inv
            rcases hhi with ⟨hm, _⟩ | ⟨_, uh, hm, rfl, hrh⟩
            · cases hm
            · cases hm
              obtain rfl := hrh.int_inv
              intro ⟨h0, h1, h2, h3⟩
              subst h3
              have hb := run_bounds3 (P := P) (w := w) xs.length cap xlo _ l m k (hlo.int hl1) ⟨kh, rfl⟩ h0 h1 h2 hcap
              have hr : (Instr.sliceAt t (.slice A xs.length cap) xlo (some (.int kh m)) (some (.int k m))).run P w =
                  .ok (.slice (if m.toNat = l.toNat then A else A.map (·.add (l.toNat * j.size))) (m.toNat - l.toNat) (m.toNat - l.toNat)) w := by
                simp [Instr.sliceAt, Instr.slice, run_underlying hu, hb, hsz]
              exact Does.pure hw hr (.full (hg.sub' j.size hs l.toNat m.toNat m.toNat (by omega) (by omega) (by omega) (by omega)))
        · trivial
      · rename_i l hs hl1
        have hs := Nat.eq_of_beq_eq_true hs
        split
        · rename_i h hh1
          rcases hmx with ⟨_, rfl⟩ | ⟨_, _, hm, _⟩
          · intro ⟨h0, h1, h2⟩
            have hb := run_bounds (P := P) (w := w) true xs.length cap xlo xhi l h (hlo.int hl1) (hhi.int hh1) h0 h1 h2 hcap
            have hr : (Instr.sliceAt t (.slice A xs.length cap) xlo xhi none).run P w =
                .ok (.slice (if cap = l.toNat then A else A.map (·.add (l.toNat * j.size))) (h.toNat - l.toNat) (cap - l.toNat)) w := by
              simp [Instr.sliceAt, Instr.slice, run_underlying hu, hb, hsz]
            exact Does.pure hw hr (.ground (hg.sub' j.size hs l.toNat h.toNat cap (by omega) (by omega) (by omega) (by omega)))
          · cases hm
        · trivial
      · trivial
    · trivial
  · rename_i e id off len hd
    rw [hd] at hu
    obtain ⟨b, off', cap, hb, hcap, hbig, ho, rfl⟩ := hx.ref_inv
    split
    · rename_i j hj
      have hsz := (hT _ _ hj).run_size (w := w)
      split
      · rename_i l h hl1 hh1
        rcases hmx with ⟨_, rfl⟩ | ⟨_, _, hm, _⟩
        · intro ⟨h0, h1, h2⟩
          have hbo := run_bounds (P := P) (w := w) true len cap xlo xhi l h (hlo.int hl1) (hhi.int hh1) h0 h1 h2 hcap
          have hr : (Instr.sliceAt t (.slice (some ⟨b, off', none⟩) len cap) xlo xhi none).run P w =
              .ok (.slice (if cap = l.toNat then some ⟨b, off', none⟩ else some ⟨b, off' + l.toNat * j.size, none⟩) (h.toNat - l.toNat) (cap - l.toNat)) w := by
            simp [Instr.sliceAt, Instr.slice, run_underlying hu, hbo, hsz, Addr.add_lit]
          by_cases hc : cap = l.toNat
          · rw [if_pos hc] at hr
            exact Does.pure hw hr (.ref _ _ _ _ hb (by omega) (by omega) (.inr (by omega)))
          · rw [if_neg hc] at hr
            refine Does.pure hw hr (.ref _ _ _ _ hb (by omega) (by omega) ?_)
            rcases ho with rfl | ho
            · exact .inl rfl
            · exact .inr (by omega)
        · cases hm
      · trivial
    · trivial
  · trivial
end
end Go.Ab
