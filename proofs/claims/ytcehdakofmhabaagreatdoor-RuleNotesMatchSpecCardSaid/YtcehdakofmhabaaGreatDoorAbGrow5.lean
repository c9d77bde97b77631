/- append does what is told of it. -/
import Derived.Test.YtcehdakofmhabaaGreatDoorAbGrow4
namespace Go.Ab
set_option linter.unusedVariables false
set_option linter.unusedSimpArgs false
section
variable {P : Program} {X : XT} {E : En} {H : List HB} {w : World} {T : Nat → Option TyI}

theorem kName_cut (w : World) (need old : Nat) (e : TypeId) : need ≤ grownCap w need old e := grownCap_ge w need old e

/-- What a row with other elements behind it is, on a new block. -/
theorem app_new (hw : Wr X E H w) {e : TypeId} {k : TyI} {inf : TypeInfo} {z : Value} {m : Sem Value} {sz : Nat} (hsz : 1 ≤ sz) (hzl : z.cells.size = sz)
    {l ys : List AV} {olds news : List Value} {cap t : Nat} (ho : olds.length = l.length * sz) (hn : news.length = ys.length * sz) (hcap : l.length + ys.length ≤ cap) (hbig : l.length + ys.length ≤ big)
    (h1 : ∀ (i : Nat) (e : AV), l[i]? = some e → e.cells.length = sz) (h2 : ∀ (i : Nat) (e : AV), ys[i]? = some e → e.cells.length = sz)
    (g1 : ∀ (i : Nat) (e : AV) (j : Nat) (c : AV), l[i]? = some e → e.cells[j]? = some c → ∃ x, olds[i * sz + j]? = some x ∧ G E.z c x)
    (g2 : ∀ (i : Nat) (e : AV) (j : Nat) (c : AV), ys[i]? = some e → e.cells[j]? = some c → ∃ x, news[i * sz + j]? = some x ∧ G E.z c x)
    (hr : m.run P w = .ok (.slice (some ⟨w.heap.size, 0, none⟩) (l.length + ys.length) cap) (w.drew.alloc (.cells (olds.toArray ++ news.toArray ++ Builtin.zeroCells z.cells (cap - (l.length + ys.length))) e)))
    (hτ : ∀ m, l.length + ys.length ≤ m → E.τ t m = none) (Hn : List HB) (hHn : (t = H.length ∧ Hn = H ++ [.tip (l.length + ys.length) sz]) ∨ (∃ n0 s0, H[t]? = some (.tip n0 s0) ∧ Hn = H.set t (.tip (l.length + ys.length) sz))) :
    Does P X E m w (.row sz (l ++ ys) (.own t)) Hn := by
  have hmul : (l.length + ys.length) * sz = l.length * sz + ys.length * sz := Nat.add_mul _ _ _
  have hle' : (l.length + ys.length) * sz ≤ cap * sz := Nat.mul_le_mul_right _ hcap
  let arr := olds.toArray ++ news.toArray ++ Builtin.zeroCells z.cells (cap - (l.length + ys.length))
  have harr : arr.size = cap * sz := by
    simp only [arr, Array.size_append, List.size_toArray, size_zeroCells, hzl, ho, hn]
    rw [Nat.sub_mul]; omega
  have hm := hw.drew.moved t (l.length + ys.length) cap sz arr e harr hcap hτ Hn hHn
  have hle1 := hw.freeze_le arr ((l.length + ys.length) * sz)
  have hle2 : (E.freeze w.heap.size arr ((l.length + ys.length) * sz)).le ((E.freeze w.heap.size arr ((l.length + ys.length) * sz)).stand t (l.length + ys.length) w.heap.size cap) := stand_le _ (.inl (hτ _ (Nat.le_refl _)))
  have hoff := hw.freeze_off arr ((l.length + ys.length) * sz)
  refine ⟨_, _, _, hr, hle1.trans hle2, hoff, hm, (Ext.drew w).trans (.alloc _ _), .own ?_ (stand_self _ _ _ _ _)⟩
  refine row_append (xs := olds) (ys := news) hsz ho hn hcap hbig (fun j v hj => ?_) h1 h2 (fun i e j c he hc => ?_) (fun i e j c he hc => ?_)
  · have hlt : j < (l.length + ys.length) * sz := by have := (List.getElem?_eq_some_iff.1 hj).1; simp at this; omega
    show (E.freeze w.heap.size arr ((l.length + ys.length) * sz)).z w.heap.size j = some v
    rw [freeze_z hlt]
    simp only [arr]
    have : (olds.toArray ++ news.toArray) = (olds ++ news).toArray := by simp
    rw [this, Array.getElem?_append_left (by simpa using (List.getElem?_eq_some_iff.1 hj).1)]
    simpa using hj
  · obtain ⟨x, hx, hg⟩ := g1 i e j c he hc
    exact ⟨x, hx, hg.mono hle1.z⟩
  · obtain ⟨x, hx, hg⟩ := g2 i e j c he hc
    exact ⟨x, hx, hg.mono hle1.z⟩

theorem aAppend_ok (hT : TabOk P T) (hw : Wr X E H w) {t t' : Nat} {i j : TyI} (hi : TyOk P t i) (hj : TyOk P t' j) (ty : TypeId) {x y : AV} {u v : Value} (hx : R E x u) (hy : R E y v) :
    (aAppend i j T x y H).Ok fun v' H' => Does P X E (Builtin.append_ #[t, t'] ty #[u, v]) w v' H' := by
  have hu := hi.und
  have hu' := hj.und
  unfold aAppend
  split
  · rename_i e e' sz xs tok sz' ys tok' hd hd'
    rw [hd] at hu; rw [hd'] at hu'
    obtain ⟨B, c, rfl, hcc, hcb⟩ := hy.row_slice
    have hgy := hy.row_g
    split
    · rename_i k hk
      have hko := hT _ _ hk
      obtain ⟨inf, z, i1, i2, i3, i4, i5, i6⟩ := hko.info
      have hzl : z.cells.size = k.size := by rw [← i5]; exact hko.zlen
      split
      · rename_i b1 b2 b3
        have b1 := Nat.le_of_ble_eq_true b1
        have b2 := Nat.le_of_ble_eq_true b2
        split
        · rename_i y0 yr
          split
          · rename_i c1 c2
            have c2 := Nat.eq_of_beq_eq_true c2
            subst c2
            intro hroom
            obtain ⟨A, cap, rfl, hxc, hxb⟩ := hx.row_slice
            have hcap : cap = xs.length := by
              cases hx with
              | ground h => cases h
              | full h => rfl
            subst hcap
            have hgx : G E.z (.row k.size xs .no) (.slice A xs.length xs.length) := by
              cases xs with
              | nil =>
                have := hx.row_g
                cases this with
                | row0 => exact .row0 _
                | row00 _ a cap => exact .row00 _ a _
                | row _ _ b off _ vs h1 h2 h3 h4 h5 => exact .row _ _ b off _ vs h1 h2 (by simp) (by simp) (by simp)
              | cons x0 xr =>
                have := Nat.eq_of_beq_eq_true (show Nat.beq sz k.size = true from c1)
                subst this; exact hx.row_g
            have hN : xs.length + (yr.length + 1) ≤ 140737488355328 := by
              have : xs.length + (yr.length + 1) ≤ (xs.length + (yr.length + 1)) * k.bytes := Nat.le_mul_of_pos_right _ (by omega)
              omega
            obtain ⟨_, _, hcy⟩ := row_cells hgy b1
            rcases hcy with ⟨_, hbad, _⟩ | ⟨_, _, hbad⟩ | ⟨b', off', news, rfl, hn1, hn2, hn3, hn4⟩
            · simp at hbad
            · simp at hbad
            obtain ⟨_, _, hcx⟩ := row_cells hgx b1
            rcases hcx with ⟨rfl, hx0, _⟩ | ⟨ax, rfl, hx0⟩ | ⟨b, off, olds, rfl, ho1, ho2, ho3, ho4⟩
            · have hxs : xs = [] := List.eq_nil_of_length_eq_zero hx0
              subst hxs
              have hr := run_app_nil (P := P) (w := w) t t' ty e e' inf z hu hu' i1 i4 ⟨b', off', none⟩ (y0 :: yr).length c news (by rw [i2]; exact hn1)
                (fun q v hq => by rw [Addr.add_lit]; exact hw.froz _ _ _ (hn2 q v hq).1) (by simp) (by simp at hN ⊢; omega) (by rw [i3]; simp at hroom ⊢; omega)
              refine app_new (e := e) (k := k) (inf := inf) (l := []) (ys := y0 :: yr) (olds := []) (news := news) (cap := grownCap w (y0 :: yr).length 0 e) (t := H.length) hw b1 hzl (by simp) hn1 ?_ ?_ (by simp) hn3 (by simp) hn4 ?_ ?_ _ (.inl ⟨rfl, by simp⟩)
              · simpa using grownCap_ge w (yr.length + 1) 0 e
              · simp only [big]; simp at hN ⊢; omega
              · simpa using hr
              · intro m hm; exact (hw.fresh _ (Nat.le_refl _)).2 m
            · have hxs : xs = [] := List.eq_nil_of_length_eq_zero hx0
              subst hxs
              have hr := run_app_grow (P := P) (w := w) t t' ty e e' inf z hu hu' i1 i4 ax 0 0 [] (by simp) (by simp) ⟨b', off', none⟩ (y0 :: yr).length c news (by rw [i2]; exact hn1)
                (fun q v hq => by rw [Addr.add_lit]; exact hw.froz _ _ _ (hn2 q v hq).1) (by simp) (by simp at hN ⊢; omega) (growslice_fits (by simp) (by rw [i3]; simpa using hroom))
              refine app_new (e := e) (k := k) (inf := inf) (l := []) (ys := y0 :: yr) (olds := []) (news := news) (cap := grownCap w (0 + (y0 :: yr).length) 0 e) (t := H.length) hw b1 hzl (by simp) hn1 ?_ ?_ (by simp) hn3 (by simp) hn4 ?_ ?_ _ (.inl ⟨rfl, by simp⟩)
              · simpa using grownCap_ge w (0 + (yr.length + 1)) 0 e
              · simp only [big]; simp at hN ⊢; omega
              · simpa using hr
              · intro m hm; exact (hw.fresh _ (Nat.le_refl _)).2 m
            · have hr := run_app_grow (P := P) (w := w) t t' ty e e' inf z hu hu' i1 i4 ⟨b, off, none⟩ xs.length xs.length olds (by rw [i2]; exact ho1)
                (fun q v hq => by rw [Addr.add_lit]; exact hw.froz _ _ _ (ho2 q v hq).1) ⟨b', off', none⟩ (y0 :: yr).length c news (by rw [i2]; exact hn1)
                (fun q v hq => by rw [Addr.add_lit]; exact hw.froz _ _ _ (hn2 q v hq).1) (by simp) (by simp at hN ⊢; omega) (growslice_fits (by simp) (by rw [i3]; simpa using hroom))
              refine app_new (e := e) (k := k) (inf := inf) (l := xs) (ys := y0 :: yr) (olds := olds) (news := news) (cap := grownCap w (xs.length + (y0 :: yr).length) xs.length e) (t := H.length) hw b1 hzl ho1 hn1 ?_ ?_ ho3 hn3 ho4 hn4 hr ?_ _ (.inl ⟨rfl, by simp⟩)
              · exact grownCap_ge _ _ _ _
              · simp only [big]; simp at hN ⊢; omega
              · intro m hm; exact (hw.fresh _ (Nat.le_refl _)).2 m
          · trivial
        · obtain ⟨A, cap, rfl, hxc, hxb⟩ := hx.row_slice
          exact Does.pure hw (run_app_none t t' ty e e' inf hu hu' i1 A B xs.length cap c hxc) hx
        · rename_i tk
          split
          · rename_i n sz2 htip
            split
            · rename_i c1 c2 c3
              have c1 := Nat.eq_of_beq_eq_true c1
              have c2 := Nat.eq_of_beq_eq_true c2
              have c3 := Nat.eq_of_beq_eq_true c3
              subst c1; subst c2; subst c3
              intro ⟨hn, hroom⟩
              subst hn
              obtain ⟨A, cap, rfl, hxc, hxb⟩ := hx.row_slice
              have hgx := hx.row_g
              have hN : xs.length + ys.length ≤ 140737488355328 := by
                have : xs.length + ys.length ≤ (xs.length + ys.length) * k.bytes := Nat.le_mul_of_pos_right _ (by omega)
                omega
              have hτ0 : ∀ m, xs.length < m → E.τ tk m = none := by
                rcases hw.tip tk _ _ htip with ⟨_, h0⟩ | ⟨_, _, _, _, _, h0, _⟩
                · exact fun m _ => h0 m
                · exact h0
              by_cases hy0 : ys = []
              · subst hy0
                have hH : H.set tk (.tip (xs.length + ([] : List AV).length) k.size) = H := by
                  apply List.ext_getElem?
                  intro q
                  rw [List.getElem?_set]
                  split
                  · rename_i hh; subst hh
                    rw [htip]; simp [(List.getElem?_eq_some_iff.1 htip).1]
                  · rfl
                rw [hH]
                have := Does.pure hw (run_app_none t t' ty e e' inf hu hu' i1 A B xs.length cap c hxc) hx
                simpa using this
              · have hyp : 0 < ys.length := List.length_pos_iff.2 hy0
                obtain ⟨_, _, hcy⟩ := row_cells hgy b1
                rcases hcy with ⟨_, hbad, _⟩ | ⟨_, _, hbad⟩ | ⟨b', off', news, rfl, hn1, hn2, hn3, hn4⟩
                · omega
                · omega
                by_cases hfit : xs.length + ys.length ≤ cap
                · -- where it stands
                  cases hx with
                  | ground h => cases h
                  | own0 _ => exact absurd (by simpa using hfit) hy0
                  | own hg hτ =>
                    rename_i b off
                    rcases hw.tip tk _ _ htip with ⟨_, h0⟩ | ⟨b2, cap2, cur, ty2, a1, a2, a3, a4, a5, a6, a7⟩
                    · rw [h0] at hτ; cases hτ
                    · rw [a1] at hτ
                      simp only [Option.some.injEq, Prod.mk.injEq] at hτ
                      obtain ⟨rfl, rfl, rfl⟩ := hτ
                      obtain ⟨_, _, hcx⟩ := row_cells hgx b1
                      have hcx' : ∃ olds : List Value, olds.length = xs.length * k.size ∧ (∀ (j : Nat) (v : Value), olds[j]? = some v → E.z b2 (0 + j) = some v ∧ v.oneCell' = true) ∧
                          (∀ (i : Nat) (e : AV), xs[i]? = some e → e.cells.length = k.size) ∧
                          ∀ (i : Nat) (e : AV) (j : Nat) (c : AV), xs[i]? = some e → e.cells[j]? = some c → ∃ x, olds[i * k.size + j]? = some x ∧ G E.z c x := by
                        rcases hcx with ⟨hbad, _⟩ | ⟨ax, hA, hx0⟩ | ⟨b3', off3, olds, hA, ho1, ho2, ho3, ho4⟩
                        · cases hbad
                        · have hxs : xs = [] := List.eq_nil_of_length_eq_zero hx0
                          subst hxs
                          exact ⟨[], by simp, by simp, by simp, by simp⟩
                        · simp only [Option.some.injEq, Addr.mk.injEq] at hA
                          obtain ⟨rfl, rfl, _⟩ := hA
                          exact ⟨olds, ho1, ho2, ho3, ho4⟩
                      obtain ⟨olds, ho1, ho2, ho3, ho4⟩ := hcx'
                      have hmul : (xs.length + ys.length) * k.size = xs.length * k.size + ys.length * k.size := Nat.add_mul _ _ _
                      have hsz2 : (xs.length + ys.length) * k.size ≤ cap2 * k.size := Nat.mul_le_mul_right _ hfit
                      have hr := run_app_room (P := P) (w := w) t t' ty e e' ty2 inf hu hu' i1 b2 xs.length cap2 cur a3 ⟨b', off', none⟩ ys.length c news (by rw [i2]; exact hn1)
                        (fun q v hq => by rw [Addr.add_lit]; exact hw.froz _ _ _ (hn2 q v hq).1) (fun u hu => by obtain ⟨q, hq⟩ := List.mem_iff_getElem?.1 hu; exact (hn2 q u hq).2) hfit (by rw [i2]; omega)
                      rw [i2] at hr
                      obtain ⟨g1, g2, g3⟩ := hw.grown htip a1 a3 a5 a6 ys.length hfit a2 news hn1
                      refine ⟨_, _, _, hr, g1, g2, g3, .setRow _ _ _, .own ?_ (stand_self _ _ _ _ _)⟩
                      refine row_append (xs := olds) (ys := news) b1 ho1 hn1 hfit (by simp only [big]; omega) (fun q v hq => ?_) ho3 hn3 (fun i e j c he hc => ?_) (fun i e j c he hc => ?_)
                      · show (E.more b2 (xs.length * k.size) ((xs.length + ys.length) * k.size) news).z b2 q = some v
                        have hql := (List.getElem?_eq_some_iff.1 hq).1
                        simp at hql
                        by_cases hq1 : q < xs.length * k.size
                        · rw [more_out E (by omega)]
                          rw [List.getElem?_append_left (by omega)] at hq
                          have := (ho2 q v hq).1
                          simpa using this
                        · rw [more_in E (by omega)]
                          rw [List.getElem?_append_right (by omega), ho1] at hq
                          exact hq
                      · obtain ⟨x, hx', hg'⟩ := ho4 i e j c he hc
                        exact ⟨x, hx', hg'.mono g1.z⟩
                      · obtain ⟨x, hx', hg'⟩ := hn4 i e j c he hc
                        exact ⟨x, hx', hg'.mono g1.z⟩
                · obtain ⟨_, _, hcx⟩ := row_cells hgx b1
                  rcases hcx with ⟨rfl, hx0, hc0⟩ | ⟨ax, rfl, hx0⟩ | ⟨b, off, olds, rfl, ho1, ho2, ho3, ho4⟩
                  · have hxs : xs = [] := List.eq_nil_of_length_eq_zero hx0
                    subst hxs
                    subst hc0
                    have hr := run_app_nil (P := P) (w := w) t t' ty e e' inf z hu hu' i1 i4 ⟨b', off', none⟩ ys.length c news (by rw [i2]; exact hn1)
                      (fun q v hq => by rw [Addr.add_lit]; exact hw.froz _ _ _ (hn2 q v hq).1) hyp (by simp at hN ⊢; omega) (by rw [i3]; simp at hroom ⊢; omega)
                    refine app_new (e := e) (k := k) (inf := inf) (l := []) (ys := ys) (olds := []) (news := news) (cap := grownCap w ys.length 0 e) (t := tk) hw b1 hzl (by simp) hn1 ?_ ?_ (by simp) hn3 (by simp) hn4 ?_ ?_ _ (.inr ⟨_, _, htip, rfl⟩)
                    · simpa using grownCap_ge w ys.length 0 e
                    · simp only [big]; simp at hN ⊢; omega
                    · simpa using hr
                    · intro m hm; exact hτ0 m (by simp at hm ⊢; omega)
                  · have hxs : xs = [] := List.eq_nil_of_length_eq_zero hx0
                    subst hxs
                    have hr := run_app_grow (P := P) (w := w) t t' ty e e' inf z hu hu' i1 i4 ax 0 cap [] (by simp) (by simp) ⟨b', off', none⟩ ys.length c news (by rw [i2]; exact hn1)
                      (fun q v hq => by rw [Addr.add_lit]; exact hw.froz _ _ _ (hn2 q v hq).1) (by simpa using hfit) (by simp at hN ⊢; omega) (growslice_fits (by simpa using hfit) (by rw [i3]; simpa using hroom))
                    refine app_new (e := e) (k := k) (inf := inf) (l := []) (ys := ys) (olds := []) (news := news) (cap := grownCap w (0 + ys.length) cap e) (t := tk) hw b1 hzl (by simp) hn1 ?_ ?_ (by simp) hn3 (by simp) hn4 ?_ ?_ _ (.inr ⟨_, _, htip, rfl⟩)
                    · simpa using grownCap_ge w (0 + ys.length) cap e
                    · simp only [big]; simp at hN ⊢; omega
                    · simpa using hr
                    · intro m hm; exact hτ0 m (by simp at hm ⊢; omega)
                  · have hr := run_app_grow (P := P) (w := w) t t' ty e e' inf z hu hu' i1 i4 ⟨b, off, none⟩ xs.length cap olds (by rw [i2]; exact ho1)
                      (fun q v hq => by rw [Addr.add_lit]; exact hw.froz _ _ _ (ho2 q v hq).1) ⟨b', off', none⟩ ys.length c news (by rw [i2]; exact hn1)
                      (fun q v hq => by rw [Addr.add_lit]; exact hw.froz _ _ _ (hn2 q v hq).1) (by omega) (by simp at hN ⊢; omega) (growslice_fits (by omega) (by rw [i3]; exact hroom))
                    refine app_new (e := e) (k := k) (inf := inf) (l := xs) (ys := ys) (olds := olds) (news := news) (cap := grownCap w (xs.length + ys.length) cap e) (t := tk) hw b1 hzl ho1 hn1 ?_ ?_ ho3 hn3 ho4 hn4 hr ?_ _ (.inr ⟨_, _, htip, rfl⟩)
                    · exact grownCap_ge _ _ _ _
                    · simp only [big]; omega
                    · intro m hm; exact hτ0 m (by omega)
            · trivial
          · trivial
        · trivial
      · trivial
    · trivial
  · trivial
end
end Go.Ab
