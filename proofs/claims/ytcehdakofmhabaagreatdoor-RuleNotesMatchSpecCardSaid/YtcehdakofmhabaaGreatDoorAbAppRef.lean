/- append to nothing, told as a variable of this call's own. -/
import Derived.Test.YtcehdakofmhabaaGreatDoorAbDraw5
namespace Go.Ab
set_option linter.unusedVariables false
set_option linter.unusedSimpArgs false
section
variable {P : Program} {X : XT} {E : En} {H : List HB} {w : World} {T : Nat → Option TyI}
theorem app_ref_new (hw : Wr X E H w) {e : TypeId} {z : Value} {m : Sem Value} {sz : Nat} (hsz : 1 ≤ sz) (hzl : z.cells.size = sz) {ys : List AV} {news : List Value} {cap : Nat}
    (hn : news.length = ys.length * sz) (hcap : ys.length ≤ cap) (hbig : ys.length ≤ big) (h2 : ∀ e ∈ ys, e.cells.length = sz)
    (g2 : ∀ (i : Nat) (e : AV) (j : Nat) (c : AV), ys[i]? = some e → e.cells[j]? = some c → ∃ x, news[i * sz + j]? = some x ∧ G E.z c x)
    (hr : m.run P w = .ok (.slice (some ⟨w.heap.size, 0, none⟩) ys.length cap) (w.drew.alloc (.cells (news.toArray ++ Builtin.zeroCells z.cells (cap - ys.length)) e))) :
    Does P X E m w (.ref H.length 0 ys.length) (H ++ [.blk (ys.flatMap AV.cells ++ List.replicate ((cap - ys.length) * sz) .undef)]) := by
  have hfl := flat_len h2
  have hrs : Rs E (ys.flatMap AV.cells ++ List.replicate ((cap - ys.length) * sz) .undef) (news.toArray ++ Builtin.zeroCells z.cells (cap - ys.length)).toList := by
    rw [Array.toList_append]
    refine Rs.append ⟨by simp [hfl, hn], fun q c x hc hx => ?_⟩ ⟨by simp [size_zeroCells, hzl], fun q c x hc hx => ?_⟩
    · have hq : q < ys.length * sz := by rw [← hfl]; exact (List.getElem?_eq_some_iff.1 hc).1
      have hi : q / sz < ys.length := (Nat.div_lt_iff_lt_mul (by omega)).2 hq
      have hj : q % sz < sz := Nat.mod_lt _ (by omega)
      have hqe : q = q / sz * sz + q % sz := (Nat.div_add_mod' q sz).symm
      have h4 := flat_get h2 (List.getElem?_eq_getElem hi) hj
      rw [← hqe, hc] at h4
      obtain ⟨y, hy, hg⟩ := g2 _ _ _ _ (List.getElem?_eq_getElem hi) h4.symm
      rw [← hqe] at hy
      have : x = y := by
        have hx' : news[q]? = some x := by simpa using hx
        rw [hx'] at hy; exact Option.some.inj hy
      rw [this]; exact .ground hg
    · have : c = .undef := by
        have := List.mem_of_getElem? hc
        exact (List.mem_replicate.1 this).2
      rw [this]; exact .undef _
  exact ⟨_, _, _, hr, hw.drew.name_le _, off_name hw.drew _, hw.drew.alloc_blk hrs e, (Ext.drew w).trans (.alloc _ _), .ref 0 0 _ _ (if_pos rfl) hcap hbig (.inl rfl)⟩
theorem app_ref (hw : Wr X E H w) {t t' : Nat} {i j : TyI} (hi : TyOk P t i) (hj : TyOk P t' j) {e : TypeId} (hd : i.d = .slice e) (hd' : j.d = .slice e) {k : TyI} (hk : TyOk P e k) (b1 : 1 ≤ k.size) (b2 : 1 ≤ k.bytes) (ty : TypeId)
    {sz : Nat} {ys : List AV} {tok : Tok} {u v : Value} (hx : R E (.row sz [] .full) u) (hy : R E (.row k.size ys tok) v) (hne : ys ≠ []) (hroom : ys.length * k.bytes ≤ 140737488355328) :
    ∃ n, Does P X E (Builtin.append_ #[t, t'] ty #[u, v]) w (.ref H.length 0 ys.length) (H ++ [.blk (ys.flatMap AV.cells ++ List.replicate n .undef)]) := by
  have hu := hi.und
  have hu' := hj.und
  rw [hd] at hu; rw [hd'] at hu'
  obtain ⟨B, c, rfl, hcc, hcb⟩ := hy.row_slice
  have hgy := hy.row_g
  obtain ⟨inf, z, i1, i2, i3, i4, i5, i6⟩ := hk.info
  have hzl : z.cells.size = k.size := by rw [← i5]; exact hk.zlen
  have hpos : 0 < ys.length := List.length_pos_iff.2 hne
  have hN : ys.length ≤ 140737488355328 := by
    have : ys.length ≤ ys.length * k.bytes := Nat.le_mul_of_pos_right _ (by omega)
    omega
  obtain ⟨_, _, hcy⟩ := row_cells hgy b1
  rcases hcy with ⟨_, hbad, _⟩ | ⟨_, _, hbad⟩ | ⟨b', off', news, rfl, hn1, hn2, hn3, hn4⟩
  · omega
  · omega
  have h2 : ∀ e ∈ ys, e.cells.length = k.size := fun e he => by
    obtain ⟨q, hq⟩ := List.mem_iff_getElem?.1 he
    exact hn3 q e hq
  obtain ⟨A, cap, rfl, hxc, hxb⟩ := hx.row_slice
  have hcap : cap = 0 := by
    cases hx with
    | ground h => cases h
    | full h => rfl
  subst hcap
  cases A with
  | none =>
    have hr := run_app_nil (P := P) (w := w) t t' ty e e inf z hu hu' i1 i4 ⟨b', off', none⟩ ys.length c news (by rw [i2]; exact hn1)
      (fun q v hq => by rw [Addr.add_lit]; exact hw.froz _ _ _ (hn2 q v hq).1) hpos (by omega) (by rw [i3]; omega)
    exact ⟨_, app_ref_new hw b1 hzl hn1 (by simpa using grownCap_ge w ys.length 0 e) (by simp only [big]; omega) h2 hn4 hr⟩
  | some ax =>
    have hr := run_app_grow (P := P) (w := w) t t' ty e e inf z hu hu' i1 i4 ax 0 0 [] (by simp) (by simp) ⟨b', off', none⟩ ys.length c news (by rw [i2]; exact hn1)
      (fun q v hq => by rw [Addr.add_lit]; exact hw.froz _ _ _ (hn2 q v hq).1) (by omega) (by omega) (growslice_fits (by omega) (by rw [i3]; simpa using hroom))
    have hr' : (Builtin.append_ #[t, t'] ty #[.slice (some ax) 0 0, .slice (some ⟨b', off', none⟩) ys.length c]).run P w =
      .ok (.slice (some ⟨w.heap.size, 0, none⟩) ys.length (grownCap w (0 + ys.length) 0 e)) (w.drew.alloc (.cells (news.toArray ++ Builtin.zeroCells z.cells (grownCap w (0 + ys.length) 0 e - ys.length)) e)) := by simpa using hr
    exact ⟨_, app_ref_new hw b1 hzl hn1 (by simpa using grownCap_ge w (0 + ys.length) 0 e) (by simp only [big]; omega) h2 hn4 hr'⟩
end
end Go.Ab
