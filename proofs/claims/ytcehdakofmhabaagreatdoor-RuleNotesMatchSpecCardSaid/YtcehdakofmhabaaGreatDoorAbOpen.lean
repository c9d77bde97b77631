/- A value that came in, read as data, stands for a value without addresses: integers, bools, strings, slices. -/
import Derived.Test.YtcehdakofmhabaaGreatDoorAbBelow
import Derived.ProofKit
import Derived.ChangeArms
import Derived.DataReads
import Derived.Deep.Slices
import Derived.SizedLaws
namespace Go.Ab
set_option linter.unusedVariables false
set_option linter.unusedSimpArgs false

def GsOf (w : World) (vs : List AV) (cs : List Value) : Prop := vs.length = cs.length ∧ ∀ (j : Nat) (v : AV) (x : Value), vs[j]? = some v → cs[j]? = some x → G (En.start w).z v x
/-- A value of type t that is read as data, so deep, stands for one of 'enc', and what it holds is within its bounds. -/
def OpF (P : Program) (fuel : Nat) (t : TypeId) (sz : Nat) {α : Type} (enc : α → AV) (ok : α → Prop) : Prop :=
  P.cellsOf t = sz ∧ ∀ (H : Type) (enc0 : TypeId × Value → H) (w : World) (base : Nat) (spare : Nat → Bool) (held : Bool) (cs : List Value) (y : DataW H × List MemPlace),
    DataW.trod enc0 P w base spare held fuel t cs = some y → (∀ n ∈ y.1.weights P t, n ≤ reachBytes) → ∃ x, GsOf w (enc x).cells cs ∧ (enc x).cells.length = sz ∧ ok x
section
variable {P : Program} {fuel : Nat} {t : TypeId}
theorem GsOf.one {w : World} {v : AV} {x : Value} (h : G (En.start w).z v x) : GsOf w [v] [x] := ⟨rfl, fun j u y h1 h2 => by
  cases j with
  | zero => simp at h1 h2; subst h1; subst h2; exact h
  | succ j => simp at h1⟩
theorem op_int {k : IntKind} (ht : P.underlying t = some (.int k)) (hc : P.cellsOf t = 1) : OpF P fuel t 1 (fun n => .int k n) (fun x => (Lit.int k x).wf = true) :=
  ⟨hc, fun _ _ _ _ _ _ _ _ h _ => by
    obtain ⟨n, rfl, rfl, hw⟩ := DataW.trod_int ht h
    exact ⟨n, .one (.int _ _), rfl, hw⟩⟩
theorem op_bool (ht : P.underlying t = some .bool) (hc : P.cellsOf t = 1) : OpF P fuel t 1 (fun b => .bool b) (fun _ => True) :=
  ⟨hc, fun _ _ _ _ _ _ _ _ h _ => by
    obtain ⟨n, rfl, rfl⟩ := DataW.trod_bool ht h
    exact ⟨n, .one (.bool _), rfl, trivial⟩⟩
theorem op_string (ht : P.underlying t = some .string) (hc : P.cellsOf t = 1) : OpF P fuel t 1 (fun s => .str s) (fun s => s.length ≤ 140737488351232) :=
  ⟨hc, fun _ _ _ _ _ _ _ _ h hz => by
    obtain ⟨s, rfl, rfl, hw⟩ := DataW.trod_string ht h
    have := hz s.data.toList.length (by simp [DataW.weights])
    have hl : s.data.toList.length ≤ 140737488351232 := by simpa [reachBytes] using this
    refine ⟨s.data.toList, .one ?_, rfl, hl⟩
    exact .str s.data.toList (by simp only [big]; omega)⟩
theorem list_of {α : Type} {p : Nat → α → Prop} : ∀ n, (∀ i, i < n → ∃ x, p i x) → ∃ xs : List α, xs.length = n ∧ ∀ i x, xs[i]? = some x → p i x
  | 0, _ => ⟨[], rfl, fun i x h => by simp at h⟩
  | n + 1, h => by
    obtain ⟨xs, hl, hp⟩ := list_of n (fun i hi => h i (by omega))
    obtain ⟨x, hx⟩ := h n (by omega)
    refine ⟨xs ++ [x], by simp [hl], fun i y hy => ?_⟩
    rcases Nat.lt_or_ge i xs.length with hi | hi
    · rw [List.getElem?_append_left hi] at hy
      exact hp i y hy
    · have : i = xs.length := by
        have := (List.getElem?_eq_some_iff.1 hy).1
        simp at this
        omega
      subst this
      have : x = y := by simpa using hy
      subst this
      rw [hl]
      exact hx
theorem weights_mem_all {H : Type} {P : Program} {e : TypeId} : ∀ {ds : List (DataW H)} {i : Nat} {d : DataW H}, ds[i]? = some d → ∀ n ∈ d.weights P e, n ∈ DataW.weightsAll P e ds
  | d0 :: ds, 0, d, hd, n, hn => by
    simp only [List.getElem?_cons_zero, Option.some.injEq] at hd
    subst hd
    simp only [DataW.weightsAll, List.mem_append]
    exact .inl hn
  | d0 :: ds, i + 1, d, hd, n, hn => by
    simp only [List.getElem?_cons_succ] at hd
    simp only [DataW.weightsAll, List.mem_append]
    exact .inr (weights_mem_all hd n hn)
  | [], _, _, hd, _, _ => by simp at hd

theorem op_slice {e : TypeId} {α : Type} {sz : Nat} {encE : α → AV} {ok : α → Prop} {B : Nat} (hpos : 1 ≤ sz) (hBp : 1 ≤ B) (ht : P.underlying t = some (.slice e)) (hc : P.cellsOf t = 1) (hB : P.bytesOf e = B) (he : ∀ n, n < fuel → OpF P n e sz encE ok) :
    OpF P fuel t 1 (fun l : List α => .row sz (l.map encE) .no) (fun l => l.length ≤ maxLen ∧ l.length * B ≤ 140737488351232 ∧ ∀ x ∈ l, ok x) :=
  ⟨hc, fun H enc0 w base spare held cs y h hz => by
    rcases DataW.trod_slice ht h with ⟨rfl, rfl⟩ | ⟨a, len, cap, elems, rest, n, hfu, rfl, rfl, hb, hl, hm, hlen, hel, -, -⟩
    · exact ⟨[], .one (.row0 _), rfl, by simp, by simp, fun x hx => by simp at hx⟩
    · have heo := he n (by omega)
      have hin : ∀ i, i < len → ∃ x, ok x ∧ ∃ c, GsOf w (encE x).cells c ∧ (encE x).cells.length = sz ∧ ∀ (j : Nat) (u : Value), c[j]? = some u → w.cell? (a.add (i * sz + j)) = some u := by
        intro i hi
        have h1 := hel i hi
        rw [List.getElem?_eq_getElem (by omega)] at h1
        obtain ⟨c, hc1, hc2⟩ := Option.bind_eq_some_iff.1 h1
        obtain ⟨_, hcl, hcell⟩ := World.cells?_some hc1
        obtain ⟨x, hx, hxl, hok⟩ := heo.2 H enc0 w base spare held c _ hc2 (fun m hm => hz m (by
          simp only [DataW.weights, ht, List.mem_cons, List.mem_append]
          exact .inr (.inl (weights_mem_all (i := i) (by rw [List.getElem?_map, List.getElem?_eq_getElem (by omega)]; rfl) m hm))))
        refine ⟨x, hok, c, hx, hxl, fun j u hu => ?_⟩
        have hj : j < P.cellsOf e := by
          have := (List.getElem?_eq_some_iff.1 hu).1
          omega
        have := hcell j hj
        rw [Go.Deep.add_add, heo.1, hu] at this
        exact this
      obtain ⟨xs, hxl, hxs⟩ := list_of len hin
      have hmx : len ≤ maxLen := Nat.le_trans hl hm
      have hmx' : len ≤ 9223372036854775807 := by unfold maxLen at hmx; omega
      have hbytes : xs.length * B ≤ 140737488351232 := by
        have := hz ((elems.length + rest.length) * P.bytesOf e) (by simp [DataW.weights, ht])
        rw [hB] at this
        have h3 : xs.length * B ≤ (elems.length + rest.length) * B := Nat.mul_le_mul_right _ (by omega)
        unfold reachBytes at this
        omega
      refine ⟨xs, .one ?_, rfl, by omega, hbytes, fun x hx => ?_⟩
      · subst hxl
        by_cases h0 : xs = []
        · subst h0; exact .row00 sz a cap
        · have hpos' : 0 < xs.length := List.length_pos_iff.2 h0
          obtain ⟨x0, hx0⟩ : ∃ x, xs[0]? = some x := ⟨_, List.getElem?_eq_getElem hpos'⟩
          obtain ⟨_, c0, ⟨g1, _⟩, g2, g3⟩ := hxs 0 x0 hx0
          have hc0 : 0 < c0.length := by omega
          have hcell0 := g3 0 _ (List.getElem?_eq_getElem hc0)
          have hspot : a.spot = none := by
            simp only [Nat.zero_mul, Nat.add_zero] at hcell0
            have ha : a.add 0 = a := if_pos rfl
            rw [ha] at hcell0
            unfold World.cell? at hcell0
            split at hcell0
            · split at hcell0
              · cases hcell0
              · rename_i hs; simpa using hs
            · cases hcell0
          obtain ⟨b, off, sp⟩ := a
          simp only at hspot; subst hspot
          have hlen' : (xs.map encE).length = xs.length := by simp
          rw [← hlen']
          refine G.row sz (xs.map encE) b off cap (fun i j => (w.cell? ⟨b, off + i * sz + j, none⟩).getD Go.undef) (by simpa using hl) (by have : xs.length ≤ xs.length * B := Nat.le_mul_of_pos_right _ hBp; simp only [List.length_map, big]; omega) (fun i e' he' => ?_) (fun i e' j c he' hc' => ?_) (fun i e' j c he' hc' => ?_)
          · rw [List.getElem?_map] at he'
            obtain ⟨x, hx, rfl⟩ := Option.map_eq_some_iff.1 he'
            exact (hxs i x hx).2.choose_spec.2.1
          · rw [List.getElem?_map] at he'
            obtain ⟨x, hx, rfl⟩ := Option.map_eq_some_iff.1 he'
            obtain ⟨_, cs', ⟨k1, k2⟩, k3, k4⟩ := hxs i x hx
            have hj : j < cs'.length := by have := (List.getElem?_eq_some_iff.1 hc').1; omega
            have := k4 j _ (List.getElem?_eq_getElem hj)
            rw [Addr.add_lit, ← Nat.add_assoc] at this
            show w.cell? ⟨b, off + i * sz + j, none⟩ = some _
            rw [this]; rfl
          · rw [List.getElem?_map] at he'
            obtain ⟨x, hx, rfl⟩ := Option.map_eq_some_iff.1 he'
            obtain ⟨_, cs', ⟨k1, k2⟩, k3, k4⟩ := hxs i x hx
            have hj : j < cs'.length := by have := (List.getElem?_eq_some_iff.1 hc').1; omega
            have := k4 j _ (List.getElem?_eq_getElem hj)
            rw [Addr.add_lit, ← Nat.add_assoc] at this
            rw [this]
            exact k2 j c _ hc' (List.getElem?_eq_getElem hj)
      · obtain ⟨i, hi⟩ := List.mem_iff_getElem?.1 hx
        exact (hxs i x hi).1⟩
theorem GsOf.app {w : World} {u v : List AV} {c d : List Value} (h1 : GsOf w u c) (h2 : GsOf w v d) : GsOf w (u ++ v) (c ++ d) := ⟨by simp [h1.1, h2.1], fun j a x ha hx => by
  rcases Nat.lt_or_ge j u.length with hj | hj
  · rw [List.getElem?_append_left hj] at ha
    rw [List.getElem?_append_left (by rw [← h1.1]; exact hj)] at hx
    exact h1.2 j a x ha hx
  · rw [List.getElem?_append_right hj] at ha
    rw [List.getElem?_append_right (by rw [← h1.1]; exact hj), ← h1.1] at hx
    exact h2.2 _ a x ha hx⟩
/-- The same of some fields in line, from cell 'off' on. -/
def OpFs (P : Program) (n : Nat) (fs : List Field) (off sz : Nat) {α : Type} (enc : α → List AV) (ok : α → Prop) : Prop :=
  ∀ (H : Type) (enc0 : TypeId × Value → H) (w : World) (base : Nat) (spare : Nat → Bool) (held : Bool) (cs : List Value) (ys : List (DataW H × List MemPlace)),
    cs.length = off + sz → ys.length = fs.length → (∀ (i : Nat) (f : Field), fs[i]? = some f → DataW.trod enc0 P w base spare held n f.type ((cs.drop f.offset).take (P.cellsOf f.type)) = ys[i]?) →
    (∀ m ∈ DataW.weightsEach P (fs.map (·.type)) (ys.map (·.1)), m ≤ reachBytes) → ∃ x, GsOf w (enc x) (cs.drop off) ∧ (enc x).length = sz ∧ ok x
theorem fs_one {n sz : Nat} {f : Field} {off : Nat} {α : Type} {enc : α → AV} {ok : α → Prop} (hf : f.offset = off) (h : OpF P n f.type sz enc ok) : OpFs P n [f] off sz (fun x => (enc x).cells) ok := by
  intro H enc0 w base spare held cs ys hl hy hr hz
  match ys, hy with
  | [y], _ =>
    have h0 := hr 0 f rfl
    rw [hf, h.1, List.take_of_length_le (by simp; omega)] at h0
    exact h.2 H enc0 w base spare held _ y h0 (fun m hm => hz m (by simp [DataW.weightsEach]; exact hm))
theorem fs_cons {n sz sz2 : Nat} {f : Field} {fs : List Field} {off : Nat} {α β : Type} {enc : α → AV} {enc2 : β → List AV} {ok : α → Prop} {ok2 : β → Prop} (hf : f.offset = off) (h : OpF P n f.type sz enc ok) (hs : OpFs P n fs (off + sz) sz2 enc2 ok2) :
    OpFs P n (f :: fs) off (sz + sz2) (fun x : α × β => (enc x.1).cells ++ enc2 x.2) (fun x => ok x.1 ∧ ok2 x.2) := by
  intro H enc0 w base spare held cs ys hl hy hr hz
  match ys, hy with
  | y :: ys, hy =>
    have h0 := hr 0 f rfl
    rw [hf, h.1] at h0
    obtain ⟨x, hx, hxl, hok⟩ := h.2 H enc0 w base spare held _ y h0 (fun m hm => hz m (by simp [DataW.weightsEach]; exact .inl hm))
    obtain ⟨x2, hx2, hxl2, hok2⟩ := hs H enc0 w base spare held cs ys (by omega) (by simpa using hy) (fun i g hg => by have := hr (i + 1) g (by simpa using hg); simpa using this) (fun m hm => hz m (by simp [DataW.weightsEach]; exact .inr hm))
    refine ⟨(x, x2), ?_, by simp [hxl, hxl2], hok, hok2⟩
    have : cs.drop off = (cs.drop off).take sz ++ cs.drop (off + sz) := by rw [← List.drop_drop, List.take_append_drop]
    rw [this]
    exact hx.app hx2
theorem op_struct {fs : Array Field} {α : Type} {sz : Nat} {enc : α → List AV} {encA : α → AV} {ok : α → Prop} (ht : P.underlying t = some (.struct fs)) (hc : P.cellsOf t = sz) (hA : ∀ x, (encA x).cells = enc x) (h : ∀ n, n < fuel → OpFs P n fs.toList 0 sz enc ok) : OpF P fuel t sz encA ok :=
  ⟨hc, fun H enc0 w base spare held cs y hy hz => by
    obtain ⟨xs, n, hfu, rfl, hl, hxl, hr⟩ := DataW.trod_struct ht hy
    obtain ⟨x, hx, hxl', hok⟩ := h n (by omega) H enc0 w base spare held cs xs (by omega) (by simpa using hxl) (fun i f hf => hr i f (by simpa using hf)) (fun m hm => hz m (by simp only [DataW.weights, ht]; exact hm))
    exact ⟨x, by rw [hA]; simpa using hx, by rw [hA]; exact hxl', hok⟩⟩
theorem OpF.iso {α β : Type} {sz : Nat} {enc : α → AV} {ok : α → Prop} (h : OpF P fuel t sz enc ok) (f : β → α) (mk : α → β) (hm : ∀ x, f (mk x) = x) : OpF P fuel t sz (fun b => enc (f b)) (fun b => ok (f b)) :=
  ⟨h.1, fun H enc0 w base spare held cs y hy hz => by
    obtain ⟨x, hx, hl, hok⟩ := h.2 H enc0 w base spare held cs y hy hz
    exact ⟨mk x, by show GsOf w (enc (f (mk x))).cells cs; rw [hm]; exact hx, by show (enc (f (mk x))).cells.length = sz; rw [hm]; exact hl, by show ok (f (mk x)); rw [hm]; exact hok⟩⟩
theorem OpF.weaken {α : Type} {sz : Nat} {enc : α → AV} {ok ok' : α → Prop} (h : OpF P fuel t sz enc ok) (hk : ∀ x, ok x → ok' x) : OpF P fuel t sz enc ok' :=
  ⟨h.1, fun H enc0 w base spare held cs y hy hz => by
    obtain ⟨x, hx, hl, hok⟩ := h.2 H enc0 w base spare held cs y hy hz
    exact ⟨x, hx, hl, hk x hok⟩⟩
/-- At an argument. -/
theorem OpF.arg {α : Type} {sz : Nat} {enc : α → AV} {ok : α → Prop} {t : TypeId} (h : ∀ fuel, OpF P fuel t sz enc ok) {H : Type} {enc0 : TypeId × Value → H} {W : World} {base : Nat} {spare : Nat → Bool} {held : Bool} {v : Value} {y : DataW H} {ps : List MemPlace}
    {ts : List TypeId} {ds : List (DataW H)} {j : Nat} (hsz : (DataW.weightsEach P ts ds).all (· ≤ reachBytes) = true) (ht : ts[j]? = some t) (hd : ds[j]? = some y) (hv : DataW.Trod enc0 P W base spare held t v y ps) : ∃ x, GsOf W (enc x).cells v.cells.toList ∧ (enc x).cells.length = sz ∧ ok x := by
  obtain ⟨fuel, hf⟩ := hv
  exact (h fuel).2 H enc0 W base spare held _ _ hf (fun n hn => by simpa using List.all_eq_true.1 hsz _ (DataW.weights_mem_each ht hd n hn))
/-- The one argument: a value of one cell, and a struct. -/
theorem GsOf.cell {W : World} {u : AV} {v : Value} (h : GsOf W u.cells v.cells.toList) (hu : u.cells = [u]) (hv : v.cells = #[v]) : R (En.start W) u v :=
  .ground (h.2 0 u v (by rw [hu]; rfl) (by rw [hv]; rfl))
theorem GsOf.agg {W : World} {us : List AV} {cs : Array Value} (h : GsOf W us cs.toList) : R (En.start W) (.agg us) (.agg cs) :=
  .agg us cs (by simpa using h.1) (fun j c x h1 h2 => .ground (h.2 j c x h1 (by simpa using h2)))
end
end Go.Ab
