/- Ways on where the machine ends: results on new cells, results of which one of several holds, variables that are given away for good. -/
import Derived.Test.YtcehdakofmhabaaGreatDoorAbBelow
namespace Go.Ab
set_option linter.unusedVariables false
set_option linter.unusedSimpArgs false
open Go.RowKit
section
variable {P : Program} {X : XT} {E : En} {H : List HB} {w w' : World}
/-- All that a call laid is given away frozen. -/
def En.since (E : En) (w w' : World) : En := { E with z := fun b o => if b < w.heap.size then E.z b o else w'.cell? ⟨b, o, none⟩ }
theorem since_old {E : En} {w w' : World} {b o : Nat} (h : b < w.heap.size) : (E.since w w').z b o = E.z b o := if_pos h
theorem since_new {E : En} {w w' : World} {b o : Nat} (h : w.heap.size ≤ b) : (E.since w w').z b o = w'.cell? ⟨b, o, none⟩ := if_neg (by omega)
theorem since_le (hz : ∀ b o v, E.z b o = some v → w.cell? ⟨b, o, none⟩ = some v) (w' : World) : E.le (E.since w w') :=
  ⟨fun _ _ h => h, fun _ _ _ h => h, fun b o v hv => by rw [since_old (World.block_lt_of_cell? w _ (hz b o v hv))]; exact hv⟩
/-- A contract of the kit whose result stands on new cells. -/
theorem ret_new {f : Nat} {args : List AV} {r : AV} (hE : Enters P f) (h : ∀ E w (xs : Array Value), GQ w → (∀ b o v, E.z b o = some v → w.cell? ⟨b, o, none⟩ = some v) → Rs E args xs.toList → Calls P f xs w fun e w' => ∃ x, e = .returned x ∧ Below w.heap.size w w' ∧ R (E.since w w') r x) : Ret P f args [] r [] :=
  ⟨hE, fun X E w xs hw hxs => (h E w xs (X.ok w hw.frame) hw.froz hxs).mono fun e w' ⟨x, he, hb, hr⟩ => by
    refine ⟨x, E.since w w', he, since_le hw.froz w', fun b o v hv h0 => ?_, ?_, ⟨hb.os, hb.tape, hb.output, hb.size⟩, hr⟩
    · by_cases hlt : b < w.heap.size
      · rw [since_old hlt, h0] at hv; cases hv
      · exact hw.x_new (by omega)
    · refine ⟨fun b o hx => below_heap hb (hw.frame b o hx), fun b o v hv => ?_, by simp, by simp, fun i j b h1 _ => ?_, fun i hi => hw.fresh i hi⟩
      · by_cases hlt : b < w.heap.size
        · rw [since_old hlt] at hv
          rw [World.cell?_of_block (w := w) (hb.block b hlt)]; exact hw.froz b o v hv
        · rw [since_new (by omega)] at hv; exact hv
      · rcases h1 with ⟨_, h1, _⟩ | ⟨_, _, _, _, h1, _⟩ <;> simp at h1⟩

/-- One operation of a region, where one of several holds of it. -/
theorem awp_opE {fn : Func} {nt n0 : Nat} {Post : AV → List HB → Prop} {k : List Item} {s : St} {ops : Array Oper} {i : Nat} {rest : List Nat} {o : Oper} (ho : ops[i]? = some o) (hd : canPut nt o.dst = true)
    (Q : AV → List HB → Prop) (hop : ∀ X E a w, Rel X E s nt a w → Region.wanted o (yielded ops a.tmps) = true ∧ ∃ v H', Q v H' ∧ OpDoes P X E (execOp a.eval o) w v H')
    (h : ∀ v H', Q v H' → Awp P fn nt n0 (.inRegion ops rest :: k) (s.put o.dst v H') Post) : Awp P fn nt n0 (.inRegion ops (i :: rest) :: k) s Post := by
  intro X E0 E a w w0 h1 h2 h3 h4 h5
  obtain ⟨hw, v, H', hQ, hdo⟩ := hop X E a w h5
  intro b cs
  obtain ⟨x, nx, w', E', g1, g2, g3, g4, g5, g6, g7⟩ := hdo
  have hg := stepG_op (P := P) (b := b) (k := k) (cs := cs) (w := w) (rest := rest) ho hw
  have hfin : ∀ v, (b.at a (.inRegion ops (i :: rest) :: k)).finish v = b.at (a.put o.dst v) (.inRegion ops rest :: k) := by
    intro v; rw [Frame.finish_at, ho]; rfl
  have hstep : step P (lone (b.at a (.inRegion ops (i :: rest) :: k)) cs w) = .next (lone (b.at (a.put o.dst x) (.inRegion ops rest :: k)) cs w') := by
    rcases g2 with rfl | ⟨rfl, rfl⟩
    · refine step_lone_go ?_
      rw [hg, ← hfin]; simp [stepG.apply, g1]
    · refine step_lone_go ?_
      rw [hg, ← hfin]; simp [stepG.apply, g1]
  have hrel : Rel X E' (s.put o.dst v H') nt (a.put o.dst x) w' := by
    have := (h5.mono g3 g5).put (v := v) (x := x) hd g7
    cases hod : o.dst with
    | none => rw [hod] at this; exact this
    | some t => rw [hod] at this; exact this
  exact goes_steps (.one hstep) (h v H' hQ X E0 E' _ w' w0 (h1.trans g3) (h2.trans g4) h3 (h4.trans g6) hrel b cs)

/-- A function's contract out of its text, where one of several holds, and where a variable of its own is given away. -/
theorem retE_of {fn : Func} {f : Nat} {c : Code} {args : List AV} {H : List HB} {Q : AV → List HB → Prop} (hf : P.funcs[f]? = some fn) (hb : fn.body = some c) (hname : (fn.name == "runtime.NumGoroutine") = false)
    (hargs : args.length ≤ fn.ntmps)
    (h : Awp P fn fn.ntmps H.length [.code c] { env := params 0 args, H } Q) : RetE P f args H Q := by
  refine ⟨⟨fn, hf, by simp [hb], hname⟩, fun X E w xs hw hxs cs => ?_⟩
  have hsz : xs.size = args.length := by have := hxs.1; simpa using this.symm
  let b : Frame := { (default : Frame) with fn := f, kind := .normal }
  have henter : Frame.enter P f xs .normal = b.at { tmps := xs ++ Array.replicate (fn.ntmps - xs.size) Go.undef, defers := [] } [.code c] := by
    simp [Frame.enter, Frame.at, hf, hb, b]
  have hrel : Rel X E { env := params 0 args, H } fn.ntmps { tmps := xs ++ Array.replicate (fn.ntmps - xs.size) Go.undef, defers := [] } w := by
    refine ⟨rfl, by simp; omega, fun t v hv => ?_, hw⟩
    obtain ⟨_, h2⟩ := look_params _ _ _ _ hv
    simp only [Nat.sub_zero] at h2
    have hlt : t < xs.size := by have := (List.getElem?_eq_some_iff.1 h2).1; omega
    have hx : xs.toList[t]? = some xs[t] := by simp [hlt]
    have := hxs.2 t v _ h2 hx
    simp only [Array.getD_eq_getD_getElem?, Array.getElem?_append_left hlt, Array.getElem?_eq_getElem hlt]
    exact this
  obtain ⟨a', w', todo, E', x, r', H1, g1, g2, g3, g4, g5, g6, g7, g8, g9⟩ := h X E E _ w w (.refl _) (.refl _ _) (fun i hi => hw.fresh i hi) (.refl _) hrel b cs
  rw [← henter] at g1
  exact ⟨.returned x, w', { b.at a' todo with mode := .returning }, ⟨x, E', r', H1, g9, rfl, g4, g5, g6, g7, g8⟩, g1, rfl, rfl, g2, rfl, fn, hf, g3⟩
theorem retE_fit {f : Nat} {args args' : List AV} {H : List HB} {Q : AV → List HB → Prop} (h : RetE P f args' H Q) (hfit : fitsL (fitsI (fun i j => i = j)) args args') : RetE P f args H Q :=
  ⟨h.1, fun X E w xs hw hxs => h.2 X E w xs hw (fitsL_R (E := E) (E2 := E) (fun a b x hf h => fitsI_R ⟨fun i j b e hb => by subst e; exact hb, fun i j k x e hx => by subst e; exact hx, fun _ _ _ h => h⟩ h hf) hfit hxs)⟩

section
variable {T : Nat → Option TyI} {fn : Func} {nt n0 : Nat} {Post : AV → List HB → Prop} {k : List Item} {s : St}
/-- What was told with its guard, where the guard holds. -/
theorem awp_when (t : Nat) {g : Bool} {v : AV} (hl : look s.env t = some (.whenB g v)) (hg : g = true) (h : Awp P fn nt n0 k { s with env := (t, v) :: s.env } Post) : Awp P fn nt n0 k s Post := by
  intro X E0 E a w w0 h1 h2 h3 h4 h5
  refine h X E0 E a w w0 h1 h2 h3 h4 ⟨h5.defers, h5.size, fun u y hy => ?_, h5.wr⟩
  simp only [look] at hy
  split at hy
  · rename_i hb
    have := Nat.eq_of_beq_eq_true hb
    subst this
    simp only [Option.some.injEq] at hy; subst hy
    exact (h5.env _ _ hl).when_true hg
  · exact h5.env u y hy
/-- A truth that is known, told as a bool. -/
theorem awp_tt (t : Nat) (hl : look s.env t = some .tt) (h : Awp P fn nt n0 k { s with env := (t, .bool true) :: s.env } Post) : Awp P fn nt n0 k s Post := by
  intro X E0 E a w w0 h1 h2 h3 h4 h5
  refine h X E0 E a w w0 h1 h2 h3 h4 ⟨h5.defers, h5.size, fun u y hy => ?_, h5.wr⟩
  simp only [look] at hy
  split at hy
  · rename_i hb
    have := Nat.eq_of_beq_eq_true hb
    subst this
    simp only [Option.some.injEq] at hy; subst hy
    rw [(h5.env _ _ hl).tt_inv]; exact .ground (.bool _)
  · exact h5.env u y hy
/-- A branch of which the way is known. -/
theorem sYes (C : Ctx P T fn) (n : Nat) {t : Nat} {g : Bool} {yes no : List Item} {s' : St} {vc : Prop} (h : run T nt n k s True = .split t g yes no s' vc) (hvc : vc) (hg : g = true)
    (h1 : Awp P fn nt n0 yes { s' with env := (t, .tt) :: s'.env } Post) : Awp P fn nt n0 k s Post := sSplit C n h hvc (fun _ => h1) (fun e => by rw [hg] at e; cases e)
theorem sNo (C : Ctx P T fn) (n : Nat) {t : Nat} {g : Bool} {yes no : List Item} {s' : St} {vc : Prop} (h : run T nt n k s True = .split t g yes no s' vc) (hvc : vc) (hg : g = false)
    (h1 : Awp P fn nt n0 no { s' with env := (t, .ff) :: s'.env } Post) : Awp P fn nt n0 k s Post := sSplit C n h hvc (fun e => by rw [hg] at e; cases e) (fun _ => h1)
end
/-- What a call gives may be told by less. -/
theorem ret_res {f : Nat} {args : List AV} {H H' : List HB} {r r' : AV} (h : Ret P f args H r H') (hf : fitsI (fun i j => i = j) r r') : Ret P f args H r' H' :=
  ⟨h.1, fun X E w xs hw hxs => (h.2 X E w xs hw hxs).mono fun e w' ⟨x, E', g1, g2, g3, g4, g5, g6⟩ => ⟨x, E', g1, g2, g3, g4, g5, fitsI_R (E := E') (E2 := E') ⟨fun i j b e hb => by subst e; exact hb, fun i j k x e hx => by subst e; exact hx, fun _ _ _ h => h⟩ g6 hf⟩⟩

/-! What a function lets go of at its end is never written again: a slice on a variable of its own becomes a row. -/
def frz0 (n : Nat) (H1 : List HB) : AV → AV → Prop
  | .ref i o m, .row s l .no => o = 0 ∧ m = l.length ∧ n ≤ i ∧ (∃ cs tl, H1[i]? = some (.blk cs) ∧ cs = l.flatMap AV.cells ++ tl) ∧ ∀ e ∈ l, e.cells.length = s ∧ ∀ c ∈ e.cells, c.toG = some c
  | a, b => fits0 (keepN n) a b
def frz1 (n : Nat) (H1 : List HB) : AV → AV → Prop
  | .agg cs, .agg ds => fitsL (frz0 n H1) cs ds
  | a, b => frz0 n H1 a b
def frzI (n : Nat) (H1 : List HB) : AV → AV → Prop
  | .tuple cs, .tuple ds => fitsL (frz1 n H1) cs ds
  | a, b => frz1 n H1 a b
def fzn (E : En) (H1 : List HB) (n b : Nat) : Prop := ∃ i cs, n ≤ i ∧ H1[i]? = some (.blk cs) ∧ E.φ i = some b
noncomputable def En.frz (E : En) (n : Nat) (H1 : List HB) (w : World) : En := { E.cut n with z := fun b o => @ite _ (fzn E H1 n b) (Classical.propDecidable _) (w.cell? ⟨b, o, none⟩) (E.z b o) }
theorem frz_in {n : Nat} {H1 : List HB} {b o : Nat} (h : fzn E H1 n b) : (E.frz n H1 w).z b o = w.cell? ⟨b, o, none⟩ := if_pos h
theorem frz_out {n : Nat} {H1 : List HB} {b o : Nat} (h : ¬ fzn E H1 n b) : (E.frz n H1 w).z b o = E.z b o := if_neg h
theorem frz_z {n : Nat} {H1 : List HB} (hw : Wr X E H1 w) : ∀ b o v, E.z b o = some v → (E.frz n H1 w).z b o = some v := by
  intro b o v hv
  by_cases hf : fzn E H1 n b
  · rw [frz_in hf]; exact hw.froz b o v hv
  · rw [frz_out hf]; exact hv
theorem flat_get {s : Nat} : ∀ {l : List AV} {i j : Nat} {e : AV}, (∀ e ∈ l, e.cells.length = s) → l[i]? = some e → j < s → (l.flatMap AV.cells)[i * s + j]? = e.cells[j]?
  | [], i, j, e, _, h, _ => by simp at h
  | a :: r, 0, j, e, hl, h, hj => by
    simp only [List.getElem?_cons_zero, Option.some.injEq] at h
    subst h
    rw [List.flatMap_cons, Nat.zero_mul, Nat.zero_add, List.getElem?_append_left (by rw [hl a (by simp)]; exact hj)]
  | a :: r, i + 1, j, e, hl, h, hj => by
    simp only [List.getElem?_cons_succ] at h
    have ha := hl a (by simp)
    have : (i + 1) * s = s + i * s := by rw [Nat.succ_mul]; omega
    rw [List.flatMap_cons, List.getElem?_append_right (by rw [ha]; omega), ha]
    rw [show (i + 1) * s + j - s = i * s + j by omega]
    exact flat_get (fun e he => hl e (by simp [he])) h hj
theorem flat_len {s : Nat} : ∀ {l : List AV}, (∀ e ∈ l, e.cells.length = s) → (l.flatMap AV.cells).length = l.length * s
  | [], _ => by simp
  | a :: r, h => by
    rw [List.flatMap_cons, List.length_append, h a (by simp), flat_len (fun e he => h e (by simp [he])), List.length_cons, Nat.succ_mul]; omega
theorem flat_drop {s : Nat} : ∀ {l : List AV} (i : Nat), (∀ e ∈ l, e.cells.length = s) → (l.flatMap AV.cells).drop (i * s) = (l.drop i).flatMap AV.cells
  | l, 0, _ => by simp
  | [], i + 1, _ => by simp
  | a :: r, i + 1, h => by
    have ha := h a (by simp)
    rw [List.flatMap_cons, List.drop_succ_cons, ← flat_drop i (fun e he => h e (by simp [he]))]
    rw [show (i + 1) * s = a.cells.length + i * s by rw [ha, Nat.succ_mul]; omega, List.drop_append, List.drop_eq_nil_of_le (by omega)]
    simp
theorem flat_part {s : Nat} {l : List AV} {i : Nat} {e : AV} {tl : List AV} (h : ∀ e ∈ l, e.cells.length = s) (he : l[i]? = some e) : i * s + s ≤ (l.flatMap AV.cells ++ tl).length ∧ ((l.flatMap AV.cells ++ tl).drop (i * s)).take s = e.cells := by
  have hi := (List.getElem?_eq_some_iff.1 he).1
  have h1 : (i + 1) * s ≤ l.length * s := Nat.mul_le_mul_right _ hi
  have h2 := flat_len h
  have h3 : (i + 1) * s = i * s + s := Nat.succ_mul _ _
  refine ⟨by rw [List.length_append]; omega, ?_⟩
  rw [List.drop_append_of_le_length (by omega), flat_drop i h, List.drop_eq_getElem_cons hi]
  have hx : l[i] = e := by rw [List.getElem?_eq_getElem hi] at he; exact Option.some.inj he
  rw [hx, List.flatMap_cons, List.append_assoc, List.take_append_of_le_length (by rw [h e (List.mem_of_getElem? he)]; omega), List.take_of_length_le (by rw [h e (List.mem_of_getElem? he)]; omega)]
theorem setAt_same {cs vs : List AV} {off s : Nat} (hl : off + s ≤ cs.length) (h : (cs.drop off).take s = vs) : setAt cs off vs = cs := by
  subst h
  have h2 : ((cs.drop off).take s).length = s := by simp; omega
  unfold setAt
  rw [h2, ← List.drop_drop, List.take_append_drop, List.take_append_drop]
theorem load_part {i : TyI} {H : List HB} {id off : Nat} {cs : List AV} {v : AV} (hH : H[id]? = some (.blk cs)) (hp : part i.agg i.size cs off = some v) : aLoad i (.ptr id off) H = .val v H := by simp [aLoad, hH, hp]
theorem part_agg {n off : Nat} {cs : List AV} (h : off + n ≤ cs.length) : part true n cs off = some (.agg ((cs.drop off).take n)) := by
  have : Nat.ble (off + n) cs.length = true := Nat.ble_eq_true_of_le h
  simp [part, this]
theorem store_at {i : TyI} {H : List HB} {id off : Nat} {cs : List AV} {v : AV} (hH : H[id]? = some (.blk cs)) (h1 : v.cells.all AV.leaf = true) (h2 : v.cells.length = i.size) (h3 : off + v.cells.length ≤ cs.length) : aStore i (.ptr id off) v H = some (H.set id (.blk (setAt cs off v.cells))) := by
  have a2 : Nat.beq i.size i.size = true := Nat.beq_refl _
  have a3 : Nat.ble (off + v.cells.length) cs.length = true := Nat.ble_eq_true_of_le h3
  rw [h2] at a3
  simp only [aStore, hH, h1, h2, a2, a3]
theorem load_out {T : Nat → Option TyI} {s : St} {t : Nat} {x : Operand} {i : TyI} {p v : AV} (hi : T t = some i) (ha : s.ev x = some p) (h : aLoad i p s.H = .val v s.H) : exec1 T s (.load t x) = .val v s.H := by simp [exec1, aop, oLoad, hi, ha, h, Out.noStop]
theorem store_out {T : Nat → Option TyI} {s : St} {t : Nat} {x y : Operand} {i : TyI} {p v : AV} {H' : List HB} (hi : T t = some i) (ha : s.ev x = some p) (hv : s.ev y = some v) (h : aStore i p v s.H = some H') : exec1 T s (.store t x y) = .val .undef H' := by simp [exec1, aop, oStore, hi, ha, hv, h, Out.noStop]
theorem fitsL_refl {f : AV → AV → Prop} : ∀ {cs : List AV}, (∀ c ∈ cs, f c c) → fitsL f cs cs
  | [], _ => trivial
  | a :: r, h => ⟨h a (by simp), fitsL_refl fun c hc => h c (by simp [hc])⟩
theorem frz0_R {n : Nat} {H1 : List HB} (hw : Wr X E H1 w) {a b : AV} {x : Value} (h : R E a x) (hf : frz0 n H1 a b) : R (E.frz n H1 w) b x := by
  unfold frz0 at hf
  split at hf
  · rename_i i o m s l
    obtain ⟨rfl, rfl, hn, ⟨cs, tl, hH, hcs⟩, hall⟩ := hf
    obtain ⟨b, off', cap, hb, h1, h2, h3, rfl⟩ := h.ref_inv
    obtain ⟨b', xs, ty, e1, e2, _, _, e5, e6⟩ := hw.blk i cs hH
    rw [hb] at e1; obtain rfl := Option.some.inj e1
    have hfz : fzn E H1 n b := ⟨i, cs, hn, hH, hb⟩
    by_cases h0 : l = []
    · subst h0; exact .ground (.row00 _ _ _)
    · have : off' = 0 := by
        rcases h3 with h3 | h3
        · exact h3
        · exact absurd (List.length_eq_zero_iff.1 h3) h0
      subst this
      have cell : ∀ o, w.cell? ⟨b, o, none⟩ = xs[o]? := fun o => cell_of_row w b o xs ty _ e2
      have at_ : ∀ (i : Nat) (e : AV) (j : Nat) (c : AV), l[i]? = some e → e.cells[j]? = some c → ∃ y, xs[i * s + j]? = some y ∧ R E c y ∧ c.toG = some c := by
        intro i e j c he hc
        have hm := List.mem_of_getElem? he
        have hj : j < s := by have := (List.getElem?_eq_some_iff.1 hc).1; rw [(hall e hm).1] at this; exact this
        have h4 := flat_get (fun e he => (hall e he).1) he hj
        rw [hc] at h4
        have h5 : cs[i * s + j]? = some c := by rw [hcs, List.getElem?_append_left (List.getElem?_eq_some_iff.1 h4).1]; exact h4
        have hlt : i * s + j < xs.size := by rw [← e5]; exact (List.getElem?_eq_some_iff.1 h5).1
        have h6 : xs[i * s + j]? = some xs[i * s + j] := by simp [hlt]
        exact ⟨_, h6, e6 _ _ _ h5 h6, (hall e hm).2 c (List.mem_of_getElem? hc)⟩
      refine .ground (.row s l b 0 cap (fun i j => (xs[i * s + j]?).getD Go.undef) h1 h2 (fun i e he => (hall e (List.mem_of_getElem? he)).1) (fun i e j c he hc => ?_) (fun i e j c he hc => ?_))
      · obtain ⟨y, hy, _⟩ := at_ i e j c he hc
        rw [frz_in hfz, Nat.zero_add, cell, hy]; rfl
      · obtain ⟨y, hy, hr, hg⟩ := at_ i e j c he hc
        rw [hy]
        exact (AV.toG_ok hr hg).mono (frz_z hw)
  · have := fits0_R (Ren.cut E n) h hf
    have le : (E.cut n).le (E.frz n H1 w) := ⟨fun _ _ h => h, fun _ _ _ h => h, fun b o v hv => frz_z hw b o v hv⟩
    exact this.mono le
theorem frz1_R {n : Nat} {H1 : List HB} (hw : Wr X E H1 w) {a b : AV} {x : Value} (h : R E a x) (hf : frz1 n H1 a b) : R (E.frz n H1 w) b x := by
  unfold frz1 at hf
  split at hf
  · obtain ⟨xs, rfl, h1, h2⟩ := h.agg_inv
    exact Rs.agg (fitsL_R (fun a b x hf h => frz0_R hw h hf) hf (.of_agg h1 h2))
  · exact frz0_R hw h hf
theorem frzI_R {n : Nat} {H1 : List HB} (hw : Wr X E H1 w) {a b : AV} {x : Value} (h : R E a x) (hf : frzI n H1 a b) : R (E.frz n H1 w) b x := by
  unfold frzI at hf
  split at hf
  · obtain ⟨xs, rfl, h1, h2⟩ := h.tuple_inv
    have := fitsL_R (fun a b x hf h => frz1_R hw h hf) hf (.of_agg h1 h2)
    exact .tuple _ xs (by simpa using this.1) (fun j c x hc hx => this.2 j c x hc (by simpa using hx))
  · exact frz1_R hw h hf
theorem Wr.frz {H1 H' : List HB} (hw : Wr X E H1 w) (hf : hFits H'.length H1 H') : Wr X (E.frz H'.length H1 w) H' w := by
  have hc := hw.cut hf
  have lt : ∀ {i b}, H'[i]? = some b → i < H'.length := fun h => (List.getElem?_eq_some_iff.1 h).1
  have le : (E.cut H'.length).le (E.frz H'.length H1 w) := ⟨fun _ _ h => h, fun _ _ _ h => h, fun b o v hv => frz_z hw b o v hv⟩
  have own : ∀ i b, owns (E.cut H'.length) H' i b → owns E H1 i b := by
    intro i b ho
    rcases ho with ⟨cs, h1, h2⟩ | ⟨n, s, off, c, h1, h2⟩
    · obtain ⟨a, ha, hb⟩ := hFits_get hf i _ h1
      rw [cut_φ (lt h1)] at h2
      cases a with
      | blk ds => exact .inl ⟨ds, ha, h2⟩
      | _ => exact hb.elim
    · obtain ⟨a, ha, hb⟩ := hFits_get hf i _ h1
      rw [cut_τ (lt h1)] at h2
      cases a with
      | tip m u => obtain ⟨rfl, rfl⟩ := hb; exact .inr ⟨m, u, off, c, ha, h2⟩
      | _ => exact hb.elim
  have out : ∀ i b, i < H'.length → owns (E.cut H'.length) H' i b → ¬ fzn E H1 H'.length b := by
    rintro i b hi ho ⟨i', cs', hn, hH, hb⟩
    have := hw.sep i i' b (own i b ho) (.inl ⟨cs', hH, hb⟩)
    omega
  refine ⟨hc.frame, fun b o v hv => ?_, fun i cs hi => ?_, fun t n s ht => ?_, hc.sep, hc.fresh⟩
  · by_cases hfz : fzn E H1 H'.length b
    · rw [frz_in hfz] at hv; exact hv
    · rw [frz_out hfz] at hv; exact hw.froz b o v hv
  · obtain ⟨b, xs, ty, a1, a2, a3, a4, a5, a6⟩ := hc.blk i cs hi
    exact ⟨b, xs, ty, a1, a2, a3, fun o => by rw [frz_out (out i b (lt hi) (.inl ⟨cs, hi, a1⟩))]; exact a4 o, a5, fun j c x hc hx => (a6 j c x hc hx).mono le⟩
  · rcases hc.tip t n s ht with h0 | ⟨b, cap, xs, ty, a1, a2, a3, a4, a5, a6⟩
    · exact .inl h0
    · exact .inr ⟨b, cap, xs, ty, a1, a2, a3, a4, fun o ho => by rw [frz_out (out t b (lt ht) (.inr ⟨n, s, 0, cap, ht, a1⟩))]; exact a5 o ho, a6⟩
/-- A function's contract out of its text: what was its own is given away frozen. -/
theorem ret_ofF {fn : Func} {f : Nat} {c : Code} {args : List AV} {H H' : List HB} {r : AV} (hf : P.funcs[f]? = some fn) (hb : fn.body = some c) (hname : (fn.name == "runtime.NumGoroutine") = false)
    (hargs : args.length ≤ fn.ntmps) (hH : H'.length = H.length)
    (h : Awp P fn fn.ntmps H.length [.code c] { env := params 0 args, H } fun r' H1 => frzI H.length H1 r' r ∧ hFits H.length H1 H') : Ret P f args H r H' := by
  refine ⟨⟨fn, hf, by simp [hb], hname⟩, fun X E w xs hw hxs cs => ?_⟩
  have hsz : xs.size = args.length := by have := hxs.1; simpa using this.symm
  let b : Frame := { (default : Frame) with fn := f, kind := .normal }
  have henter : Frame.enter P f xs .normal = b.at { tmps := xs ++ Array.replicate (fn.ntmps - xs.size) Go.undef, defers := [] } [.code c] := by
    simp [Frame.enter, Frame.at, hf, hb, b]
  have hrel : Rel X E { env := params 0 args, H } fn.ntmps { tmps := xs ++ Array.replicate (fn.ntmps - xs.size) Go.undef, defers := [] } w := by
    refine ⟨rfl, by simp; omega, fun t v hv => ?_, hw⟩
    obtain ⟨_, h2⟩ := look_params _ _ _ _ hv
    simp only [Nat.sub_zero] at h2
    have hlt : t < xs.size := by have := (List.getElem?_eq_some_iff.1 h2).1; omega
    have hx : xs.toList[t]? = some xs[t] := by simp [hlt]
    have := hxs.2 t v _ h2 hx
    simp only [Array.getD_eq_getD_getElem?, Array.getElem?_append_left hlt, Array.getElem?_eq_getElem hlt]
    exact this
  obtain ⟨a', w', todo, E', x, r', H1, g1, g2, g3, g4, g5, g6, g7, g8, g9, g10⟩ := h X E E _ w w (.refl _) (.refl _ _) (fun i hi => hw.fresh i hi) (.refl _) hrel b cs
  rw [← henter] at g1
  have h4 : E.le (E'.cut H.length) := cut_le g4 (fun i hi => hw.fresh i hi)
  rw [← hH] at g9 g10 h4
  have h4' : E.le (E'.frz H'.length H1 w') := ⟨fun i b hb => h4.φ i b hb, fun t k x hx => h4.τ t k x hx, fun b o v hv => frz_z g6 b o v (g4.z b o v hv)⟩
  refine ⟨.returned x, w', { b.at a' todo with mode := .returning }, ⟨x, E'.frz H'.length H1 w', rfl, h4', fun b o v hv h0 => ?_, g6.frz g10, g7, frzI_R g6 g8 g9⟩, g1, rfl, rfl, g2, rfl, fn, hf, g3⟩
  by_cases hfz : fzn E' H1 H'.length b
  · obtain ⟨i, cs, _, hi, hb⟩ := hfz
    exact owns_x g6 (.inl ⟨cs, hi, hb⟩)
  · rw [frz_out hfz] at hv; exact g5 b o v hv h0
end
end Go.Ab
