/- The machine over values without addresses tells what the program does. -/
import Derived.Test.YtcehdakofmhabaaGreatDoorAbCongr
namespace Go.Ab
set_option linter.unusedVariables false
set_option linter.unusedSimpArgs false

/-! One value may be taken for another: 'n' variables are kept. -/
def fitsL (f : AV → AV → Prop) : List AV → List AV → Prop
  | [], [] => True
  | a :: r, b :: q => f a b ∧ fitsL f r q
  | _, _ => False
/-- 'I i j': what is variable i here is variable j there. -/
def tokFits (I : Nat → Nat → Prop) (l : List AV) : Tok → Tok → Prop
  | _, .no => True
  | .own t, .own u => I t u
  | .full, .full => True
  | .full, .own _ => l = []
  | _, _ => False
def fits0 (I : Nat → Nat → Prop) : AV → AV → Prop
  | _, .undef => True
  | .row s l t, .row s2 l2 t2 => tokFits I l t t2 ∧ (l = [] ∨ s = s2) ∧ l = l2
  | .ptr i o, .ptr j p => I i j ∧ o = p
  | .ref i o l, .ref j p m => I i j ∧ o = p ∧ l = m
  | .fptr cs, .fptr ds => cs = ds
  | .int k a, .int k2 b => k = k2 ∧ a = b
  | .str a, .str b => a = b
  | .bool a, .bool b => a = b
  | .tt, .bool b => b = true
  | .ff, .bool b => b = false
  | .bool b, .tt => b = true
  | .bool b, .ff => b = false
  | .tt, .tt => True
  | .ff, .ff => True
  | .nilptr, .nilptr => True
  | .nilfunc, .nilfunc => True
  | _, _ => False
def fits1 (I : Nat → Nat → Prop) : AV → AV → Prop
  | .agg cs, .agg ds => fitsL (fits0 I) cs ds
  | .func f cs, .func g ds => f = g ∧ fitsL (fits0 I) cs ds
  | a, b => fits0 I a b
def fitsI (I : Nat → Nat → Prop) : AV → AV → Prop
  | .tuple cs, .tuple ds => fitsL (fits1 I) cs ds
  | .whenB g a, b => g = true ∧ fits1 I a b
  | a, b => fits1 I a b
def keepN (n : Nat) (i j : Nat) : Prop := i = j ∧ i < n
def fits (n : Nat) : AV → AV → Prop := fitsI (keepN n)

def En.cut (E : En) (n : Nat) : En := { E with φ := fun i => if i < n then E.φ i else none, τ := fun t k => if t < n then E.τ t k else none }

section
variable {P : Program} {X : XT} {E : En} {H : List HB} {w : World} {T : Nat → Option TyI} {n : Nat}
theorem cut_φ {i : Nat} (h : i < n) : (E.cut n).φ i = E.φ i := if_pos h
theorem cut_τ {t : Nat} (h : t < n) (k : Nat) : (E.cut n).τ t k = E.τ t k := if_pos h
theorem cut_le {E0 : En} (h : E0.le E) (h0 : ∀ i, n ≤ i → E0.φ i = none ∧ ∀ m, E0.τ i m = none) : E0.le (E.cut n) := by
  refine ⟨fun i b hb => ?_, fun t k x hx => ?_, fun b o v hv => h.z _ _ _ hv⟩
  · by_cases hi : i < n
    · rw [cut_φ hi]; exact h.φ _ _ hb
    · rw [(h0 i (by omega)).1] at hb; cases hb
  · by_cases hi : t < n
    · rw [cut_τ hi]; exact h.τ _ _ _ hx
    · rw [(h0 t (by omega)).2 k] at hx; cases hx
theorem cut_le_self (E : En) (n : Nat) : (E.cut n).le E := by
  refine ⟨fun i b hb => ?_, fun t k x hx => ?_, fun b o v hv => hv⟩
  · by_cases hi : i < n
    · rw [cut_φ hi] at hb; exact hb
    · have : (E.cut n).φ i = none := if_neg hi
      rw [this] at hb; cases hb
  · by_cases hi : t < n
    · rw [cut_τ hi] at hx; exact hx
    · have : (E.cut n).τ t k = none := if_neg hi
      rw [this] at hx; cases hx

theorem G.row_nil {z : Nat → Nat → Option Value} {sz s2 : Nat} {x : Value} (h : G z (.row sz [] .no) x) : G z (.row s2 [] .no) x := by
  cases h with
  | row0 => exact .row0 _
  | row00 _ a cap => exact .row00 _ a cap
  | row _ _ b off cap vs h1 h2 _ _ _ => exact .row s2 [] b off cap vs h1 h2 (by simp) (by simp) (by simp)

/-- 'E2' knows under the other numbers what 'E' knows. -/
structure Ren (I : Nat → Nat → Prop) (E E2 : En) : Prop where
  φ : ∀ i j b, I i j → E.φ i = some b → E2.φ j = some b
  τ : ∀ i j k x, I i j → E.τ i k = some x → E2.τ j k = some x
  z : ∀ b o v, E.z b o = some v → E2.z b o = some v
theorem Ren.cut (E : En) (n : Nat) : Ren (keepN n) E (E.cut n) :=
  ⟨fun i j b h hb => by obtain ⟨rfl, hlt⟩ := h; rw [cut_φ hlt]; exact hb, fun i j k x h hx => by obtain ⟨rfl, hlt⟩ := h; rw [cut_τ hlt]; exact hx, fun _ _ _ h => h⟩

section ren
variable {I : Nat → Nat → Prop} {E2 : En}
theorem row_fits (hR : Ren I E E2) {s s2 : Nat} {l : List AV} {t t2 : Tok} {x : Value} (h : R E (.row s l t) x) (hf : tokFits I l t t2) (hs : l = [] ∨ s = s2) : R E2 (.row s2 l t2) x := by
  have hg : G E2.z (.row s2 l .no) x := by
    rcases hs with rfl | rfl
    · exact (h.row_g.row_nil).mono hR.z
    · exact h.row_g.mono hR.z
  cases t2 with
  | no => exact .ground hg
  | full =>
    cases t with
    | full =>
      cases h with
      | ground h => cases h
      | full h0 => exact .full hg
    | no => exact hf.elim
    | own u => exact hf.elim
  | own u =>
    cases t with
    | no => exact hf.elim
    | full =>
      have hl : l = [] := hf
      subst hl
      cases h with
      | ground h => cases h
      | full h0 =>
        rename_i A m
        obtain ⟨A', cap, e, _⟩ := hg.row_slice
        simp only [Value.slice.injEq, List.length_nil] at e
        obtain ⟨_, rfl, _⟩ := e
        exact .own0 hg
    | own t =>
      have hlt : I t u := hf
      cases h with
      | ground h => cases h
      | own h0 ht => exact .own hg (hR.τ _ _ _ _ hlt ht)
      | own0 h0 => exact .own0 hg

theorem fits0_R (hR : Ren I E E2) {a b : AV} {x : Value} (h : R E a x) (hf : fits0 I a b) : R E2 b x := by
  unfold fits0 at hf
  split at hf
  · exact .undef _
  · obtain ⟨h1, h2, rfl⟩ := hf
    exact row_fits hR h h1 h2
  · obtain ⟨hI, rfl⟩ := hf
    obtain ⟨b, hb, rfl⟩ := h.ptr_inv
    exact .ptr _ (hR.φ _ _ _ hI hb)
  · obtain ⟨hI, rfl, rfl⟩ := hf
    obtain ⟨b, off', cap, hb, h1, h2, h3, rfl⟩ := h.ref_inv
    exact .ref _ _ _ _ (hR.φ _ _ _ hI hb) h1 h2 h3
  · subst hf
    obtain ⟨b, off, vs, rfl, h1, h2⟩ := h.fptr_inv
    exact .fptr _ b off vs (fun j c hc => hR.z _ _ _ (h1 j c hc)) (fun j c hc => (h2 j c hc).mono hR.z)
  · obtain ⟨rfl, rfl⟩ := hf
    rw [h.int_inv]; exact .ground (.int _ _)
  · subst hf
    obtain ⟨rfl, hl⟩ := h.str_inv
    exact .ground (.str _ hl)
  · subst hf; rw [h.bool_inv]; exact .ground (.bool _)
  · subst hf; rw [h.tt_inv]; exact .ground (.bool _)
  · subst hf; rw [h.ff_inv]; exact .ground (.bool _)
  · subst hf; rw [h.bool_inv]; exact .ground .tt
  · subst hf; rw [h.bool_inv]; exact .ground .ff
  · rw [h.tt_inv]; exact .ground .tt
  · rw [h.ff_inv]; exact .ground .ff
  · rw [h.nilptr_inv]; exact .ground .nilptr
  · rw [h.nilfunc_inv]; exact .ground .nilfunc
  · exact hf.elim
theorem fitsL_R {f : AV → AV → Prop} (hf : ∀ a b x, f a b → R E a x → R E2 b x) : ∀ {cs ds : List AV} {xs : List Value}, fitsL f cs ds → Rs E cs xs → Rs E2 ds xs
  | [], [], xs, _, h => by rw [h.nil_inv]; exact .nil
  | a :: r, b :: q, xs, hc, h => by
    obtain ⟨x, rx, rfl, h1, h2⟩ := h.cons_inv
    exact .cons (hf _ _ _ hc.1 h1) (fitsL_R hf hc.2 h2)
  | [], _ :: _, _, hc, _ => hc.elim
  | _ :: _, [], _, hc, _ => hc.elim
theorem fits1_R (hR : Ren I E E2) {a b : AV} {x : Value} (h : R E a x) (hf : fits1 I a b) : R E2 b x := by
  unfold fits1 at hf
  split at hf
  · obtain ⟨xs, rfl, h1, h2⟩ := h.agg_inv
    exact Rs.agg (fitsL_R (fun a b x hf h => fits0_R hR h hf) hf (.of_agg h1 h2))
  · obtain ⟨rfl, hf⟩ := hf
    obtain ⟨xs, rfl, h1, h2⟩ := h.func_inv
    have := fitsL_R (fun a b x hf h => fits0_R hR h hf) hf (.of_agg h1 h2)
    exact .func _ _ xs (by simpa using this.1) (fun j c x hc hx => this.2 j c x hc (by simpa using hx))
  · exact fits0_R hR h hf
theorem fitsI_R (hR : Ren I E E2) {a b : AV} {x : Value} (h : R E a x) (hf : fitsI I a b) : R E2 b x := by
  unfold fitsI at hf
  split at hf
  · obtain ⟨xs, rfl, h1, h2⟩ := h.tuple_inv
    have := fitsL_R (fun a b x hf h => fits1_R hR h hf) hf (.of_agg h1 h2)
    exact .tuple _ xs (by simpa using this.1) (fun j c x hc hx => this.2 j c x hc (by simpa using hx))
  · obtain ⟨rfl, hf⟩ := hf
    have h' : ∀ {y : AV} {g : Bool} {u : AV}, R E y x → y = .whenB g u → g = true → R E u x := by
      intro y g u hy he hg
      cases hy with
      | ground hh => subst he; cases hh
      | whenT h2 => cases he; exact h2
      | whenF _ => cases he; cases hg
      | _ => cases he
    exact fits1_R hR (h' h rfl rfl) hf
  · exact fits1_R hR h hf
end ren
theorem fits_R {a b : AV} {x : Value} (h : R E a x) (hf : fits n a b) : R (E.cut n) b x := fitsI_R (Ren.cut E n) h hf
end

/-- One variable may be taken for another. -/
def hbFits (n : Nat) : HB → HB → Prop
  | _, .dead => True
  | .blk cs, .blk ds => fitsL (fits1 (keepN n)) cs ds
  | .tip a s, .tip b u => a = b ∧ s = u
  | _, _ => False
/-- The first of the variables that there are, for these. -/
def hFits (n : Nat) : List HB → List HB → Prop
  | _, [] => True
  | a :: r, b :: q => hbFits n a b ∧ hFits n r q
  | [], _ :: _ => False
theorem hFits_get {n : Nat} : ∀ {H' H : List HB}, hFits n H' H → ∀ (i : Nat) (b : HB), H[i]? = some b → ∃ a, H'[i]? = some a ∧ hbFits n a b
  | _, [], _, i, b, hb => by simp at hb
  | [], _ :: _, h, _, _, _ => h.elim
  | a :: r, b :: q, h, 0, c, hc => by simp at hc; subst hc; exact ⟨a, rfl, h.1⟩
  | a :: r, b :: q, h, i + 1, c, hc => by simpa using hFits_get h.2 i c (by simpa using hc)
theorem Wr.cut {X : XT} {E : En} {H' H : List HB} {w : World} (h : Wr X E H' w) (hf : hFits H.length H' H) : Wr X (E.cut H.length) H w := by
  have lt : ∀ {i b}, H[i]? = some b → i < H.length := fun h => (List.getElem?_eq_some_iff.1 h).1
  have own : ∀ i b, owns (E.cut H.length) H i b → owns E H' i b := by
    intro i b ho
    rcases ho with ⟨cs, h1, h2⟩ | ⟨n, s, off, c, h1, h2⟩
    · obtain ⟨a, ha, hb⟩ := hFits_get hf i _ h1
      rw [cut_φ (lt h1)] at h2
      cases a with
      | blk ds => exact .inl ⟨ds, ha, h2⟩
      | _ => exact hb.elim
    · obtain ⟨a, ha, hb⟩ := hFits_get hf i _ h1
      rw [cut_τ (lt h1)] at h2
      cases a with
      | tip m u => obtain ⟨rfl, rfl⟩ := hb; exact .inr ⟨m, u, off, c, ha, h2⟩
      | _ => exact hb.elim
  refine ⟨h.frame, h.froz, fun i cs hi => ?_, fun t n s ht => ?_, fun i j b h1 h2 => h.sep i j b (own i b h1) (own j b h2), fun i hi => ⟨if_neg (by omega), fun n => if_neg (by omega)⟩⟩
  · obtain ⟨a, ha, hb⟩ := hFits_get hf i _ hi
    cases a with
    | blk ds =>
      obtain ⟨b, xs, ty, a1, a2, a3, a4, a5, a6⟩ := h.blk i ds ha
      have := fitsL_R (E := E) (E2 := E.cut H.length) (fun a b x hf h => fits1_R (Ren.cut E H.length) h hf) hb (.of_agg a5 a6)
      exact ⟨b, xs, ty, by rw [cut_φ (lt hi)]; exact a1, a2, a3, a4, by simpa using this.1, fun j c x hc hx => this.2 j c x hc (by simpa using hx)⟩
    | _ => exact hb.elim
  · obtain ⟨a, ha, hb⟩ := hFits_get hf t _ ht
    cases a with
    | tip m u =>
      obtain ⟨rfl, rfl⟩ := hb
      rcases h.tip t m u ha with ⟨a1, a2⟩ | ⟨b, c, xs, ty, a1, a2, a3⟩
      · exact .inl ⟨a1, fun k => by rw [cut_τ (lt ht)]; exact a2 k⟩
      · exact .inr ⟨b, c, xs, ty, by rw [cut_τ (lt ht)]; exact a1, fun k hk => by rw [cut_τ (lt ht)]; exact a2 k hk, a3⟩
    | _ => exact hb.elim

/-- What a call does. -/
def Ret (P : Program) (f : Nat) (args : List AV) (H : List HB) (r : AV) (H' : List HB) : Prop :=
  Enters P f ∧ ∀ X E w (xs : Array Value), Wr X E H w → Rs E args xs.toList → Calls P f xs w fun e w' =>
    ∃ x E', e = .returned x ∧ E.le E' ∧ Off X E E' ∧ Wr X E' H' w' ∧ Ext w w' ∧ R E' r x

/-- The same, where what it gives is one of several. -/
def RetE (P : Program) (f : Nat) (args : List AV) (H : List HB) (Q : AV → List HB → Prop) : Prop :=
  Enters P f ∧ ∀ X E w (xs : Array Value), Wr X E H w → Rs E args xs.toList → Calls P f xs w fun e w' =>
    ∃ x E' r H', Q r H' ∧ e = .returned x ∧ E.le E' ∧ Off X E E' ∧ Wr X E' H' w' ∧ Ext w w' ∧ R E' r x
theorem Ret.toE {P : Program} {f : Nat} {args : List AV} {H H' : List HB} {r : AV} (h : Ret P f args H r H') : RetE P f args H fun r' H'' => r' = r ∧ H'' = H' :=
  ⟨h.1, fun X E w xs hw hxs => (h.2 X E w xs hw hxs).mono fun e w' ⟨x, E', g⟩ => ⟨x, E', r, H', ⟨rfl, rfl⟩, g⟩⟩

section
variable {P : Program} {T : Nat → Option TyI} {fn : Func} {nt n0 : Nat}

/-- From here the function returns, and this holds of it. -/
def Goes (P : Program) (fn : Func) (X : XT) (E0 : En) (w0 : World) (k : List Item) (a : Act) (w : World) (Post : AV → List HB → Prop) : Prop :=
  ∀ (b : Frame) (cs : List Frame), ∃ a' w' todo E' x r H', Steps P (lone (b.at a k) cs w) (lone { b.at a' todo with mode := .returning } cs w') ∧ a'.defers = [] ∧
    (results fn a'.tmps).run P w' = .ok x w' ∧ E0.le E' ∧ Off X E0 E' ∧ Wr X E' H' w' ∧ Ext w0 w' ∧ R E' r x ∧ Post r H'
theorem goes_step {X : XT} {E0 : En} {w0 : World} {k k1 : List Item} {a a1 : Act} {w w1 : World} {Post : AV → List HB → Prop}
    (hs : ∀ (b : Frame) (cs : List Frame), step P (lone (b.at a k) cs w) = .next (lone (b.at a1 k1) cs w1)) (h : Goes P fn X E0 w0 k1 a1 w1 Post) : Goes P fn X E0 w0 k a w Post := by
  intro b cs
  obtain ⟨a', w', todo, E', x, r, H', g1, g2⟩ := h b cs
  exact ⟨a', w', todo, E', x, r, H', .head (hs b cs) g1, g2⟩
theorem goes_steps {X : XT} {E0 : En} {w0 : World} {k k1 : List Item} {a a1 : Act} {w w1 : World} {Post : AV → List HB → Prop}
    {b : Frame} {cs : List Frame} (hs : Steps P (lone (b.at a k) cs w) (lone (b.at a1 k1) cs w1))
    (h : ∃ a' w' todo E' x r H', Steps P (lone (b.at a1 k1) cs w1) (lone { b.at a' todo with mode := .returning } cs w') ∧ a'.defers = [] ∧
      (results fn a'.tmps).run P w' = .ok x w' ∧ E0.le E' ∧ Off X E0 E' ∧ Wr X E' H' w' ∧ Ext w0 w' ∧ R E' r x ∧ Post r H') :
    ∃ a' w' todo E' x r H', Steps P (lone (b.at a k) cs w) (lone { b.at a' todo with mode := .returning } cs w') ∧ a'.defers = [] ∧
      (results fn a'.tmps).run P w' = .ok x w' ∧ E0.le E' ∧ Off X E0 E' ∧ Wr X E' H' w' ∧ Ext w0 w' ∧ R E' r x ∧ Post r H' := by
  obtain ⟨a', w', todo, E', x, r, H', g1, g2⟩ := h
  exact ⟨a', w', todo, E', x, r, H', hs.trans g1, g2⟩

/-- The same, told over values without addresses. 'n0': how many variables came in. -/
def Awp (P : Program) (fn : Func) (nt n0 : Nat) (k : List Item) (s : St) (Post : AV → List HB → Prop) : Prop :=
  ∀ X E0 E a w w0, E0.le E → Off X E0 E → (∀ i, n0 ≤ i → E0.φ i = none ∧ ∀ m, E0.τ i m = none) → Ext w0 w → Rel X E s nt a w → Goes P fn X E0 w0 k a w Post

theorem awp_step {k k1 : List Item} {s : St} {Post : AV → List HB → Prop}
    (hs : ∀ (X : XT) (E : En) (a : Act) (w : World), Rel X E s nt a w → ∀ (b : Frame) (cs : List Frame), Go.step P (lone (b.at a k) cs w) = .next (lone (b.at a k1) cs w)) (h : Awp P fn nt n0 k1 s Post) : Awp P fn nt n0 k s Post :=
  fun X E0 E a w w0 h1 h2 h3 h4 h5 => goes_step (hs X E a w h5) (h X E0 E a w w0 h1 h2 h3 h4 h5)

def resOne (T : Nat → Option TyI) (s : St) : ResultVar → Option AV
  | .tmp t => look s.env t
  | .cell a t => match look s.env a, T t with
    | some x, some i => match aLoad i x s.H with
      | .val v _ => some v
      | _ => none
    | _, _ => none
def resAll (T : Nat → Option TyI) (s : St) : List ResultVar → Option (List AV)
  | [] => some []
  | x :: r => match resOne T s x with
    | none => none
    | some v => match resAll T s r with
      | none => none
      | some vs => some (v :: vs)
def resAV (T : Nat → Option TyI) (s : St) (l : List ResultVar) : Option AV :=
  match resAll T s l with
  | some [v] => some v
  | some vs => some (.tuple vs)
  | none => none

def Stop.Ok (P : Program) (T : Nat → Option TyI) (fn : Func) (nt n0 : Nat) (Post : AV → List HB → Prop) : Stop → Prop
  | .ret s vc => vc ∧ ∃ r, resAV T s fn.results.toList = some r ∧ Post r s.H
  | .split t g yes no s vc => vc ∧ (g = true → Awp P fn nt n0 yes { s with env := (t, .tt) :: s.env } Post) ∧ (g = false → Awp P fn nt n0 no { s with env := (t, .ff) :: s.env } Post)
  | .guard t g k s vc => vc ∧ (g = true → Awp P fn nt n0 k { s with env := (t, .tt) :: s.env } Post) ∧ (g = false → Awp P fn nt n0 k { s with env := (t, .ff) :: s.env } Post)
  | .call f args dst k s vc => vc ∧ ∃ Q, RetE P f args s.H Q ∧ ∀ r H', Q r H' → Awp P fn nt n0 k (s.put dst r H') Post
  | .elem l i dst k s vc => vc ∧ 0 ≤ i ∧ ∃ e, l[i.toNat]? = some e ∧ Awp P fn nt n0 k (s.put dst (.fptr e.cells) s.H) Post
  | .loop c k s vc => vc ∧ Awp P fn nt n0 (.code (.loop c) :: k) s Post
  | .back k s vc => vc ∧ Awp P fn nt n0 k s Post
  | .draw id ops k s vc => vc ∧ Awp P fn nt n0 (.code (.region id ops true) :: k) s Post
  | .stuck k s vc => vc ∧ Awp P fn nt n0 k s Post

theorem Rel.mono {X : XT} {E E' : En} {s : St} {a : Act} {w w' : World} {H' : List HB} (h : Rel X E s nt a w) (hE : E.le E') (hw : Wr X E' H' w') : Rel X E' { s with H := H' } nt a w' :=
  ⟨h.defers, h.size, fun t v hv => (h.env t v hv).mono hE, hw⟩
theorem Rel.put {X : XT} {E : En} {s : St} {a : Act} {w : World} (h : Rel X E s nt a w) {d : Option Nat} (hd : canPut nt d = true) {v : AV} {x : Value} (hr : R E v x) : Rel X E (s.put d v s.H) nt (a.put d x) w := by
  cases d with
  | none => exact h
  | some t =>
    have ht : t < nt := Nat.le_of_ble_eq_true hd
    refine ⟨h.defers, by simp [Act.put, h.size], fun u y hy => ?_, h.wr⟩
    simp only [St.put, look] at hy
    split at hy
    · rename_i hb
      have hb := Nat.eq_of_beq_eq_true hb
      subst hb
      simp only [Option.some.injEq] at hy
      subst hy
      simp only [Act.put]
      rw [Array.getD_eq_getD_getElem?, Array.getElem?_setIfInBounds_self_of_lt (by rw [h.size]; exact ht)]
      exact hr
    · rename_i hb
      have hne : t ≠ u := fun e => by subst e; simp [Nat.beq_refl] at hb
      simp only [Act.put]
      rw [Array.getD_eq_getD_getElem?, Array.getElem?_setIfInBounds_ne hne, ← Array.getD_eq_getD_getElem?]
      exact h.env u y hy
theorem Rel.bool {X : XT} {E : En} {s : St} {a : Act} {w : World} (h : Rel X E s nt a w) {t : Nat} {b : Bool} (hx : a.tmps.getD t Go.undef = .bool b) :
    Rel X E { s with env := (t, if b then .tt else .ff) :: s.env } nt a w := by
  refine ⟨h.defers, h.size, fun u y hy => ?_, h.wr⟩
  simp only [look] at hy
  split at hy
  · rename_i hb
    have hb := Nat.eq_of_beq_eq_true hb
    subst hb
    simp only [Option.some.injEq] at hy
    subst hy
    rw [hx]
    cases b
    · exact .ground .ff
    · exact .ground .tt
  · exact h.env u y hy
theorem Rel.skipped {X : XT} {E : En} {s : St} {a : Act} {w : World} (h : Rel X E s nt a w) {d : Option Nat} (hd : canPut nt d = true) : Rel X E (s.put d .undef s.H) nt (a.put d Go.undef) w := h.put hd (.undef _)

theorem yielded_of {X : XT} {E : En} {s : St} {a : Act} {w : World} (h : Rel X E s nt a w) {ops : Array Oper} {j t : Nat} {p : Oper} (hj : ops[j]? = some p) (ht : p.dst = some t) {v : AV} (hv : look s.env t = some v) {b : Bool} (hb : toB v = some b) (hlt : t < nt) :
    yielded ops a.tmps j = some b := by
  have hr := toB_ok hb (h.env t v hv)
  unfold yielded
  simp only [hj, Option.bind_some, ht]
  have : a.tmps[t]? = some (.bool b) := by
    rw [Array.getD_eq_getD_getElem?] at hr
    have hsz : t < a.tmps.size := by rw [h.size]; exact hlt
    rw [Array.getElem?_eq_getElem hsz] at hr ⊢
    simp at hr
    rw [hr]
  rw [this]

theorem yielded_when {X : XT} {E : En} {s : St} {a : Act} {w : World} (h : Rel X E s nt a w) {ops : Array Oper} {j t : Nat} {p : Oper} (hj : ops[j]? = some p) (ht : p.dst = some t) {g1 g : Bool} (hv : look s.env t = some (.whenB g1 (.bool g))) (hlt : t < nt) :
    yielded ops a.tmps j = if g1 = true then some g else none := by
  have hr := h.env t _ hv
  unfold yielded
  simp only [hj, Option.bind_some, ht]
  have hsz : t < a.tmps.size := by rw [h.size]; exact hlt
  rw [Array.getD_eq_getD_getElem?, Array.getElem?_eq_getElem hsz] at hr
  rw [Array.getElem?_eq_getElem hsz]
  simp only [Option.getD_some] at hr
  generalize a.tmps[t] = x at hr ⊢
  cases g1
  · cases hr with
    | ground h => cases h
    | whenF => rfl
  · have := (hr.when_true rfl).bool_inv
    rw [this]; rfl

theorem want_eq (g w : Bool) : (some g == some w) = gOf g w := by cases g <;> cases w <;> rfl
theorem want_eq2 (g1 g w : Bool) : ((if g1 = true then some g else none) == some w) = (g1 && gOf g w) := by cases g1 <;> cases g <;> cases w <;> rfl
theorem guard_go {X : XT} {E : En} {s : St} {a : Act} {w : World} (h : Rel X E s nt a w) {ops : Array Oper} {o : Oper} :
    (guardOf nt ops s o = .go → Region.wanted o (yielded ops a.tmps) = true) ∧ (guardOf nt ops s o = .skip → Region.wanted o (yielded ops a.tmps) = false) ∧
    (∀ t g k, guardOf nt ops s o = .ask t g k → (look s.env t = some (.bool g) ∧ t < nt) ∧ Region.wanted o (yielded ops a.tmps) = gOf g k) ∧
    ∀ g1 g k, guardOf nt ops s o = .askW g1 g k → Region.wanted o (yielded ops a.tmps) = (g1 && gOf g k) := by
  unfold guardOf Region.wanted
  split
  · rename_i hg
    simp [hg]
  · rename_i j want hg
    simp only [hg]
    split
    · simp
    · rename_i p hp
      split
      · simp
      · rename_i t ht
        split
        · simp
        · rename_i hlt
          have hlt : t < nt := Nat.le_of_ble_eq_true hlt
          split
          · rename_i hl
            rw [yielded_of h hp ht hl (b := true) rfl hlt]; simp
          · rename_i hl
            rw [yielded_of h hp ht hl (b := true) rfl hlt]; simp
          · rename_i hl
            rw [yielded_of h hp ht hl (b := false) rfl hlt]; simp
          · rename_i hl
            rw [yielded_of h hp ht hl (b := false) rfl hlt]; simp
          · simp
          · rename_i w' g hl
            refine ⟨by simp, by simp, fun t' g' k hk => ?_, by simp⟩
            cases hk
            refine ⟨⟨hl, hlt⟩, ?_⟩
            rw [yielded_of h hp ht hl (b := g) rfl hlt]
            exact want_eq _ _
          · rename_i w' g1 g hl
            refine ⟨by simp, by simp, by simp, fun g1' g' k hk => ?_⟩
            cases hk
            rw [yielded_when h hp ht hl hlt]
            exact want_eq2 _ _ _
          · simp
end
end Go.Ab
