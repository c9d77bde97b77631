/- A map of the call's own that is a set (its elements are true), told as the row of its keys: what makes one, what asks it, what puts a key into it. -/
import Derived.Maps.Own
import Derived.Maps.OwnOps
import Derived.Maps.Views
import Derived.Carry
import Derived.DeepKeys4
import Derived.Test.YtmmknokdgbgjgaaGreatDoorVPartnerDaysMatchSpecMore
namespace Go.Proofs.YtmmknokdgbgjgaaGreatDoor.XMap
set_option linter.unusedVariables false
set_option linter.unusedSimpArgs false
open Go.Maps (Keyed)
open Go.RowKit
open Go.Proofs.YtmmknokdgbgjgaaGreatDoorW.PrintWords

def mOwn : Value → Option Nat
  | .map b => b
  | _ => none
/-- How keys stand as values. -/
structure Keys (P : Program) (kT : TypeId) {β : Type} (val : β → Value) (same : β → β → Bool) : Prop where
  law : Keyed P kT
  inj : ∀ x y, same x y = true ↔ val x = val y
/-- A set of the call's own, told as the row of its keys. -/
def R (P : Program) (kT eT : TypeId) {β : Type} (val : β → Value) (same : β → β → Bool) (w : World) (base : Nat) (ok : Nat → Prop) (v : Value) (xs : List β) : Prop :=
  ∃ (b : Nat) (D : DataW Unit), v = .map (some b) ∧ base ≤ b ∧ ok b ∧ xs.length ≤ 1099511627776 ∧ w.ownsMap P kT (plainElem P eT) b xs.length D ∧ Maps.IsMap D ∧
    ∀ x kl, keyOf P kT (val x) = some kl → D.atKey kl (.lit (.bool false)) = .lit (.bool (xs.any (same x)))
section
variable {P : Program} {kT eT : TypeId} {β : Type} {val : β → Value} {same : β → β → Bool} {w w1 : World} {base : Nat} {ok ok' : Nat → Prop} {v : Value} {xs : List β}
theorem R_mono (h : R P kT eT val same w base ok v xs) (hok : ∀ k, ok k → ok' k) : R P kT eT val same w base ok' v xs := by
  obtain ⟨b, D, h1, h2, h3, h4⟩ := h
  exact ⟨b, D, h1, h2, hok b h3, h4⟩
theorem R_lower {base' : Nat} (h : R P kT eT val same w base ok v xs) (hb : base' ≤ base) : R P kT eT val same w base' ok v xs := by
  obtain ⟨b, D, h1, h2, h4⟩ := h
  exact ⟨b, D, h1, Nat.le_trans hb h2, h4⟩
theorem own_blk {b n : Nat} {D : DataW Unit} (h : w.ownsMap P kT (plainElem P eT) b n D) : ∃ es c, w.heap[b]? = some (.map es c) := by
  obtain ⟨es, c, hb, _⟩ := h
  exact ⟨es, c, hb⟩
theorem R_step (h : R P kT eT val same w base ok v xs) (hm : ∀ k, ok k → k < w.heap.size → w1.heap[k]? = w.heap[k]?) : R P kT eT val same w1 base ok v xs := by
  obtain ⟨b, D, h1, h2, h3, h4, h5, h6⟩ := h
  refine ⟨b, D, h1, h2, h3, h4, ?_, h6⟩
  obtain ⟨es, c, hb, r⟩ := h5
  exact ⟨es, c, (hm b h3 (blk_lt hb)).trans hb, r⟩
theorem R_below (h : R P kT eT val same w base ok v xs) (hb : Below w.heap.size w w1) : R P kT eT val same w1 base ok v xs := R_step h (fun k _ hk => hb.block k hk)
theorem R_alloc (h : R P kT eT val same w base ok v xs) (o : Obj) : R P kT eT val same (w.alloc o) base ok v xs := R_below h (qp (Below.refl _ _) o)
theorem R_drew (h : R P kT eT val same w base ok v xs) : R P kT eT val same w.drew base ok v xs := R_below h (below_drew (Below.refl _ _))
theorem R_drewN (h : R P kT eT val same w base ok v xs) (m : Nat) : R P kT eT val same (w.drewN m) base ok v xs := R_below h (qj (Below.refl _ _) m)
theorem R_grown (h : R P kT eT val same w base ok v xs) {row : Option Nat} (hg : w.grownBy w1 row) (hok : ∀ k, ok k → some k ≠ row) : R P kT eT val same w1 base ok v xs := R_step h (fun k ho hk => hg.block k hk (hok k ho))
theorem R_far (h : R P kT eT val same w base ok v xs) {p : Addr} (hok : ∀ k, ok k → k ≠ p.block) (u : Value) : R P kT eT val same (w.setCell p u) base ok v xs := R_step h (fun k ho _ => Below.heap_setCell w p u k (hok k ho))
theorem R_blk (h : R P kT eT val same w base ok v xs) : ∃ b es c, v = .map (some b) ∧ w.heap[b]? = some (.map es c) ∧ base ≤ b := by
  obtain ⟨b, D, h1, h2, h3, h4, h5, h6⟩ := h
  obtain ⟨es, c, hb⟩ := own_blk h5
  exact ⟨b, es, c, h1, hb, h2⟩
theorem R_slice (h : R P kT eT val same w base ok v xs) : ∃ (A : Nat) (c : Unit), v = .map (some A) := by
  obtain ⟨b, _, _, h1, _⟩ := R_blk h
  exact ⟨b, (), h1⟩
theorem R_bound (h : R P kT eT val same w base ok v xs) : R P kT eT val same w base (fun k => ok k ∧ base ≤ k ∧ k < w.heap.size ∧ mOwn v = some k ∧ ∃ es c, w.heap[k]? = some (.map es c)) v xs := by
  obtain ⟨b, D, h1, h2, h3, h4, h5, h6⟩ := h
  obtain ⟨es, c, hb⟩ := own_blk h5
  exact ⟨b, D, h1, h2, ⟨h3, h2, blk_lt hb, by rw [h1]; rfl, es, c, hb⟩, h4, h5, h6⟩
theorem R_elderB (h : R P kT eT val same w base ok v xs) (a : Nat) (ha : w.heap.size ≤ a) : R P kT eT val same w base (fun k => ok k ∧ k ≠ a) v xs := R_mono (R_bound h) (fun k hk => ⟨hk.1, by have := hk.2.2.1; omega⟩)
theorem R_tight (_hE : (0 : Nat) = 0) (h : R P kT eT val same w base ok v xs) : R P kT eT val same w base (fun k => some k = mOwn v) v xs := R_mono (R_bound h) (fun k hk => hk.2.2.2.1.symm)
theorem R_reok {ok1 : Nat → Prop} (_hE : (0 : Nat) = 0) (h : R P kT eT val same w base ok1 v xs) (hok : ∀ k, mOwn v = some k → ok k) : R P kT eT val same w base ok v xs := R_mono (R_bound h) (fun k hk => hok k hk.2.2.2.1)
theorem R_ok (h : R P kT eT val same w base ok v xs) : ∀ k, mOwn v = some k → ok k := by
  obtain ⟨b, D, rfl, h2, h3, _⟩ := h
  intro k hk
  cases hk
  exact h3
theorem R_types (h : R P kT eT val same w base ok v xs) {g t : Nat} {cells : Array Value} (hb : w.heap[g]? = some (.cells cells t (0, 0))) (_ht : kT ≠ t) : R P kT eT val same w base (fun k => ok k ∧ k ≠ g) v xs :=
  R_mono (R_bound h) (fun k hk => ⟨hk.1, by
    obtain ⟨_, _, _, _, es, c, hc⟩ := hk
    rintro rfl
    rw [hc] at hb
    cases hb⟩)
theorem R_ne (h : R P kT eT val same w base ok v xs) {g t : Nat} {cells : Array Value} (hb : w.heap[g]? = some (.cells cells t (0, 0))) (_ht : kT ≠ t) : some g ≠ mOwn v := by
  obtain ⟨b, es, c, rfl, hm, _⟩ := R_blk h
  intro e
  cases e
  rw [hm] at hb
  cases hb
theorem R_away (h : R P kT eT val same w base ok v xs) {g : Nat} (hok : ∀ k, ok k → k ≠ g) : some g ≠ mOwn v := fun e => hok g (R_ok h g e.symm) rfl
theorem R_base2 (h : R P kT eT val same w base ok v xs) : ∀ k, mOwn v = some k → base ≤ k := by
  obtain ⟨b, es, c, rfl, hm, hb⟩ := R_blk h
  intro k hk
  cases hk
  exact hb
end
/-! what the three operations do -/
def MkDoes (P : Program) (t : TypeId) (w : World) (Q : Ending → World → Prop) : Prop := ∃ v w1, (Instr.makeMap t none).run P w = .ok v w1 ∧ Q (.returned v) w1
def HasDoes (P : Program) (t : TypeId) (m key : Value) (w : World) (Q : Ending → World → Prop) : Prop := ∃ v, (Instr.lookup t m key false).run P w = .ok v w ∧ Q (.returned v) w
def PutDoes (P : Program) (t : TypeId) (m key : Value) (w : World) (Q : Ending → World → Prop) : Prop := ∃ w1, (Instr.mapUpdate t m key (.bool true)).run P w = .ok () w1 ∧ Q (.returned (.tuple #[])) w1
theorem MkDoes.mono {P : Program} {t : TypeId} {w : World} {Q Q' : Ending → World → Prop} (h : MkDoes P t w Q) (hq : ∀ e w', Q e w' → Q' e w') : MkDoes P t w Q' := by
  obtain ⟨v, w1, h1, h2⟩ := h
  exact ⟨v, w1, h1, hq _ _ h2⟩
theorem HasDoes.mono {P : Program} {t : TypeId} {m key : Value} {w : World} {Q Q' : Ending → World → Prop} (h : HasDoes P t m key w Q) (hq : ∀ e w', Q e w' → Q' e w') : HasDoes P t m key w Q' := by
  obtain ⟨v, h1, h2⟩ := h
  exact ⟨v, h1, hq _ _ h2⟩
theorem PutDoes.mono {P : Program} {t : TypeId} {m key : Value} {w : World} {Q Q' : Ending → World → Prop} (h : PutDoes P t m key w Q) (hq : ∀ e w', Q e w' → Q' e w') : PutDoes P t m key w Q' := by
  obtain ⟨w1, h1, h2⟩ := h
  exact ⟨w1, h1, hq _ _ h2⟩
section
variable {P : Program} {ops : Array Oper} {rest : List Oper} {o : Oper} {a : Act} {Q : Exit → Act → World → Prop} {w : World} {t : TypeId}
theorem ret_of {K : Value → Prop} {v : Value} (h : K v) : ∀ u, Ending.returned v = .returned u → K u := by
  intro u e
  cases e
  exact h
theorem mapMk_ (hg : o.guard = none) (ho : o.op = .makeMap t none) (h : MkDoes P t w fun e w' => ∀ u, e = .returned u → wpList P ops Q rest (a.put o.dst u) w') : wpList P ops Q (o :: rest) a w := by
  obtain ⟨v, w1, h1, h2⟩ := h
  refine wpList_plain hg fun K hK => ?_
  unfold Oper.wp
  simp [execOp, ho, h1, Result.andThen]
  exact hK _ _ (h2 v rfl)
theorem mapHas_ {m x : Operand} {mv xv : Value} (hg : o.guard = none) (ho : o.op = .lookup t m x false) (hm : a.eval m = mv) (hx : a.eval x = xv) (h : HasDoes P t mv xv w fun e w' => ∀ u, e = .returned u → wpList P ops Q rest (a.put o.dst u) w') : wpList P ops Q (o :: rest) a w := by
  obtain ⟨v, h1, h2⟩ := h
  refine wpList_plain hg fun K hK => ?_
  unfold Oper.wp
  simp [execOp, ho, hm, hx, h1, Result.andThen]
  exact hK _ _ (h2 v rfl)
theorem mapPut_ {m x y : Operand} {mv xv : Value} (hg : o.guard = none) (hd : o.dst = none) (ho : o.op = .mapUpdate t m x y) (hy : a.eval y = .bool true) (hm : a.eval m = mv) (hx : a.eval x = xv) (h : PutDoes P t mv xv w fun e w' => ∀ u, e = .returned u → wpList P ops Q rest a w') : wpList P ops Q (o :: rest) a w := by
  obtain ⟨w1, h1, h2⟩ := h
  refine wpList_plain hg fun K hK => ?_
  unfold Oper.wp
  simp [execOp, ho, hm, hx, hy, h1, Result.andThen]
  exact hK (a.put o.dst undef) w1 (by rw [hd]; exact h2 _ rfl)
end
section
variable {P : Program} {kT eT t : TypeId} {β : Type} {val : β → Value} {same : β → β → Bool}
theorem plainElem_bool_inv {e : TypeId} (he : P.underlying e = some .bool) {v : Value} {z : DataW Unit × List MemPlace} (h : plainElem P e v = some z) : ∃ x, v = .bool x ∧ z = (.lit (.bool x), []) := by
  unfold plainElem at h
  rw [he] at h
  cases v <;> simp at h
  subst h
  exact ⟨_, rfl, rfl⟩
/-- A new one. -/
theorem mk_does (hk : Keys P kT val same) (w : World) : MkDoes P t w fun e w' => ∃ v0_ : Value, e = .returned (v0_) ∧ R P kT eT val same w' w.heap.size (fun _ => True) v0_ [] ∧ Below w.heap.size w w' :=
  ⟨_, _, run_makeMap t w, _, rfl, ⟨w.heap.size, .map [], rfl, Nat.le_refl _, trivial, by simp, World.ownsMap_made _ _ _ _, Maps.isMap_empty, fun x kl _ => rfl⟩, qp (Below.refl _ _) _⟩
/-- Is a key in it? -/
theorem has_does (hk : Keys P kT val same) (ht : P.underlying t = some (.map kT eT)) (he : P.underlying eT = some .bool) (hz : ∀ w, (zeroValue eT).run P w = .ok (.bool false) w) (P0_ : Nat → Prop) (v : Value) (xs : List β) (x : β) (kl : Lit) (hkey : keyOf P kT (val x) = some kl) (w0 w : World) (hB : Below w0.heap.size w0 w)
    (ho0 : R P kT eT val same w w0.heap.size P0_ v xs) :
    HasDoes P t v (val x) w fun e w' => e = .returned (.bool (xs.any (same x))) ∧ R P kT eT val same w' w0.heap.size (fun k_ => (P0_ k_ ∨ w.heap.size ≤ k_)) v xs ∧ Below w0.heap.size w0 w' ∧ Kept w w' (fun k_ => P0_ k_) := by
  have ho := ho0
  obtain ⟨b, D, rfl, h2, h3, h4, h5, h6, h7⟩ := ho0
  obtain ⟨u, ps, hrun, hu⟩ := h5.lookup hk.law ht (hz w) (plainElem_bool he false) hkey
  rw [h7 x kl hkey] at hu
  obtain ⟨y, rfl, hy⟩ := plainElem_bool_inv he hu
  simp only [Prod.mk.injEq, DataW.lit.injEq, Lit.bool.injEq] at hy
  rw [← hy.1] at hrun
  exact ⟨_, hrun, rfl, R_mono ho (fun k hk => .inl hk), hB, Kept.refl _ _⟩
/-- A key more. -/
theorem put_does (hk : Keys P kT val same) (ht : P.underlying t = some (.map kT eT)) (he : P.underlying eT = some .bool) (P0_ : Nat → Prop) (v : Value) (xs : List β) (x : β) (kl : Lit) (hkey : keyOf P kT (val x) = some kl) (hlen : xs.length < 1099511627776) (w0 w : World) (hB : Below w0.heap.size w0 w)
    (ho0 : R P kT eT val same w w0.heap.size P0_ v xs) :
    PutDoes P t v (val x) w fun e w' => e = .returned (.tuple #[]) ∧ R P kT eT val same w' w0.heap.size (fun k_ => (P0_ k_ ∨ w.heap.size ≤ k_)) v (xs ++ [x]) ∧ Below w0.heap.size w0 w' ∧ Kept w w' (fun k_ => P0_ k_) := by
  obtain ⟨b, D, rfl, h2, h3, h4, h5, h6, h7⟩ := ho0
  obtain ⟨w', hrun, h8, hg⟩ := h5.update (val := .bool true) hk.law ht (by unfold maxLen; omega) hkey (plainElem_bool he true)
  refine ⟨w', hrun, rfl, ⟨b, _, rfl, h2, .inl h3, by simp; omega, by simpa using h8, h6.put _ _, fun y ky hy => ?_⟩, Below.grown hB hg hB.size (fun k e => by cases e; exact h2), Kept.of_grown hg (Kept.refl _ _) (fun k e => .inl (by cases e; exact h3))⟩
  by_cases e : ky = kl
  · subst e
    have hs : same y x = true := (hk.inj y x).2 (hk.law.inj hy hkey)
    rw [Maps.atKey_put_same h6 (hk.law.key hkey)]
    simp [hs]
  · have hs : same y x = false := by
      cases hb : same y x with
      | false => rfl
      | true =>
        have := (hk.inj y x).1 hb
        rw [this, hkey] at hy
        exact absurd (Option.some.inj hy).symm e
    rw [Maps.atKey_put_other e, h7 y ky hy]
    simp [hs]
end
end Go.Proofs.YtmmknokdgbgjgaaGreatDoor.XMap
