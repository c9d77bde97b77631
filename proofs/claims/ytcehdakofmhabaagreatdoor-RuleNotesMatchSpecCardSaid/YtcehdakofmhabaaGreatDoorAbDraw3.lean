/- A region that leaves its order open goes as the order of its numbers does. -/
import Derived.Test.YtcehdakofmhabaaGreatDoorAbDraw2
namespace Go.Ab
set_option linter.unusedVariables false
set_option linter.unusedSimpArgs false
section
variable {P : Program} {T : Nat → Option TyI} {fn : Func} {nt n0 : Nat} {Post : AV → List HB → Prop} {ops : Array Oper}

/-- How many are left. -/
def left (listed : Array Bool) : Nat → Nat
  | 0 => 0
  | n + 1 => left listed n + (if listed.getD n false = true then 0 else 1)
theorem left_zero {listed : Array Bool} : ∀ n, left listed n = 0 → ∀ i, i < n → listed.getD i false = true
  | 0, _, i, hi => by omega
  | n + 1, h, i, hi => by
    simp only [left] at h
    by_cases hn : i = n
    · subst hn
      by_cases hl : listed.getD i false = true
      · exact hl
      · rw [if_neg hl] at h; omega
    · exact left_zero n (by omega) i (by omega)
theorem left_set {listed : Array Bool} {i : Nat} (hi : listed.getD i false = false) (hsz : i < listed.size) : ∀ n, i < n → left (listed.setIfInBounds i true) n < left listed n
  | 0, h => by omega
  | n + 1, h => by
    have get : ∀ j, (listed.setIfInBounds i true).getD j false = if j = i then true else listed.getD j false := by
      intro j
      by_cases hj : j = i
      · subst hj; simp [Array.getD_eq_getD_getElem?, hsz]
      · rw [if_neg hj, Array.getD_eq_getD_getElem?, Array.getElem?_setIfInBounds_ne (Ne.symm hj), ← Array.getD_eq_getD_getElem?]
    simp only [left, get]
    by_cases hn : n = i
    · subst hn
      rw [if_pos rfl, if_pos rfl, if_neg (by rw [hi]; simp)]
      have : left (listed.setIfInBounds n true) n = left listed n := by
        have key : ∀ m, m ≤ n → left (listed.setIfInBounds n true) m = left listed m := by
          intro m
          induction m with
          | zero => intro _; rfl
          | succ m ih =>
            intro hm
            simp only [left, ih (by omega), get, show ¬ m = n by omega, if_false]
        exact key n (Nat.le_refl _)
      omega
    · rw [if_neg hn]
      have := left_set hi hsz n (by omega)
      omega

theorem draw_any (hT : TabOk P T) (hc : calm ops = true) {st : Nat → St} {v : Nat → AV}
    (hF : ∀ j, j < ops.size → ∃ o, ops[j]? = some o ∧ canPut nt o.dst = true ∧ StepOk P T nt ops o (st j) (v j) (st (j + 1)).H ∧ (st (j + 1)).env = ((st j).put o.dst (v j) (st j).H).env)
    {X : XT} {E0 : En} {w0 : World} : ∀ (fuel : Nat) (listed : Array Bool) (a : Act) (w : World), listed.size = ops.size → Down ops (fun j => listed.getD j false) → left listed ops.size ≤ fuel →
    (∃ E, E0.le E ∧ Off X E0 E ∧ Ext w0 w ∧ Rel X E (stL ops st v (fun j => listed.getD j false) ops.size) nt a w) →
    wpAny P .any ops (fun e a' w' => e = .normal ∧ ∃ E, E0.le E ∧ Off X E0 E ∧ Ext w0 w' ∧ Rel X E (st ops.size) nt a' w') fuel listed a w := by
  have fin : ∀ (listed : Array Bool) (a : Act) (w : World), listed.size = ops.size → Region.ready .any ops listed = [] →
      (∃ E, E0.le E ∧ Off X E0 E ∧ Ext w0 w ∧ Rel X E (stL ops st v (fun j => listed.getD j false) ops.size) nt a w) →
      ∃ E, E0.le E ∧ Off X E0 E ∧ Ext w0 w ∧ Rel X E (st ops.size) nt a w := by
    rintro listed a w hsz hr ⟨E, h1, h2, h3, h4⟩
    have all : ∀ i, i < ops.size → listed.getD i false = true := by
      intro i
      induction i using Nat.strongRecOn with
      | _ i ih =>
        intro hi
        by_cases hl : listed.getD i false = true
        · exact hl
        · exfalso
          obtain ⟨o, ho, _⟩ := hF i hi
          have hm : i ∈ Region.ready .any ops listed := by
            rw [mem_ready]
            refine ⟨?_, o, ho, fun e he hb => ?_⟩
            · have : i < listed.size := by omega
              simp [Array.getD_eq_getD_getElem?, this] at hl ⊢
              exact hl
            · have hlt := (calm_at hF hc ho).2.1 e (by simpa using he) hb
              exact ih e.on hlt (by omega)
          rw [hr] at hm; cases hm
    obtain ⟨g1, g2⟩ := stL_all hF (L := fun j => listed.getD j false) ops.size (Nat.le_refl _) all
    exact ⟨E, h1, h2, h3, h4.congr (fun t => (g1 t).symm) g2.symm⟩
  intro fuel
  induction fuel with
  | zero =>
    intro listed a w hsz hD hleft hinv
    have hall := left_zero (listed := listed) ops.size (by omega)
    have hr : Region.ready .any ops listed = [] := by
      apply List.eq_nil_iff_forall_not_mem.2
      intro i hi
      rw [mem_ready] at hi
      obtain ⟨h1, o, ho, _⟩ := hi
      have hlt := (Array.getElem?_eq_some_iff.1 ho).1
      have := hall i hlt
      have h2 : i < listed.size := by omega
      simp [Array.getD_eq_getD_getElem?, h2] at h1 this
      rw [h1] at this; cases this
    exact ⟨hr, rfl, fin listed a w hsz hr hinv⟩
  | succ fuel ih =>
    intro listed a w hsz hD hleft hinv
    refine ⟨fun hr => ⟨rfl, fin listed a w hsz hr hinv⟩, fun i hi => ?_⟩
    rw [mem_ready] at hi
    obtain ⟨hun, o, ho, hedges⟩ := hi
    have hlt := (Array.getElem?_eq_some_iff.1 ho).1
    have hils : i < listed.size := by omega
    have hL : listed.getD i false = false := by
      simp [Array.getD_eq_getD_getElem?, hils] at hun ⊢
      exact hun
    have hlt0 : ∀ j, ops.size ≤ j → listed.getD j false = false := fun j hj => by
      simp [Array.getD_eq_getD_getElem?, Array.getElem?_eq_none (show listed.size ≤ j by omega)]
    obtain ⟨s1, s2, s3, s4, s5, s6⟩ := step_one hF hc (L := fun j => listed.getD j false) hD ho hL (fun e he hb => hedges e (by simpa using he) hb) hlt0
    have get : ∀ j, (listed.setIfInBounds i true).getD j false = if j = i then true else listed.getD j false := by
      intro j
      by_cases hj : j = i
      · subst hj; simp [Array.getD_eq_getD_getElem?, hils]
      · rw [if_neg hj, Array.getD_eq_getD_getElem?, Array.getElem?_setIfInBounds_ne (Ne.symm hj), ← Array.getD_eq_getD_getElem?]
    have getF : (fun j => (listed.setIfInBounds i true).getD j false) = fun j => if j = i then true else listed.getD j false := funext get
    obtain ⟨E, h1, h2, h3, h4⟩ := hinv
    refine s4.wpOp hT ho s3 h4 (fun a' w' E' g1 g2 g3 g4 => ?_)
    refine ih _ a' w' (by simpa using hsz) ?_ (by have := left_set hL hils ops.size hlt; omega) ⟨E', h1.trans g1, h2.trans g2, h3.trans g3, ?_⟩
    · rw [getF]; exact s1
    · rw [getF]
      refine g4.congr s5 ?_
      rw [s6]
      cases o.dst <;> rfl

/-- The rule: the operations in the order of their numbers, and on. -/
theorem awp_draw (hT : TabOk P T) (hmix : P.follows .mixedOrders = true) {id : Nat} (hc : calm ops = true) {k : List Item} {s : St} (h : DGo P T nt ops (fun s' => Awp P fn nt n0 k s' Post) 0 s) :
    Awp P fn nt n0 (.code (.region id ops true) :: k) s Post := by
  obtain ⟨st, v, e0, hK, hF⟩ := h.trace (Nat.zero_le _)
  have hF' : ∀ j, j < ops.size → ∃ o, ops[j]? = some o ∧ canPut nt o.dst = true ∧ StepOk P T nt ops o (st j) (v j) (st (j + 1)).H ∧ (st (j + 1)).env = ((st j).put o.dst (v j) (st j).H).env := fun j hj => hF j (Nat.zero_le _) hj
  intro X E0 E a w w0 h1 h2 h3 h4 h5 b cs
  have hfalse : ∀ j, (Array.replicate ops.size false).getD j false = false := by
    intro j
    rw [Array.getD_eq_getD_getElem?]
    by_cases hj : j < ops.size <;> simp [hj]
  have hfun : (fun j => (Array.replicate ops.size false).getD j false) = fun _ => false := funext hfalse
  have hst0 : ∀ n, stL ops st v (fun _ => false) n = s := by
    intro n
    induction n with
    | zero => exact e0
    | succ n ih => simp only [stL]; exact ih
  have hany := draw_any hT hc hF' (X := X) (E0 := E0) (w0 := w0) ops.size (Array.replicate ops.size false) a w.drew (by simp) (by rw [hfun]; intro i j _ hl _; cases hl) (by
      have : ∀ n, left (Array.replicate ops.size false) n ≤ n := by
        intro n
        induction n with
        | zero => exact Nat.le_refl _
        | succ n ih => simp only [left]; split <;> omega
      exact this _) ⟨E, h1, h2, h4.trans (.drew _), by rw [hfun, hst0]; exact ⟨h5.defers, h5.size, h5.env, h5.wr.drew⟩⟩
  have hwp := wp_region_any (id := id) hmix hany
  obtain ⟨e, a', w', ⟨rfl, E', g1, g2, g3, g4⟩, harr⟩ := hwp b k cs
  exact goes_steps harr (hK X E0 E' a' w' w0 g1 g2 h3 g3 g4 b cs)
end
end Go.Ab
