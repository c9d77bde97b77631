/- What a proof about a function uses. -/
import Derived.Test.YtcehdakofmhabaaGreatDoorAbWalk2
namespace Go.Ab
set_option linter.unusedVariables false
set_option linter.unusedSimpArgs false

def envFits (n : Nat) (env' : List (Nat × AV)) : List (Nat × AV) → Prop
  | [] => True
  | (t, v) :: r => (match look env' t with
    | some v' => fits n v' v
    | none => False) ∧ envFits n env' r
/-- What is known may be forgotten. -/
def Wk (s' s : St) : Prop := envFits s.H.length s'.env s.env ∧ hFits s.H.length s'.H s.H
def params (i : Nat) : List AV → List (Nat × AV)
  | [] => []
  | v :: r => (i, v) :: params (i + 1) r

section
variable {P : Program} {T : Nat → Option TyI} {fn : Func} {nt n0 : Nat} {Post : AV → List HB → Prop}

theorem look_mem {env : List (Nat × AV)} {t : Nat} {v : AV} (h : look env t = some v) : (t, v) ∈ env := by
  induction env with
  | nil => cases h
  | cons p r ih =>
    obtain ⟨k, u⟩ := p
    simp only [look] at h
    split at h
    · rename_i hb
      have := Nat.eq_of_beq_eq_true hb
      subst this
      simp only [Option.some.injEq] at h; subst h
      simp
    · exact List.mem_cons_of_mem _ (ih h)
theorem envFits_mem {n : Nat} {env' env : List (Nat × AV)} (h : envFits n env' env) {t : Nat} {v : AV} (hm : (t, v) ∈ env) : ∃ v', look env' t = some v' ∧ fits n v' v := by
  induction env with
  | nil => cases hm
  | cons p r ih =>
    obtain ⟨k, u⟩ := p
    rcases List.mem_cons.1 hm with he | hm
    · cases he
      have h1 := h.1
      split at h1
      · rename_i v' hv; exact ⟨v', hv, h1⟩
      · exact h1.elim
    · exact ih h.2 hm
theorem Rel.weaken {X : XT} {E : En} {s' s : St} {a : Act} {w : World} (h : Rel X E s' nt a w) (hk : Wk s' s) : Rel X (E.cut s.H.length) s nt a w := by
  refine ⟨h.defers, h.size, fun t v hv => ?_, h.wr.cut hk.2⟩
  obtain ⟨v', h1, h2⟩ := envFits_mem hk.1 (look_mem hv)
  exact fits_R (h.env t v' h1) h2
theorem awp_weaken {k : List Item} {s' s : St} (hk : Wk s' s) (hn : n0 ≤ s.H.length) (h : Awp P fn nt n0 k s Post) : Awp P fn nt n0 k s' Post := by
  intro X E0 E a w w0 h1 h2 h3 h4 h5
  refine h X E0 (E.cut s.H.length) a w w0 (cut_le h1 (fun i hi => h3 i (by omega))) ?_ h3 h4 (h5.weaken hk)
  intro b o v hv h0
  exact h2 b o v hv h0

/-- A row that is known has a length that an int holds. -/
theorem awp_len {k : List Item} {s : St} (t : Nat) {sz : Nat} {l : List AV} {tok : Tok} (hl : look s.env t = some (.row sz l tok)) (h : l.length ≤ big → Awp P fn nt n0 k s Post) : Awp P fn nt n0 k s Post := by
  intro X E0 E a w w0 h1 h2 h3 h4 h5
  obtain ⟨_, _, _, _, hb⟩ := (h5.env t _ hl).row_slice
  exact h hb X E0 E a w w0 h1 h2 h3 h4 h5
theorem awp_str {k : List Item} {s : St} (t : Nat) {l : List UInt8} (hl : look s.env t = some (.str l)) (h : l.length ≤ big → Awp P fn nt n0 k s Post) : Awp P fn nt n0 k s Post := by
  intro X E0 E a w w0 h1 h2 h3 h4 h5
  exact h (h5.env t _ hl).str_inv.2 X E0 E a w w0 h1 h2 h3 h4 h5

/-- A loop: 'S a' is what is known at its head, 'μ a' becomes smaller. -/
theorem awp_loop {α : Type} (S : α → St) (p : α → Prop) (μ : α → Nat) {c : Code} {k : List Item} {s : St} (a0 : α) (h0 : p a0) (hn : ∀ a, p a → n0 ≤ (S a).H.length) (hw : Wk s (S a0))
    (round : ∀ a, p a → (∀ a' s', p a' → μ a' < μ a → Wk s' (S a') → Awp P fn nt n0 (.inLoop c :: k) s' Post) → Awp P fn nt n0 (.code c :: .inLoop c :: k) (S a) Post) :
    Awp P fn nt n0 (.code (.loop c) :: k) s Post := by
  have key : ∀ m a, μ a = m → p a → Awp P fn nt n0 (.code c :: .inLoop c :: k) (S a) Post := by
    intro m
    induction m using Nat.strongRecOn with
    | _ m ih =>
      intro a hm hp
      refine round a hp (fun a' s' hp' hlt hk => ?_)
      exact awp_step (fun _ _ _ _ _ _ _ => step_inLoop) (awp_weaken hk (hn a' hp') (ih (μ a') (hm ▸ hlt) a' rfl hp'))
  exact awp_step (fun _ _ _ _ _ _ _ => step_loop) (awp_weaken hw (hn a0 h0) (key _ a0 rfl h0))

/-- What a function's text is asked for. -/
structure Ctx (P : Program) (T : Nat → Option TyI) (fn : Func) : Prop where
  tab : TabOk P T

section stops
variable {k : List Item} {s : St}
theorem sRet (C : Ctx P T fn) (n : Nat) {s' : St} {vc : Prop} {r : AV} (h : run T nt n k s True = .ret s' vc) (hvc : vc) (hr : resAV T s' fn.results.toList = some r) (hp : Post r s'.H) : Awp P fn nt n0 k s Post :=
  (run_ok C.tab n k s True (by rw [h]; exact ⟨hvc, r, hr, hp⟩)).2
theorem sSplit (C : Ctx P T fn) (n : Nat) {t : Nat} {g : Bool} {yes no : List Item} {s' : St} {vc : Prop} (h : run T nt n k s True = .split t g yes no s' vc) (hvc : vc)
    (h1 : g = true → Awp P fn nt n0 yes { s' with env := (t, .tt) :: s'.env } Post) (h2 : g = false → Awp P fn nt n0 no { s' with env := (t, .ff) :: s'.env } Post) : Awp P fn nt n0 k s Post :=
  (run_ok C.tab n k s True (by rw [h]; exact ⟨hvc, h1, h2⟩)).2
theorem sGuard (C : Ctx P T fn) (n : Nat) {t : Nat} {g : Bool} {k' : List Item} {s' : St} {vc : Prop} (h : run T nt n k s True = .guard t g k' s' vc) (hvc : vc)
    (h1 : g = true → Awp P fn nt n0 k' { s' with env := (t, .tt) :: s'.env } Post) (h2 : g = false → Awp P fn nt n0 k' { s' with env := (t, .ff) :: s'.env } Post) : Awp P fn nt n0 k s Post :=
  (run_ok C.tab n k s True (by rw [h]; exact ⟨hvc, h1, h2⟩)).2
theorem sCall (C : Ctx P T fn) (n : Nat) {f : Nat} {args : List AV} {dst : Option Nat} {k' : List Item} {s' : St} {vc : Prop} {r : AV} {H' : List HB} (h : run T nt n k s True = .call f args dst k' s' vc) (hvc : vc)
    (hr : Ret P f args s'.H r H') (hk : Awp P fn nt n0 k' (s'.put dst r H') Post) : Awp P fn nt n0 k s Post :=
  (run_ok C.tab n k s True (by rw [h]; exact ⟨hvc, _, hr.toE, fun r' H'' ⟨e1, e2⟩ => by subst e1; subst e2; exact hk⟩)).2
theorem sElem (C : Ctx P T fn) (n : Nat) {l : List AV} {i : Int} {dst : Option Nat} {k' : List Item} {s' : St} {vc : Prop} (h : run T nt n k s True = .elem l i dst k' s' vc) (hvc : vc) (h0 : 0 ≤ i) (e : AV) (he : l[i.toNat]? = some e)
    (hk : Awp P fn nt n0 k' (s'.put dst (.fptr e.cells) s'.H) Post) : Awp P fn nt n0 k s Post :=
  (run_ok C.tab n k s True (by rw [h]; exact ⟨hvc, h0, e, he, hk⟩)).2
theorem sLoop (C : Ctx P T fn) (n : Nat) {c : Code} {k' : List Item} {s' : St} {vc : Prop} (h : run T nt n k s True = .loop c k' s' vc) (hvc : vc) (hk : Awp P fn nt n0 (.code (.loop c) :: k') s' Post) : Awp P fn nt n0 k s Post :=
  (run_ok C.tab n k s True (by rw [h]; exact ⟨hvc, hk⟩)).2
theorem sBack (C : Ctx P T fn) (n : Nat) {k' : List Item} {s' : St} {vc : Prop} (h : run T nt n k s True = .back k' s' vc) (hvc : vc) (hk : Awp P fn nt n0 k' s' Post) : Awp P fn nt n0 k s Post :=
  (run_ok C.tab n k s True (by rw [h]; exact ⟨hvc, hk⟩)).2
theorem sDraw (C : Ctx P T fn) (n : Nat) {id : Nat} {ops : Array Oper} {k' : List Item} {s' : St} {vc : Prop} (h : run T nt n k s True = .draw id ops k' s' vc) (hvc : vc) (hk : Awp P fn nt n0 (.code (.region id ops true) :: k') s' Post) : Awp P fn nt n0 k s Post :=
  (run_ok C.tab n k s True (by rw [h]; exact ⟨hvc, hk⟩)).2
theorem sCallE (C : Ctx P T fn) (n : Nat) {f : Nat} {args : List AV} {dst : Option Nat} {k' : List Item} {s' : St} {vc : Prop} {Q : AV → List HB → Prop} (h : run T nt n k s True = .call f args dst k' s' vc) (hvc : vc)
    (hr : RetE P f args s'.H Q) (hk : ∀ r H', Q r H' → Awp P fn nt n0 k' (s'.put dst r H') Post) : Awp P fn nt n0 k s Post :=
  (run_ok C.tab n k s True (by rw [h]; exact ⟨hvc, _, hr, hk⟩)).2
/-- Where the machine can't go on, or has gone as far as it was told. -/
theorem sHalt (C : Ctx P T fn) (n : Nat) {k' : List Item} {s' : St} {vc : Prop} (h : run T nt n k s True = .stuck k' s' vc) (hvc : vc) (hk : Awp P fn nt n0 k' s' Post) : Awp P fn nt n0 k s Post :=
  (run_ok C.tab n k s True (by rw [h]; exact ⟨hvc, hk⟩)).2
/-- The operation at which it stands, where what it does has been shown. -/
theorem sOp (C : Ctx P T fn) {ops : Array Oper} {i : Nat} {r : List Nat} {o : Oper} {v : AV} {H' : List HB} (ho : ops[i]? = some o) (hd : canPut nt o.dst = true) (hg : guardOf nt ops s o = .go) (he : exec1 T s o.op = .val v H')
    (hk : Awp P fn nt n0 (.inRegion ops r :: k) (s.put o.dst v H') Post) : Awp P fn nt n0 (.inRegion ops (i :: r) :: k) s Post :=
  awp_op ho hd (fun X E a w hr => ⟨(guard_go hr).1 hg, by have := exec1_ok C.tab hr o; rw [he] at this; exact this⟩) hk
theorem sOpc (C : Ctx P T fn) {ops : Array Oper} {i : Nat} {r : List Nat} {o : Oper} {v : AV} {H' : List HB} {c : Prop} (ho : ops[i]? = some o) (hd : canPut nt o.dst = true) (hg : guardOf nt ops s o = .go) (he : exec1 T s o.op = .valc v H' c) (hc : c)
    (hk : Awp P fn nt n0 (.inRegion ops r :: k) (s.put o.dst v H') Post) : Awp P fn nt n0 (.inRegion ops (i :: r) :: k) s Post :=
  awp_op ho hd (fun X E a w hr => ⟨(guard_go hr).1 hg, by have := exec1_ok C.tab hr o; rw [he] at this; exact this hc⟩) hk
theorem sOpD {ops : Array Oper} {i : Nat} {r : List Nat} {o : Oper} {v : AV} {H' : List HB} (ho : ops[i]? = some o) (hd : canPut nt o.dst = true) (hg : guardOf nt ops s o = .go) (he : ∀ X E a w, Rel X E s nt a w → OpDoes P X E (execOp a.eval o) w v H')
    (hk : Awp P fn nt n0 (.inRegion ops r :: k) (s.put o.dst v H') Post) : Awp P fn nt n0 (.inRegion ops (i :: r) :: k) s Post :=
  awp_op ho hd (fun X E a w hr => ⟨(guard_go hr).1 hg, he X E a w hr⟩) hk
end stops

theorem look_params : ∀ (vs : List AV) (i t : Nat) (v : AV), look (params i vs) t = some v → i ≤ t ∧ vs[t - i]? = some v
  | [], i, t, v, h => by cases h
  | u :: r, i, t, v, h => by
    simp only [params, look] at h
    split at h
    · rename_i hb
      have := Nat.eq_of_beq_eq_true hb
      subst this
      simp only [Option.some.injEq] at h; subst h
      simp
    · obtain ⟨h1, h2⟩ := look_params r (i + 1) t v h
      refine ⟨by omega, ?_⟩
      rw [show t - i = (t - (i + 1)) + 1 by omega, List.getElem?_cons_succ]
      exact h2

/-- A function's contract out of its text. -/
theorem ret_of {f : Nat} {c : Code} {args : List AV} {H H' : List HB} {r : AV} (hf : P.funcs[f]? = some fn) (hb : fn.body = some c) (hname : (fn.name == "runtime.NumGoroutine") = false)
    (hargs : args.length ≤ fn.ntmps) (hH : H'.length = H.length)
    (h : Awp P fn fn.ntmps H.length [.code c] { env := params 0 args, H } fun r' H1 => fits H.length r' r ∧ hFits H.length H1 H') : Ret P f args H r H' := by
  refine ⟨⟨fn, hf, by simp [hb], hname⟩, fun X E w xs hw hxs cs => ?_⟩
  have hsz : xs.size = args.length := by have := hxs.1; simpa using this.symm
  let b : Frame := { (default : Frame) with fn := f, kind := .normal }
  have henter : Frame.enter P f xs .normal = b.at { tmps := xs ++ Array.replicate (fn.ntmps - xs.size) Go.undef, defers := [] } [.code c] := by
    simp [Frame.enter, Frame.at, hf, hb, b]
  have hrel : Rel X E { env := params 0 args, H } fn.ntmps { tmps := xs ++ Array.replicate (fn.ntmps - xs.size) Go.undef, defers := [] } w := by
    refine ⟨rfl, by simp; omega, fun t v hv => ?_, hw⟩
    obtain ⟨_, h2⟩ := look_params _ _ _ _ hv
    simp only [Nat.sub_zero] at h2
    have hlt : t < xs.size := by have := (List.getElem?_eq_some_iff.1 h2).1; omega
    have hx : xs.toList[t]? = some xs[t] := by simp [hlt]
    have := hxs.2 t v _ h2 hx
    simp only [Array.getD_eq_getD_getElem?, Array.getElem?_append_left hlt, Array.getElem?_eq_getElem hlt]
    exact this
  obtain ⟨a', w', todo, E', x, r', H1, g1, g2, g3, g4, g5, g6, g7, g8, g9, g10⟩ := h X E E _ w w (.refl _) (.refl _ _) (fun i hi => hw.fresh i hi) (.refl _) hrel b cs
  rw [← henter] at g1
  have h4 : E.le (E'.cut H.length) := cut_le g4 (fun i hi => hw.fresh i hi)
  have h6 : Wr X (E'.cut H.length) H' w' := by rw [← hH]; rw [← hH] at g10; exact g6.cut g10
  exact ⟨.returned x, w', { b.at a' todo with mode := .returning }, ⟨x, E'.cut H.length, rfl, h4, fun b o v hv h0 => g5 b o v hv h0, h6, g7, fits_R g8 g9⟩, g1, rfl, rfl, g2, rfl, fn, hf, g3⟩

theorem cut_zero (E : En) (i : Nat) : (E.cut 0).φ i = none ∧ ∀ n, (E.cut 0).τ i n = none := by
  constructor
  · simp [En.cut]
  · intro n; simp [En.cut]

/-- A call that is handed no variable of the caller's leaves them alone. -/
theorem ret_frame {f : Nat} {args args' : List AV} {r : AV} (H : List HB) (h : Ret P f args' [] r []) (hfit : fitsL (fits 0) args args') : Ret P f args H r H := by
  refine ⟨h.1, fun X E w xs hw hxs => ?_⟩
  classical
  let X2 : XT := ⟨fun b => if ∃ i, owns E H i b then w.heap[b]? else X b, fun w1 h1 => X.ok w1 fun b o ho => h1 b o (by
    by_cases hb : ∃ i, owns E H i b
    · simp only [hb, if_true]; exact hw.frame b o ho
    · simp only [hb, if_false]; exact ho)⟩
  have hX2o : ∀ {b}, (∃ i, owns E H i b) → X2 b = w.heap[b]? := fun h => if_pos h
  have hX2n : ∀ {b}, ¬ (∃ i, owns E H i b) → X2 b = X b := fun h => if_neg h
  have hw2 : Wr X2 (E.cut 0) [] w := by
    refine ⟨fun b o ho => ?_, hw.froz, by simp, by simp, fun i j b h1 _ => ?_, fun i _ => cut_zero E i⟩
    · by_cases hb : ∃ i, owns E H i b
      · rw [hX2o hb] at ho; exact ho
      · rw [hX2n hb] at ho; exact hw.frame b o ho
    · rcases h1 with ⟨_, h1, _⟩ | ⟨_, _, _, _, h1, _⟩ <;> simp at h1
  have hxs2 : Rs (E.cut 0) args' xs.toList := fitsL_R (fun a b x hf h => fits_R h hf) hfit hxs
  refine (h.2 X2 (E.cut 0) w xs hw2 hxs2).mono ?_
  rintro e w' ⟨x, E', rfl, g1, g2, g3, g4, g5⟩
  let E2 : En := { φ := E.φ, τ := E.τ, z := E'.z }
  have le2 : E.le E2 := ⟨fun _ _ h => h, fun _ _ _ h => h, fun b o v hv => g1.z b o v hv⟩
  have kept : ∀ {i b}, owns E H i b → w'.heap[b]? = w.heap[b]? := by
    intro i b ho
    have hlt := owns_lt hw ho
    have hb : w.heap[b]? = some w.heap[b] := Array.getElem?_eq_getElem hlt
    have := g3.frame b w.heap[b] (by rw [hX2o ⟨i, ho⟩]; exact hb)
    rw [this, hb]
  have znone : ∀ {i b o}, owns E H i b → E.z b o = none → E'.z b o = none := by
    intro i b o ho hz
    cases hz' : E'.z b o with
    | none => rfl
    | some v =>
      have h1 := g2 b o v hz' hz
      rw [hX2o ⟨i, ho⟩, Array.getElem?_eq_getElem (owns_lt hw ho)] at h1
      cases h1
  refine ⟨x, E2, rfl, le2, fun b o v hv h0 => ?_, ?_, g4, ?_⟩
  · have h1 := g2 b o v hv h0
    by_cases hb : ∃ i, owns E H i b
    · obtain ⟨i, hi⟩ := hb; exact owns_x hw hi
    · rw [hX2n hb] at h1; exact h1
  · refine ⟨fun b o ho => ?_, g3.froz, fun i cs hi => ?_, fun t n s ht => ?_, fun i j b h1 h2 => hw.sep i j b h1 h2, fun i hi => hw.fresh i hi⟩
    · have hb : ¬ ∃ i, owns E H i b := by
        rintro ⟨i, hi⟩
        rw [owns_x hw hi] at ho; cases ho
      exact g3.frame b o (by rw [hX2n hb]; exact ho)
    · obtain ⟨b, ys, ty, a1, a2, a3, a4, a5, a6⟩ := hw.blk i cs hi
      have ho : owns E H i b := .inl ⟨cs, hi, a1⟩
      exact ⟨b, ys, ty, a1, by rw [kept ho]; exact a2, a3, fun o => znone ho (a4 o), a5, fun j c x hc hx => (a6 j c x hc hx).mono le2⟩
    · rcases hw.tip t n s ht with h0 | ⟨b, cap, ys, ty, a1, a2, a3, a4, a5, a6⟩
      · exact .inl h0
      · have ho : owns E H t b := .inr ⟨n, s, 0, cap, ht, a1⟩
        exact .inr ⟨b, cap, ys, ty, a1, a2, by rw [kept ho]; exact a3, a4, fun o h => znone ho (a5 o h), a6⟩
  · refine R.mono (E := E') (E' := E2) ⟨fun i b hb => ?_, fun t n x hx => ?_, fun _ _ _ h => h⟩ g5
    · rw [(g3.fresh i (Nat.zero_le _)).1] at hb; cases hb
    · rw [(g3.fresh t (Nat.zero_le _)).2 n] at hx; cases hx

/-- A slice that has no room may be told as one that this call lets grow. -/
theorem awp_tip {k : List Item} {s : St} (sz : Nat) (h : Awp P fn nt n0 k { s with H := s.H ++ [.tip 0 sz] } Post) : Awp P fn nt n0 k s Post := by
  intro X E0 E a w w0 h1 h2 h3 h4 h5
  have hw := h5.wr
  refine h X E0 E a w w0 h1 h2 h3 h4 ⟨h5.defers, h5.size, h5.env, ?_⟩
  have own : ∀ i b, owns E (s.H ++ [.tip 0 sz]) i b → owns E s.H i b := by
    intro i b ho
    rcases ho with ⟨cs, g1, g2⟩ | ⟨n, z, off, c, g1, g2⟩
    · rcases getElem?_snoc g1 with ⟨_, g3⟩ | ⟨_, g3⟩
      · exact .inl ⟨cs, g3, g2⟩
      · cases g3
    · rcases getElem?_snoc g1 with ⟨_, g3⟩ | ⟨rfl, g3⟩
      · exact .inr ⟨n, z, off, c, g3, g2⟩
      · rw [(hw.fresh _ (Nat.le_refl _)).2 n] at g2; cases g2
  refine ⟨hw.frame, hw.froz, fun i cs hi => ?_, fun t n z ht => ?_, fun i j b g1 g2 => hw.sep i j b (own i b g1) (own j b g2), fun i hi => hw.fresh i (by simp at hi; omega)⟩
  · rcases getElem?_snoc hi with ⟨_, g3⟩ | ⟨_, g3⟩
    · exact hw.blk i cs g3
    · cases g3
  · rcases getElem?_snoc ht with ⟨_, g3⟩ | ⟨rfl, g3⟩
    · exact hw.tip t n z g3
    · cases g3
      exact .inl ⟨rfl, fun m => (hw.fresh _ (Nat.le_refl _)).2 m⟩
end
end Go.Ab
