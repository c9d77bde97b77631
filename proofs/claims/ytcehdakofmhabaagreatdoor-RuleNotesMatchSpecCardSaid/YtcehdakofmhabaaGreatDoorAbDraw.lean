/- A region that leaves its order open: any order gives what the order of the numbers gives. -/
import Derived.Test.YtcehdakofmhabaaGreatDoorAbRules
import Derived.Orders
namespace Go.Ab
set_option linter.unusedVariables false
set_option linter.unusedSimpArgs false

def maskOf (M : List Nat) : List Edge → Nat
  | [] => 0
  | e :: r => (match Region.binds .any e with
    | true => 2 ^ e.on ||| M.getD e.on 0
    | false => 0) ||| maskOf M r
def masks (ops : List Oper) : List Nat := ops.foldl (fun acc o => acc ++ [maskOf acc o.after.toList]) []
def conf (ops : Array Oper) (p o : Oper) : Bool :=
  (match p.dst with
   | some d => (o.looksAt ops).contains d || (match o.dst with | some d' => Nat.beq d d' | none => false)
   | none => false) ||
  (match o.dst with
   | some d => (p.looksAt ops).contains d
   | none => false) ||
  (writes p.op && touches o.op) || (touches p.op && writes o.op)
def calmAt (ops : Array Oper) (M : List Nat) (i : Nat) : Bool :=
  match ops[i]? with
  | none => true
  | some o => Nat.beq (M.getD i 0) (maskOf M o.after.toList) && o.after.toList.all (fun e => !Region.binds .any e || Nat.blt e.on i) &&
    (List.range i).all fun j => match ops[j]? with
      | none => true
      | some p => !conf ops p o || (M.getD i 0).testBit j
def calm (ops : Array Oper) : Bool := (List.range ops.size).all (calmAt ops (masks ops.toList))

theorem maskOf_bit {M : List Nat} {j : Nat} : ∀ {es : List Edge}, (maskOf M es).testBit j = true → ∃ e ∈ es, Region.binds .any e = true ∧ (e.on = j ∨ (M.getD e.on 0).testBit j = true)
  | [], h => by simp [maskOf] at h
  | e :: r, h => by
    simp only [maskOf, Nat.testBit_or, Bool.or_eq_true] at h
    rcases h with h | h
    · split at h
      · rename_i hb
        simp only [Nat.testBit_or, Bool.or_eq_true, Nat.testBit_two_pow, decide_eq_true_eq] at h
        exact ⟨e, by simp, hb, h⟩
      · simp at h
    · obtain ⟨e', h1, h2⟩ := maskOf_bit h
      exact ⟨e', by simp [h1], h2⟩

section
variable {P : Program} {T : Nat → Option TyI} {fn : Func} {nt n0 : Nat} {Post : AV → List HB → Prop} {ops : Array Oper}

/-- One operation told at a state. -/
inductive StepOk (P : Program) (T : Nat → Option TyI) (nt : Nat) (ops : Array Oper) (o : Oper) (s : St) : AV → List HB → Prop
  | skip : guardOf nt ops s o = .skip → StepOk P T nt ops o s .undef s.H
  | val {v : AV} {H : List HB} : guardOf nt ops s o = .go → exec1 T s o.op = .val v H → StepOk P T nt ops o s v H
  | valc {v : AV} {H : List HB} {c : Prop} : guardOf nt ops s o = .go → exec1 T s o.op = .valc v H c → c → StepOk P T nt ops o s v H
  | call {f : Nat} {args : List AV} {r : AV} : guardOf nt ops s o = .go → exec1 T s o.op = .call f args → (∀ H, Ret P f args H r H) → StepOk P T nt ops o s r s.H
  | elem {l : List AV} {ix : Int} {e : AV} : guardOf nt ops s o = .go → exec1 T s o.op = .elem l ix → 0 ≤ ix → l[ix.toNat]? = some e → StepOk P T nt ops o s (.fptr e.cells) s.H

/-- The region's operations in the order of their numbers. -/
inductive DGo (P : Program) (T : Nat → Option TyI) (nt : Nat) (ops : Array Oper) (K : St → Prop) : Nat → St → Prop
  | done {i : Nat} {s : St} : ops.size ≤ i → K s → DGo P T nt ops K i s
  | step {i : Nat} {s : St} {o : Oper} {v : AV} {H : List HB} : ops[i]? = some o → canPut nt o.dst = true → StepOk P T nt ops o s v H → DGo P T nt ops K (i + 1) (s.put o.dst v H) → DGo P T nt ops K i s

/-- The trace of the operations. -/
theorem DGo.trace {K : St → Prop} {i : Nat} {s : St} (h : DGo P T nt ops K i s) (hi : i ≤ ops.size) : ∃ (st : Nat → St) (v : Nat → AV), st i = s ∧ K (st ops.size) ∧
    ∀ j, i ≤ j → j < ops.size → ∃ o, ops[j]? = some o ∧ canPut nt o.dst = true ∧ StepOk P T nt ops o (st j) (v j) (st (j + 1)).H ∧ (st (j + 1)).env = ((st j).put o.dst (v j) (st j).H).env := by
  induction h with
  | done h1 h2 =>
    rename_i i s
    obtain rfl : i = ops.size := by omega
    exact ⟨fun _ => s, fun _ => .undef, rfl, h2, fun j h3 h4 => by omega⟩
  | step h1 h2 h3 h4 ih =>
    rename_i i s o v H
    have hlt := (Array.getElem?_eq_some_iff.1 h1).1
    obtain ⟨st, vs, g1, g2, g3⟩ := ih (by omega)
    refine ⟨fun j => if j = i then s else st j, fun j => if j = i then v else vs j, if_pos rfl, ?_, fun j h5 h6 => ?_⟩
    · show K (if ops.size = i then s else st ops.size)
      rw [if_neg (by omega)]; exact g2
    · by_cases hj : j = i
      · subst hj
        refine ⟨o, h1, h2, ?_, ?_⟩ <;> dsimp only
        · rw [if_pos rfl, if_pos rfl, if_neg (by omega), g1]
          have : (s.put o.dst v H).H = H := by cases o.dst <;> rfl
          rw [this]; exact h3
        · rw [if_pos rfl, if_pos rfl, if_neg (by omega), g1]
          cases o.dst <;> rfl
      · obtain ⟨o', k1, k2, k3, k4⟩ := g3 j (by omega) h6
        refine ⟨o', k1, k2, ?_, ?_⟩ <;> dsimp only
        · rw [if_neg hj, if_neg hj, if_neg (by omega)]; exact k3
        · rw [if_neg hj, if_neg hj, if_neg (by omega)]; exact k4

section order
variable (st : Nat → St) (v : Nat → AV)
def dstOf (ops : Array Oper) (i : Nat) : Option Nat := (ops[i]?).bind (·.dst)
def wrOf (ops : Array Oper) (i : Nat) : Bool := match ops[i]? with
  | some o => writes o.op
  | none => false
/-- The state when the operations of 'L' are done. -/
def stL (ops : Array Oper) (st : Nat → St) (v : Nat → AV) (L : Nat → Bool) : Nat → St
  | 0 => st 0
  | n + 1 => match L n with
    | true => { env := ((stL ops st v L n).put (dstOf ops n) (v n) []).env, H := match wrOf ops n with | true => (st (n + 1)).H | false => (stL ops st v L n).H }
    | false => stL ops st v L n
theorem stL_look {L L' : Nat → Bool} {t : Nat} : ∀ n, (∀ j, j < n → dstOf ops j = some t → L j = L' j) → look (stL ops st v L n).env t = look (stL ops st v L' n).env t
  | 0, _ => rfl
  | n + 1, h => by
    have ih := stL_look n (fun j hj => h j (by omega))
    by_cases hd : dstOf ops n = some t
    · have hL := h n (by omega) hd
      simp only [stL, hL]
      split
      · simp only [hd, St.put, look, Nat.beq_refl]
      · exact ih
    · have key : ∀ (M : Nat → Bool), look (stL ops st v M (n + 1)).env t = look (stL ops st v M n).env t := by
        intro M
        simp only [stL]
        split
        · cases hdn : dstOf ops n with
          | none => rfl
          | some d =>
            have hne : d ≠ t := fun e => hd (by rw [hdn, e])
            simp only [St.put, look]
            split
            · rename_i hb; exact absurd (Nat.eq_of_beq_eq_true hb) hne
            · rfl
        · rfl
      rw [key, key, ih]
theorem stL_H {L L' : Nat → Bool} : ∀ n, (∀ j, j < n → wrOf ops j = true → L j = L' j) → (stL ops st v L n).H = (stL ops st v L' n).H
  | 0, _ => rfl
  | n + 1, h => by
    have ih := stL_H n (fun j hj => h j (by omega))
    cases hw : wrOf ops n with
    | true =>
      have hL := h n (by omega) hw
      simp only [stL, hL, hw]
      split
      · rfl
      · exact ih
    | false =>
      have key : ∀ (M : Nat → Bool), (stL ops st v M (n + 1)).H = (stL ops st v M n).H := by
        intro M
        simp only [stL, hw]
        split <;> rfl
      rw [key, key, ih]
theorem stL_last {L : Nat → Bool} {i t : Nat} (hL : L i = true) (hd : dstOf ops i = some t) : ∀ n, i < n → (∀ j, i < j → j < n → dstOf ops j = some t → L j = false) → look (stL ops st v L n).env t = some (v i)
  | 0, h, _ => by omega
  | n + 1, h, hj => by
    by_cases hn : i = n
    · subst hn
      simp only [stL, hL, hd, St.put, look, Nat.beq_refl]
    · have ih := stL_last hL hd n (by omega) (fun j h1 h2 => hj j h1 (by omega))
      simp only [stL]
      split
      · rename_i hLn
        cases hdn : dstOf ops n with
        | none => exact ih
        | some d =>
          have hne : d ≠ t := fun e => by have := hj n (by omega) (by omega) (by rw [hdn, e]); rw [this] at hLn; cases hLn
          simp only [St.put, look]
          split
          · rename_i hb; exact absurd (Nat.eq_of_beq_eq_true hb) hne
          · exact ih
      · exact ih
end order
end
end Go.Ab
