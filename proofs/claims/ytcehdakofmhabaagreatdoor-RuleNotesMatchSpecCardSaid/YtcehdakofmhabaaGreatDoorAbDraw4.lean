/- The machine in a region that leaves its order open. -/
import Derived.Test.YtcehdakofmhabaaGreatDoorAbDraw3
namespace Go.Ab
set_option linter.unusedVariables false
set_option linter.unusedSimpArgs false
inductive DStop where
  | done (s : St) (vc : Prop)
  | call (f : Nat) (args : List AV) (dst : Option Nat) (i : Nat) (s : St) (vc : Prop)
  | elem (l : List AV) (ix : Int) (dst : Option Nat) (i : Nat) (s : St) (vc : Prop)
  | stuck (i : Nat) (s : St)
def drunG (T : Nat → Option TyI) (go : Nat → St → Prop → DStop) (o : Oper) (i : Nat) (s : St) (vc : Prop) : DStop :=
  match exec1 T s o.op with
  | .val v H => go (i + 1) (s.put o.dst v H) vc
  | .valc v H c => go (i + 1) (s.put o.dst v H) (vc ∧ c)
  | .call f args => .call f args o.dst i s vc
  | .elem l ix => .elem l ix o.dst i s vc
  | .stuck => .stuck i s
def drunO (T : Nat → Option TyI) (nt : Nat) (ops : Array Oper) (go : Nat → St → Prop → DStop) (o : Oper) (i : Nat) (s : St) (vc : Prop) : DStop :=
  match canPut nt o.dst with
  | false => .stuck i s
  | true => match guardOf nt ops s o with
    | .skip => go (i + 1) (s.put o.dst .undef s.H) vc
    | .go => drunG T go o i s vc
    | _ => .stuck i s
def drun (T : Nat → Option TyI) (nt : Nat) (ops : Array Oper) : Nat → Nat → St → Prop → DStop
  | 0, i, s, _ => .stuck i s
  | n + 1, i, s, vc => match ops[i]? with
    | none => .done s vc
    | some o => drunO T nt ops (drun T nt ops n) o i s vc
def DStop.Ok (P : Program) (T : Nat → Option TyI) (nt : Nat) (ops : Array Oper) (K : St → Prop) : DStop → Prop
  | .done s vc => vc ∧ K s
  | .call f args dst i s vc => vc ∧ ∃ r, (∀ H, Ret P f args H r H) ∧ DGo P T nt ops K (i + 1) (s.put dst r s.H)
  | .elem l ix dst i s vc => vc ∧ 0 ≤ ix ∧ ∃ e, l[ix.toNat]? = some e ∧ DGo P T nt ops K (i + 1) (s.put dst (.fptr e.cells) s.H)
  | .stuck _ _ => False
section
variable {P : Program} {T : Nat → Option TyI} {fn : Func} {nt n0 : Nat} {Post : AV → List HB → Prop} {ops : Array Oper} {K : St → Prop}
theorem drunG_ok {go : Nat → St → Prop → DStop} (hgo : ∀ i s vc, (go i s vc).Ok P T nt ops K → vc ∧ DGo P T nt ops K i s) {o : Oper} {i : Nat} {s : St} {vc : Prop} (ho : ops[i]? = some o) (hd : canPut nt o.dst = true) (hg : guardOf nt ops s o = .go)
    (h : (drunG T go o i s vc).Ok P T nt ops K) : vc ∧ DGo P T nt ops K i s := by
  unfold drunG at h
  split at h
  · rename_i v H he
    exact ⟨(hgo _ _ _ h).1, .step ho hd (.val hg he) (hgo _ _ _ h).2⟩
  · rename_i v H c he
    obtain ⟨⟨h1, hc⟩, h2⟩ := hgo _ _ _ h
    exact ⟨h1, .step ho hd (.valc hg he hc) h2⟩
  · rename_i f args he
    obtain ⟨h1, r, h2, h3⟩ := h
    exact ⟨h1, .step ho hd (.call hg he h2) h3⟩
  · rename_i l ix he
    obtain ⟨h1, h2, e, h3, h4⟩ := h
    exact ⟨h1, .step ho hd (.elem hg he h2 h3) h4⟩
  · exact h.elim
theorem drun_ok : ∀ (n i : Nat) (s : St) (vc : Prop), (drun T nt ops n i s vc).Ok P T nt ops K → vc ∧ DGo P T nt ops K i s := by
  intro n
  induction n with
  | zero => intro i s vc h; exact h.elim
  | succ n ih =>
    intro i s vc h
    unfold drun at h
    split at h
    · rename_i hn
      have hlt : ops.size ≤ i := by simpa using hn
      exact ⟨h.1, .done hlt h.2⟩
    · rename_i o ho
      unfold drunO at h
      split at h
      · exact h.elim
      · rename_i hd
        split at h
        · rename_i hg
          exact ⟨(ih _ _ _ h).1, .step ho hd (.skip hg) (ih _ _ _ h).2⟩
        · rename_i hg
          exact drunG_ok ih ho hd hg h
        · exact h.elim
theorem dDone (n : Nat) {i : Nat} {s s' : St} {vc : Prop} (h : drun T nt ops n i s True = .done s' vc) (hvc : vc) (hk : K s') : DGo P T nt ops K i s :=
  (drun_ok n i s True (by rw [h]; exact ⟨hvc, hk⟩)).2
theorem dCall (n : Nat) {i j f : Nat} {args : List AV} {dst : Option Nat} {s s' : St} {vc : Prop} {r : AV} (h : drun T nt ops n i s True = .call f args dst j s' vc) (hvc : vc) (hr : ∀ H, Ret P f args H r H)
    (hk : DGo P T nt ops K (j + 1) (s'.put dst r s'.H)) : DGo P T nt ops K i s :=
  (drun_ok n i s True (by rw [h]; exact ⟨hvc, r, hr, hk⟩)).2
theorem dElem (n : Nat) {i j : Nat} {l : List AV} {ix : Int} {dst : Option Nat} {s s' : St} {vc : Prop} (h : drun T nt ops n i s True = .elem l ix dst j s' vc) (hvc : vc) (h0 : 0 ≤ ix) (e : AV) (he : l[ix.toNat]? = some e)
    (hk : DGo P T nt ops K (j + 1) (s'.put dst (.fptr e.cells) s'.H)) : DGo P T nt ops K i s :=
  (drun_ok n i s True (by rw [h]; exact ⟨hvc, h0, e, he, hk⟩)).2
theorem sDraws (C : Ctx P T fn) (hmix : P.follows .mixedOrders = true) (n : Nat) {k k' : List Item} {s s' : St} {id : Nat} {vc : Prop} (h : run T nt n k s True = .draw id ops k' s' vc) (hvc : vc) (hc : calm ops = true)
    (hk : DGo P T nt ops (fun s2 => Awp P fn nt n0 k' s2 Post) 0 s') : Awp P fn nt n0 k s Post :=
  sDraw C n h hvc (awp_draw C.tab hmix hc hk)
end
end Go.Ab
