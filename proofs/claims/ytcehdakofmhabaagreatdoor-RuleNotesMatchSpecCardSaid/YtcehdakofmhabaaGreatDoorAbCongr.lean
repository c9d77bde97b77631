/- What an operation's outcome depends on. -/
import Derived.Test.YtcehdakofmhabaaGreatDoorAbStep
namespace Go.Ab
set_option linter.unusedVariables false
set_option linter.unusedSimpArgs false

def Out.withH (H : List HB) : Out → Out
  | .val v _ => .val v H
  | .valc v _ c => .valc v H c
  | o => o

/-- Does the operation look at the call's own variables, or change them? -/
def touches : Op → Bool
  | .alloc _ | .box .. | .load .. | .store .. | .makeSlice .. => true
  | .call c => match c.callee with
    | .builtin .append => true
    | _ => false
  | _ => false
section
variable {T : Nat → Option TyI} {s s' : St}
theorem evs_congr : ∀ {l : List Operand}, (∀ x ∈ l, s.ev x = s'.ev x) → evs s l = evs s' l
  | [], _ => rfl
  | x :: r, h => by
    have h1 := h x (by simp)
    have h2 := evs_congr (l := r) (fun y hy => h y (by simp [hy]))
    simp only [evs, h1, h2]
theorem evParts_congr : ∀ {l : List (Nat × Operand)}, (∀ x ∈ l.map (·.2), s.ev x = s'.ev x) → evParts s l = evParts s' l
  | [], _ => rfl
  | (i, x) :: r, h => by
    have h1 := h x (by simp)
    have h2 := evParts_congr (l := r) (fun y hy => h y (by simp at hy ⊢; exact .inr hy))
    simp only [evParts, h1, h2]
theorem evO_congr {o : Option Operand} (h : ∀ x, o = some x → s.ev x = s'.ev x) : evO s o = evO s' o := by
  cases o with
  | none => rfl
  | some x => simp only [evO, h x rfl]
theorem exec1_congr {o : Op} (h : ∀ x ∈ o.operands.toList, s.ev x = s'.ev x) (hH : s.H = s'.H) : exec1 T s o = exec1 T s' o := by
  cases o with
  | call c =>
    obtain ⟨callee, args, tys⟩ := c
    show oCall T s callee args.toList tys.toList = oCall T s' callee args.toList tys.toList
    have ha : evs s args.toList = evs s' args.toList := evs_congr (fun x hx => h x (by simp [Op.operands, Call.operands]; exact .inr (by simpa using hx)))
    unfold oCall
    cases callee with
    | builtin b => rw [ha, hH]; cases evs s' args.toList <;> rfl
    | value f =>
      have hf : s.ev f = s'.ev f := h f (by simp [Op.operands, Call.operands])
      rw [ha]
      cases evs s' args.toList with
      | none => rfl
      | some vs => simp only [hf]
    | invoke r m => rfl
  | indexAddr t x ix => show oIndexAddr T s t x ix = oIndexAddr T s' t x ix; simp only [oIndexAddr, h x (by simp [Op.operands]), h ix (by simp [Op.operands]), hH]
  | move x => show (oMove s x).noStop = (oMove s' x).noStop; simp only [oMove, h x (by simp [Op.operands]), hH]
  | assign x => show (oMove s x).noStop = (oMove s' x).noStop; simp only [oMove, h x (by simp [Op.operands]), hH]
  | nilCheck x => show (oNil s x).noStop = (oNil s' x).noStop; simp only [oNil, h x (by simp [Op.operands]), hH]
  | pick c a b => show (oPick s c a b).noStop = (oPick s' c a b).noStop; simp only [oPick, oMove, h c (by simp [Op.operands]), h a (by simp [Op.operands]), h b (by simp [Op.operands]), hH]
  | alloc t => show (oAlloc T s t).noStop = (oAlloc T s' t).noStop; simp only [oAlloc, hH]
  | box t x => show (oBox s x).noStop = (oBox s' x).noStop; simp only [oBox, h x (by simp [Op.operands]), hH]
  | build t parts => show (oBuild T s t parts.toList).noStop = (oBuild T s' t parts.toList).noStop; simp only [oBuild, evParts_congr (s := s) (s' := s') (l := parts.toList) (fun x hx => h x (by simpa [Op.operands] using hx)), hH]
  | buildSlice t n parts => show (oBuildSlice T s t n parts.toList).noStop = (oBuildSlice T s' t n parts.toList).noStop; simp only [oBuildSlice, evParts_congr (s := s) (s' := s') (l := parts.toList) (fun x hx => h x (by simpa [Op.operands] using hx)), hH]
  | load t x => show (oLoad T s t x).noStop = (oLoad T s' t x).noStop; simp only [oLoad, h x (by simp [Op.operands]), hH]
  | store t x v => show (oStore T s t x v).noStop = (oStore T s' t x v).noStop; simp only [oStore, h x (by simp [Op.operands]), h v (by simp [Op.operands]), hH]
  | binOp op t x y yt => show (oBin T s op t x y).noStop = (oBin T s' op t x y).noStop; simp only [oBin, h x (by simp [Op.operands]), h y (by simp [Op.operands]), hH]
  | unOp op t x => show (oUn s op x).noStop = (oUn s' op x).noStop; simp only [oUn, h x (by simp [Op.operands]), hH]
  | convert t u x => show (oConvert T s t u x).noStop = (oConvert T s' t u x).noStop; simp only [oConvert, h x (by simp [Op.operands]), hH]
  | makeFunc fn first caps => show (oMakeFunc s fn first.toList caps.toList).noStop = (oMakeFunc s' fn first.toList caps.toList).noStop; simp only [oMakeFunc, evs_congr (s := s) (s' := s') (l := caps.toList) (fun x hx => h x (by simp [Op.operands]; exact .inr (by simpa using hx))), hH]
  | makeSlice t l c => show (oMakeSlice T s t l c).noStop = (oMakeSlice T s' t l c).noStop; simp only [oMakeSlice, h l (by simp [Op.operands]), h c (by simp [Op.operands]), hH]
  | slice t x lo hi mx =>
    show (oSlice T s t x lo hi mx).noStop = (oSlice T s' t x lo hi mx).noStop
    simp only [oSlice, h x (by simp [Op.operands]), evO_congr (s := s) (s' := s') (o := lo) (fun y hy => h y (by simp [Op.operands, hy])), evO_congr (s := s) (s' := s') (o := hi) (fun y hy => h y (by simp [Op.operands, hy])), evO_congr (s := s) (s' := s') (o := mx) (fun y hy => h y (by simp [Op.operands, hy])), hH]
  | fieldAddr t x f => show (oFieldAddr T s t x f).noStop = (oFieldAddr T s' t x f).noStop; simp only [oFieldAddr, h x (by simp [Op.operands]), hH]
  | field t x f => show (oField T s t x f).noStop = (oField T s' t x f).noStop; simp only [oField, h x (by simp [Op.operands]), hH]
  | index t x ix => show (oIndex T s t x ix).noStop = (oIndex T s' t x ix).noStop; simp only [oIndex, h x (by simp [Op.operands]), h ix (by simp [Op.operands]), hH]
  | extract x ix => show (oExtract s x ix).noStop = (oExtract s' x ix).noStop; simp only [oExtract, h x (by simp [Op.operands]), hH]
  | _ => rfl

end

section
variable {T : Nat → Option TyI} {env : List (Nat × AV)} {H H2 : List HB}
theorem ns_withH (o : Out) : (o.withH H2).noStop = (o.noStop).withH H2 := by cases o <;> rfl
theorem aBinInt_free (op : BinOp) (k : IntKind) (a b : Int) : aBinInt op k a b H2 = (aBinInt op k a b H).withH H2 := by cases op <;> rfl
theorem aBinStr_free (op : BinOp) (a b : List UInt8) : aBinStr op a b H2 = (aBinStr op a b H).withH H2 := by cases op <;> rfl
theorem aBin_free (d : Option TypeDesc) (op : BinOp) (x y : AV) : aBin d op x y H2 = (aBin d op x y H).withH H2 := by
  unfold aBin
  split
  · split
    · rfl
    · rfl
    · split
      · exact aBinInt_free _ _ _ _
      · rfl
  · exact aBinStr_free _ _ _
  · split <;> rfl
theorem aUn_free (op : UnOp) (x : AV) : aUn op x H2 = (aUn op x H).withH H2 := by unfold aUn; split <;> rfl
theorem aField_free (i : TyI) (x : AV) (f : Nat) : aField i T x f H2 = (aField i T x f H).withH H2 := by
  unfold aField
  split
  · split
    · split
      · split <;> rfl
      · rfl
    · rfl
  · rfl
theorem aFieldAddr_free (i : TyI) (x : AV) (f : Nat) : aFieldAddr i T x f H2 = (aFieldAddr i T x f H).withH H2 := by
  unfold aFieldAddr
  split
  · split
    · split
      · split
        · rfl
        · split <;> rfl
      · rfl
    · rfl
  · rfl
theorem aIndex_free (i : TyI) (x y : AV) : aIndex i x y H2 = (aIndex i x y H).withH H2 := by unfold aIndex; split <;> rfl
theorem aIndexAddr_free (i : TyI) (x y : AV) : aIndexAddr i T x y H2 = (aIndexAddr i T x y H).withH H2 := by
  unfold aIndexAddr
  split
  · split
    · split
      · split <;> rfl
      · rfl
      · rfl
    · rfl
  · rfl
theorem aExtract_free (x : AV) (ix : Nat) : aExtract x ix H2 = (aExtract x ix H).withH H2 := by
  unfold aExtract
  split
  · split <;> rfl
  · rfl
theorem aConvert_free (i j : TyI) (x : AV) : aConvert i j T x H2 = (aConvert i j T x H).withH H2 := by unfold aConvert; split <;> rfl
theorem aLen_free (i : TyI) (x : AV) : aLen i x H2 = (aLen i x H).withH H2 := by unfold aLen; split <;> rfl
theorem aMin_free (m : Bool) (x y : AV) : aMin m x y H2 = (aMin m x y H).withH H2 := by
  unfold aMin
  split
  · split
    · cases m <;> rfl
    · rfl
  · rfl
theorem aBuild_free (i : TyI) (ps : List (Nat × AV)) : aBuild i T ps H2 = (aBuild i T ps H).withH H2 := by
  unfold aBuild
  split
  · split
    · split <;> rfl
    · rfl
  · rfl
theorem aBuildSlice_free (i : TyI) (n : Nat) (ps : List (Nat × AV)) : aBuildSlice i T n ps H2 = (aBuildSlice i T n ps H).withH H2 := by
  unfold aBuildSlice
  split
  · split
    · split
      · split
        · split <;> rfl
        · rfl
      · rfl
    · rfl
  · rfl
theorem aSlice_free (i : TyI) (x : AV) (lo hi mx : Option AV) : aSlice i T x lo hi mx H2 = (aSlice i T x lo hi mx H).withH H2 := by
  unfold aSlice
  split
  · split <;> rfl
  · split
    · split
      · split <;> rfl
      · split <;> rfl
      · rfl
    · rfl
  · split
    · split <;> rfl
    · rfl
  · rfl
theorem pickB_free (g : Bool) (x y : AV) : pickB g x y H2 = (pickB g x y H).withH H2 := by
  unfold pickB
  split
  · split <;> rfl
  · split <;> rfl
  · split <;> rfl
  · split <;> rfl
theorem oMove_free (x : Operand) : oMove ⟨env, H2⟩ x = (oMove ⟨env, H⟩ x).withH H2 := by
  show (match (⟨env, H⟩ : St).ev x with | some v => Out.val v H2 | none => .stuck) = _
  unfold oMove
  cases (⟨env, H⟩ : St).ev x <;> rfl
theorem evs_env : ∀ (l : List Operand), evs ⟨env, H2⟩ l = evs ⟨env, H⟩ l := fun l => evs_congr (fun _ _ => rfl)
theorem evParts_env : ∀ (l : List (Nat × Operand)), evParts ⟨env, H2⟩ l = evParts ⟨env, H⟩ l := fun l => evParts_congr (fun _ _ => rfl)
theorem evO_env : ∀ (o : Option Operand), evO ⟨env, H2⟩ o = evO ⟨env, H⟩ o := fun o => evO_congr (fun _ _ => rfl)
theorem ev_env (x : Operand) : (⟨env, H2⟩ : St).ev x = (⟨env, H⟩ : St).ev x := rfl
theorem exec1_free {o : Op} (ht : touches o = false) : exec1 T ⟨env, H2⟩ o = (exec1 T ⟨env, H⟩ o).withH H2 := by
  cases o with
  | call c =>
    obtain ⟨callee, args, tys⟩ := c
    show oCall T ⟨env, H2⟩ callee args.toList tys.toList = (oCall T ⟨env, H⟩ callee args.toList tys.toList).withH H2
    unfold oCall
    rw [evs_env (H := H)]
    cases callee with
    | builtin b =>
      cases evs ⟨env, H⟩ args.toList with
      | none => rfl
      | some vs =>
        show aBuiltin T b tys.toList vs H2 = (aBuiltin T b tys.toList vs H).withH H2
        unfold aBuiltin
        split
        · split
          · exact aLen_free _ _
          · rfl
        · cases ht
        · exact aMin_free _ _ _
        · exact aMin_free _ _ _
        · rfl
    | value f =>
      cases evs ⟨env, H⟩ args.toList with
      | none => rfl
      | some vs =>
        show (match (⟨env, H⟩ : St).ev f with | some g => aCallee g vs | none => .stuck) = (match (⟨env, H⟩ : St).ev f with | some g => aCallee g vs | none => .stuck : Out).withH H2
        cases (⟨env, H⟩ : St).ev f with
        | none => rfl
        | some g => simp only [aCallee]; split <;> rfl
    | invoke r m => cases evs ⟨env, H⟩ args.toList <;> rfl
  | indexAddr t x ix =>
    show oIndexAddr T ⟨env, H2⟩ t x ix = (oIndexAddr T ⟨env, H⟩ t x ix).withH H2
    simp only [oIndexAddr, ev_env (H := H) (H2 := H2)]
    split
    · exact aIndexAddr_free _ _ _
    · rfl
  | move x => show (oMove _ x).noStop = ((oMove _ x).noStop).withH H2; rw [oMove_free (H := H), ns_withH]
  | assign x => show (oMove _ x).noStop = ((oMove _ x).noStop).withH H2; rw [oMove_free (H := H), ns_withH]
  | nilCheck x =>
    show (oNil _ x).noStop = ((oNil _ x).noStop).withH H2
    simp only [oNil, ev_env (H := H) (H2 := H2)]
    split <;> rfl
  | pick c a b =>
    show (oPick _ c a b).noStop = ((oPick _ c a b).noStop).withH H2
    rw [← ns_withH]
    congr 1
    simp only [oPick, ev_env (H := H) (H2 := H2)]
    split
    · exact oMove_free _
    · exact oMove_free _
    · split
      · exact pickB_free _ _ _
      · rfl
    · rfl
  | build t parts =>
    show (oBuild T _ t parts.toList).noStop = ((oBuild T _ t parts.toList).noStop).withH H2
    rw [← ns_withH]
    congr 1
    simp only [oBuild, evParts_env (H := H) (H2 := H2)]
    split
    · exact aBuild_free _ _
    · rfl
  | buildSlice t n parts =>
    show (oBuildSlice T _ t n parts.toList).noStop = ((oBuildSlice T _ t n parts.toList).noStop).withH H2
    rw [← ns_withH]
    congr 1
    simp only [oBuildSlice, evParts_env (H := H) (H2 := H2)]
    split
    · exact aBuildSlice_free _ _ _
    · rfl
  | binOp op t x y yt =>
    show (oBin T _ op t x y).noStop = ((oBin T _ op t x y).noStop).withH H2
    rw [← ns_withH]
    congr 1
    simp only [oBin, ev_env (H := H) (H2 := H2)]
    split
    · exact aBin_free _ _ _ _
    · rfl
  | unOp op t x =>
    show (oUn _ op x).noStop = ((oUn _ op x).noStop).withH H2
    rw [← ns_withH]
    congr 1
    simp only [oUn, ev_env (H := H) (H2 := H2)]
    split
    · exact aUn_free _ _
    · rfl
  | convert t u x =>
    show (oConvert T _ t u x).noStop = ((oConvert T _ t u x).noStop).withH H2
    rw [← ns_withH]
    congr 1
    simp only [oConvert, ev_env (H := H) (H2 := H2)]
    split
    · exact aConvert_free _ _ _
    · rfl
  | makeFunc fn first caps =>
    show (oMakeFunc _ fn first.toList caps.toList).noStop = ((oMakeFunc _ fn first.toList caps.toList).noStop).withH H2
    rw [← ns_withH]
    congr 1
    simp only [oMakeFunc, evs_env (H := H) (H2 := H2)]
    split <;> rfl
  | slice t x lo hi mx =>
    show (oSlice T _ t x lo hi mx).noStop = ((oSlice T _ t x lo hi mx).noStop).withH H2
    rw [← ns_withH]
    congr 1
    simp only [oSlice, ev_env (H := H) (H2 := H2), evO_env (H := H) (H2 := H2)]
    split
    · exact aSlice_free _ _ _ _ _
    · rfl
  | fieldAddr t x f =>
    show (oFieldAddr T _ t x f).noStop = ((oFieldAddr T _ t x f).noStop).withH H2
    rw [← ns_withH]
    congr 1
    simp only [oFieldAddr, ev_env (H := H) (H2 := H2)]
    split
    · exact aFieldAddr_free _ _ _
    · rfl
  | field t x f =>
    show (oField T _ t x f).noStop = ((oField T _ t x f).noStop).withH H2
    rw [← ns_withH]
    congr 1
    simp only [oField, ev_env (H := H) (H2 := H2)]
    split
    · exact aField_free _ _ _
    · rfl
  | index t x ix =>
    show (oIndex T _ t x ix).noStop = ((oIndex T _ t x ix).noStop).withH H2
    rw [← ns_withH]
    congr 1
    simp only [oIndex, ev_env (H := H) (H2 := H2)]
    split
    · exact aIndex_free _ _ _
    · rfl
  | extract x ix =>
    show (oExtract _ x ix).noStop = ((oExtract _ x ix).noStop).withH H2
    rw [← ns_withH]
    congr 1
    simp only [oExtract, ev_env (H := H) (H2 := H2)]
    split
    · exact aExtract_free _ _
    · rfl
  | alloc t => cases ht
  | box t x => cases ht
  | load t x => cases ht
  | store t x v => cases ht
  | makeSlice t l c => cases ht
  | _ => rfl
theorem aLoad_H {i : TyI} {x u : AV} {H H' : List HB} (h : aLoad i x H = .val u H') : H' = H := by
  unfold aLoad at h
  split at h
  · split at h
    · split at h
      · cases h; rfl
      · cases h
    · cases h
  · split at h
    · cases h; rfl
    · cases h
  · cases h
theorem aLoad_c {i : TyI} {x u : AV} {H H' : List HB} {c : Prop} (h : aLoad i x H = .valc u H' c) : False := by
  unfold aLoad at h
  split at h
  · split at h
    · split at h <;> cases h
    · cases h
  · split at h <;> cases h
  · cases h
theorem noStop_val {o : Out} {v : AV} {H : List HB} (h : o.noStop = .val v H) : o = .val v H := by cases o <;> first | exact h | cases h
theorem noStop_valc {o : Out} {v : AV} {H : List HB} {c : Prop} (h : o.noStop = .valc v H c) : o = .valc v H c := by cases o <;> first | exact h | cases h
theorem exec1_H {s : St} {o : Op} (hw : writes o = false) {v : AV} {H : List HB} (h : exec1 T s o = .val v H ∨ ∃ c, exec1 T s o = .valc v H c) : H = s.H := by
  by_cases ht : touches o = false
  · have := exec1_free (T := T) (env := s.env) (H := s.H) (H2 := s.H) ht
    rcases h with h | ⟨c, h⟩
    · rw [show (⟨s.env, s.H⟩ : St) = s from rfl, h] at this
      simp only [Out.withH, Out.val.injEq, true_and] at this
      exact this
    · rw [show (⟨s.env, s.H⟩ : St) = s from rfl, h] at this
      simp only [Out.withH, Out.valc.injEq, true_and, and_true] at this
      exact this
  · cases o with
    | load t x =>
      have key : ∀ {r : Out}, r = oLoad T s t x → (r = .val v H ∨ ∃ c, r = .valc v H c) → H = s.H := by
        intro r hr hh
        unfold oLoad at hr
        split at hr
        · rcases hh with hh | ⟨c, hh⟩
          · exact aLoad_H (hr.symm.trans hh)
          · exact (aLoad_c (hr.symm.trans hh)).elim
        · rcases hh with hh | ⟨c, hh⟩ <;> (rw [hh] at hr; cases hr)
      refine key rfl ?_
      rcases h with h | ⟨c, h⟩
      · exact .inl (noStop_val h)
      · exact .inr ⟨c, noStop_valc h⟩
    | call c =>
      obtain ⟨callee, args, tys⟩ := c
      cases callee with
      | builtin b => cases b <;> first | exact absurd rfl ht | cases hw
      | value f => exact absurd rfl ht
      | invoke r m => exact absurd rfl ht
    | alloc t => cases hw
    | box t x => cases hw
    | store t x v => cases hw
    | makeSlice t l c => cases hw
    | _ => exact absurd rfl ht

end
end Go.Ab
