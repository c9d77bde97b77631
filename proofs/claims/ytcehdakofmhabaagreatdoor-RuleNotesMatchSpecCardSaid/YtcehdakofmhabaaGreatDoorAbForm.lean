/- A condition's form. -/
import Derived.Test.YtcehdakofmhabaaGreatDoorAbA
namespace Go.Proofs.YtcehdakofmhabaaGreatDoor.Ab
open Go Go.Ab Go.RowKit
set_option linter.unusedVariables false
set_option linter.unusedSimpArgs false
def useOf (k : Int) : Bool := k == 1 || k == 2 || k == 3 || k == 7 || k == 8
def overK (k : Int) : Bool := k == 7 || k == 8
def formB (k : Int) (no nv : Nat) (p : List UInt8) (lo hi : Int) : Bool :=
  if ((!useOf k && decide (no > 0)) || (!decide (k ≥ 4) && !(p == [])) || (!(k == 5) && decide (nv > 0)) || (!(k == 6 || k == 9) && (lo != 0 || hi != 0))) = true then true
  else useOf k && (no == 0 || ((k == 3 || overK k) && no != 1))
theorem formFault_ret (k : Int) (of : List Cond) (p : List UInt8) (v : List (List UInt8)) (lo hi : Int) : Ret Tryz.prog 54 [encC (.mk k of p v lo hi)] [] (.bool (formB k of.length v.length p lo hi)) [] := by
  refine ret_of (fn := Tryz.f54) Tryz.func54 rfl rfl (Nat.le_of_ble_eq_true rfl) rfl ?_
  refine sCall (ctx _) 200 rfl (by (repeat' (first | exact trivial | refine ⟨?_, ?_⟩ | intro _)) <;> (first | assumption | (rename_i hh; exact hh) | (rename_i hh; exact congrArg not hh) | (rename_i h1 h2; exact Bool.and_eq_true_iff.2 ⟨h1, h2⟩) | (rename_i h1 h2; exact Bool.and_eq_true_iff.2 ⟨h1, congrArg not h2⟩) | (rename_i hh; simp [gOf, hh]; done) | (simp_all [gOf]; done) | (simp_all [gOf]; omega))) (ret_frame _ (usesOf_ret k) ⟨⟨rfl, rfl⟩, trivial⟩) ?_
  have e1 : decide (((encL of).length : Int) > 0) = decide (of.length > 0) := by rw [encL_eq, List.length_map]; simp
  have e2 : decide (((v.map AV.str).length : Int) > 0) = decide (v.length > 0) := by simp
  have e3 : (((encL of).length : Int) == 0) = (of.length == 0) := by
    rw [encL_eq, List.length_map, Bool.eq_iff_iff]; simp
  have e4 : (((encL of).length : Int) != 1) = (of.length != 1) := by
    rw [encL_eq, List.length_map, Bool.eq_iff_iff]; simp; omega
  have key : ∀ a b c d e f g x y : Bool, ((!a && b) || (!c && !d) || (!e && f) || (!g && (x || y))) = (bif bif bif bif !a then b else false then true else bif !c then !d else false then true else bif !e then f else false then true else bif !g then bif x then true else y else false) := by decide
  refine sSplit (ctx _) 200 rfl (by (repeat' (first | exact trivial | refine ⟨?_, ?_⟩ | intro _)) <;> (first | assumption | (rename_i hh; exact hh) | (rename_i hh; exact congrArg not hh) | (rename_i h1 h2; exact Bool.and_eq_true_iff.2 ⟨h1, h2⟩) | (rename_i h1 h2; exact Bool.and_eq_true_iff.2 ⟨h1, congrArg not h2⟩) | (rename_i hh; simp [gOf, hh]; done) | (simp_all [gOf]; done) | (simp_all [gOf]; omega))) (fun h => ?_) (fun h => ?_)
  · refine sRet (ctx _) 200 rfl trivial rfl ⟨?_, trivial⟩
    show formB _ _ _ _ _ _ = true
    rw [formB, if_pos]
    rw [e1, e2, ← key] at h
    exact h
  · have hF : formB k of.length v.length p lo hi = (useOf k && (of.length == 0 || ((k == 3 || overK k) && of.length != 1))) := by
      rw [formB, if_neg]
      rw [e1, e2, ← key] at h
      intro h0
      exact Bool.noConfusion (h.symm.trans h0)
    have key2 : ∀ a b c d : Bool, (bif a then bif b then true else bif c then d else false else false) = (a && (b || (c && d))) := by decide
    clear h
    refine sGuard (ctx _) 200 rfl (by (repeat' (first | exact trivial | refine ⟨?_, ?_⟩ | intro _)) <;> (first | assumption | (rename_i hh; exact hh) | (rename_i hh; exact congrArg not hh) | (rename_i h1 h2; exact Bool.and_eq_true_iff.2 ⟨h1, h2⟩) | (rename_i h1 h2; exact Bool.and_eq_true_iff.2 ⟨h1, congrArg not h2⟩) | (rename_i hh; simp [gOf, hh]; done) | (simp_all [gOf]; done) | (simp_all [gOf]; omega))) (fun h2 => ?_) (fun h2 => ?_)
    · refine sHalt (ctx _) 5 rfl trivial ?_
      refine awp_tt 4 rfl ?_
      refine sRet (ctx _) 200 rfl (by (repeat' (first | exact trivial | refine ⟨?_, ?_⟩ | intro _)) <;> (first | assumption | (rename_i hh; exact hh) | (rename_i hh; exact congrArg not hh) | (rename_i h1 h2; exact Bool.and_eq_true_iff.2 ⟨h1, h2⟩) | (rename_i h1 h2; exact Bool.and_eq_true_iff.2 ⟨h1, congrArg not h2⟩) | (rename_i hh; simp [gOf, hh]; done) | (simp_all [gOf]; done) | (simp_all [gOf]; omega))) rfl ⟨?_, trivial⟩
      show _ = formB _ _ _ _ _ _
      rw [hF, e3, e4]
      show (bif useOf k then bif of.length == 0 then true else bif true then of.length != 1 else false else false) = _
      rw [key2, h2]
      rfl
    · refine sCall (ctx _) 200 rfl (by (repeat' (first | exact trivial | refine ⟨?_, ?_⟩ | intro _)) <;> (first | assumption | (rename_i hh; exact hh) | (rename_i hh; exact congrArg not hh) | (rename_i h1 h2; exact Bool.and_eq_true_iff.2 ⟨h1, h2⟩) | (rename_i h1 h2; exact Bool.and_eq_true_iff.2 ⟨h1, congrArg not h2⟩) | (rename_i hh; simp [gOf, hh]; done) | (simp_all [gOf]; done) | (simp_all [gOf]; omega))) (ret_frame _ (isOver_ret k) ⟨⟨congrArg not h2, rfl, rfl⟩, trivial⟩) ?_
      refine sRet (ctx _) 200 rfl (by (repeat' (first | exact trivial | refine ⟨?_, ?_⟩ | intro _)) <;> (first | assumption | (rename_i hh; exact hh) | (rename_i hh; exact congrArg not hh) | (rename_i h1 h2; exact Bool.and_eq_true_iff.2 ⟨h1, h2⟩) | (rename_i h1 h2; exact Bool.and_eq_true_iff.2 ⟨h1, congrArg not h2⟩) | (rename_i hh; simp [gOf, hh]; done) | (simp_all [gOf]; done) | (simp_all [gOf]; omega))) rfl ⟨?_, trivial⟩
      show _ = formB _ _ _ _ _ _
      rw [hF, e3, e4]
      show (bif useOf k then bif of.length == 0 then true else bif overK k then of.length != 1 else false else false) = _
      rw [key2, h2]
      rfl
end Go.Proofs.YtcehdakofmhabaaGreatDoor.Ab
