/- Tags. -/
import Derived.Test.YtcehdakofmhabaaGreatDoorAbLib
namespace Go.Proofs.YtcehdakofmhabaaGreatDoor.Ab
open Go Go.Ab Go.RowKit
set_option linter.unusedVariables false
set_option linter.unusedSimpArgs false
def caps : List UInt8 := [65, 66, 67, 68, 69, 70, 71, 72, 73, 74, 75, 76, 77, 78, 79, 80, 81, 82, 83, 84, 85, 86, 87, 88, 89, 90]
def tagSet : List UInt8 := [65, 66, 67, 68, 69, 70, 71, 72, 73, 74, 75, 76, 77, 78, 79, 80, 81, 82, 83, 84, 85, 86, 87, 88, 89, 90, 48, 49, 50, 51, 52, 53, 54, 55, 56, 57]
theorem isTagPart_ret (s : List UInt8) : Ret Tryz.prog 62 [.str s] [] (.bool (Lib.trimS s tagSet == [])) [] := by
  refine ret_of (fn := Tryz.f62) Tryz.func62 rfl rfl (Nat.le_of_ble_eq_true rfl) rfl ?_
  refine sCall (ctx _) 200 rfl trivial (ret_frame _ (trim_ret s tagSet (by decide) (by decide)) ⟨rfl, rfl, trivial⟩) ?_
  exact sRet (ctx _) 200 rfl trivial rfl ⟨rfl, trivial⟩
def ruleTag (s : List UInt8) : Bool := decide (s.length ≥ 2) && decide (s.length ≤ 6) && decide (Lib.indexByte caps (s.headD 0) ≥ 0) && (Lib.trimS s tagSet == [])
theorem isTag_ret (s : List UInt8) : Ret Tryz.prog 38 [.str s] [] (.bool (ruleTag s)) [] := by
  refine ret_of (fn := Tryz.f38) Tryz.func38 rfl rfl (Nat.le_of_ble_eq_true rfl) rfl ?_
  have hd : ∀ h : 0 < s.length, s.getD 0 0 = s.headD 0 := fun h => by cases s <;> rfl
  refine sGuard (ctx _) 200 rfl (by (repeat' (first | exact trivial | refine ⟨?_, ?_⟩ | intro _)) <;> (first | assumption | (rename_i hh; exact hh) | (rename_i hh; exact congrArg not hh) | (rename_i h1 h2; exact Bool.and_eq_true_iff.2 ⟨h1, h2⟩) | (rename_i h1 h2; exact Bool.and_eq_true_iff.2 ⟨h1, congrArg not h2⟩) | (rename_i hh; simp [gOf, hh]; done) | (simp_all [gOf]; done) | (simp_all [gOf]; omega))) (fun h => ?_) (fun h => ?_)
  · have hlen : 2 ≤ s.length ∧ s.length ≤ 6 := by simp at h; omega
    refine sCall (ctx _) 200 rfl (by (repeat' (first | exact trivial | refine ⟨?_, ?_⟩ | intro _)) <;> (first | assumption | (rename_i hh; exact hh) | (rename_i hh; exact congrArg not hh) | (rename_i h1 h2; exact Bool.and_eq_true_iff.2 ⟨h1, h2⟩) | (rename_i h1 h2; exact Bool.and_eq_true_iff.2 ⟨h1, congrArg not h2⟩) | (rename_i hh; simp [gOf, hh]; done) | (simp_all [gOf]; done) | (simp_all [gOf]; omega))) (ret_frame _ (indexByte_ret caps ((s.headD 0).toNat : Int)) ⟨rfl, ⟨by simp [gOf, h], rfl, ?_⟩, trivial⟩) ?_
    · show ((s.getD 0 0).toNat : Int) = _
      rw [hd (by omega)]
    refine sGuard (ctx _) 200 rfl (by (repeat' (first | exact trivial | refine ⟨?_, ?_⟩ | intro _)) <;> (first | assumption | (rename_i hh; exact hh) | (rename_i hh; exact congrArg not hh) | (rename_i h1 h2; exact Bool.and_eq_true_iff.2 ⟨h1, h2⟩) | (rename_i h1 h2; exact Bool.and_eq_true_iff.2 ⟨h1, congrArg not h2⟩) | (rename_i hh; simp [gOf, hh]; done) | (simp_all [gOf]; done) | (simp_all [gOf]; omega))) (fun h2 => ?_) (fun h2 => ?_)
    · refine sCall (ctx _) 200 rfl (by (repeat' (first | exact trivial | refine ⟨?_, ?_⟩ | intro _)) <;> (first | assumption | (rename_i hh; exact hh) | (rename_i hh; exact congrArg not hh) | (rename_i h1 h2; exact Bool.and_eq_true_iff.2 ⟨h1, h2⟩) | (rename_i h1 h2; exact Bool.and_eq_true_iff.2 ⟨h1, congrArg not h2⟩) | (rename_i hh; simp [gOf, hh]; done) | (simp_all [gOf]; done) | (simp_all [gOf]; omega))) (ret_frame _ (isTagPart_ret s) ⟨⟨h2, rfl⟩, trivial⟩) ?_
      refine sRet (ctx _) 200 rfl (by (repeat' (first | exact trivial | refine ⟨?_, ?_⟩ | intro _)) <;> (first | assumption | (rename_i hh; exact hh) | (rename_i hh; exact congrArg not hh) | (rename_i h1 h2; exact Bool.and_eq_true_iff.2 ⟨h1, h2⟩) | (rename_i h1 h2; exact Bool.and_eq_true_iff.2 ⟨h1, congrArg not h2⟩) | (rename_i hh; simp [gOf, hh]; done) | (simp_all [gOf]; done) | (simp_all [gOf]; omega))) rfl ⟨?_, trivial⟩
      show _ = ruleTag s
      simp at h2
      simp [ruleTag, hlen, h2]
    · refine sRet (ctx _) 200 rfl (by (repeat' (first | exact trivial | refine ⟨?_, ?_⟩ | intro _)) <;> (first | assumption | (rename_i hh; exact hh) | (rename_i hh; exact congrArg not hh) | (rename_i h1 h2; exact Bool.and_eq_true_iff.2 ⟨h1, h2⟩) | (rename_i h1 h2; exact Bool.and_eq_true_iff.2 ⟨h1, congrArg not h2⟩) | (rename_i hh; simp [gOf, hh]; done) | (simp_all [gOf]; done) | (simp_all [gOf]; omega))) rfl ⟨?_, trivial⟩
      simp at h2
      show ruleTag s = false
      simp [ruleTag]
      intro _ _ h3
      omega
  · refine sRet (ctx _) 200 rfl (by (repeat' (first | exact trivial | refine ⟨?_, ?_⟩ | intro _)) <;> (first | assumption | (rename_i hh; exact hh) | (rename_i hh; exact congrArg not hh) | (rename_i h1 h2; exact Bool.and_eq_true_iff.2 ⟨h1, h2⟩) | (rename_i h1 h2; exact Bool.and_eq_true_iff.2 ⟨h1, congrArg not h2⟩) | (rename_i hh; simp [gOf, hh]; done) | (simp_all [gOf]; done) | (simp_all [gOf]; omega))) rfl ⟨?_, trivial⟩
    show ruleTag s = false
    simp at h
    simp [ruleTag]
    intro h1 h2
    omega
def cap (b : UInt8) : Bool := decide (65 ≤ b.toNat) && decide (b.toNat ≤ 90)
def dig (b : UInt8) : Bool := decide (48 ≤ b.toNat) && decide (b.toNat ≤ 57)
def begL : Bool → List UInt8 → Bool
  | _, [] => true
  | f, b :: r => if (!cap b && (f || !dig b)) = true then false else begL false r
theorem beginsTag_ret (s : List UInt8) : Ret Tryz.prog 37 [.str s] [] (.bool (begL true s && decide (s.length ≤ 6))) [] := by
  refine ret_of (fn := Tryz.f37) Tryz.func37 rfl rfl (Nat.le_of_ble_eq_true rfl) rfl ?_
  refine sLoop (ctx _) 200 rfl trivial ?_
  refine awp_str 0 rfl (fun hlen => ?_)
  refine awp_loop (α := Nat) (fun i => ⟨[(0, .str s), (3, .int .i64 (i : Int))], []⟩) (fun i => i ≤ s.length ∧ begL (i == 0) (s.drop i) = begL true s) (fun i => s.length - i) 0
    ⟨Nat.zero_le _, rfl⟩ (fun _ _ => Nat.le_refl _) ⟨⟨rfl, ⟨rfl, rfl⟩, trivial⟩, trivial⟩ (fun i ⟨hi, hv⟩ IH => ?_)
  refine sSplit (ctx _) 200 rfl (by (repeat' (first | exact trivial | refine ⟨?_, ?_⟩ | intro _)) <;> (first | assumption | (rename_i hh; exact hh) | (rename_i hh; exact congrArg not hh) | (rename_i h1 h2; exact Bool.and_eq_true_iff.2 ⟨h1, h2⟩) | (rename_i h1 h2; exact Bool.and_eq_true_iff.2 ⟨h1, congrArg not h2⟩) | (rename_i hh; simp [gOf, hh]; done) | (simp_all [gOf]; done) | (simp_all [gOf]; omega))) (fun h => ?_) (fun h => ?_)
  · have h3 : i < s.length := by simp at h; omega
    have hb : s.getD (i : Int).toNat 0 = s[i] := by simp [List.getD, h3]
    rw [List.drop_eq_getElem_cons h3] at hv
    generalize s[i] = b at hb hv
    refine sSplit (ctx _) 200 rfl (by (repeat' (first | exact trivial | refine ⟨?_, ?_⟩ | intro _)) <;> (first | assumption | (rename_i hh; exact hh) | (rename_i hh; exact congrArg not hh) | (rename_i h1 h2; exact Bool.and_eq_true_iff.2 ⟨h1, h2⟩) | (rename_i h1 h2; exact Bool.and_eq_true_iff.2 ⟨h1, congrArg not h2⟩) | (rename_i hh; simp [gOf, hh]; done) | (simp_all [gOf]; done) | (simp_all [gOf]; omega))) (fun h4 => ?_) (fun h4 => ?_)
    · refine sRet (ctx _) 200 rfl (by (repeat' (first | exact trivial | refine ⟨?_, ?_⟩ | intro _)) <;> (first | assumption | (rename_i hh; exact hh) | (rename_i hh; exact congrArg not hh) | (rename_i h1 h2; exact Bool.and_eq_true_iff.2 ⟨h1, h2⟩) | (rename_i h1 h2; exact Bool.and_eq_true_iff.2 ⟨h1, congrArg not h2⟩) | (rename_i hh; simp [gOf, hh]; done) | (simp_all [gOf]; done) | (simp_all [gOf]; omega))) rfl ⟨?_, trivial⟩
      have h5 : (!cap b && ((i == 0) || !dig b)) = true := by
        rw [hb] at h4
        rw [← h4]
        simp only [cap, dig]
        rw [Bool.eq_iff_iff]
        simp
        omega
      rw [← hv]
      show (_ && _) = false
      simp [begL, h5]
    · refine sBack (ctx _) 200 rfl (by (repeat' (first | exact trivial | refine ⟨?_, ?_⟩ | intro _)) <;> (first | assumption | (rename_i hh; exact hh) | (rename_i hh; exact congrArg not hh) | (rename_i h1 h2; exact Bool.and_eq_true_iff.2 ⟨h1, h2⟩) | (rename_i h1 h2; exact Bool.and_eq_true_iff.2 ⟨h1, congrArg not h2⟩) | (rename_i hh; simp [gOf, hh]; done) | (simp_all [gOf]; done) | (simp_all [gOf]; omega))) ?_
      refine IH (i + 1) _ ⟨by omega, ?_⟩ (by omega) ⟨⟨rfl, ⟨rfl, ?_⟩, trivial⟩, trivial⟩
      · have h5 : (!cap b && ((i == 0) || !dig b)) = false := by
          rw [hb] at h4
          rw [← h4]
          simp only [cap, dig]
          rw [Bool.eq_iff_iff]
          simp
          omega
        rw [← hv, begL, h5]
        rfl
      · exact wrap_id (by omega) (by simp only [big] at hlen; omega)
  · have h3 : i = s.length := by simp at h; omega
    subst h3
    refine sRet (ctx _) 200 rfl (by (repeat' (first | exact trivial | refine ⟨?_, ?_⟩ | intro _)) <;> (first | assumption | (rename_i hh; exact hh) | (rename_i hh; exact congrArg not hh) | (rename_i h1 h2; exact Bool.and_eq_true_iff.2 ⟨h1, h2⟩) | (rename_i h1 h2; exact Bool.and_eq_true_iff.2 ⟨h1, congrArg not h2⟩) | (rename_i hh; simp [gOf, hh]; done) | (simp_all [gOf]; done) | (simp_all [gOf]; omega))) rfl ⟨?_, trivial⟩
    rw [← hv]
    show _ = _
    simp [begL]
    omega
theorem ref_isTag_ret (s : List UInt8) : Ret Tryz.prog 17 [.str s] [] (.bool (decide (s.length ≥ 2) && (begL true s && decide (s.length ≤ 6)))) [] := by
  refine ret_of (fn := Tryz.f17) Tryz.func17 rfl rfl (Nat.le_of_ble_eq_true rfl) rfl ?_
  refine sGuard (ctx _) 200 rfl (by (repeat' (first | exact trivial | refine ⟨?_, ?_⟩ | intro _)) <;> (first | assumption | (rename_i hh; exact hh) | (rename_i hh; exact congrArg not hh) | (rename_i h1 h2; exact Bool.and_eq_true_iff.2 ⟨h1, h2⟩) | (rename_i h1 h2; exact Bool.and_eq_true_iff.2 ⟨h1, congrArg not h2⟩) | (rename_i hh; simp [gOf, hh]; done) | (simp_all [gOf]; done) | (simp_all [gOf]; omega))) (fun h => ?_) (fun h => ?_)
  · refine sCall (ctx _) 200 rfl (by (repeat' (first | exact trivial | refine ⟨?_, ?_⟩ | intro _)) <;> (first | assumption | (rename_i hh; exact hh) | (rename_i hh; exact congrArg not hh) | (rename_i h1 h2; exact Bool.and_eq_true_iff.2 ⟨h1, h2⟩) | (rename_i h1 h2; exact Bool.and_eq_true_iff.2 ⟨h1, congrArg not h2⟩) | (rename_i hh; simp [gOf, hh]; done) | (simp_all [gOf]; done) | (simp_all [gOf]; omega))) (ret_frame _ (beginsTag_ret s) ⟨⟨h, rfl⟩, trivial⟩) ?_
    refine sRet (ctx _) 200 rfl (by (repeat' (first | exact trivial | refine ⟨?_, ?_⟩ | intro _)) <;> (first | assumption | (rename_i hh; exact hh) | (rename_i hh; exact congrArg not hh) | (rename_i h1 h2; exact Bool.and_eq_true_iff.2 ⟨h1, h2⟩) | (rename_i h1 h2; exact Bool.and_eq_true_iff.2 ⟨h1, congrArg not h2⟩) | (rename_i hh; simp [gOf, hh]; done) | (simp_all [gOf]; done) | (simp_all [gOf]; omega))) rfl ⟨?_, trivial⟩
    simp at h
    show _ = _
    simp
    intros
    omega
  · refine sRet (ctx _) 200 rfl (by (repeat' (first | exact trivial | refine ⟨?_, ?_⟩ | intro _)) <;> (first | assumption | (rename_i hh; exact hh) | (rename_i hh; exact congrArg not hh) | (rename_i h1 h2; exact Bool.and_eq_true_iff.2 ⟨h1, h2⟩) | (rename_i h1 h2; exact Bool.and_eq_true_iff.2 ⟨h1, congrArg not h2⟩) | (rename_i hh; simp [gOf, hh]; done) | (simp_all [gOf]; done) | (simp_all [gOf]; omega))) rfl ⟨?_, trivial⟩
    simp at h
    show _ = _
    simp
    intro h1
    omega
end Go.Proofs.YtcehdakofmhabaaGreatDoor.Ab
