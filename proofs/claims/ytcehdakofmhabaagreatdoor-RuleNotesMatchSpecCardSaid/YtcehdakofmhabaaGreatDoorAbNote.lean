/- What is wrong with a note. -/
import Derived.Test.YtcehdakofmhabaaGreatDoorAbTag
import Derived.Test.YtcehdakofmhabaaGreatDoorAbA
namespace Go.Proofs.YtcehdakofmhabaaGreatDoor.Ab
open Go Go.Ab Go.RowKit
set_option linter.unusedVariables false
set_option linter.unusedSimpArgs false
def idxI : Nat → List Int → Int → Int
  | _, [], _ => -1
  | i, x :: r, v => if v == x then (i : Int) else idxI (i + 1) r v
theorem idxI_ge : ∀ (l : List Int) (i : Nat) (v : Int), decide (idxI i l v ≥ 0) = l.contains v
  | [], i, v => rfl
  | x :: r, i, v => by
    rw [idxI, List.contains_cons]
    cases h : v == x
    · simp only [Bool.false_eq_true, if_false, Bool.false_or]; exact idxI_ge r (i + 1) v
    · simp
theorem index_int_ret (l : List Int) (v : Int) : Ret Tryz.prog 64 [.row 1 (l.map (.int .i64)) .no, .int .i64 v] [] (.int .i64 (idxI 0 l v)) [] := by
  refine ret_of (fn := Tryz.f64) Tryz.func64 rfl rfl (Nat.le_of_ble_eq_true rfl) rfl ?_
  refine sLoop (ctx _) 200 rfl trivial ?_
  refine awp_len 0 rfl (fun hlen => ?_)
  rw [List.length_map] at hlen
  refine awp_loop (α := Nat) (fun i => ⟨[(0, .row 1 (l.map (.int .i64)) .no), (1, .int .i64 v), (7, .int .i64 l.length), (8, .int .i64 (i : Int))], []⟩) (fun i => i ≤ l.length ∧ idxI i (l.drop i) v = idxI 0 l v) (fun i => l.length - i) 0
    ⟨Nat.zero_le _, rfl⟩ (fun _ _ => Nat.le_refl _) ⟨⟨⟨trivial, .inr rfl, rfl⟩, ⟨rfl, rfl⟩, ⟨rfl, by simp⟩, ⟨rfl, rfl⟩, trivial⟩, trivial⟩ (fun i ⟨hi, hv⟩ IH => ?_)
  refine sSplit (ctx _) 200 rfl (by (repeat' (first | exact trivial | refine ⟨?_, ?_⟩ | intro _)) <;> (first | assumption | (rename_i hh; exact hh) | (rename_i hh; exact congrArg not hh) | (rename_i h1 h2; exact Bool.and_eq_true_iff.2 ⟨h1, h2⟩) | (rename_i h1 h2; exact Bool.and_eq_true_iff.2 ⟨h1, congrArg not h2⟩) | (rename_i hh; simp [gOf, hh]; done) | (simp_all [gOf]; done) | (simp_all [gOf]; omega))) (fun h => ?_) (fun h => ?_)
  · have h3 : i < l.length := by simp at h; omega
    rw [List.drop_eq_getElem_cons h3, idxI] at hv
    refine sElem (ctx _) 200 rfl (by (repeat' (first | exact trivial | refine ⟨?_, ?_⟩ | intro _)) <;> (first | assumption | (rename_i hh; exact hh) | (rename_i hh; exact congrArg not hh) | (rename_i h1 h2; exact Bool.and_eq_true_iff.2 ⟨h1, h2⟩) | (rename_i h1 h2; exact Bool.and_eq_true_iff.2 ⟨h1, congrArg not h2⟩) | (rename_i hh; simp [gOf, hh]; done) | (simp_all [gOf]; done) | (simp_all [gOf]; omega))) (Int.natCast_nonneg _) (.int .i64 l[i]) (by simp [h3]) ?_
    refine sSplit (ctx _) 200 rfl (by (repeat' (first | exact trivial | refine ⟨?_, ?_⟩ | intro _)) <;> (first | assumption | (rename_i hh; exact hh) | (rename_i hh; exact congrArg not hh) | (rename_i h1 h2; exact Bool.and_eq_true_iff.2 ⟨h1, h2⟩) | (rename_i h1 h2; exact Bool.and_eq_true_iff.2 ⟨h1, congrArg not h2⟩) | (rename_i hh; simp [gOf, hh]; done) | (simp_all [gOf]; done) | (simp_all [gOf]; omega))) (fun h4 => ?_) (fun h4 => ?_)
    · refine sRet (ctx _) 200 rfl (by (repeat' (first | exact trivial | refine ⟨?_, ?_⟩ | intro _)) <;> (first | assumption | (rename_i hh; exact hh) | (rename_i hh; exact congrArg not hh) | (rename_i h1 h2; exact Bool.and_eq_true_iff.2 ⟨h1, h2⟩) | (rename_i h1 h2; exact Bool.and_eq_true_iff.2 ⟨h1, congrArg not h2⟩) | (rename_i hh; simp [gOf, hh]; done) | (simp_all [gOf]; done) | (simp_all [gOf]; omega))) rfl ⟨⟨rfl, ?_⟩, trivial⟩
      rw [if_pos h4] at hv
      exact hv
    · rw [if_neg (by rw [h4]; simp)] at hv
      refine sBack (ctx _) 200 rfl (by (repeat' (first | exact trivial | refine ⟨?_, ?_⟩ | intro _)) <;> (first | assumption | (rename_i hh; exact hh) | (rename_i hh; exact congrArg not hh) | (rename_i h1 h2; exact Bool.and_eq_true_iff.2 ⟨h1, h2⟩) | (rename_i h1 h2; exact Bool.and_eq_true_iff.2 ⟨h1, congrArg not h2⟩) | (rename_i hh; simp [gOf, hh]; done) | (simp_all [gOf]; done) | (simp_all [gOf]; omega))) ?_
      refine IH (i + 1) _ ⟨by omega, hv⟩ (by omega) ⟨⟨⟨trivial, .inr rfl, rfl⟩, ⟨rfl, rfl⟩, ⟨rfl, rfl⟩, ⟨rfl, ?_⟩, trivial⟩, trivial⟩
      exact wrap_id (by omega) (by simp only [big] at hlen; omega)
  · have h3 : i = l.length := by simp at h; omega
    subst h3
    refine sRet (ctx _) 200 rfl (by (repeat' (first | exact trivial | refine ⟨?_, ?_⟩ | intro _)) <;> (first | assumption | (rename_i hh; exact hh) | (rename_i hh; exact congrArg not hh) | (rename_i h1 h2; exact Bool.and_eq_true_iff.2 ⟨h1, h2⟩) | (rename_i h1 h2; exact Bool.and_eq_true_iff.2 ⟨h1, congrArg not h2⟩) | (rename_i hh; simp [gOf, hh]; done) | (simp_all [gOf]; done) | (simp_all [gOf]; omega))) rfl ⟨⟨rfl, ?_⟩, trivial⟩
    rw [← hv]; simp [idxI]
theorem contains_int_ret (l : List Int) (v : Int) : Ret Tryz.prog 41 [.row 1 (l.map (.int .i64)) .no, .int .i64 v] [] (.bool (l.contains v)) [] := by
  refine ret_of (fn := Tryz.f41) Tryz.func41 rfl rfl (Nat.le_of_ble_eq_true rfl) rfl ?_
  refine sCall (ctx _) 200 rfl (by (repeat' (first | exact trivial | refine ⟨?_, ?_⟩ | intro _)) <;> (first | assumption | (rename_i hh; exact hh) | (rename_i hh; exact congrArg not hh) | (rename_i h1 h2; exact Bool.and_eq_true_iff.2 ⟨h1, h2⟩) | (rename_i h1 h2; exact Bool.and_eq_true_iff.2 ⟨h1, congrArg not h2⟩) | (rename_i hh; simp [gOf, hh]; done) | (simp_all [gOf]; done) | (simp_all [gOf]; omega))) (ret_frame _ (index_int_ret l v) ⟨⟨trivial, .inr rfl, rfl⟩, ⟨rfl, rfl⟩, trivial⟩) ?_
  refine sRet (ctx _) 200 rfl (by (repeat' (first | exact trivial | refine ⟨?_, ?_⟩ | intro _)) <;> (first | assumption | (rename_i hh; exact hh) | (rename_i hh; exact congrArg not hh) | (rename_i h1 h2; exact Bool.and_eq_true_iff.2 ⟨h1, h2⟩) | (rename_i h1 h2; exact Bool.and_eq_true_iff.2 ⟨h1, congrArg not h2⟩) | (rename_i hh; simp [gOf, hh]; done) | (simp_all [gOf]; done) | (simp_all [gOf]; omega))) rfl ⟨?_, trivial⟩
  exact idxI_ge l 0 v
theorem contains_ret (s t : List UInt8) (hs : s.length < 4294967281) : Ret Tryz.prog 39 [.str s, .str t] [] (.bool (decide (Lib.index s t ≥ 0))) [] := by
  refine ret_of (fn := Tryz.f39) Tryz.func39 rfl rfl (Nat.le_of_ble_eq_true rfl) rfl ?_
  refine sCall (ctx _) 200 rfl (by (repeat' (first | exact trivial | refine ⟨?_, ?_⟩ | intro _)) <;> (first | assumption | (rename_i hh; exact hh) | (rename_i hh; exact congrArg not hh) | (rename_i h1 h2; exact Bool.and_eq_true_iff.2 ⟨h1, h2⟩) | (rename_i h1 h2; exact Bool.and_eq_true_iff.2 ⟨h1, congrArg not h2⟩) | (rename_i hh; simp [gOf, hh]; done) | (simp_all [gOf]; done) | (simp_all [gOf]; omega))) (ret_frame _ (index_ret s t hs) ⟨rfl, rfl, trivial⟩) ?_
  exact sRet (ctx _) 200 rfl (by (repeat' (first | exact trivial | refine ⟨?_, ?_⟩ | intro _)) <;> (first | assumption | (rename_i hh; exact hh) | (rename_i hh; exact congrArg not hh) | (rename_i h1 h2; exact Bool.and_eq_true_iff.2 ⟨h1, h2⟩) | (rename_i h1 h2; exact Bool.and_eq_true_iff.2 ⟨h1, congrArg not h2⟩) | (rename_i hh; simp [gOf, hh]; done) | (simp_all [gOf]; done) | (simp_all [gOf]; omega))) rfl ⟨rfl, trivial⟩
def noteKind (k : Int) : Bool := decide (Lib.index [80, 82, 69, 67, 76] (Utf8.encode k).data.toList ≥ 0)
def noteL : List Int → List Int → Int
  | _, [] => 0
  | s, n :: r => if n < 1 ∨ n > 50 then 1 else if s.contains n = true then 7 else noteL (s ++ [n]) r
def noteF (tag : List UInt8) (k : Int) (l : List Int) : Int := if ruleTag tag = false then 5 else if noteKind k = false then 4 else if l.length > 10 then 2 else if l.length < 2 then 9 else noteL [] l
theorem noteFault_ret (tag : List UInt8) (k : Int) (l : List Int) : Ret Tryz.prog 23 [.str tag, .int .u8 k, .row 1 (l.map (.int .i64)) .no] [] (.int .i64 (noteF tag k l)) [] := by
  obtain ⟨F, hF0⟩ : ∃ F, F = noteF tag k l := ⟨_, rfl⟩
  rw [← hF0]
  refine ret_of (fn := Tryz.f23) Tryz.func23 rfl rfl (Nat.le_of_ble_eq_true rfl) rfl ?_
  refine sCall (ctx _) 200 rfl (by (repeat' (first | exact trivial | refine ⟨?_, ?_⟩ | intro _)) <;> (first | assumption | (rename_i hh; exact hh) | (rename_i hh; exact congrArg not hh) | (rename_i h1 h2; exact Bool.and_eq_true_iff.2 ⟨h1, h2⟩) | (rename_i h1 h2; exact Bool.and_eq_true_iff.2 ⟨h1, congrArg not h2⟩) | (rename_i hh; simp [gOf, hh]; done) | (simp_all [gOf]; done) | (simp_all [gOf]; omega))) (ret_frame _ (isTag_ret tag) ⟨rfl, trivial⟩) ?_
  refine sSplit (ctx _) 200 rfl (by (repeat' (first | exact trivial | refine ⟨?_, ?_⟩ | intro _)) <;> (first | assumption | (rename_i hh; exact hh) | (rename_i hh; exact congrArg not hh) | (rename_i h1 h2; exact Bool.and_eq_true_iff.2 ⟨h1, h2⟩) | (rename_i h1 h2; exact Bool.and_eq_true_iff.2 ⟨h1, congrArg not h2⟩) | (rename_i hh; simp [gOf, hh]; done) | (simp_all [gOf]; done) | (simp_all [gOf]; omega))) (fun h1 => ?_) (fun h1 => ?_)
  · have h1' : ruleTag tag = false := by simpa using h1
    refine sRet (ctx _) 200 rfl (by (repeat' (first | exact trivial | refine ⟨?_, ?_⟩ | intro _)) <;> (first | assumption | (rename_i hh; exact hh) | (rename_i hh; exact congrArg not hh) | (rename_i h1 h2; exact Bool.and_eq_true_iff.2 ⟨h1, h2⟩) | (rename_i h1 h2; exact Bool.and_eq_true_iff.2 ⟨h1, congrArg not h2⟩) | (rename_i hh; simp [gOf, hh]; done) | (simp_all [gOf]; done) | (simp_all [gOf]; omega))) rfl ⟨⟨rfl, ?_⟩, trivial⟩
    rw [hF0]; simp [noteF, h1']
  have h1' : ruleTag tag = true := by simpa using h1
  clear h1
  refine sCall (ctx _) 200 rfl (by (repeat' (first | exact trivial | refine ⟨?_, ?_⟩ | intro _)) <;> (first | assumption | (rename_i hh; exact hh) | (rename_i hh; exact congrArg not hh) | (rename_i h1 h2; exact Bool.and_eq_true_iff.2 ⟨h1, h2⟩) | (rename_i h1 h2; exact Bool.and_eq_true_iff.2 ⟨h1, congrArg not h2⟩) | (rename_i hh; simp [gOf, hh]; done) | (simp_all [gOf]; done) | (simp_all [gOf]; omega))) (ret_frame _ (contains_ret _ _ (by decide)) ⟨rfl, rfl, trivial⟩) ?_
  refine sSplit (ctx _) 200 rfl (by (repeat' (first | exact trivial | refine ⟨?_, ?_⟩ | intro _)) <;> (first | assumption | (rename_i hh; exact hh) | (rename_i hh; exact congrArg not hh) | (rename_i h1 h2; exact Bool.and_eq_true_iff.2 ⟨h1, h2⟩) | (rename_i h1 h2; exact Bool.and_eq_true_iff.2 ⟨h1, congrArg not h2⟩) | (rename_i hh; simp [gOf, hh]; done) | (simp_all [gOf]; done) | (simp_all [gOf]; omega))) (fun h2 => ?_) (fun h2 => ?_)
  · have h2' : noteKind k = false := by simpa [noteKind] using h2
    refine sRet (ctx _) 200 rfl (by (repeat' (first | exact trivial | refine ⟨?_, ?_⟩ | intro _)) <;> (first | assumption | (rename_i hh; exact hh) | (rename_i hh; exact congrArg not hh) | (rename_i h1 h2; exact Bool.and_eq_true_iff.2 ⟨h1, h2⟩) | (rename_i h1 h2; exact Bool.and_eq_true_iff.2 ⟨h1, congrArg not h2⟩) | (rename_i hh; simp [gOf, hh]; done) | (simp_all [gOf]; done) | (simp_all [gOf]; omega))) rfl ⟨⟨rfl, ?_⟩, trivial⟩
    rw [hF0]; simp [noteF, h1', h2']
  have h2' : noteKind k = true := by simpa [noteKind] using h2
  clear h2
  refine sSplit (ctx _) 200 rfl (by (repeat' (first | exact trivial | refine ⟨?_, ?_⟩ | intro _)) <;> (first | assumption | (rename_i hh; exact hh) | (rename_i hh; exact congrArg not hh) | (rename_i h1 h2; exact Bool.and_eq_true_iff.2 ⟨h1, h2⟩) | (rename_i h1 h2; exact Bool.and_eq_true_iff.2 ⟨h1, congrArg not h2⟩) | (rename_i hh; simp [gOf, hh]; done) | (simp_all [gOf]; done) | (simp_all [gOf]; omega))) (fun h3 => ?_) (fun h3 => ?_)
  · have h3' : l.length > 10 := by simp at h3; omega
    refine sRet (ctx _) 200 rfl (by (repeat' (first | exact trivial | refine ⟨?_, ?_⟩ | intro _)) <;> (first | assumption | (rename_i hh; exact hh) | (rename_i hh; exact congrArg not hh) | (rename_i h1 h2; exact Bool.and_eq_true_iff.2 ⟨h1, h2⟩) | (rename_i h1 h2; exact Bool.and_eq_true_iff.2 ⟨h1, congrArg not h2⟩) | (rename_i hh; simp [gOf, hh]; done) | (simp_all [gOf]; done) | (simp_all [gOf]; omega))) rfl ⟨⟨rfl, ?_⟩, trivial⟩
    rw [hF0]; simp [noteF, h1', h2', h3']
  have h3' : ¬ l.length > 10 := by simp at h3; omega
  refine sSplit (ctx _) 200 rfl (by (repeat' (first | exact trivial | refine ⟨?_, ?_⟩ | intro _)) <;> (first | assumption | (rename_i hh; exact hh) | (rename_i hh; exact congrArg not hh) | (rename_i h1 h2; exact Bool.and_eq_true_iff.2 ⟨h1, h2⟩) | (rename_i h1 h2; exact Bool.and_eq_true_iff.2 ⟨h1, congrArg not h2⟩) | (rename_i hh; simp [gOf, hh]; done) | (simp_all [gOf]; done) | (simp_all [gOf]; omega))) (fun h4 => ?_) (fun h4 => ?_)
  · have h4' : l.length < 2 := by simp at h4; omega
    refine sRet (ctx _) 200 rfl (by (repeat' (first | exact trivial | refine ⟨?_, ?_⟩ | intro _)) <;> (first | assumption | (rename_i hh; exact hh) | (rename_i hh; exact congrArg not hh) | (rename_i h1 h2; exact Bool.and_eq_true_iff.2 ⟨h1, h2⟩) | (rename_i h1 h2; exact Bool.and_eq_true_iff.2 ⟨h1, congrArg not h2⟩) | (rename_i hh; simp [gOf, hh]; done) | (simp_all [gOf]; done) | (simp_all [gOf]; omega))) rfl ⟨⟨rfl, ?_⟩, trivial⟩
    rw [hF0]; simp [noteF, h1', h2', h3', h4']
  have h4' : ¬ l.length < 2 := by simp at h4; omega
  have hF : noteF tag k l = noteL [] l := by simp [noteF, h1', h2', h3', h4']
  rw [hF] at hF0
  clear h3 h4
  refine sLoop (ctx _) 200 rfl (by (repeat' (first | exact trivial | refine ⟨?_, ?_⟩ | intro _)) <;> (first | assumption | (rename_i hh; exact hh) | (rename_i hh; exact congrArg not hh) | (rename_i h1 h2; exact Bool.and_eq_true_iff.2 ⟨h1, h2⟩) | (rename_i h1 h2; exact Bool.and_eq_true_iff.2 ⟨h1, congrArg not h2⟩) | (rename_i hh; simp [gOf, hh]; done) | (simp_all [gOf]; done) | (simp_all [gOf]; omega))) ?_
  refine awp_loop (α := Nat) (fun i => ⟨[(2, .row 1 (l.map (.int .i64)) .no), (26, .row 1 (l.map (.int .i64)) .no), (27, .int .i64 l.length), (28, .int .i64 (i : Int))], []⟩) (fun i => i ≤ l.length ∧ noteL (l.take i) (l.drop i) = F) (fun i => l.length - i) 0
    ⟨Nat.zero_le _, hF0.symm⟩ (fun _ _ => Nat.le_refl _) ⟨⟨⟨trivial, .inr rfl, rfl⟩, ⟨trivial, .inr rfl, rfl⟩, ⟨rfl, by simp⟩, ⟨rfl, rfl⟩, trivial⟩, trivial⟩ (fun i ⟨hi, hv⟩ IH => ?_)
  refine sSplit (ctx _) 200 rfl (by (repeat' (first | exact trivial | refine ⟨?_, ?_⟩ | intro _)) <;> (first | assumption | (rename_i hh; exact hh) | (rename_i hh; exact congrArg not hh) | (rename_i h1 h2; exact Bool.and_eq_true_iff.2 ⟨h1, h2⟩) | (rename_i h1 h2; exact Bool.and_eq_true_iff.2 ⟨h1, congrArg not h2⟩) | (rename_i hh; simp [gOf, hh]; done) | (simp_all [gOf]; done) | (simp_all [gOf]; omega))) (fun h => ?_) (fun h => ?_)
  · have h5 : i < l.length := by simp at h; omega
    rw [List.drop_eq_getElem_cons h5, noteL] at hv
    refine sElem (ctx _) 200 rfl (by (repeat' (first | exact trivial | refine ⟨?_, ?_⟩ | intro _)) <;> (first | assumption | (rename_i hh; exact hh) | (rename_i hh; exact congrArg not hh) | (rename_i h1 h2; exact Bool.and_eq_true_iff.2 ⟨h1, h2⟩) | (rename_i h1 h2; exact Bool.and_eq_true_iff.2 ⟨h1, congrArg not h2⟩) | (rename_i hh; simp [gOf, hh]; done) | (simp_all [gOf]; done) | (simp_all [gOf]; omega))) (Int.natCast_nonneg _) (.int .i64 l[i]) (by simp [h5]) ?_
    refine sCall (ctx _) 200 rfl (by (repeat' (first | exact trivial | refine ⟨?_, ?_⟩ | intro _)) <;> (first | assumption | (rename_i hh; exact hh) | (rename_i hh; exact congrArg not hh) | (rename_i h1 h2; exact Bool.and_eq_true_iff.2 ⟨h1, h2⟩) | (rename_i h1 h2; exact Bool.and_eq_true_iff.2 ⟨h1, congrArg not h2⟩) | (rename_i hh; simp [gOf, hh]; done) | (simp_all [gOf]; done) | (simp_all [gOf]; omega))) (ret_frame _ (outside_ret l[i] 1 50) ⟨⟨rfl, rfl⟩, ⟨rfl, rfl⟩, ⟨rfl, rfl⟩, trivial⟩) ?_
    refine sSplit (ctx _) 200 rfl (by (repeat' (first | exact trivial | refine ⟨?_, ?_⟩ | intro _)) <;> (first | assumption | (rename_i hh; exact hh) | (rename_i hh; exact congrArg not hh) | (rename_i h1 h2; exact Bool.and_eq_true_iff.2 ⟨h1, h2⟩) | (rename_i h1 h2; exact Bool.and_eq_true_iff.2 ⟨h1, congrArg not h2⟩) | (rename_i hh; simp [gOf, hh]; done) | (simp_all [gOf]; done) | (simp_all [gOf]; omega))) (fun h6 => ?_) (fun h6 => ?_)
    · refine sRet (ctx _) 200 rfl (by (repeat' (first | exact trivial | refine ⟨?_, ?_⟩ | intro _)) <;> (first | assumption | (rename_i hh; exact hh) | (rename_i hh; exact congrArg not hh) | (rename_i h1 h2; exact Bool.and_eq_true_iff.2 ⟨h1, h2⟩) | (rename_i h1 h2; exact Bool.and_eq_true_iff.2 ⟨h1, congrArg not h2⟩) | (rename_i hh; simp [gOf, hh]; done) | (simp_all [gOf]; done) | (simp_all [gOf]; omega))) rfl ⟨⟨rfl, ?_⟩, trivial⟩
      rw [if_pos (by simpa using h6)] at hv
      exact hv
    rw [if_neg (by simpa using h6)] at hv
    refine sCall (ctx _) 200 rfl (by (repeat' (first | exact trivial | refine ⟨?_, ?_⟩ | intro _)) <;> (first | assumption | (rename_i hh; exact hh) | (rename_i hh; exact congrArg not hh) | (rename_i h1 h2; exact Bool.and_eq_true_iff.2 ⟨h1, h2⟩) | (rename_i h1 h2; exact Bool.and_eq_true_iff.2 ⟨h1, congrArg not h2⟩) | (rename_i hh; simp [gOf, hh]; done) | (simp_all [gOf]; done) | (simp_all [gOf]; omega))) (ret_frame _ (contains_int_ret (l.take i) l[i]) ⟨⟨trivial, .inr rfl, ?_⟩, ⟨rfl, rfl⟩, trivial⟩) ?_
    · simp [List.map_take]
    refine sSplit (ctx _) 200 rfl (by (repeat' (first | exact trivial | refine ⟨?_, ?_⟩ | intro _)) <;> (first | assumption | (rename_i hh; exact hh) | (rename_i hh; exact congrArg not hh) | (rename_i h1 h2; exact Bool.and_eq_true_iff.2 ⟨h1, h2⟩) | (rename_i h1 h2; exact Bool.and_eq_true_iff.2 ⟨h1, congrArg not h2⟩) | (rename_i hh; simp [gOf, hh]; done) | (simp_all [gOf]; done) | (simp_all [gOf]; omega))) (fun h7 => ?_) (fun h7 => ?_)
    · refine sRet (ctx _) 200 rfl (by (repeat' (first | exact trivial | refine ⟨?_, ?_⟩ | intro _)) <;> (first | assumption | (rename_i hh; exact hh) | (rename_i hh; exact congrArg not hh) | (rename_i h1 h2; exact Bool.and_eq_true_iff.2 ⟨h1, h2⟩) | (rename_i h1 h2; exact Bool.and_eq_true_iff.2 ⟨h1, congrArg not h2⟩) | (rename_i hh; simp [gOf, hh]; done) | (simp_all [gOf]; done) | (simp_all [gOf]; omega))) rfl ⟨⟨rfl, ?_⟩, trivial⟩
      rw [if_pos h7] at hv
      exact hv
    rw [if_neg (by rw [h7]; simp)] at hv
    refine sBack (ctx _) 200 rfl (by (repeat' (first | exact trivial | refine ⟨?_, ?_⟩ | intro _)) <;> (first | assumption | (rename_i hh; exact hh) | (rename_i hh; exact congrArg not hh) | (rename_i h1 h2; exact Bool.and_eq_true_iff.2 ⟨h1, h2⟩) | (rename_i h1 h2; exact Bool.and_eq_true_iff.2 ⟨h1, congrArg not h2⟩) | (rename_i hh; simp [gOf, hh]; done) | (simp_all [gOf]; done) | (simp_all [gOf]; omega))) ?_
    refine IH (i + 1) _ ⟨by omega, ?_⟩ (by omega) ⟨⟨⟨trivial, .inr rfl, rfl⟩, ⟨trivial, .inr rfl, rfl⟩, ⟨rfl, rfl⟩, ⟨rfl, ?_⟩, trivial⟩, trivial⟩
    · rw [← hv, List.take_succ_eq_append_getElem h5]
    · exact wrap_id (by omega) (by omega)
  · have h5 : i = l.length := by simp at h; omega
    subst h5
    refine sRet (ctx _) 200 rfl (by (repeat' (first | exact trivial | refine ⟨?_, ?_⟩ | intro _)) <;> (first | assumption | (rename_i hh; exact hh) | (rename_i hh; exact congrArg not hh) | (rename_i h1 h2; exact Bool.and_eq_true_iff.2 ⟨h1, h2⟩) | (rename_i h1 h2; exact Bool.and_eq_true_iff.2 ⟨h1, congrArg not h2⟩) | (rename_i hh; simp [gOf, hh]; done) | (simp_all [gOf]; done) | (simp_all [gOf]; omega))) rfl ⟨⟨rfl, ?_⟩, trivial⟩
    rw [← hv]; simp [noteL]
end Go.Proofs.YtcehdakofmhabaaGreatDoor.Ab
