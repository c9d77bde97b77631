/- Small functions: what they give. -/
import Derived.Test.YtcehdakofmhabaaGreatDoorAbEnc
namespace Go.Proofs.YtcehdakofmhabaaGreatDoor.Ab
open Go Go.Ab
set_option linter.unusedVariables false
set_option linter.unusedSimpArgs false
theorem isOver_ret (k : Int) : Ret Tryz.prog 56 [.int .i64 k] [] (.bool (k == 7 || k == 8)) [] := by
  refine ret_of (fn := Tryz.f56) Tryz.func56 rfl rfl (Nat.le_of_ble_eq_true rfl) rfl ?_
  refine sRet (ctx _) 200 rfl (by (repeat' (first | exact trivial | refine ⟨?_, ?_⟩ | intro _)) <;> (first | assumption | (rename_i hh; exact hh) | (rename_i hh; exact congrArg not hh) | (rename_i h1 h2; exact Bool.and_eq_true_iff.2 ⟨h1, h2⟩) | (rename_i h1 h2; exact Bool.and_eq_true_iff.2 ⟨h1, congrArg not h2⟩) | (rename_i hh; simp [gOf, hh]; done) | (simp_all [gOf]; done) | (simp_all [gOf]; omega))) rfl ⟨?_, trivial⟩
  show _ = _
  cases h1 : k == 7 <;> simp [h1]
theorem outside_ret (n lo hi : Int) : Ret Tryz.prog 40 [.int .i64 n, .int .i64 lo, .int .i64 hi] [] (.bool (decide (n < lo ∨ n > hi))) [] := by
  refine ret_of (fn := Tryz.f40) Tryz.func40 rfl rfl (Nat.le_of_ble_eq_true rfl) rfl ?_
  refine sRet (ctx _) 200 rfl (by (repeat' (first | exact trivial | refine ⟨?_, ?_⟩ | intro _)) <;> (first | assumption | (rename_i hh; exact hh) | (rename_i hh; exact congrArg not hh) | (rename_i h1 h2; exact Bool.and_eq_true_iff.2 ⟨h1, h2⟩) | (rename_i h1 h2; exact Bool.and_eq_true_iff.2 ⟨h1, congrArg not h2⟩) | (rename_i hh; simp [gOf, hh]; done) | (simp_all [gOf]; done) | (simp_all [gOf]; omega))) rfl ⟨?_, trivial⟩
  show _ = _
  by_cases h1 : n < lo <;> by_cases h2 : n > hi <;> simp [h1, h2]
theorem within_ret (n lo hi : Int) : Ret Tryz.prog 18 [.int .i64 n, .int .i64 lo, .int .i64 hi] [] (.bool (decide (lo ≤ n ∧ n ≤ hi))) [] := by
  refine ret_of (fn := Tryz.f18) Tryz.func18 rfl rfl (Nat.le_of_ble_eq_true rfl) rfl ?_
  refine sRet (ctx _) 200 rfl (by (repeat' (first | exact trivial | refine ⟨?_, ?_⟩ | intro _)) <;> (first | assumption | (rename_i hh; exact hh) | (rename_i hh; exact congrArg not hh) | (rename_i h1 h2; exact Bool.and_eq_true_iff.2 ⟨h1, h2⟩) | (rename_i h1 h2; exact Bool.and_eq_true_iff.2 ⟨h1, congrArg not h2⟩) | (rename_i hh; simp [gOf, hh]; done) | (simp_all [gOf]; done) | (simp_all [gOf]; omega))) rfl ⟨?_, trivial⟩
  show _ = _
  by_cases h1 : lo ≤ n <;> by_cases h2 : n ≤ hi <;> simp [h1, h2]
theorem usesOf_ret (k : Int) : Ret Tryz.prog 55 [.int .i64 k] [] (.agg [.bool (k == 1 || k == 2 || k == 3 || k == 7 || k == 8), .bool (decide (k ≥ 4)), .bool (k == 5), .bool (k == 6 || k == 9)]) [] := by
  refine ret_of (fn := Tryz.f55) Tryz.func55 rfl rfl (Nat.le_of_ble_eq_true rfl) rfl ?_
  refine sRet (ctx _) 200 rfl (by (repeat' (first | exact trivial | refine ⟨?_, ?_⟩ | intro _)) <;> (first | assumption | (rename_i hh; exact hh) | (rename_i hh; exact congrArg not hh) | (rename_i h1 h2; exact Bool.and_eq_true_iff.2 ⟨h1, h2⟩) | (rename_i h1 h2; exact Bool.and_eq_true_iff.2 ⟨h1, congrArg not h2⟩) | (rename_i hh; simp [gOf, hh]; done) | (simp_all [gOf]; done) | (simp_all [gOf]; omega))) rfl ⟨⟨?_, ?_, ?_, ?_, trivial⟩, trivial⟩
  all_goals (show _ = _; simp)
theorem all_ret (l : List Cond) : Ret Tryz.prog 26 [.row 6 (l.map encC) .no] [] (encC (.mk 1 l [] [] 0 0)) [] := by
  refine ret_of (fn := Tryz.f26) Tryz.func26 rfl rfl (Nat.le_of_ble_eq_true rfl) rfl ?_
  refine sRet (ctx _) 200 rfl (by (repeat' (first | exact trivial | refine ⟨?_, ?_⟩ | intro _)) <;> (first | assumption | (rename_i hh; exact hh) | (rename_i hh; exact congrArg not hh) | (rename_i h1 h2; exact Bool.and_eq_true_iff.2 ⟨h1, h2⟩) | (rename_i h1 h2; exact Bool.and_eq_true_iff.2 ⟨h1, congrArg not h2⟩) | (rename_i hh; simp [gOf, hh]; done) | (simp_all [gOf]; done) | (simp_all [gOf]; omega))) rfl ⟨?_, trivial⟩
  rw [encC, encL_eq]
  exact ⟨⟨rfl, rfl⟩, ⟨trivial, .inr rfl, rfl⟩, rfl, ⟨trivial, .inl rfl, rfl⟩, ⟨rfl, rfl⟩, ⟨rfl, rfl⟩, trivial⟩
theorem anyOf_ret (l : List Cond) : Ret Tryz.prog 25 [.row 6 (l.map encC) .no] [] (encC (.mk 2 l [] [] 0 0)) [] := by
  refine ret_of (fn := Tryz.f25) Tryz.func25 rfl rfl (Nat.le_of_ble_eq_true rfl) rfl ?_
  refine sRet (ctx _) 200 rfl (by (repeat' (first | exact trivial | refine ⟨?_, ?_⟩ | intro _)) <;> (first | assumption | (rename_i hh; exact hh) | (rename_i hh; exact congrArg not hh) | (rename_i h1 h2; exact Bool.and_eq_true_iff.2 ⟨h1, h2⟩) | (rename_i h1 h2; exact Bool.and_eq_true_iff.2 ⟨h1, congrArg not h2⟩) | (rename_i hh; simp [gOf, hh]; done) | (simp_all [gOf]; done) | (simp_all [gOf]; omega))) rfl ⟨?_, trivial⟩
  rw [encC, encL_eq]
  exact ⟨⟨rfl, rfl⟩, ⟨trivial, .inr rfl, rfl⟩, rfl, ⟨trivial, .inl rfl, rfl⟩, ⟨rfl, rfl⟩, ⟨rfl, rfl⟩, trivial⟩
theorem ref_all_ret (l : List Cond) : Ret Tryz.prog 21 [.row 6 (l.map encC) .no] [] (encC (.mk 1 l [] [] 0 0)) [] := by
  refine ret_of (fn := Tryz.f21) Tryz.func21 rfl rfl (Nat.le_of_ble_eq_true rfl) rfl ?_
  refine sRet (ctx _) 200 rfl (by (repeat' (first | exact trivial | refine ⟨?_, ?_⟩ | intro _)) <;> (first | assumption | (rename_i hh; exact hh) | (rename_i hh; exact congrArg not hh) | (rename_i h1 h2; exact Bool.and_eq_true_iff.2 ⟨h1, h2⟩) | (rename_i h1 h2; exact Bool.and_eq_true_iff.2 ⟨h1, congrArg not h2⟩) | (rename_i hh; simp [gOf, hh]; done) | (simp_all [gOf]; done) | (simp_all [gOf]; omega))) rfl ⟨?_, trivial⟩
  rw [encC, encL_eq]
  exact ⟨⟨rfl, rfl⟩, ⟨trivial, .inr rfl, rfl⟩, rfl, ⟨trivial, .inl rfl, rfl⟩, ⟨rfl, rfl⟩, ⟨rfl, rfl⟩, trivial⟩
theorem ref_some_ret (l : List Cond) : Ret Tryz.prog 20 [.row 6 (l.map encC) .no] [] (encC (.mk 2 l [] [] 0 0)) [] := by
  refine ret_of (fn := Tryz.f20) Tryz.func20 rfl rfl (Nat.le_of_ble_eq_true rfl) rfl ?_
  refine sRet (ctx _) 200 rfl (by (repeat' (first | exact trivial | refine ⟨?_, ?_⟩ | intro _)) <;> (first | assumption | (rename_i hh; exact hh) | (rename_i hh; exact congrArg not hh) | (rename_i h1 h2; exact Bool.and_eq_true_iff.2 ⟨h1, h2⟩) | (rename_i h1 h2; exact Bool.and_eq_true_iff.2 ⟨h1, congrArg not h2⟩) | (rename_i hh; simp [gOf, hh]; done) | (simp_all [gOf]; done) | (simp_all [gOf]; omega))) rfl ⟨?_, trivial⟩
  rw [encC, encL_eq]
  exact ⟨⟨rfl, rfl⟩, ⟨trivial, .inr rfl, rfl⟩, rfl, ⟨trivial, .inl rfl, rfl⟩, ⟨rfl, rfl⟩, ⟨rfl, rfl⟩, trivial⟩
theorem not_ret (c : Cond) : Ret Tryz.prog 27 [encC c] [] (encC (.mk 3 [c] [] [] 0 0)) [] := by
  rw [show encC (.mk 3 [c] [] [] 0 0) = .agg [.int .i64 3, .row 6 [encC c] .no, .str [], .row 1 [] .no, .int .i64 0, .int .i64 0] by simp [encC, encL]]
  obtain ⟨k, of, p, v, lo, hi⟩ := c
  rw [encC]
  refine ret_of (fn := Tryz.f27) Tryz.func27 rfl rfl (Nat.le_of_ble_eq_true rfl) rfl ?_
  refine sRet (ctx _) 200 rfl (by (repeat' (first | exact trivial | refine ⟨?_, ?_⟩ | intro _)) <;> (first | assumption | (rename_i hh; exact hh) | (rename_i hh; exact congrArg not hh) | (rename_i h1 h2; exact Bool.and_eq_true_iff.2 ⟨h1, h2⟩) | (rename_i h1 h2; exact Bool.and_eq_true_iff.2 ⟨h1, congrArg not h2⟩) | (rename_i hh; simp [gOf, hh]; done) | (simp_all [gOf]; done) | (simp_all [gOf]; omega))) rfl ⟨⟨⟨rfl, rfl⟩, ⟨trivial, .inr rfl, rfl⟩, rfl, ⟨trivial, .inl rfl, rfl⟩, ⟨rfl, rfl⟩, ⟨rfl, rfl⟩, trivial⟩, trivial⟩
theorem ref_not_ret (c : Cond) : Ret Tryz.prog 22 [encC c] [] (encC (.mk 3 [c] [] [] 0 0)) [] := by
  rw [show encC (.mk 3 [c] [] [] 0 0) = .agg [.int .i64 3, .row 6 [encC c] .no, .str [], .row 1 [] .no, .int .i64 0, .int .i64 0] by simp [encC, encL]]
  obtain ⟨k, of, p, v, lo, hi⟩ := c
  rw [encC]
  refine ret_of (fn := Tryz.f22) Tryz.func22 rfl rfl (Nat.le_of_ble_eq_true rfl) rfl ?_
  refine sRet (ctx _) 200 rfl (by (repeat' (first | exact trivial | refine ⟨?_, ?_⟩ | intro _)) <;> (first | assumption | (rename_i hh; exact hh) | (rename_i hh; exact congrArg not hh) | (rename_i h1 h2; exact Bool.and_eq_true_iff.2 ⟨h1, h2⟩) | (rename_i h1 h2; exact Bool.and_eq_true_iff.2 ⟨h1, congrArg not h2⟩) | (rename_i hh; simp [gOf, hh]; done) | (simp_all [gOf]; done) | (simp_all [gOf]; omega))) rfl ⟨⟨⟨rfl, rfl⟩, ⟨trivial, .inr rfl, rfl⟩, rfl, ⟨trivial, .inl rfl, rfl⟩, ⟨rfl, rfl⟩, ⟨rfl, rfl⟩, trivial⟩, trivial⟩
end Go.Proofs.YtcehdakofmhabaaGreatDoor.Ab
