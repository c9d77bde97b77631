/- The pure statement of PartnerCasesMatchSpec, proved: numbers, strings and lists alone. -/
import Derived.Test.YtdlgohhecicnoaaDoorPPartnerCasesMatchSpec
import Derived.Lib.Strings
import Derived.Lib.SlTrimSet
namespace Go.Proofs.YtdlgohhecicnoaaDoor.XPartnerCasesMatchSpec.Q
open Go.RowKit Go.Proofs.YtdlgohhecicnoaaDoor.XPartnerCasesMatchSpec Go.Proofs.YtdlgohhecicnoaaDoorW.PrintWords Go.Proofs.YtdlgohhecicnoaaDoorW.PrintMore
set_option linter.unusedVariables false
set_option linter.unusedSimpArgs false
/-! names -/
theorem wrap_up {i : Int} (h0 : -1 ≤ i) (h : i < 9223372036854775807) : wrap64 (i + 1) = i + 1 := by unfold wrap64; omega
theorem toL (s : ByteArray) : s.toList = s.data.toList := Go.Lib.toList_data s
theorem bt_get (s : ByteArray) (i : Nat) (h : i < s.size) : bt s i = ((s.data.toList[i]'(by rw [data_length]; exact h)).toNat : Int) := by
  unfold bt
  rw [dif_pos (by simpa using h)]
  simp
  rfl
theorem toL_nil (s : ByteArray) : (s.toList = ([] : List UInt8)) ↔ s.size = 0 := by
  rw [toL, ← List.length_eq_zero_iff, data_length]
/-- A byte of a name. -/
def nameByte (b : UInt8) : Bool := (decide (97 ≤ b.toNat) && decide (b.toNat ≤ 122)) || (decide (48 ≤ b.toNat) && decide (b.toNat ≤ 57)) || decide (b.toNat = 45)
/-- Is it a name? -/
def nameB (s : ByteArray) : Bool := decide (1 ≤ s.size) && decide (s.size ≤ 40) && decide (97 ≤ bt s 0) && decide (bt s 0 ≤ 122) && s.data.toList.all nameByte
theorem dw_nil {α : Type} (p : α → Bool) (l : List α) : (l.dropWhile p = []) ↔ ∀ x ∈ l, p x = true := by
  induction l with
  | nil => simp
  | cons a l ih =>
    rw [List.dropWhile_cons]
    cases h : p a <;> simp [h, ih]
theorem trimS_nil (l cs : List UInt8) : (Go.Lib.trimS l cs = []) ↔ ∀ b ∈ l, b ∈ cs := by
  unfold Go.Lib.trimS Go.Lib.trimLeftS Go.Lib.trimRightS
  rw [dw_nil]
  simp only [List.mem_reverse, List.contains_eq_mem, decide_eq_true_eq]
  constructor
  · intro h b hb
    by_cases hm : b ∈ List.dropWhile (fun x => decide (x ∈ cs)) l.reverse
    · exact h b hm
    · have hb2 : b ∈ List.takeWhile (fun x => decide (x ∈ cs)) l.reverse ++ List.dropWhile (fun x => decide (x ∈ cs)) l.reverse := by
        rw [List.takeWhile_append_dropWhile]; simpa using hb
      rcases List.mem_append.1 hb2 with h3 | h3
      · have := List.all_eq_true.1 (List.all_takeWhile (p := fun x => decide (x ∈ cs)) (l := l.reverse)) b h3
        simpa using this
      · exact absurd h3 hm
  · intro h b hb
    have := (List.dropWhile_sublist (fun x => decide (x ∈ cs)) (l := l.reverse)).subset hb
    exact h b (by simpa using this)
def nameSet : List UInt8 := [97, 98, 99, 100, 101, 102, 103, 104, 105, 106, 107, 108, 109, 110, 111, 112, 113, 114, 115, 116, 117, 118, 119, 120, 121, 122, 48, 49, 50, 51, 52, 53, 54, 55, 56, 57, 45]
theorem nameSet_mem (b : UInt8) : (b ∈ nameSet) ↔ nameByte b = true := by
  have h : ∀ n : Fin 256, ((UInt8.ofNat n.val) ∈ nameSet) ↔ nameByte (UInt8.ofNat n.val) = true := by decide +kernel
  have := h ⟨b.toNat, b.toNat_lt⟩
  simpa using this
theorem kit_name (s : ByteArray) (hs : s.size ≤ 140737488351232) : kit_IsName.f s = some (nameB s) := by
  unfold kit_IsName.f nameB
  by_cases h1 : (s.size : Int) < 1
  · rw [if_pos h1]; simp [show ¬ 1 ≤ s.size by omega]
  rw [if_neg h1]
  by_cases h2 : (s.size : Int) > 40
  · rw [if_pos h2]; simp [show ¬ s.size ≤ 40 by omega]
  rw [if_neg h2, if_pos (by omega)]
  by_cases h3 : bt s 0 < 97
  · rw [if_pos h3]; simp [show ¬ 97 ≤ bt s 0 by omega]
  rw [if_neg h3]
  by_cases h4 : bt s 0 > 122
  · rw [if_pos h4]; simp [show ¬ bt s 0 ≤ 122 by omega]
  rw [if_neg h4]
  unfold strings_Trim.f
  rw [if_pos ⟨by omega, by decide, by decide⟩]
  simp only [Option.bind_some]
  congr 1
  rw [Bool.eq_iff_iff, beq_iff_eq]
  simp only [toL, show (1 ≤ s.size) = True by simp; omega, show (s.size ≤ 40) = True by simp; omega, show (97 ≤ bt s 0) = True by simp; omega, show (bt s 0 ≤ 122) = True by simp; omega, decide_true, Bool.true_and, List.all_eq_true]
  show Go.Lib.trimS s.data.toList nameSet = [] ↔ _
  rw [trimS_nil]
  exact forall_congr' fun b => imp_congr_right fun _ => nameSet_mem b
theorem ref_name_l (s : ByteArray) (hs : s.size ≤ 140737488351232) (d : Nat) : ∀ (k i : Nat), i ≤ s.size → s.size - i = d → d < k →
    interchangeref1_isName.l0 k s (s.size : Int) i = some ((s.data.toList.drop i).all nameByte) := by
  induction d with
  | zero =>
    intro k i h1 hd hk
    obtain ⟨k, rfl⟩ : ∃ m, k = m + 1 := ⟨k - 1, by omega⟩
    simp only [interchangeref1_isName.l0]
    rw [if_neg (by omega), List.drop_of_length_le (by rw [data_length]; omega)]
    rfl
  | succ d ih =>
    intro k i h1 hd hk
    obtain ⟨k, rfl⟩ : ∃ m, k = m + 1 := ⟨k - 1, by omega⟩
    have hlt : i < s.size := by omega
    have hl : i < s.data.toList.length := by rw [data_length]; exact hlt
    have hr := ih k (i + 1) (by omega) (by omega) (by omega)
    simp only [interchangeref1_isName.l0]
    rw [if_pos (by omega), if_pos (by omega), if_pos (by omega), wrap_up (by omega) (by omega), List.drop_eq_getElem_cons hl, List.all_cons]
    have e1 : ((i : Int) + 1) = ((i + 1 : Nat) : Int) := by omega
    rw [e1, hr, bt_get s i hlt]
    generalize s.data.toList[i] = b
    generalize List.all _ _ = r
    have hb := b.toNat_lt
    cases hn : nameByte b
    · have hn' : ¬ ((97 ≤ b.toNat ∧ b.toNat ≤ 122 ∨ 48 ≤ b.toNat ∧ b.toNat ≤ 57) ∨ b.toNat = 45) := by
        intro h
        have : nameByte b = true := by simpa [nameByte] using h
        rw [this] at hn; cases hn
      repeat' split
      all_goals first | rfl | (exfalso; omega)
    · have hn' : ((97 ≤ b.toNat ∧ b.toNat ≤ 122 ∨ 48 ≤ b.toNat ∧ b.toNat ≤ 57) ∨ b.toNat = 45) := by simpa [nameByte] using hn
      repeat' split
      all_goals first | rfl | (exfalso; omega)
theorem ref_name (s : ByteArray) (hs : s.size ≤ 140737488351232) (k : Nat) (hk : 50 ≤ k) : interchangeref1_IsName.f k s = some (nameB s) := by
  obtain ⟨k, rfl⟩ : ∃ m, k = m + 1 := ⟨k - 1, by omega⟩
  unfold interchangeref1_IsName.f interchangeref1_isName.f nameB
  simp only [toL_nil, Option.bind_fun_some]
  by_cases h1 : s.size = 0
  · rw [if_pos h1]; simp [interchangeref1_isName.j0, h1]
  rw [if_neg h1]
  by_cases h2 : (s.size : Int) > 40
  · rw [if_pos h2]; simp [interchangeref1_isName.j0, show ¬ s.size ≤ 40 by omega]
  rw [if_neg h2, if_pos (by omega)]
  by_cases h3 : bt s 0 < 97
  · rw [if_pos h3]; simp [interchangeref1_isName.j0, show ¬ 97 ≤ bt s 0 by omega]
  rw [if_neg h3]
  by_cases h4 : bt s 0 > 122
  · simp [interchangeref1_isName.j0, show ¬ bt s 0 ≤ 122 by omega, h4]
  simp only [interchangeref1_isName.j0, h4, decide_false]
  rw [if_neg (by simp)]
  have := ref_name_l s hs s.size k 0 (by omega) (by omega) (by omega)
  simp only [Int.natCast_zero, List.drop_zero] at this
  rw [this]
  simp [show 1 ≤ s.size by omega, show s.size ≤ 40 by omega, show 97 ≤ bt s 0 by omega, show bt s 0 ≤ 122 by omega]
/-! agreements and cases -/
theorem wf_i64 {x : Int} (h : (Lit.int .i64 x).wf = true) : -9223372036854775808 ≤ x ∧ x ≤ 9223372036854775807 := by
  simpa [Lit.wf, IntKind.min, IntKind.max, IntKind.signed, IntKind.bits] using h
def anyB (s : ByteArray) : Bool := decide (s.toList = ([] : List UInt8)) || nameB s
theorem kit_any (s : ByteArray) (hs : s.size ≤ 140737488351232) : partner_isAny.f s = some (anyB s) := by
  unfold partner_isAny.f anyB
  by_cases h : s.toList = ([] : List UInt8)
  · rw [if_pos h]; simp [h]
  · rw [if_neg h, kit_name s hs]; simp [h]
theorem outside (x a b : Int) : kit_Outside.f x a b = some (decide (x < a ∨ b < x)) := by
  unfold kit_Outside.f
  by_cases h : x < a
  · rw [if_pos h]; simp [h]
  · rw [if_neg h]; simp [h]
/-- What is wrong with an agreement by itself. -/
def agF (a0 a1 a2 a3 : ByteArray) (a4 a5 a7 : Int) : Int :=
  if a0.toList = a1.toList then 12 else if anyB a2 = true ∧ anyB a3 = true then (if ¬ a3.toList = ([] : List UInt8) ∧ a2.toList = ([] : List UInt8) then 3 else if 1 ≤ a4 ∧ a4 ≤ 3652059 ∧ a4 ≤ a5 ∧ a5 ≤ 3652059 ∧ 0 ≤ a7 ∧ a7 ≤ 100000000 then 0 else 1) else 5
theorem own_fault {a0 a1 a2 a3 : ByteArray} {a4 a5 : Int} {a6 : Bool} {a7 : Int} {a8 : Bool} (h2 : a2.size ≤ 140737488351232) (h3 : a3.size ≤ 140737488351232) (k : Nat) (hk : 50 ≤ k) :
    partner_ownFault.f k a0 a1 a2 a3 a4 a5 a6 a7 a8 = some (agF a0 a1 a2 a3 a4 a5 a7) := by
  obtain ⟨k, rfl⟩ : ∃ m, k = m + 2 := ⟨k - 2, by omega⟩
  unfold partner_ownFault.f agF
  simp only [kit_any _ h2, kit_any _ h3, Option.bind_some]
  by_cases e1 : a0.toList = a1.toList
  · simp [e1]
  simp only [e1, if_false]
  cases m2 : anyB a2 <;> cases m3 : anyB a3 <;> simp [partner_ownFault.j0]
  by_cases e3 : a3.toList = ([] : List UInt8) <;> by_cases e2 : a2.toList = ([] : List UInt8) <;> simp [partner_ownFault.j1, e2, e3, outside]
  all_goals
    by_cases g1 : a4 < 1 ∨ 3652059 < a4
    · rw [if_pos g1, if_neg (by omega)]
    · rw [if_neg g1]
      by_cases g2 : a5 < a4 ∨ 3652059 < a5
      · rw [if_pos g2, if_neg (by omega)]
      · rw [if_neg g2]
        by_cases g3 : a7 < 0 ∨ 100000000 < a7
        · rw [if_pos g3, if_neg (by omega)]
        · rw [if_neg g3, if_pos (by omega)]
/-- The sign of the first number that is not zero. -/
def firstSign : List Int → Int
  | [] => 0
  | x :: r => if x < 0 then -1 else if x > 0 then 1 else firstSign r
theorem rd_drop {ys : List Int} {i : Nat} (h : i < ys.length) : ys.drop i = rd ys i :: ys.drop (i + 1) := by
  rw [List.drop_eq_getElem_cons h]
  congr 1
  simp [rd, h]
theorem kit_better_l (ys : List Int) (hn : ys.length < 1000) (d : Nat) : ∀ (k i : Nat), i ≤ ys.length → ys.length - i = d → d < k → partner_better.l0 k ys (ys.length : Int) i = some (firstSign (ys.drop i)) := by
  induction d with
  | zero =>
    intro k i h1 hd hk
    obtain ⟨k, rfl⟩ : ∃ m, k = m + 1 := ⟨k - 1, by omega⟩
    simp only [partner_better.l0]
    rw [if_neg (by omega), List.drop_of_length_le (by omega)]; rfl
  | succ d ih =>
    intro k i h1 hd hk
    obtain ⟨k, rfl⟩ : ∃ m, k = m + 1 := ⟨k - 1, by omega⟩
    simp only [partner_better.l0]
    rw [if_pos (by omega), if_pos (by omega), if_pos (by omega), wrap_up (by omega) (by omega), rd_drop (show i < ys.length by omega)]
    have := ih k (i + 1) (by omega) (by omega) (by omega)
    simp only [firstSign]
    by_cases g1 : rd ys i < 0
    · rw [if_pos g1, if_pos g1]
    · rw [if_neg g1, if_neg g1]
      by_cases g2 : rd ys i > 0
      · rw [if_pos g2, if_pos g2]
      · rw [if_neg g2, if_neg g2]
        exact_mod_cast this
def oneIf (s : ByteArray) : Int := if s.toList = ([] : List UInt8) then 0 else 1
theorem flag (s : ByteArray) : partner_flagNumber.f (s.toList != ([] : List UInt8)) = some (oneIf s) := by
  unfold partner_flagNumber.f oneIf
  by_cases h : s.toList = ([] : List UInt8) <;> simp [h]
theorem oneIf_le (s : ByteArray) : 0 ≤ oneIf s ∧ oneIf s ≤ 1 := by unfold oneIf; split <;> omega
/-- How two agreements compare. -/
def betF (a2 a3 : ByteArray) (a4 a5 : Int) (b2 b3 : ByteArray) (b4 b5 : Int) : Int := firstSign [oneIf b2 - oneIf a2, oneIf b3 - oneIf a3, b4 - a4, a5 - b5]
theorem kit_better {a0 a1 a2 a3 : ByteArray} {a4 a5 : Int} {a6 : Bool} {a7 : Int} {a8 : Bool} {b0 b1 b2 b3 : ByteArray} {b4 b5 : Int} {b6 : Bool} {b7 : Int} {b8 : Bool}
    (h4 : 1 ≤ a4 ∧ a4 ≤ 3652059) (h5 : 1 ≤ a5 ∧ a5 ≤ 3652059) (g4 : 1 ≤ b4 ∧ b4 ≤ 3652059) (g5 : 1 ≤ b5 ∧ b5 ≤ 3652059) (k : Nat) (hk : 50 ≤ k) :
    partner_better.f k a0 a1 a2 a3 a4 a5 a6 a7 a8 b0 b1 b2 b3 b4 b5 b6 b7 b8 = some (betF a2 a3 a4 a5 b2 b3 b4 b5) := by
  unfold partner_better.f betF
  simp only [flag, Option.bind_some]
  have w1 : ∀ x : Int, -4000000 ≤ x → x ≤ 4000000 → wrap64 x = x := fun x _ _ => by unfold wrap64; omega
  have := oneIf_le a2; have := oneIf_le a3; have := oneIf_le b2; have := oneIf_le b3
  rw [w1 _ (by omega) (by omega), w1 _ (by omega) (by omega), w1 _ (by omega) (by omega), w1 _ (by omega) (by omega)]
  exact kit_better_l [oneIf b2 - oneIf a2, oneIf b3 - oneIf a3, b4 - a4, a5 - b5] (by simp) 4 k 0 (by simp) (by simp) (by omega)
theorem agF_zero {a0 a1 a2 a3 : ByteArray} {a4 a5 a7 : Int} (h : agF a0 a1 a2 a3 a4 a5 a7 = 0) :
    ¬ a0.toList = a1.toList ∧ anyB a2 = true ∧ anyB a3 = true ∧ (a2.toList = ([] : List UInt8) → a3.toList = ([] : List UInt8)) ∧ 1 ≤ a4 ∧ a4 ≤ 3652059 ∧ a4 ≤ a5 ∧ a5 ≤ 3652059 ∧ 0 ≤ a7 ∧ a7 ≤ 100000000 := by
  unfold agF at h
  split at h
  · cases h
  split at h
  · split at h
    · cases h
    split at h
    · rename_i n1 n2 n3 n4
      exact ⟨n1, n2.1, n2.2, fun e => by by_cases e3 : a3.toList = ([] : List UInt8); exact e3; exact absurd ⟨e3, e⟩ n3, n4⟩
    · cases h
  · cases h
theorem kit_Better {a0 a1 a2 a3 : ByteArray} {a4 a5 : Int} {a6 : Bool} {a7 : Int} {a8 : Bool} {b0 b1 b2 b3 : ByteArray} {b4 b5 : Int} {b6 : Bool} {b7 : Int} {b8 : Bool}
    (h2 : a2.size ≤ 140737488351232) (h3 : a3.size ≤ 140737488351232) (g2 : b2.size ≤ 140737488351232) (g3 : b3.size ≤ 140737488351232) (k : Nat) (hk : 60 ≤ k) :
    partner_Better.f k a0 a1 a2 a3 a4 a5 a6 a7 a8 b0 b1 b2 b3 b4 b5 b6 b7 b8 =
      some (if agF a0 a1 a2 a3 a4 a5 a7 = 0 then (if agF b0 b1 b2 b3 b4 b5 b7 = 0 then (betF a2 a3 a4 a5 b2 b3 b4 b5, 0) else (0, agF b0 b1 b2 b3 b4 b5 b7)) else (0, agF a0 a1 a2 a3 a4 a5 a7)) := by
  obtain ⟨k, rfl⟩ : ∃ m, k = m + 3 := ⟨k - 3, by omega⟩
  unfold partner_Better.f
  have w0 : wrap64 1 = 1 := by unfold wrap64; omega
  have w1 : wrap64 2 = 2 := by unfold wrap64; omega
  simp [partner_Better.l0, rd_T23, w0, w1, own_fault h2 h3 (k + 2) (by omega), own_fault g2 g3 (k + 1) (by omega)]
  by_cases e1 : agF a0 a1 a2 a3 a4 a5 a7 = 0
  · by_cases e2 : agF b0 b1 b2 b3 b4 b5 b7 = 0
    · have z1 := agF_zero e1; have z2 := agF_zero e2
      simp [e1, e2, kit_better (show 1 ≤ a4 ∧ a4 ≤ 3652059 by omega) (show 1 ≤ a5 ∧ a5 ≤ 3652059 by omega) (show 1 ≤ b4 ∧ b4 ≤ 3652059 by omega) (show 1 ≤ b5 ∧ b5 ≤ 3652059 by omega) k (by omega)]
    · simp [e1, e2]
  · simp [e1]
theorem awake_true : interchangelaw8_awake.f = some true := by
  have w1 : wrap64 2 = 2 := by unfold wrap64; omega
  simp [interchangelaw8_awake.f, partner_NextNumber.f, partner_CheckSeries.f, partner_isOf.f, outside, w1]
theorem within8 (x a b : Int) : interchangeref8_within.f x a b = some (decide (a ≤ x ∧ x ≤ b)) := by
  unfold interchangeref8_within.f
  by_cases h : a ≤ x
  · rw [if_pos h]; simp [h]
  · rw [if_neg h]; simp [h]
theorem ref_day (x : Int) : interchangeref1_IsDay.f x = some (decide (1 ≤ x ∧ x ≤ 3652059)) := by
  unfold interchangeref1_IsDay.f interchangeref1_isDay.f interchangeref1_within.f
  by_cases h : 1 ≤ x
  · rw [if_pos h]; simp [h]
  · rw [if_neg h]; simp [h]
theorem ref_any (s : ByteArray) (hs : s.size ≤ 140737488351232) (k : Nat) (hk : 50 ≤ k) : interchangeref8_isAny.f k s = some (anyB s) := by
  unfold interchangeref8_isAny.f anyB
  by_cases h : s.toList = ([] : List UInt8)
  · rw [if_pos h]; simp [h]
  · rw [if_neg h, ref_name s hs k hk]; simp [h]
theorem ref_ag {a0 a1 a2 a3 : ByteArray} {a4 a5 : Int} {a6 : Bool} {a7 : Int} {a8 : Bool} (h2 : a2.size ≤ 140737488351232) (h3 : a3.size ≤ 140737488351232) (k : Nat) (hk : 50 ≤ k) :
    interchangeref8_checkAgreement.f k a0 a1 a2 a3 a4 a5 a6 a7 a8 = some (agF a0 a1 a2 a3 a4 a5 a7) := by
  unfold interchangeref8_checkAgreement.f agF
  simp only [ref_any _ h2 k hk, ref_any _ h3 k hk, Option.bind_some]
  obtain ⟨k, rfl⟩ : ∃ m, k = m + 2 := ⟨k - 2, by omega⟩
  by_cases e1 : a0.toList = a1.toList
  · simp [e1]
  simp only [e1, if_false]
  cases m2 : anyB a2 <;> cases m3 : anyB a3 <;> simp [interchangeref8_checkAgreement.j0]
  by_cases e3 : a3.toList = ([] : List UInt8) <;> by_cases e2 : a2.toList = ([] : List UInt8) <;> simp [interchangeref8_checkAgreement.j1, e2, e3, within8, ref_day]
  all_goals
    by_cases g1 : 1 ≤ a4 ∧ a4 ≤ 3652059
    · rw [if_pos g1]
      by_cases g2 : a4 ≤ a5 ∧ a5 ≤ 3652059
      · rw [if_pos g2]
        by_cases g3 : 0 ≤ a7 ∧ a7 ≤ 100000000
        · rw [if_pos g3, if_pos (by omega)]
        · rw [if_neg g3, if_neg (by omega)]
      · rw [if_neg g2, if_neg (by omega)]
    · rw [if_neg g1, if_neg (by omega)]
theorem ref_better_l (ys : List Int) (hn : ys.length < 1000) (d : Nat) : ∀ (k i : Nat), i ≤ ys.length → ys.length - i = d → d < k → interchangeref8_better.l0 k ys (ys.length : Int) i = some (firstSign (ys.drop i)) := by
  induction d with
  | zero =>
    intro k i h1 hd hk
    obtain ⟨k, rfl⟩ : ∃ m, k = m + 1 := ⟨k - 1, by omega⟩
    simp only [interchangeref8_better.l0]
    rw [if_neg (by omega), List.drop_of_length_le (by omega)]; rfl
  | succ d ih =>
    intro k i h1 hd hk
    obtain ⟨k, rfl⟩ : ∃ m, k = m + 1 := ⟨k - 1, by omega⟩
    simp only [interchangeref8_better.l0]
    rw [if_pos (by omega), if_pos (by omega), if_pos (by omega), wrap_up (by omega) (by omega), rd_drop (show i < ys.length by omega)]
    have := ih k (i + 1) (by omega) (by omega) (by omega)
    simp only [firstSign]
    by_cases g1 : rd ys i < 0
    · rw [if_pos g1, if_pos g1]
    · rw [if_neg g1, if_neg g1]
      by_cases g2 : rd ys i > 0
      · rw [if_pos g2, if_pos g2]
      · rw [if_neg g2, if_neg g2]
        exact_mod_cast this
def rankF (a2 a3 : ByteArray) : Int := if a3.toList = ([] : List UInt8) then (if a2.toList = ([] : List UInt8) then 0 else 1) else 2
theorem ref_rank {a0 a1 a2 a3 : ByteArray} {a4 a5 : Int} {a6 : Bool} {a7 : Int} {a8 : Bool} : interchangeref8_rank.f a0 a1 a2 a3 a4 a5 a6 a7 a8 = some (rankF a2 a3) := by
  unfold interchangeref8_rank.f rankF
  repeat' split
  all_goals rfl
/-- Where a version stands only beside a message, the two ways to compare are one. -/
theorem rank_sign {a2 a3 b2 b3 : ByteArray} (ha : a2.toList = ([] : List UInt8) → a3.toList = ([] : List UInt8)) (hb : b2.toList = ([] : List UInt8) → b3.toList = ([] : List UInt8)) (r : List Int) :
    firstSign ((rankF b2 b3 - rankF a2 a3) :: r) = firstSign ((oneIf b2 - oneIf a2) :: (oneIf b3 - oneIf a3) :: r) := by
  by_cases e2 : a2.toList = ([] : List UInt8) <;> by_cases e3 : a3.toList = ([] : List UInt8) <;> by_cases f2 : b2.toList = ([] : List UInt8) <;> by_cases f3 : b3.toList = ([] : List UInt8) <;>
    first | (exact absurd (ha e2) e3) | (exact absurd (hb f2) f3) | simp [firstSign, rankF, oneIf, e2, e3, f2, f3]
theorem ref_better {a0 a1 a2 a3 : ByteArray} {a4 a5 : Int} {a6 : Bool} {a7 : Int} {a8 : Bool} {b0 b1 b2 b3 : ByteArray} {b4 b5 : Int} {b6 : Bool} {b7 : Int} {b8 : Bool}
    (ha : a2.toList = ([] : List UInt8) → a3.toList = ([] : List UInt8)) (hb : b2.toList = ([] : List UInt8) → b3.toList = ([] : List UInt8))
    (h4 : 1 ≤ a4 ∧ a4 ≤ 3652059) (h5 : 1 ≤ a5 ∧ a5 ≤ 3652059) (g4 : 1 ≤ b4 ∧ b4 ≤ 3652059) (g5 : 1 ≤ b5 ∧ b5 ≤ 3652059) (k : Nat) (hk : 50 ≤ k) :
    interchangeref8_better.f k a0 a1 a2 a3 a4 a5 a6 a7 a8 b0 b1 b2 b3 b4 b5 b6 b7 b8 = some (betF a2 a3 a4 a5 b2 b3 b4 b5) := by
  unfold interchangeref8_better.f betF
  simp only [ref_rank, Option.bind_some]
  have w1 : ∀ x : Int, -4000000 ≤ x → x ≤ 4000000 → wrap64 x = x := fun x _ _ => by unfold wrap64; omega
  have r1 : ∀ a b, 0 ≤ rankF a b ∧ rankF a b ≤ 2 := fun a b => by unfold rankF; (repeat' split) <;> omega
  have := r1 a2 a3; have := r1 b2 b3
  rw [w1 _ (by omega) (by omega), w1 _ (by omega) (by omega), w1 _ (by omega) (by omega), ← rank_sign ha hb]
  exact ref_better_l [rankF b2 b3 - rankF a2 a3, b4 - a4, a5 - b5] (by simp) 3 k 0 (by simp) (by simp) (by omega)
theorem ref_Better {a0 a1 a2 a3 : ByteArray} {a4 a5 : Int} {a6 : Bool} {a7 : Int} {a8 : Bool} {b0 b1 b2 b3 : ByteArray} {b4 b5 : Int} {b6 : Bool} {b7 : Int} {b8 : Bool}
    (h2 : a2.size ≤ 140737488351232) (h3 : a3.size ≤ 140737488351232) (g2 : b2.size ≤ 140737488351232) (g3 : b3.size ≤ 140737488351232) (k : Nat) (hk : 60 ≤ k) :
    interchangeref8_Better.f k a0 a1 a2 a3 a4 a5 a6 a7 a8 b0 b1 b2 b3 b4 b5 b6 b7 b8 =
      some (if agF a0 a1 a2 a3 a4 a5 a7 = 0 then (if agF b0 b1 b2 b3 b4 b5 b7 = 0 then (betF a2 a3 a4 a5 b2 b3 b4 b5, 0) else (0, agF b0 b1 b2 b3 b4 b5 b7)) else (0, agF a0 a1 a2 a3 a4 a5 a7)) := by
  unfold interchangeref8_Better.f
  simp only [ref_ag h2 h3 k (by omega), ref_ag g2 g3 k (by omega), Option.bind_some]
  by_cases e1 : agF a0 a1 a2 a3 a4 a5 a7 = 0
  · by_cases e2 : agF b0 b1 b2 b3 b4 b5 b7 = 0
    · have z1 := agF_zero e1; have z2 := agF_zero e2
      simp [e1, e2, ref_better z1.2.2.2.1 z2.2.2.2.1 (show 1 ≤ a4 ∧ a4 ≤ 3652059 by omega) (show 1 ≤ a5 ∧ a5 ≤ 3652059 by omega) (show 1 ≤ b4 ∧ b4 ≤ 3652059 by omega) (show 1 ≤ b5 ∧ b5 ≤ 3652059 by omega) k (by omega)]
    · simp [e1, e2]
  · simp [e1]
/-- What is wrong with a case without its partners. -/
def restF (c2 c3 : ByteArray) (c4 : Int) : Int := if nameB c2 = true ∧ nameB c3 = true then (if 1 ≤ c4 ∧ c4 ≤ 3652059 then 0 else 1) else 5
def caseF (c0 c1 c2 c3 : ByteArray) (c4 : Int) : Int := if nameB c0 = true ∧ nameB c1 = true then restF c2 c3 c4 else 5
theorem kit_rest {c0 c1 c2 c3 : ByteArray} {c4 : Int} {c5 : Bool} (h2 : c2.size ≤ 140737488351232) (h3 : c3.size ≤ 140737488351232) (k : Nat) (hk : 50 ≤ k) : partner_restFault.f k c0 c1 c2 c3 c4 c5 = some (restF c2 c3 c4) := by
  obtain ⟨k, rfl⟩ : ∃ m, k = m + 2 := ⟨k - 2, by omega⟩
  unfold partner_restFault.f restF
  simp only [kit_name _ h2, kit_name _ h3, Option.bind_some]
  cases nameB c2 <;> cases nameB c3 <;> simp [partner_restFault.j0, kit_IsDay.f, outside]
  by_cases g : c4 < 1 ∨ 3652059 < c4
  · rw [if_neg (by omega), if_neg (by omega)]
  · rw [if_pos (by omega), if_pos (by omega)]
theorem kit_case {c0 c1 c2 c3 : ByteArray} {c4 : Int} {c5 : Bool} (h0 : c0.size ≤ 140737488351232) (h1 : c1.size ≤ 140737488351232) (h2 : c2.size ≤ 140737488351232) (h3 : c3.size ≤ 140737488351232) (k : Nat) (hk : 50 ≤ k) : partner_caseFault.f k c0 c1 c2 c3 c4 c5 = some (caseF c0 c1 c2 c3 c4) := by
  unfold partner_caseFault.f caseF
  simp only [kit_name _ h0, kit_name _ h1, kit_rest h2 h3 k hk, Option.bind_some]
  cases nameB c0 <;> cases nameB c1 <;> simp
/-- Is an agreement for a case? -/
def appB (a0 a1 a2 a3 : ByteArray) (a4 a5 : Int) (a6 : Bool) (c0 c1 c2 c3 : ByteArray) (c4 : Int) (c5 : Bool) : Bool :=
  decide (a0.toList = c0.toList) && (decide (a1.toList = c1.toList) && ((decide (a2.toList = ([] : List UInt8)) || decide (a2.toList = c2.toList)) && ((decide (a3.toList = ([] : List UInt8)) || decide (a3.toList = c3.toList)) && ((a6 == c5) && decide (a4 ≤ c4 ∧ c4 ≤ a5)))))
theorem kit_applies {a0 a1 a2 a3 : ByteArray} {a4 a5 : Int} {a6 : Bool} {a7 : Int} {a8 : Bool} {c0 c1 c2 c3 : ByteArray} {c4 : Int} {c5 : Bool} :
    partner_applies.f a0 a1 a2 a3 a4 a5 a6 a7 a8 c0 c1 c2 c3 c4 c5 = some (appB a0 a1 a2 a3 a4 a5 a6 c0 c1 c2 c3 c4 c5) := by
  unfold partner_applies.f partner_alike.f appB
  simp only [outside]
  have e : decide (a4 ≤ c4 ∧ c4 ≤ a5) = !decide (c4 < a4 ∨ a5 < c4) := by rw [← decide_not]; congr 1; simp only [eq_iff_iff]; omega
  rw [e]
  generalize decide (c4 < a4 ∨ a5 < c4) = q
  by_cases e0 : a0.toList = c0.toList <;> by_cases e1 : a1.toList = c1.toList <;> by_cases e2 : a2.toList = ([] : List UInt8) <;> by_cases e2' : a2.toList = c2.toList <;> by_cases e3 : a3.toList = ([] : List UInt8) <;> by_cases e3' : a3.toList = c3.toList <;> cases a6 <;> cases c5 <;> cases q <;> simp_all
theorem kit_Applies {a0 a1 a2 a3 : ByteArray} {a4 a5 : Int} {a6 : Bool} {a7 : Int} {a8 : Bool} {c0 c1 c2 c3 : ByteArray} {c4 : Int} {c5 : Bool}
    (g2 : a2.size ≤ 140737488351232) (g3 : a3.size ≤ 140737488351232) (h0 : c0.size ≤ 140737488351232) (h1 : c1.size ≤ 140737488351232) (h2 : c2.size ≤ 140737488351232) (h3 : c3.size ≤ 140737488351232) (k : Nat) (hk : 50 ≤ k) :
    partner_Applies.f k a0 a1 a2 a3 a4 a5 a6 a7 a8 c0 c1 c2 c3 c4 c5 = some (if agF a0 a1 a2 a3 a4 a5 a7 = 0 then (if caseF c0 c1 c2 c3 c4 = 0 then (appB a0 a1 a2 a3 a4 a5 a6 c0 c1 c2 c3 c4 c5, 0) else (false, caseF c0 c1 c2 c3 c4)) else (false, agF a0 a1 a2 a3 a4 a5 a7)) := by
  unfold partner_Applies.f
  simp only [own_fault g2 g3 k hk, kit_case h0 h1 h2 h3 k hk, kit_applies, Option.bind_some]
  repeat' split
  all_goals rfl
theorem ref_rest {c0 c1 c2 c3 : ByteArray} {c4 : Int} {c5 : Bool} (h2 : c2.size ≤ 140737488351232) (h3 : c3.size ≤ 140737488351232) (k : Nat) (hk : 50 ≤ k) : interchangeref8_checkCase.f k c0 c1 c2 c3 c4 c5 = some (restF c2 c3 c4) := by
  unfold interchangeref8_checkCase.f restF
  simp only [ref_name _ h2 k hk, ref_name _ h3 k hk, Option.bind_some]
  obtain ⟨k, rfl⟩ : ∃ m, k = m + 2 := ⟨k - 2, by omega⟩
  cases nameB c2 <;> cases nameB c3 <;> simp [interchangeref8_checkCase.j0, ref_day]
  split <;> rfl
theorem ref_case {c0 c1 c2 c3 : ByteArray} {c4 : Int} {c5 : Bool} (h0 : c0.size ≤ 140737488351232) (h1 : c1.size ≤ 140737488351232) (h2 : c2.size ≤ 140737488351232) (h3 : c3.size ≤ 140737488351232) (k : Nat) (hk : 50 ≤ k) : interchangeref8_checkWhole.f k c0 c1 c2 c3 c4 c5 = some (caseF c0 c1 c2 c3 c4) := by
  unfold interchangeref8_checkWhole.f caseF
  simp only [ref_name _ h0 k hk, ref_name _ h1 k hk, ref_rest h2 h3 k hk, Option.bind_some]
  cases nameB c0 <;> cases nameB c1 <;> simp
theorem ref_applies {a0 a1 a2 a3 : ByteArray} {a4 a5 : Int} {a6 : Bool} {a7 : Int} {a8 : Bool} {c0 c1 c2 c3 : ByteArray} {c4 : Int} {c5 : Bool} :
    interchangeref8_applies.f a0 a1 a2 a3 a4 a5 a6 a7 a8 c0 c1 c2 c3 c4 c5 = some (appB a0 a1 a2 a3 a4 a5 a6 c0 c1 c2 c3 c4 c5) := by
  unfold interchangeref8_applies.f appB
  simp only [within8]
  generalize decide (a4 ≤ c4 ∧ c4 ≤ a5) = q
  by_cases e0 : a0.toList = c0.toList <;> by_cases e1 : a1.toList = c1.toList <;> by_cases e2 : a2.toList = ([] : List UInt8) <;> by_cases e2' : a2.toList = c2.toList <;> by_cases e3 : a3.toList = ([] : List UInt8) <;> by_cases e3' : a3.toList = c3.toList <;> cases a6 <;> cases c5 <;> cases q <;> simp_all
theorem ref_Applies {a0 a1 a2 a3 : ByteArray} {a4 a5 : Int} {a6 : Bool} {a7 : Int} {a8 : Bool} {c0 c1 c2 c3 : ByteArray} {c4 : Int} {c5 : Bool}
    (g2 : a2.size ≤ 140737488351232) (g3 : a3.size ≤ 140737488351232) (h0 : c0.size ≤ 140737488351232) (h1 : c1.size ≤ 140737488351232) (h2 : c2.size ≤ 140737488351232) (h3 : c3.size ≤ 140737488351232) (k : Nat) (hk : 50 ≤ k) :
    interchangeref8_Applies.f k a0 a1 a2 a3 a4 a5 a6 a7 a8 c0 c1 c2 c3 c4 c5 = some (if agF a0 a1 a2 a3 a4 a5 a7 = 0 then (if caseF c0 c1 c2 c3 c4 = 0 then (appB a0 a1 a2 a3 a4 a5 a6 c0 c1 c2 c3 c4 c5, 0) else (false, caseF c0 c1 c2 c3 c4)) else (false, agF a0 a1 a2 a3 a4 a5 a7)) := by
  unfold interchangeref8_Applies.f
  simp only [ref_ag g2 g3 k hk, ref_case h0 h1 h2 h3 k hk, ref_applies, Option.bind_some]
  repeat' split
  all_goals rfl
theorem PartnerCasesMatchSpec : Pure := by
  rintro a b c ⟨_, _, a2, a3, _⟩ ⟨_, _, b2, b3, _⟩ ⟨c0, c1, c2, c3, _⟩
  refine ⟨100, ?_⟩
  unfold interchangelaw8_PartnerCasesMatchSpec.f
  rw [ref_Applies a2 a3 c0 c1 c2 c3 100 (by omega), kit_Applies a2 a3 c0 c1 c2 c3 100 (by omega)]
  simp only [Option.bind_some]
  generalize (if agF a.f0 a.f1 a.f2 a.f3 a.f4 a.f5 a.f7 = 0 then if caseF c.f0 c.f1 c.f2 c.f3 c.f4 = 0 then (appB a.f0 a.f1 a.f2 a.f3 a.f4 a.f5 a.f6 c.f0 c.f1 c.f2 c.f3 c.f4 c.f5, (0 : Int)) else (false, caseF c.f0 c.f1 c.f2 c.f3 c.f4) else (false, agF a.f0 a.f1 a.f2 a.f3 a.f4 a.f5 a.f7)) = z
  simp [interchangelaw8_PartnerCasesMatchSpec.j0, ref_Better a2 a3 b2 b3 99 (by omega), kit_Better a2 a3 b2 b3 99 (by omega), awake_true]
end Go.Proofs.YtdlgohhecicnoaaDoor.XPartnerCasesMatchSpec.Q
