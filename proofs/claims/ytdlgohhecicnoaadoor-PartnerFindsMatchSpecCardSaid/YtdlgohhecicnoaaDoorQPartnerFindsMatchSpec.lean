/- The pure statement of PartnerFindsMatchSpec, proved: numbers, strings and lists alone. -/
import Derived.Test.YtdlgohhecicnoaaDoorPPartnerFindsMatchSpec
import Derived.Lib.Strings
import Derived.Lib.SlTrimSet
namespace Go.Proofs.YtdlgohhecicnoaaDoor.XPartnerFindsMatchSpec.Q
open Go.RowKit Go.Proofs.YtdlgohhecicnoaaDoor.XPartnerFindsMatchSpec Go.Proofs.YtdlgohhecicnoaaDoorW.PrintWords Go.Proofs.YtdlgohhecicnoaaDoorW.PrintMore
set_option linter.unusedVariables false
set_option linter.unusedSimpArgs false
/-! names -/
theorem wrap_up {i : Int} (h0 : -1 ≤ i) (h : i < 9223372036854775807) : wrap64 (i + 1) = i + 1 := by unfold wrap64; omega
theorem toL (s : ByteArray) : s.toList = s.data.toList := Go.Lib.toList_data s
theorem bt_get (s : ByteArray) (i : Nat) (h : i < s.size) : bt s i = ((s.data.toList[i]'(by rw [data_length]; exact h)).toNat : Int) := by
  unfold bt
  rw [dif_pos (by simpa using h)]
  simp
  rfl
theorem toL_nil (s : ByteArray) : (s.toList = ([] : List UInt8)) ↔ s.size = 0 := by
  rw [toL, ← List.length_eq_zero_iff, data_length]
/-- A byte of a name. -/
def nameByte (b : UInt8) : Bool := (decide (97 ≤ b.toNat) && decide (b.toNat ≤ 122)) || (decide (48 ≤ b.toNat) && decide (b.toNat ≤ 57)) || decide (b.toNat = 45)
/-- Is it a name? -/
def nameB (s : ByteArray) : Bool := decide (1 ≤ s.size) && decide (s.size ≤ 40) && decide (97 ≤ bt s 0) && decide (bt s 0 ≤ 122) && s.data.toList.all nameByte
theorem dw_nil {α : Type} (p : α → Bool) (l : List α) : (l.dropWhile p = []) ↔ ∀ x ∈ l, p x = true := by
  induction l with
  | nil => simp
  | cons a l ih =>
    rw [List.dropWhile_cons]
    cases h : p a <;> simp [h, ih]
theorem trimS_nil (l cs : List UInt8) : (Go.Lib.trimS l cs = []) ↔ ∀ b ∈ l, b ∈ cs := by
  unfold Go.Lib.trimS Go.Lib.trimLeftS Go.Lib.trimRightS
  rw [dw_nil]
  simp only [List.mem_reverse, List.contains_eq_mem, decide_eq_true_eq]
  constructor
  · intro h b hb
    by_cases hm : b ∈ List.dropWhile (fun x => decide (x ∈ cs)) l.reverse
    · exact h b hm
    · have hb2 : b ∈ List.takeWhile (fun x => decide (x ∈ cs)) l.reverse ++ List.dropWhile (fun x => decide (x ∈ cs)) l.reverse := by
        rw [List.takeWhile_append_dropWhile]; simpa using hb
      rcases List.mem_append.1 hb2 with h3 | h3
      · have := List.all_eq_true.1 (List.all_takeWhile (p := fun x => decide (x ∈ cs)) (l := l.reverse)) b h3
        simpa using this
      · exact absurd h3 hm
  · intro h b hb
    have := (List.dropWhile_sublist (fun x => decide (x ∈ cs)) (l := l.reverse)).subset hb
    exact h b (by simpa using this)
def nameSet : List UInt8 := [97, 98, 99, 100, 101, 102, 103, 104, 105, 106, 107, 108, 109, 110, 111, 112, 113, 114, 115, 116, 117, 118, 119, 120, 121, 122, 48, 49, 50, 51, 52, 53, 54, 55, 56, 57, 45]
theorem nameSet_mem (b : UInt8) : (b ∈ nameSet) ↔ nameByte b = true := by
  have h : ∀ n : Fin 256, ((UInt8.ofNat n.val) ∈ nameSet) ↔ nameByte (UInt8.ofNat n.val) = true := by decide +kernel
  have := h ⟨b.toNat, b.toNat_lt⟩
  simpa using this
theorem kit_name (s : ByteArray) (hs : s.size ≤ 140737488351232) : kit_IsName.f s = some (nameB s) := by
  unfold kit_IsName.f nameB
  by_cases h1 : (s.size : Int) < 1
  · rw [if_pos h1]; simp [show ¬ 1 ≤ s.size by omega]
  rw [if_neg h1]
  by_cases h2 : (s.size : Int) > 40
  · rw [if_pos h2]; simp [show ¬ s.size ≤ 40 by omega]
  rw [if_neg h2, if_pos (by omega)]
  by_cases h3 : bt s 0 < 97
  · rw [if_pos h3]; simp [show ¬ 97 ≤ bt s 0 by omega]
  rw [if_neg h3]
  by_cases h4 : bt s 0 > 122
  · rw [if_pos h4]; simp [show ¬ bt s 0 ≤ 122 by omega]
  rw [if_neg h4]
  unfold strings_Trim.f
  rw [if_pos ⟨by omega, by decide, by decide⟩]
  simp only [Option.bind_some]
  congr 1
  rw [Bool.eq_iff_iff, beq_iff_eq]
  simp only [toL, show (1 ≤ s.size) = True by simp; omega, show (s.size ≤ 40) = True by simp; omega, show (97 ≤ bt s 0) = True by simp; omega, show (bt s 0 ≤ 122) = True by simp; omega, decide_true, Bool.true_and, List.all_eq_true]
  show Go.Lib.trimS s.data.toList nameSet = [] ↔ _
  rw [trimS_nil]
  exact forall_congr' fun b => imp_congr_right fun _ => nameSet_mem b
theorem ref_name_l (s : ByteArray) (hs : s.size ≤ 140737488351232) (d : Nat) : ∀ (k i : Nat), i ≤ s.size → s.size - i = d → d < k →
    interchangeref1_isName.l0 k s (s.size : Int) i = some ((s.data.toList.drop i).all nameByte) := by
  induction d with
  | zero =>
    intro k i h1 hd hk
    obtain ⟨k, rfl⟩ : ∃ m, k = m + 1 := ⟨k - 1, by omega⟩
    simp only [interchangeref1_isName.l0]
    rw [if_neg (by omega), List.drop_of_length_le (by rw [data_length]; omega)]
    rfl
  | succ d ih =>
    intro k i h1 hd hk
    obtain ⟨k, rfl⟩ : ∃ m, k = m + 1 := ⟨k - 1, by omega⟩
    have hlt : i < s.size := by omega
    have hl : i < s.data.toList.length := by rw [data_length]; exact hlt
    have hr := ih k (i + 1) (by omega) (by omega) (by omega)
    simp only [interchangeref1_isName.l0]
    rw [if_pos (by omega), if_pos (by omega), if_pos (by omega), wrap_up (by omega) (by omega), List.drop_eq_getElem_cons hl, List.all_cons]
    have e1 : ((i : Int) + 1) = ((i + 1 : Nat) : Int) := by omega
    rw [e1, hr, bt_get s i hlt]
    generalize s.data.toList[i] = b
    generalize List.all _ _ = r
    have hb := b.toNat_lt
    cases hn : nameByte b
    · have hn' : ¬ ((97 ≤ b.toNat ∧ b.toNat ≤ 122 ∨ 48 ≤ b.toNat ∧ b.toNat ≤ 57) ∨ b.toNat = 45) := by
        intro h
        have : nameByte b = true := by simpa [nameByte] using h
        rw [this] at hn; cases hn
      repeat' split
      all_goals first | rfl | (exfalso; omega)
    · have hn' : ((97 ≤ b.toNat ∧ b.toNat ≤ 122 ∨ 48 ≤ b.toNat ∧ b.toNat ≤ 57) ∨ b.toNat = 45) := by simpa [nameByte] using hn
      repeat' split
      all_goals first | rfl | (exfalso; omega)
theorem ref_name (s : ByteArray) (hs : s.size ≤ 140737488351232) (k : Nat) (hk : 50 ≤ k) : interchangeref1_IsName.f k s = some (nameB s) := by
  obtain ⟨k, rfl⟩ : ∃ m, k = m + 1 := ⟨k - 1, by omega⟩
  unfold interchangeref1_IsName.f interchangeref1_isName.f nameB
  simp only [toL_nil, Option.bind_fun_some]
  by_cases h1 : s.size = 0
  · rw [if_pos h1]; simp [interchangeref1_isName.j0, h1]
  rw [if_neg h1]
  by_cases h2 : (s.size : Int) > 40
  · rw [if_pos h2]; simp [interchangeref1_isName.j0, show ¬ s.size ≤ 40 by omega]
  rw [if_neg h2, if_pos (by omega)]
  by_cases h3 : bt s 0 < 97
  · rw [if_pos h3]; simp [interchangeref1_isName.j0, show ¬ 97 ≤ bt s 0 by omega]
  rw [if_neg h3]
  by_cases h4 : bt s 0 > 122
  · simp [interchangeref1_isName.j0, show ¬ bt s 0 ≤ 122 by omega, h4]
  simp only [interchangeref1_isName.j0, h4, decide_false]
  rw [if_neg (by simp)]
  have := ref_name_l s hs s.size k 0 (by omega) (by omega) (by omega)
  simp only [Int.natCast_zero, List.drop_zero] at this
  rw [this]
  simp [show 1 ≤ s.size by omega, show s.size ≤ 40 by omega, show 97 ≤ bt s 0 by omega, show bt s 0 ≤ 122 by omega]
/-! agreements and cases -/
theorem wf_i64 {x : Int} (h : (Lit.int .i64 x).wf = true) : -9223372036854775808 ≤ x ∧ x ≤ 9223372036854775807 := by
  simpa [Lit.wf, IntKind.min, IntKind.max, IntKind.signed, IntKind.bits] using h
def anyB (s : ByteArray) : Bool := decide (s.toList = ([] : List UInt8)) || nameB s
theorem kit_any (s : ByteArray) (hs : s.size ≤ 140737488351232) : partner_isAny.f s = some (anyB s) := by
  unfold partner_isAny.f anyB
  by_cases h : s.toList = ([] : List UInt8)
  · rw [if_pos h]; simp [h]
  · rw [if_neg h, kit_name s hs]; simp [h]
theorem outside (x a b : Int) : kit_Outside.f x a b = some (decide (x < a ∨ b < x)) := by
  unfold kit_Outside.f
  by_cases h : x < a
  · rw [if_pos h]; simp [h]
  · rw [if_neg h]; simp [h]
/-- What is wrong with an agreement by itself. -/
def agF (a0 a1 a2 a3 : ByteArray) (a4 a5 a7 : Int) : Int :=
  if a0.toList = a1.toList then 12 else if anyB a2 = true ∧ anyB a3 = true then (if ¬ a3.toList = ([] : List UInt8) ∧ a2.toList = ([] : List UInt8) then 3 else if 1 ≤ a4 ∧ a4 ≤ 3652059 ∧ a4 ≤ a5 ∧ a5 ≤ 3652059 ∧ 0 ≤ a7 ∧ a7 ≤ 100000000 then 0 else 1) else 5
theorem own_fault {a0 a1 a2 a3 : ByteArray} {a4 a5 : Int} {a6 : Bool} {a7 : Int} {a8 : Bool} (h2 : a2.size ≤ 140737488351232) (h3 : a3.size ≤ 140737488351232) (k : Nat) (hk : 50 ≤ k) :
    partner_ownFault.f k a0 a1 a2 a3 a4 a5 a6 a7 a8 = some (agF a0 a1 a2 a3 a4 a5 a7) := by
  obtain ⟨k, rfl⟩ : ∃ m, k = m + 2 := ⟨k - 2, by omega⟩
  unfold partner_ownFault.f agF
  simp only [kit_any _ h2, kit_any _ h3, Option.bind_some]
  by_cases e1 : a0.toList = a1.toList
  · simp [e1]
  simp only [e1, if_false]
  cases m2 : anyB a2 <;> cases m3 : anyB a3 <;> simp [partner_ownFault.j0]
  by_cases e3 : a3.toList = ([] : List UInt8) <;> by_cases e2 : a2.toList = ([] : List UInt8) <;> simp [partner_ownFault.j1, e2, e3, outside]
  all_goals
    by_cases g1 : a4 < 1 ∨ 3652059 < a4
    · rw [if_pos g1, if_neg (by omega)]
    · rw [if_neg g1]
      by_cases g2 : a5 < a4 ∨ 3652059 < a5
      · rw [if_pos g2, if_neg (by omega)]
      · rw [if_neg g2]
        by_cases g3 : a7 < 0 ∨ 100000000 < a7
        · rw [if_pos g3, if_neg (by omega)]
        · rw [if_neg g3, if_pos (by omega)]
/-- The sign of the first number that is not zero. -/
def firstSign : List Int → Int
  | [] => 0
  | x :: r => if x < 0 then -1 else if x > 0 then 1 else firstSign r
theorem rd_drop {ys : List Int} {i : Nat} (h : i < ys.length) : ys.drop i = rd ys i :: ys.drop (i + 1) := by
  rw [List.drop_eq_getElem_cons h]
  congr 1
  simp [rd, h]
theorem kit_better_l (ys : List Int) (hn : ys.length < 1000) (d : Nat) : ∀ (k i : Nat), i ≤ ys.length → ys.length - i = d → d < k → partner_better.l0 k ys (ys.length : Int) i = some (firstSign (ys.drop i)) := by
  induction d with
  | zero =>
    intro k i h1 hd hk
    obtain ⟨k, rfl⟩ : ∃ m, k = m + 1 := ⟨k - 1, by omega⟩
    simp only [partner_better.l0]
    rw [if_neg (by omega), List.drop_of_length_le (by omega)]; rfl
  | succ d ih =>
    intro k i h1 hd hk
    obtain ⟨k, rfl⟩ : ∃ m, k = m + 1 := ⟨k - 1, by omega⟩
    simp only [partner_better.l0]
    rw [if_pos (by omega), if_pos (by omega), if_pos (by omega), wrap_up (by omega) (by omega), rd_drop (show i < ys.length by omega)]
    have := ih k (i + 1) (by omega) (by omega) (by omega)
    simp only [firstSign]
    by_cases g1 : rd ys i < 0
    · rw [if_pos g1, if_pos g1]
    · rw [if_neg g1, if_neg g1]
      by_cases g2 : rd ys i > 0
      · rw [if_pos g2, if_pos g2]
      · rw [if_neg g2, if_neg g2]
        exact_mod_cast this
def oneIf (s : ByteArray) : Int := if s.toList = ([] : List UInt8) then 0 else 1
theorem flag (s : ByteArray) : partner_flagNumber.f (s.toList != ([] : List UInt8)) = some (oneIf s) := by
  unfold partner_flagNumber.f oneIf
  by_cases h : s.toList = ([] : List UInt8) <;> simp [h]
theorem oneIf_le (s : ByteArray) : 0 ≤ oneIf s ∧ oneIf s ≤ 1 := by unfold oneIf; split <;> omega
/-- How two agreements compare. -/
def betF (a2 a3 : ByteArray) (a4 a5 : Int) (b2 b3 : ByteArray) (b4 b5 : Int) : Int := firstSign [oneIf b2 - oneIf a2, oneIf b3 - oneIf a3, b4 - a4, a5 - b5]
theorem kit_better {a0 a1 a2 a3 : ByteArray} {a4 a5 : Int} {a6 : Bool} {a7 : Int} {a8 : Bool} {b0 b1 b2 b3 : ByteArray} {b4 b5 : Int} {b6 : Bool} {b7 : Int} {b8 : Bool}
    (h4 : 1 ≤ a4 ∧ a4 ≤ 3652059) (h5 : 1 ≤ a5 ∧ a5 ≤ 3652059) (g4 : 1 ≤ b4 ∧ b4 ≤ 3652059) (g5 : 1 ≤ b5 ∧ b5 ≤ 3652059) (k : Nat) (hk : 50 ≤ k) :
    partner_better.f k a0 a1 a2 a3 a4 a5 a6 a7 a8 b0 b1 b2 b3 b4 b5 b6 b7 b8 = some (betF a2 a3 a4 a5 b2 b3 b4 b5) := by
  unfold partner_better.f betF
  simp only [flag, Option.bind_some]
  have w1 : ∀ x : Int, -4000000 ≤ x → x ≤ 4000000 → wrap64 x = x := fun x _ _ => by unfold wrap64; omega
  have := oneIf_le a2; have := oneIf_le a3; have := oneIf_le b2; have := oneIf_le b3
  rw [w1 _ (by omega) (by omega), w1 _ (by omega) (by omega), w1 _ (by omega) (by omega), w1 _ (by omega) (by omega)]
  exact kit_better_l [oneIf b2 - oneIf a2, oneIf b3 - oneIf a3, b4 - a4, a5 - b5] (by simp) 4 k 0 (by simp) (by simp) (by omega)
theorem agF_zero {a0 a1 a2 a3 : ByteArray} {a4 a5 a7 : Int} (h : agF a0 a1 a2 a3 a4 a5 a7 = 0) :
    ¬ a0.toList = a1.toList ∧ anyB a2 = true ∧ anyB a3 = true ∧ (a2.toList = ([] : List UInt8) → a3.toList = ([] : List UInt8)) ∧ 1 ≤ a4 ∧ a4 ≤ 3652059 ∧ a4 ≤ a5 ∧ a5 ≤ 3652059 ∧ 0 ≤ a7 ∧ a7 ≤ 100000000 := by
  unfold agF at h
  split at h
  · cases h
  split at h
  · split at h
    · cases h
    split at h
    · rename_i n1 n2 n3 n4
      exact ⟨n1, n2.1, n2.2, fun e => by by_cases e3 : a3.toList = ([] : List UInt8); exact e3; exact absurd ⟨e3, e⟩ n3, n4⟩
    · cases h
  · cases h
theorem awake_true : interchangelaw8_awake.f = some true := by
  have w1 : wrap64 2 = 2 := by unfold wrap64; omega
  simp [interchangelaw8_awake.f, partner_NextNumber.f, partner_CheckSeries.f, partner_isOf.f, outside, w1]
theorem within8 (x a b : Int) : interchangeref8_within.f x a b = some (decide (a ≤ x ∧ x ≤ b)) := by
  unfold interchangeref8_within.f
  by_cases h : a ≤ x
  · rw [if_pos h]; simp [h]
  · rw [if_neg h]; simp [h]
theorem ref_day (x : Int) : interchangeref1_IsDay.f x = some (decide (1 ≤ x ∧ x ≤ 3652059)) := by
  unfold interchangeref1_IsDay.f interchangeref1_isDay.f interchangeref1_within.f
  by_cases h : 1 ≤ x
  · rw [if_pos h]; simp [h]
  · rw [if_neg h]; simp [h]
theorem ref_any (s : ByteArray) (hs : s.size ≤ 140737488351232) (k : Nat) (hk : 50 ≤ k) : interchangeref8_isAny.f k s = some (anyB s) := by
  unfold interchangeref8_isAny.f anyB
  by_cases h : s.toList = ([] : List UInt8)
  · rw [if_pos h]; simp [h]
  · rw [if_neg h, ref_name s hs k hk]; simp [h]
theorem ref_ag {a0 a1 a2 a3 : ByteArray} {a4 a5 : Int} {a6 : Bool} {a7 : Int} {a8 : Bool} (h2 : a2.size ≤ 140737488351232) (h3 : a3.size ≤ 140737488351232) (k : Nat) (hk : 50 ≤ k) :
    interchangeref8_checkAgreement.f k a0 a1 a2 a3 a4 a5 a6 a7 a8 = some (agF a0 a1 a2 a3 a4 a5 a7) := by
  unfold interchangeref8_checkAgreement.f agF
  simp only [ref_any _ h2 k hk, ref_any _ h3 k hk, Option.bind_some]
  obtain ⟨k, rfl⟩ : ∃ m, k = m + 2 := ⟨k - 2, by omega⟩
  by_cases e1 : a0.toList = a1.toList
  · simp [e1]
  simp only [e1, if_false]
  cases m2 : anyB a2 <;> cases m3 : anyB a3 <;> simp [interchangeref8_checkAgreement.j0]
  by_cases e3 : a3.toList = ([] : List UInt8) <;> by_cases e2 : a2.toList = ([] : List UInt8) <;> simp [interchangeref8_checkAgreement.j1, e2, e3, within8, ref_day]
  all_goals
    by_cases g1 : 1 ≤ a4 ∧ a4 ≤ 3652059
    · rw [if_pos g1]
      by_cases g2 : a4 ≤ a5 ∧ a5 ≤ 3652059
      · rw [if_pos g2]
        by_cases g3 : 0 ≤ a7 ∧ a7 ≤ 100000000
        · rw [if_pos g3, if_pos (by omega)]
        · rw [if_neg g3, if_neg (by omega)]
      · rw [if_neg g2, if_neg (by omega)]
    · rw [if_neg g1, if_neg (by omega)]
theorem ref_better_l (ys : List Int) (hn : ys.length < 1000) (d : Nat) : ∀ (k i : Nat), i ≤ ys.length → ys.length - i = d → d < k → interchangeref8_better.l0 k ys (ys.length : Int) i = some (firstSign (ys.drop i)) := by
  induction d with
  | zero =>
    intro k i h1 hd hk
    obtain ⟨k, rfl⟩ : ∃ m, k = m + 1 := ⟨k - 1, by omega⟩
    simp only [interchangeref8_better.l0]
    rw [if_neg (by omega), List.drop_of_length_le (by omega)]; rfl
  | succ d ih =>
    intro k i h1 hd hk
    obtain ⟨k, rfl⟩ : ∃ m, k = m + 1 := ⟨k - 1, by omega⟩
    simp only [interchangeref8_better.l0]
    rw [if_pos (by omega), if_pos (by omega), if_pos (by omega), wrap_up (by omega) (by omega), rd_drop (show i < ys.length by omega)]
    have := ih k (i + 1) (by omega) (by omega) (by omega)
    simp only [firstSign]
    by_cases g1 : rd ys i < 0
    · rw [if_pos g1, if_pos g1]
    · rw [if_neg g1, if_neg g1]
      by_cases g2 : rd ys i > 0
      · rw [if_pos g2, if_pos g2]
      · rw [if_neg g2, if_neg g2]
        exact_mod_cast this
def rankF (a2 a3 : ByteArray) : Int := if a3.toList = ([] : List UInt8) then (if a2.toList = ([] : List UInt8) then 0 else 1) else 2
theorem ref_rank {a0 a1 a2 a3 : ByteArray} {a4 a5 : Int} {a6 : Bool} {a7 : Int} {a8 : Bool} : interchangeref8_rank.f a0 a1 a2 a3 a4 a5 a6 a7 a8 = some (rankF a2 a3) := by
  unfold interchangeref8_rank.f rankF
  repeat' split
  all_goals rfl
/-- Where a version stands only beside a message, the two ways to compare are one. -/
theorem rank_sign {a2 a3 b2 b3 : ByteArray} (ha : a2.toList = ([] : List UInt8) → a3.toList = ([] : List UInt8)) (hb : b2.toList = ([] : List UInt8) → b3.toList = ([] : List UInt8)) (r : List Int) :
    firstSign ((rankF b2 b3 - rankF a2 a3) :: r) = firstSign ((oneIf b2 - oneIf a2) :: (oneIf b3 - oneIf a3) :: r) := by
  by_cases e2 : a2.toList = ([] : List UInt8) <;> by_cases e3 : a3.toList = ([] : List UInt8) <;> by_cases f2 : b2.toList = ([] : List UInt8) <;> by_cases f3 : b3.toList = ([] : List UInt8) <;>
    first | (exact absurd (ha e2) e3) | (exact absurd (hb f2) f3) | simp [firstSign, rankF, oneIf, e2, e3, f2, f3]
theorem ref_better {a0 a1 a2 a3 : ByteArray} {a4 a5 : Int} {a6 : Bool} {a7 : Int} {a8 : Bool} {b0 b1 b2 b3 : ByteArray} {b4 b5 : Int} {b6 : Bool} {b7 : Int} {b8 : Bool}
    (ha : a2.toList = ([] : List UInt8) → a3.toList = ([] : List UInt8)) (hb : b2.toList = ([] : List UInt8) → b3.toList = ([] : List UInt8))
    (h4 : 1 ≤ a4 ∧ a4 ≤ 3652059) (h5 : 1 ≤ a5 ∧ a5 ≤ 3652059) (g4 : 1 ≤ b4 ∧ b4 ≤ 3652059) (g5 : 1 ≤ b5 ∧ b5 ≤ 3652059) (k : Nat) (hk : 50 ≤ k) :
    interchangeref8_better.f k a0 a1 a2 a3 a4 a5 a6 a7 a8 b0 b1 b2 b3 b4 b5 b6 b7 b8 = some (betF a2 a3 a4 a5 b2 b3 b4 b5) := by
  unfold interchangeref8_better.f betF
  simp only [ref_rank, Option.bind_some]
  have w1 : ∀ x : Int, -4000000 ≤ x → x ≤ 4000000 → wrap64 x = x := fun x _ _ => by unfold wrap64; omega
  have r1 : ∀ a b, 0 ≤ rankF a b ∧ rankF a b ≤ 2 := fun a b => by unfold rankF; (repeat' split) <;> omega
  have := r1 a2 a3; have := r1 b2 b3
  rw [w1 _ (by omega) (by omega), w1 _ (by omega) (by omega), w1 _ (by omega) (by omega), ← rank_sign ha hb]
  exact ref_better_l [rankF b2 b3 - rankF a2 a3, b4 - a4, a5 - b5] (by simp) 3 k 0 (by simp) (by simp) (by omega)
/-- What is wrong with a case without its partners. -/
def restF (c2 c3 : ByteArray) (c4 : Int) : Int := if nameB c2 = true ∧ nameB c3 = true then (if 1 ≤ c4 ∧ c4 ≤ 3652059 then 0 else 1) else 5
def caseF (c0 c1 c2 c3 : ByteArray) (c4 : Int) : Int := if nameB c0 = true ∧ nameB c1 = true then restF c2 c3 c4 else 5
theorem kit_rest {c0 c1 c2 c3 : ByteArray} {c4 : Int} {c5 : Bool} (h2 : c2.size ≤ 140737488351232) (h3 : c3.size ≤ 140737488351232) (k : Nat) (hk : 50 ≤ k) : partner_restFault.f k c0 c1 c2 c3 c4 c5 = some (restF c2 c3 c4) := by
  obtain ⟨k, rfl⟩ : ∃ m, k = m + 2 := ⟨k - 2, by omega⟩
  unfold partner_restFault.f restF
  simp only [kit_name _ h2, kit_name _ h3, Option.bind_some]
  cases nameB c2 <;> cases nameB c3 <;> simp [partner_restFault.j0, kit_IsDay.f, outside]
  by_cases g : c4 < 1 ∨ 3652059 < c4
  · rw [if_neg (by omega), if_neg (by omega)]
  · rw [if_pos (by omega), if_pos (by omega)]
theorem kit_case {c0 c1 c2 c3 : ByteArray} {c4 : Int} {c5 : Bool} (h0 : c0.size ≤ 140737488351232) (h1 : c1.size ≤ 140737488351232) (h2 : c2.size ≤ 140737488351232) (h3 : c3.size ≤ 140737488351232) (k : Nat) (hk : 50 ≤ k) : partner_caseFault.f k c0 c1 c2 c3 c4 c5 = some (caseF c0 c1 c2 c3 c4) := by
  unfold partner_caseFault.f caseF
  simp only [kit_name _ h0, kit_name _ h1, kit_rest h2 h3 k hk, Option.bind_some]
  cases nameB c0 <;> cases nameB c1 <;> simp
/-- Is an agreement for a case? -/
def appB (a0 a1 a2 a3 : ByteArray) (a4 a5 : Int) (a6 : Bool) (c0 c1 c2 c3 : ByteArray) (c4 : Int) (c5 : Bool) : Bool :=
  decide (a0.toList = c0.toList) && (decide (a1.toList = c1.toList) && ((decide (a2.toList = ([] : List UInt8)) || decide (a2.toList = c2.toList)) && ((decide (a3.toList = ([] : List UInt8)) || decide (a3.toList = c3.toList)) && ((a6 == c5) && decide (a4 ≤ c4 ∧ c4 ≤ a5)))))
theorem kit_applies {a0 a1 a2 a3 : ByteArray} {a4 a5 : Int} {a6 : Bool} {a7 : Int} {a8 : Bool} {c0 c1 c2 c3 : ByteArray} {c4 : Int} {c5 : Bool} :
    partner_applies.f a0 a1 a2 a3 a4 a5 a6 a7 a8 c0 c1 c2 c3 c4 c5 = some (appB a0 a1 a2 a3 a4 a5 a6 c0 c1 c2 c3 c4 c5) := by
  unfold partner_applies.f partner_alike.f appB
  simp only [outside]
  have e : decide (a4 ≤ c4 ∧ c4 ≤ a5) = !decide (c4 < a4 ∨ a5 < c4) := by rw [← decide_not]; congr 1; simp only [eq_iff_iff]; omega
  rw [e]
  generalize decide (c4 < a4 ∨ a5 < c4) = q
  by_cases e0 : a0.toList = c0.toList <;> by_cases e1 : a1.toList = c1.toList <;> by_cases e2 : a2.toList = ([] : List UInt8) <;> by_cases e2' : a2.toList = c2.toList <;> by_cases e3 : a3.toList = ([] : List UInt8) <;> by_cases e3' : a3.toList = c3.toList <;> cases a6 <;> cases c5 <;> cases q <;> simp_all
theorem ref_rest {c0 c1 c2 c3 : ByteArray} {c4 : Int} {c5 : Bool} (h2 : c2.size ≤ 140737488351232) (h3 : c3.size ≤ 140737488351232) (k : Nat) (hk : 50 ≤ k) : interchangeref8_checkCase.f k c0 c1 c2 c3 c4 c5 = some (restF c2 c3 c4) := by
  unfold interchangeref8_checkCase.f restF
  simp only [ref_name _ h2 k hk, ref_name _ h3 k hk, Option.bind_some]
  obtain ⟨k, rfl⟩ : ∃ m, k = m + 2 := ⟨k - 2, by omega⟩
  cases nameB c2 <;> cases nameB c3 <;> simp [interchangeref8_checkCase.j0, ref_day]
  split <;> rfl
theorem ref_case {c0 c1 c2 c3 : ByteArray} {c4 : Int} {c5 : Bool} (h0 : c0.size ≤ 140737488351232) (h1 : c1.size ≤ 140737488351232) (h2 : c2.size ≤ 140737488351232) (h3 : c3.size ≤ 140737488351232) (k : Nat) (hk : 50 ≤ k) : interchangeref8_checkWhole.f k c0 c1 c2 c3 c4 c5 = some (caseF c0 c1 c2 c3 c4) := by
  unfold interchangeref8_checkWhole.f caseF
  simp only [ref_name _ h0 k hk, ref_name _ h1 k hk, ref_rest h2 h3 k hk, Option.bind_some]
  cases nameB c0 <;> cases nameB c1 <;> simp
theorem ref_applies {a0 a1 a2 a3 : ByteArray} {a4 a5 : Int} {a6 : Bool} {a7 : Int} {a8 : Bool} {c0 c1 c2 c3 : ByteArray} {c4 : Int} {c5 : Bool} :
    interchangeref8_applies.f a0 a1 a2 a3 a4 a5 a6 a7 a8 c0 c1 c2 c3 c4 c5 = some (appB a0 a1 a2 a3 a4 a5 a6 c0 c1 c2 c3 c4 c5) := by
  unfold interchangeref8_applies.f appB
  simp only [within8]
  generalize decide (a4 ≤ c4 ∧ c4 ≤ a5) = q
  by_cases e0 : a0.toList = c0.toList <;> by_cases e1 : a1.toList = c1.toList <;> by_cases e2 : a2.toList = ([] : List UInt8) <;> by_cases e2' : a2.toList = c2.toList <;> by_cases e3 : a3.toList = ([] : List UInt8) <;> by_cases e3' : a3.toList = c3.toList <;> cases a6 <;> cases c5 <;> cases q <;> simp_all
theorem firstSign_neg : ∀ (l : List Int), firstSign (l.map (-·)) = - firstSign l
  | [] => rfl
  | x :: r => by
    have ih := firstSign_neg r
    simp only [List.map_cons, firstSign]
    by_cases h1 : x < 0
    · rw [if_neg (by omega), if_pos (by omega), if_pos h1]; rfl
    · rw [if_neg h1]
      by_cases h2 : x > 0
      · rw [if_pos (by omega), if_pos h2]
      · rw [if_neg (by omega), if_neg (by omega), if_neg h2, ih]
theorem bet_back (a2 a3 : ByteArray) (a4 a5 : Int) (b2 b3 : ByteArray) (b4 b5 : Int) : betF b2 b3 b4 b5 a2 a3 a4 a5 = - betF a2 a3 a4 a5 b2 b3 b4 b5 := by
  unfold betF
  rw [← firstSign_neg]
  simp only [List.map_cons, List.map_nil]
  congr 1
  simp only [List.cons.injEq, and_true]
  omega
theorem firstSign_cases (l : List Int) : firstSign l = -1 ∨ firstSign l = 0 ∨ firstSign l = 1 := by
  induction l with
  | nil => simp [firstSign]
  | cons x r ih => simp only [firstSign]; (repeat' split) <;> first | exact ih | simp
theorem bet_cases (a2 a3 : ByteArray) (a4 a5 : Int) (b2 b3 : ByteArray) (b4 b5 : Int) : betF a2 a3 a4 a5 b2 b3 b4 b5 = -1 ∨ betF a2 a3 a4 a5 b2 b3 b4 b5 = 0 ∨ betF a2 a3 a4 a5 b2 b3 b4 b5 = 1 := firstSign_cases _
theorem fs_trans : ∀ (ds es : List Int), ds.length = es.length → firstSign ds ≤ 0 → firstSign es ≤ 0 → firstSign (List.zipWith (· + ·) ds es) < 0 ∨ (firstSign ds = 0 ∧ firstSign es = 0 ∧ firstSign (List.zipWith (· + ·) ds es) = 0)
  | [], [], _, _, _ => .inr ⟨rfl, rfl, rfl⟩
  | d :: ds, e :: es, hl, h1, h2 => by
    have ih := fs_trans ds es (by simpa using hl)
    simp only [List.zipWith_cons_cons, firstSign] at *
    by_cases a1 : d < 0
    · by_cases b1 : e > 0
      · rw [if_neg (by omega), if_pos b1] at h2; omega
      · left; rw [if_pos (by omega)]; omega
    · by_cases a2 : d > 0
      · rw [if_neg a1, if_pos a2] at h1; omega
      · rw [if_neg a1, if_neg a2] at h1 ⊢
        by_cases b0 : e < 0
        · left; rw [if_pos (by omega)]; omega
        · by_cases b1 : e > 0
          · rw [if_neg b0, if_pos b1] at h2; omega
          · rw [if_neg b0, if_neg b1] at h2 ⊢
            rw [if_neg (by omega), if_neg (by omega)]
            exact ih h1 h2
theorem bet_trans {a2 a3 b2 b3 c2 c3 : ByteArray} {a4 a5 b4 b5 c4 c5 : Int} (h1 : betF a2 a3 a4 a5 b2 b3 b4 b5 ≤ 0) (h2 : betF b2 b3 b4 b5 c2 c3 c4 c5 ≤ 0) :
    betF a2 a3 a4 a5 c2 c3 c4 c5 < 0 ∨ (betF a2 a3 a4 a5 b2 b3 b4 b5 = 0 ∧ betF b2 b3 b4 b5 c2 c3 c4 c5 = 0 ∧ betF a2 a3 a4 a5 c2 c3 c4 c5 = 0) := by
  have := fs_trans _ _ (by rfl) h1 h2
  have e : List.zipWith (· + ·) [oneIf b2 - oneIf a2, oneIf b3 - oneIf a3, b4 - a4, a5 - b5] [oneIf c2 - oneIf b2, oneIf c3 - oneIf b3, c4 - b4, b5 - c5] = [oneIf c2 - oneIf a2, oneIf c3 - oneIf a3, c4 - a4, a5 - c5] := by
    simp only [List.zipWith_cons_cons, List.zipWith_nil_right, List.cons.injEq, and_true]
    omega
  rw [e] at this
  exact this
/-! partners and their addresses -/
theorem rd31_get (xs : List S31) (i : Nat) (h : i < xs.length) : rd_T31 xs (i : Int) = xs[i] := by
  unfold rd_T31
  rw [Int.toNat_natCast, List.getD_eq_getElem?_getD, List.getElem?_eq_getElem h]
  rfl
theorem rd86_get (xs : List S86) (i : Nat) (h : i < xs.length) : rd_T86 xs (i : Int) = xs[i] := by
  unfold rd_T86
  rw [Int.toNat_natCast, List.getD_eq_getElem?_getD, List.getElem?_eq_getElem h]
  rfl
/-- The fault of an address. -/
def addrF (a b : ByteArray) : Int := if nameB a = true then (if (b.size : Int) < 1 then 3 else if (b.size : Int) > 35 then 3 else if (b.data.toList.all fun c => decide (33 ≤ c.toNat) && decide (c.toNat ≤ 126)) = true then 0 else 3) else 5
theorem addrF_zero {a b : ByteArray} (h : addrF a b = 0) : a.size ≤ 40 ∧ b.size ≤ 35 := by
  unfold addrF at h
  split at h
  · rename_i hn
    simp only [nameB, Bool.and_eq_true, decide_eq_true_eq] at hn
    refine ⟨hn.1.1.1.2, ?_⟩
    split at h
    · cases h
    split at h
    · cases h
    omega
  · cases h
theorem kit_bytes_l (s : ByteArray) (hs : s.size ≤ 140737488351232) (d : Nat) : ∀ (k i : Nat), i ≤ s.size → s.size - i = d → d < k →
    kit_InBytes.l0 k s 33 126 (s.size : Int) i = some ((s.data.toList.drop i).all fun c => decide (33 ≤ c.toNat) && decide (c.toNat ≤ 126)) := by
  induction d with
  | zero =>
    intro k i h1 hd hk
    obtain ⟨k, rfl⟩ : ∃ m, k = m + 1 := ⟨k - 1, by omega⟩
    simp only [kit_InBytes.l0]
    rw [if_neg (by omega), List.drop_of_length_le (by rw [data_length]; omega)]
    rfl
  | succ d ih =>
    intro k i h1 hd hk
    obtain ⟨k, rfl⟩ : ∃ m, k = m + 1 := ⟨k - 1, by omega⟩
    have hlt : i < s.size := by omega
    have hl : i < s.data.toList.length := by rw [data_length]; exact hlt
    have hr := ih k (i + 1) (by omega) (by omega) (by omega)
    simp only [kit_InBytes.l0]
    rw [if_pos (by omega), if_pos (by omega), if_pos (by omega), wrap_up (by omega) (by omega), List.drop_eq_getElem_cons hl, List.all_cons]
    have e1 : ((i : Int) + 1) = ((i + 1 : Nat) : Int) := by omega
    rw [e1, hr, bt_get s i hlt]
    generalize s.data.toList[i] = b
    generalize List.all _ _ = r
    by_cases h1 : 33 ≤ b.toNat
    · by_cases h2 : b.toNat ≤ 126
      · rw [if_neg (by omega), if_neg (by omega)]; simp [h1, h2]
      · rw [if_neg (by omega), if_pos (by omega)]; simp [h2]
    · rw [if_pos (by omega)]; simp [h1]
theorem kit_addr (x : S31) (h : ok31 x) (k : Nat) (hk : 50 ≤ k) : partner_addressFault.f k x.f0 x.f1 = some (addrF x.f0 x.f1) := by
  unfold partner_addressFault.f addrF kit_InBytes.f
  rw [kit_name _ h.1, Option.bind_some]
  by_cases hn : nameB x.f0 = true
  · rw [if_pos hn, if_pos hn]
    by_cases h1 : (x.f1.size : Int) < 1
    · rw [if_pos h1, if_pos h1]
    rw [if_neg h1, if_neg h1]
    by_cases h2 : (x.f1.size : Int) > 35
    · rw [if_pos h2, if_pos h2]
    rw [if_neg h2, if_neg h2]
    have := kit_bytes_l x.f1 h.2 x.f1.size k 0 (by omega) (by omega) (by omega)
    simp only [Int.natCast_zero, List.drop_zero] at this
    rw [this, Option.bind_some]
    generalize List.all _ _ = r
    cases r <;> rfl
  · rw [if_neg hn, if_neg hn]
theorem ref_bytes_l (a s : ByteArray) (hs : s.size ≤ 140737488351232) (d : Nat) : ∀ (k i : Nat), i ≤ s.size → s.size - i = d → d < k →
    interchangeref8_checkAddress.l0 k (s.size : Int) i a s = some (if ((s.data.toList.drop i).all fun c => decide (33 ≤ c.toNat) && decide (c.toNat ≤ 126)) = true then 0 else 3) := by
  induction d with
  | zero =>
    intro k i h1 hd hk
    obtain ⟨k, rfl⟩ : ∃ m, k = m + 1 := ⟨k - 1, by omega⟩
    simp only [interchangeref8_checkAddress.l0]
    rw [if_neg (by omega), List.drop_of_length_le (by rw [data_length]; omega)]
    rfl
  | succ d ih =>
    intro k i h1 hd hk
    obtain ⟨k, rfl⟩ : ∃ m, k = m + 1 := ⟨k - 1, by omega⟩
    have hlt : i < s.size := by omega
    have hl : i < s.data.toList.length := by rw [data_length]; exact hlt
    have hr := ih k (i + 1) (by omega) (by omega) (by omega)
    simp only [interchangeref8_checkAddress.l0]
    rw [if_pos (by omega), if_pos (by omega), if_pos (by omega), wrap_up (by omega) (by omega), List.drop_eq_getElem_cons hl, List.all_cons]
    have e1 : ((i : Int) + 1) = ((i + 1 : Nat) : Int) := by omega
    rw [e1, hr, bt_get s i hlt]
    generalize s.data.toList[i] = b
    generalize List.all _ _ = r
    by_cases h1 : 33 ≤ b.toNat
    · by_cases h2 : b.toNat ≤ 126
      · rw [if_neg (by omega), if_neg (by omega)]; simp [h1, h2]
      · rw [if_neg (by omega), if_pos (by omega)]; simp [h2]
    · rw [if_pos (by omega)]; simp [h1]
theorem ref_addr (x : S31) (h : ok31 x) (k : Nat) (hk : 50 ≤ k) : interchangeref8_checkAddress.f k x.f0 x.f1 = some (addrF x.f0 x.f1) := by
  unfold interchangeref8_checkAddress.f addrF interchangeref8_within.f
  rw [ref_name _ h.1 k hk, Option.bind_some]
  by_cases hn : nameB x.f0 = true
  · rw [if_pos hn, if_pos hn]
    by_cases h1 : (x.f1.size : Int) < 1
    · rw [if_pos h1, if_neg (by omega)]; rfl
    rw [if_neg h1, if_pos (by omega), Option.bind_some]
    by_cases h2 : (x.f1.size : Int) > 35
    · rw [if_pos h2, if_neg (by simp; omega)]
    rw [if_neg h2, if_pos (by simp; omega)]
    have := ref_bytes_l x.f0 x.f1 h.2 x.f1.size k 0 (by omega) (by omega) (by omega)
    simp only [Int.natCast_zero, List.drop_zero] at this
    rw [this]
  · rw [if_neg hn, if_neg hn]
theorem same_adr (a b : ByteArray) (y : S31) : (a.toList == y.f0.toList && b.toList == y.f1.toList) = adrSame ⟨a, b⟩ y := by
  unfold adrSame
  congr 1 <;> (rw [Bool.eq_iff_iff]; simp)
theorem has_l (xs : List S31) (a b : ByteArray) (hx : xs.length ≤ 4611686018427387904) (d : Nat) : ∀ (k i : Nat), i ≤ xs.length → xs.length - i = d → d < k →
    ∃ v, api_Address_92.l0 k xs (xs.length : Int) i a b = some v ∧ decide (v ≥ 0) = (xs.drop i).any (adrSame ⟨a, b⟩) := by
  induction d with
  | zero =>
    intro k i h1 hd hk
    obtain ⟨k, rfl⟩ : ∃ m, k = m + 1 := ⟨k - 1, by omega⟩
    simp only [api_Address_92.l0]
    rw [if_neg (by omega), List.drop_of_length_le (by omega)]
    exact ⟨_, rfl, by simp⟩
  | succ d ih =>
    intro k i h1 hd hk
    obtain ⟨k, rfl⟩ : ∃ m, k = m + 1 := ⟨k - 1, by omega⟩
    have hl : i < xs.length := by omega
    obtain ⟨v, hv, hr⟩ := ih k (i + 1) (by omega) (by omega) (by omega)
    simp only [api_Address_92.l0]
    rw [if_pos (by omega), if_pos (by omega), if_pos (by omega), wrap_up (by omega) (by omega), List.drop_eq_getElem_cons hl, List.any_cons, rd31_get xs i hl, same_adr]
    have e1 : ((i : Int) + 1) = ((i + 1 : Nat) : Int) := by omega
    rw [e1, hv]
    cases adrSame ⟨a, b⟩ xs[i]
    · rw [if_neg (by simp)]; exact ⟨_, rfl, by simpa using hr⟩
    · rw [if_pos rfl]; exact ⟨_, rfl, by simp⟩
theorem has_adr (xs : List S31) (a b : ByteArray) (hx : xs.length ≤ 4611686018427387904) (k : Nat) (hk : xs.length < k) :
    api_Address_51.f k xs a b = some (xs.any (adrSame ⟨a, b⟩)) := by
  unfold api_Address_51.f api_Address_92.f
  obtain ⟨v, hv, hr⟩ := has_l xs a b hx xs.length k 0 (by omega) (by omega) hk
  simp only [Int.natCast_zero, List.drop_zero] at hv hr
  rw [hv, Option.bind_some, hr]
/-- The two checks of partners answer alike: a round of addresses. -/
theorem check_adr (l : List S86) (i : Nat) (xs : List S31) (hi : i < l.length) (hl : l.length ≤ 200) (hm : xs.length ≤ 10) (hx : ∀ x ∈ xs, ok31 x) (B : Nat)
    (next : ∀ (k : Nat) (seen : List S31), B ≤ k → seen.length ≤ 10 * (i + 1) → ∃ v, interchangeref8_CheckPartners.l0 k l seen l (l.length : Int) ((i + 1 : Nat) : Int) = some v ∧ partner_CheckPartners.l0 k l seen l (l.length : Int) ((i + 1 : Nat) : Int) = some v)
    (hB : 3000 ≤ B) (e : Nat) : ∀ (k j : Nat) (seen : List S31), j ≤ xs.length → xs.length - j = e → B + e + 1 ≤ k → seen.length ≤ 10 * i + j →
    ∃ v, interchangeref8_CheckPartners.l1 k l seen l (l.length : Int) i xs (xs.length : Int) j = some v ∧ partner_CheckPartners.l1 k l seen l (l.length : Int) i xs (xs.length : Int) j = some v := by
  induction e with
  | zero =>
    intro k j seen h1 he hk hs
    obtain ⟨k, rfl⟩ : ∃ m, k = m + 1 := ⟨k - 1, by omega⟩
    have c1 : ¬ ((j : Int) < xs.length) := by omega
    have hn := next k seen (by omega) (by omega)
    have w1 : wrap64 ((i : Int) + 1) = ((i + 1 : Nat) : Int) := by rw [wrap_up (by omega) (by omega)]; omega
    simp only [interchangeref8_CheckPartners.l1, partner_CheckPartners.l1, c1, ↓reduceIte, w1]
    exact hn
  | succ e ih =>
    intro k j seen h1 he hk hs
    obtain ⟨k, rfl⟩ : ∃ m, k = m + 1 := ⟨k - 1, by omega⟩
    have hj : j < xs.length := by omega
    have c1 : (j : Int) < xs.length := by omega
    have c0 : (0 : Int) ≤ j := by omega
    have w2 : wrap64 ((j : Int) + 1) = ((j + 1 : Nat) : Int) := by rw [wrap_up (by omega) (by omega)]; omega
    simp only [interchangeref8_CheckPartners.l1, partner_CheckPartners.l1, c1, c0, ↓reduceIte, rd31_get xs j hj, w2]
    clear w2
    have ho := hx xs[j] (List.getElem_mem hj)
    rw [ref_addr _ ho k (by omega), kit_addr _ ho k (by omega)]
    simp only [Option.bind_some]
    by_cases hf : addrF xs[j].f0 xs[j].f1 = 0
    · have hz := addrF_zero hf
      rw [if_pos hf, if_pos hf, has_adr _ _ _ (by omega) k (by omega)]
      have s1 : xs[j].f0.size ≤ 1000 ∧ xs[j].f1.size ≤ 1000 := ⟨by omega, by omega⟩
      have s2 : xs[j].f0.size ≤ 1000 ∧ xs[j].f1.size ≤ 1000 ∧ seen.length < 1099511627776 := ⟨by omega, by omega, by omega⟩
      simp only [map_has_adr.f, map_put_adr.f]
      rw [if_pos s1]
      simp only [Option.bind_some]
      rw [if_pos s2]
      simp only [Option.bind_some]
      cases seen.any (adrSame ⟨xs[j].f0, xs[j].f1⟩)
      · simp only [Bool.false_eq_true, ↓reduceIte]
        rw [if_pos (by omega)]
        exact ih k (j + 1) _ (by omega) (by omega) (by omega) (by simp; omega)
      · rw [if_pos rfl, if_pos rfl]; exact ⟨_, rfl, rfl⟩
    · rw [if_neg hf, if_neg hf]; exact ⟨_, rfl, rfl⟩
theorem check_l (l : List S86) (hl : l.length ≤ 200) (hx : ∀ x ∈ l, ok86 x) (d : Nat) : ∀ (k i : Nat) (seen : List S31), i ≤ l.length → l.length - i = d → 3001 + 14 * d ≤ k → seen.length ≤ 10 * i →
    ∃ v, interchangeref8_CheckPartners.l0 k l seen l (l.length : Int) i = some v ∧ partner_CheckPartners.l0 k l seen l (l.length : Int) i = some v := by
  induction d with
  | zero =>
    intro k i seen h1 hd hk hs
    obtain ⟨k, rfl⟩ : ∃ m, k = m + 1 := ⟨k - 1, by omega⟩
    simp only [interchangeref8_CheckPartners.l0, partner_CheckPartners.l0]
    rw [if_neg (by omega), if_neg (by omega)]
    exact ⟨_, rfl, rfl⟩
  | succ d ih =>
    intro k i seen h1 hd hk hs
    obtain ⟨k, rfl⟩ : ∃ m, k = m + 1 := ⟨k - 1, by omega⟩
    have hi : i < l.length := by omega
    have ho := hx l[i] (List.getElem_mem hi)
    have hj : ∀ b : Bool, ∃ v, interchangeref8_CheckPartners.j1 k l seen l (l.length : Int) i b l[i].f0 l[i].f1 = some v ∧ partner_CheckPartners.j1 k l seen l (l.length : Int) i b l[i].f0 l[i].f1 = some v := by
      intro b
      obtain ⟨k, rfl⟩ : ∃ m, k = m + 1 := ⟨k - 1, by omega⟩
      simp only [interchangeref8_CheckPartners.j1, partner_CheckPartners.j1]
      cases b
      · simp only [Bool.false_eq_true, ↓reduceIte]
        by_cases hm : (l[i].f1.length : Int) > 10
        · rw [if_pos hm, if_pos hm]; exact ⟨_, rfl, rfl⟩
        · rw [if_neg hm, if_neg hm]
          exact check_adr l i l[i].f1 hi hl (by omega) ho.2.2.2 (3001 + 14 * d) (fun k seen hk hs => ih k (i + 1) seen (by omega) (by omega) hk hs) (by omega) l[i].f1.length k 0 seen (by omega) (by omega) (by omega) (by omega)
      · rw [if_pos rfl, if_pos rfl]; exact ⟨_, rfl, rfl⟩
    have c1 : (i : Int) < l.length := by omega
    have c0 : (0 : Int) ≤ i := by omega
    simp only [interchangeref8_CheckPartners.l0, partner_CheckPartners.l0, c1, c0, ↓reduceIte, rd86_get l i hi, ref_name _ ho.1 k (by omega), kit_name _ ho.1, Option.bind_some]
    by_cases hn : nameB l[i].f0 = true
    · rw [if_pos hn, if_pos hn]
      by_cases h0 : (i : Int) > 0
      · have w1 : wrap64 ((i : Int) - 1) = (i : Int) - 1 := by unfold wrap64; omega
        rw [if_pos h0, if_pos h0, w1, if_pos (show (0 : Int) ≤ (i : Int) - 1 by omega), if_pos (show (i : Int) - 1 < l.length by omega), if_pos (show (0 : Int) ≤ (i : Int) - 1 by omega), if_pos (show (i : Int) - 1 < l.length by omega)]
        exact hj _
      · rw [if_neg h0, if_neg h0]; exact hj _
    · rw [if_neg hn, if_neg hn]; exact ⟨_, rfl, rfl⟩
theorem check_same (l : List S86) (hx : ∀ x ∈ l, ok86 x) (k : Nat) (hk : 10000 ≤ k) : ∃ v, interchangeref8_CheckPartners.f k l = some v ∧ partner_CheckPartners.f k l = some v := by
  unfold interchangeref8_CheckPartners.f partner_CheckPartners.f map_mk_adr.f
  by_cases h : (l.length : Int) > 200
  · rw [if_pos h, if_pos h]; exact ⟨_, rfl, rfl⟩
  · rw [if_neg h, if_neg h, Option.bind_some]
    have := check_l l (by omega) hx l.length k 0 [] (by omega) (by omega) (by omega) (by simp)
    exact this
theorem of_same (l : List S86) (a b : ByteArray) (hx : ∀ x ∈ l, ok86 x) (hn : l.length ≤ 140737488351232) (d : Nat) : ∀ (k i : Nat), i ≤ l.length → l.length - i = d → 5000000000000 + d < k →
    ∃ v, interchangeref8_partnerOf.l0 k l (l.length : Int) i a b = some v ∧ partner_partnerOf.l0 k l (l.length : Int) i a b = some v := by
  induction d with
  | zero =>
    intro k i h1 hd hk
    obtain ⟨k, rfl⟩ : ∃ m, k = m + 1 := ⟨k - 1, by omega⟩
    simp only [interchangeref8_partnerOf.l0, partner_partnerOf.l0]
    rw [if_neg (by omega), if_neg (by omega)]
    exact ⟨_, rfl, rfl⟩
  | succ d ih =>
    intro k i h1 hd hk
    obtain ⟨k, rfl⟩ : ∃ m, k = m + 1 := ⟨k - 1, by omega⟩
    have hi : i < l.length := by omega
    have ho := hx l[i] (List.getElem_mem hi)
    have h2 := ho.2.2.1
    have c1 : (i : Int) < l.length := by omega
    have c0 : (0 : Int) ≤ i := by omega
    simp only [interchangeref8_partnerOf.l0, partner_partnerOf.l0, c1, c0, ↓reduceIte, rd86_get l i hi, has_adr l[i].f1 a b (by omega) k (by omega), wrap_up (show -1 ≤ (i : Int) by omega) (show (i : Int) < 9223372036854775807 by omega), Option.bind_some]
    cases l[i].f1.any (adrSame ⟨a, b⟩)
    · simp only [Bool.false_eq_true, ↓reduceIte]
      have e1 : ((i : Int) + 1) = ((i + 1 : Nat) : Int) := by omega
      rw [e1]
      exact ih k (i + 1) (by omega) (by omega) (by omega)
    · rw [if_pos rfl, if_pos rfl]; exact ⟨_, rfl, rfl⟩
theorem kit_adr (l : List S86) (i : Nat) (xs : List S31) (hi : i < l.length) (hl : l.length ≤ 200) (hm : xs.length ≤ 10) (hx : ∀ x ∈ xs, ok31 x) (B : Nat) (Q : Int → Prop) (hQ : ∀ v, v ≠ 0 → Q v)
    (next : ∀ (k : Nat) (seen : List S31), B ≤ k → seen.length ≤ 10 * (i + 1) → ∃ v, partner_CheckPartners.l0 k l seen l (l.length : Int) ((i + 1 : Nat) : Int) = some v ∧ Q v)
    (hB : 3000 ≤ B) (e : Nat) : ∀ (k j : Nat) (seen : List S31), j ≤ xs.length → xs.length - j = e → B + e + 1 ≤ k → seen.length ≤ 10 * i + j →
    ∃ v, partner_CheckPartners.l1 k l seen l (l.length : Int) i xs (xs.length : Int) j = some v ∧ Q v := by
  induction e with
  | zero =>
    intro k j seen h1 he hk hs
    obtain ⟨k, rfl⟩ : ∃ m, k = m + 1 := ⟨k - 1, by omega⟩
    have c1 : ¬ ((j : Int) < xs.length) := by omega
    have hn := next k seen (by omega) (by omega)
    have w1 : wrap64 ((i : Int) + 1) = ((i + 1 : Nat) : Int) := by rw [wrap_up (by omega) (by omega)]; omega
    simp only [partner_CheckPartners.l1, c1, ↓reduceIte, w1]
    exact hn
  | succ e ih =>
    intro k j seen h1 he hk hs
    obtain ⟨k, rfl⟩ : ∃ m, k = m + 1 := ⟨k - 1, by omega⟩
    have hj : j < xs.length := by omega
    have c1 : (j : Int) < xs.length := by omega
    have c0 : (0 : Int) ≤ j := by omega
    have w2 : wrap64 ((j : Int) + 1) = ((j + 1 : Nat) : Int) := by rw [wrap_up (by omega) (by omega)]; omega
    simp only [partner_CheckPartners.l1, c1, c0, ↓reduceIte, rd31_get xs j hj, w2]
    clear w2
    have ho := hx xs[j] (List.getElem_mem hj)
    rw [kit_addr _ ho k (by omega)]
    simp only [Option.bind_some]
    by_cases hf : addrF xs[j].f0 xs[j].f1 = 0
    · have hz := addrF_zero hf
      rw [if_pos hf]
      have s1 : xs[j].f0.size ≤ 1000 ∧ xs[j].f1.size ≤ 1000 := ⟨by omega, by omega⟩
      have s2 : xs[j].f0.size ≤ 1000 ∧ xs[j].f1.size ≤ 1000 ∧ seen.length < 1099511627776 := ⟨by omega, by omega, by omega⟩
      simp only [map_has_adr.f, map_put_adr.f]
      rw [if_pos s1]
      simp only [Option.bind_some]
      rw [if_pos s2]
      simp only [Option.bind_some]
      cases seen.any (adrSame ⟨xs[j].f0, xs[j].f1⟩)
      · simp only [Bool.false_eq_true, ↓reduceIte]
        exact ih k (j + 1) _ (by omega) (by omega) (by omega) (by simp; omega)
      · rw [if_pos rfl]; exact ⟨_, rfl, hQ _ (by decide)⟩
    · rw [if_neg hf]; exact ⟨_, rfl, hQ _ hf⟩
/-- The names rise from a place on. -/
def Rising (l : List S86) (i : Nat) : Prop := ∀ j, i ≤ j → j < l.length → 0 < j → Op.bytesLess (rd_T86 l ((j : Int) - 1)).f0.toList (rd_T86 l j).f0.toList = true
theorem kit_l (l : List S86) (hl : l.length ≤ 200) (hx : ∀ x ∈ l, ok86 x) (d : Nat) : ∀ (k i : Nat) (seen : List S31), i ≤ l.length → l.length - i = d → 3001 + 14 * d ≤ k → seen.length ≤ 10 * i →
    ∃ v, partner_CheckPartners.l0 k l seen l (l.length : Int) i = some v ∧ (v = 0 → Rising l i ∧ ∀ j, i ≤ j → j < l.length → nameB (rd_T86 l j).f0 = true) := by
  induction d with
  | zero =>
    intro k i seen h1 hd hk hs
    obtain ⟨k, rfl⟩ : ∃ m, k = m + 1 := ⟨k - 1, by omega⟩
    simp only [partner_CheckPartners.l0]
    rw [if_neg (by omega)]
    exact ⟨_, rfl, fun _ => ⟨fun j h1 h2 => by omega, fun j h1 h2 => by omega⟩⟩
  | succ d ih =>
    intro k i seen h1 hd hk hs
    obtain ⟨k, rfl⟩ : ∃ m, k = m + 1 := ⟨k - 1, by omega⟩
    have hi : i < l.length := by omega
    have ho := hx l[i] (List.getElem_mem hi)
    have hj : ∀ b : Bool, nameB l[i].f0 = true → (b = false → 0 < i → Op.bytesLess (rd_T86 l ((i : Int) - 1)).f0.toList (rd_T86 l i).f0.toList = true) →
        ∃ v, partner_CheckPartners.j1 k l seen l (l.length : Int) i b l[i].f0 l[i].f1 = some v ∧ (v = 0 → Rising l i ∧ ∀ j, i ≤ j → j < l.length → nameB (rd_T86 l j).f0 = true) := by
      intro b hnm hb
      obtain ⟨k, rfl⟩ : ∃ m, k = m + 1 := ⟨k - 1, by omega⟩
      simp only [partner_CheckPartners.j1]
      cases b
      · simp only [Bool.false_eq_true, ↓reduceIte]
        by_cases hm : (l[i].f1.length : Int) > 10
        · rw [if_pos hm]; exact ⟨_, rfl, fun h => by cases h⟩
        · rw [if_neg hm]
          refine kit_adr l i l[i].f1 hi hl (by omega) ho.2.2.2 (3001 + 14 * d) (fun v => v = 0 → Rising l i ∧ ∀ j, i ≤ j → j < l.length → nameB (rd_T86 l j).f0 = true) (fun v hv h => absurd h hv) (fun k seen hk hs => ?_) (by omega) l[i].f1.length k 0 seen (by omega) (by omega) (by omega) (by omega)
          obtain ⟨v, e, q⟩ := ih k (i + 1) seen (by omega) (by omega) hk hs
          refine ⟨v, e, fun hv => ?_⟩
          obtain ⟨r, n⟩ := q hv
          refine ⟨fun j a b c => ?_, fun j a b => ?_⟩
          · by_cases e : j = i
            · subst e; exact hb rfl c
            · exact r j (by omega) b c
          · by_cases e : j = i
            · subst e; rw [rd86_get l j hi]; exact hnm
            · exact n j (by omega) b
      · rw [if_pos rfl]; exact ⟨_, rfl, fun h => by cases h⟩
    have c1 : (i : Int) < l.length := by omega
    have c0 : (0 : Int) ≤ i := by omega
    simp only [partner_CheckPartners.l0, c1, c0, ↓reduceIte, rd86_get l i hi, kit_name _ ho.1, Option.bind_some]
    by_cases hn : nameB l[i].f0 = true
    · rw [if_pos hn]
      by_cases h0 : (i : Int) > 0
      · have p1 : (0 : Int) ≤ (i : Int) - 1 := by omega
        have p2 : (i : Int) - 1 < l.length := by omega
        have w1 : wrap64 ((i : Int) - 1) = (i : Int) - 1 := by unfold wrap64; omega
        rw [if_pos h0, w1, if_pos p1, if_pos p2]
        exact hj _ hn (fun hb _ => by rw [rd86_get l i hi]; simpa using hb)
      · rw [if_neg h0]; exact hj _ hn (fun _ h => by omega)
    · rw [if_neg hn]; exact ⟨_, rfl, fun h => by cases h⟩
theorem kit_check (l : List S86) (hx : ∀ x ∈ l, ok86 x) (k : Nat) (hk : 10000 ≤ k) : ∃ v, partner_CheckPartners.f k l = some v ∧ (v = 0 → l.length ≤ 200 ∧ Rising l 0 ∧ ∀ j, j < l.length → nameB (rd_T86 l j).f0 = true) := by
  unfold partner_CheckPartners.f map_mk_adr.f
  by_cases h : (l.length : Int) > 200
  · rw [if_pos h]; exact ⟨_, rfl, fun h => by cases h⟩
  · rw [if_neg h, Option.bind_some]
    obtain ⟨v, e, q⟩ := kit_l l (by omega) hx l.length k 0 [] (by omega) (by omega) (by omega) (by simp)
    exact ⟨v, e, fun hv => ⟨by omega, (q hv).1, fun j hj => (q hv).2 j (by omega) hj⟩⟩
/-! what is found: the program alone -/
theorem rd23_get (xs : List S23) (i : Nat) (h : i < xs.length) : rd_T23 xs (i : Int) = xs[i] := by
  unfold rd_T23
  rw [Int.toNat_natCast, List.getD_eq_getElem?_getD, List.getElem?_eq_getElem h]
  rfl
theorem u64_id {x : Int} (h0 : 0 ≤ x) (h1 : x < 18446744073709551616) : IntKind.u64.wrap x = x := by
  simp [IntKind.wrap, IntKind.signed, IntKind.bits]; omega
theorem mid_eq {a b : Int} (ha : 0 ≤ a) (hb : 0 ≤ b) (h : a + b < 9223372036854775807) : wrap64 ((IntKind.u64.wrap (wrap64 (a + b))) / 2) = (a + b) / 2 := by
  have e : wrap64 (a + b) = a + b := by unfold wrap64; omega
  rw [e, u64_id (by omega) (by omega)]
  unfold wrap64; omega
def agf (a : S23) : Int := agF a.f0 a.f1 a.f2 a.f3 a.f4 a.f5 a.f7
def bet (a b : S23) : Int := betF a.f2 a.f3 a.f4 a.f5 b.f2 b.f3 b.f4 b.f5
def app (a : S23) (c : S37) : Bool := appB a.f0 a.f1 a.f2 a.f3 a.f4 a.f5 a.f6 c.f0 c.f1 c.f2 c.f3 c.f4 c.f5
theorem agf_days {a : S23} (h : agf a = 0) : (1 ≤ a.f4 ∧ a.f4 ≤ 3652059) ∧ (1 ≤ a.f5 ∧ a.f5 ≤ 3652059) := by
  have z := agF_zero h
  exact ⟨⟨z.2.2.2.2.1, z.2.2.2.2.2.1⟩, by omega, by omega⟩
/-! what is found: the program and the reference -/
theorem cmp_lt : ∀ (a b : List UInt8), (Lib.compareBytes a b < 0) ↔ Op.bytesLess a b = true
  | [], [] => by simp [Lib.compareBytes, Op.bytesLess]
  | [], _ :: _ => by simp [Lib.compareBytes, Op.bytesLess]
  | _ :: _, [] => by simp [Lib.compareBytes, Op.bytesLess]
  | a :: x, b :: y => by
    have ih := cmp_lt x y
    simp only [Lib.compareBytes, Op.bytesLess]
    by_cases h1 : a < b
    · simp [h1]
    · by_cases h2 : b < a
      · have h3 : ¬ a = b := fun e => by subst e; exact h1 h2
        simp [h1, h2, h3]
      · have h3 : a = b := UInt8.le_antisymm (UInt8.not_lt.1 h2) (UInt8.not_lt.1 h1)
        subst h3
        simp [h1, ih]
theorem cmp_eq0 : ∀ (a b : List UInt8), (Lib.compareBytes a b = 0) ↔ a = b
  | [], [] => by simp [Lib.compareBytes]
  | [], _ :: _ => by simp [Lib.compareBytes]
  | _ :: _, [] => by simp [Lib.compareBytes]
  | a :: x, b :: y => by
    have ih := cmp_eq0 x y
    simp only [Lib.compareBytes]
    by_cases h1 : a < b
    · have h3 : ¬ a = b := fun e => by subst e; exact absurd h1 (UInt8.lt_irrefl a)
      simp [h1, h3]
    · by_cases h2 : b < a
      · have h3 : ¬ a = b := fun e => by subst e; exact h1 h2
        simp [h1, h2, h3]
      · have h3 : a = b := UInt8.le_antisymm (UInt8.not_lt.1 h2) (UInt8.not_lt.1 h1)
        subst h3
        simp [h1, ih]
theorem less_irr : ∀ a : List UInt8, Op.bytesLess a a = false
  | [] => rfl
  | a :: x => by simp [Op.bytesLess, less_irr x, UInt8.lt_irrefl]
theorem less_tr : ∀ (a b c : List UInt8), Op.bytesLess a b = true → Op.bytesLess b c = true → Op.bytesLess a c = true
  | _, _, [], _, h => by simp [Op.bytesLess] at h
  | _, [], _ :: _, h, _ => by simp [Op.bytesLess] at h
  | [], _ :: _, _ :: _, _, _ => by simp [Op.bytesLess]
  | a :: x, b :: y, c :: z, h1, h2 => by
    have ih := less_tr x y z
    simp only [Op.bytesLess, Bool.or_eq_true, decide_eq_true_eq, Bool.and_eq_true, beq_iff_eq] at h1 h2 ⊢
    rcases h1 with h1 | ⟨rfl, h1⟩
    · rcases h2 with h2 | ⟨rfl, h2⟩
      · exact .inl (UInt8.lt_trans h1 h2)
      · exact .inl h1
    · rcases h2 with h2 | ⟨rfl, h2⟩
      · exact .inl h2
      · exact .inr ⟨rfl, ih h1 h2⟩
def nm (l : List S86) (j : Nat) : List UInt8 := (rd_T86 l (j : Int)).f0.toList
theorem rising_lt {l : List S86} (h : Rising l 0) : ∀ (d i : Nat), i + d + 1 < l.length → Op.bytesLess (nm l i) (nm l (i + d + 1)) = true
  | 0, i, hl => by
    have := h (i + 1) (by omega) hl (by omega)
    unfold nm
    have e : (((i + 0 + 1 : Nat) : Int) - 1) = (i : Int) := by omega
    have e2 : ((i + 1 : Nat) : Int) - 1 = (i : Int) := by omega
    rw [e2] at this
    exact this
  | d + 1, i, hl => by
    have h1 := rising_lt h d i (by omega)
    have h2 := h (i + d + 1 + 1) (by omega) (by omega) (by omega)
    have e2 : ((i + d + 1 + 1 : Nat) : Int) - 1 = ((i + d + 1 : Nat) : Int) := by omega
    rw [e2] at h2
    exact less_tr _ _ _ h1 h2
theorem ref_isP_l (l : List S86) (s : ByteArray) (hl : l.length ≤ 140737488351232) (d : Nat) : ∀ (k i : Nat), i ≤ l.length → l.length - i = d → d < k →
    interchangeref8_isPartner.l0 k s l (l.length : Int) i = some ((l.drop i).any fun p => decide (p.f0.toList = s.toList)) := by
  induction d with
  | zero =>
    intro k i h1 hd hk
    obtain ⟨k, rfl⟩ : ∃ m, k = m + 1 := ⟨k - 1, by omega⟩
    simp only [interchangeref8_isPartner.l0]
    rw [if_neg (by omega), List.drop_of_length_le (by omega)]
    rfl
  | succ d ih =>
    intro k i h1 hd hk
    obtain ⟨k, rfl⟩ : ∃ m, k = m + 1 := ⟨k - 1, by omega⟩
    have hi : i < l.length := by omega
    have hr := ih k (i + 1) (by omega) (by omega) (by omega)
    have w1 : wrap64 ((i : Int) + 1) = ((i + 1 : Nat) : Int) := by rw [wrap_up (by omega) (by omega)]; omega
    have c1 : (i : Int) < l.length := by omega
    have c0 : (0 : Int) ≤ i := by omega
    simp only [interchangeref8_isPartner.l0, c1, c0, ↓reduceIte, rd86_get l i hi, w1, hr]
    rw [List.drop_eq_getElem_cons hi, List.any_cons]
    by_cases h : l[i].f0.toList = s.toList <;> simp [h]
theorem ref_isP (l : List S86) (s : ByteArray) (hl : l.length ≤ 140737488351232) (k : Nat) (hk : l.length < k) :
    interchangeref8_isPartner.f k l s = some (l.any fun p => decide (p.f0.toList = s.toList)) := by
  unfold interchangeref8_isPartner.f
  have := ref_isP_l l s hl l.length k 0 (by omega) (by omega) hk
  simpa using this
theorem any_nm (l : List S86) (s : ByteArray) : (l.any fun p => decide (p.f0.toList = s.toList)) = true ↔ ∃ j, j < l.length ∧ nm l j = s.toList := by
  rw [List.any_eq_true]
  constructor
  · rintro ⟨p, hp, h⟩
    obtain ⟨j, hj, rfl⟩ := List.getElem_of_mem hp
    refine ⟨j, hj, ?_⟩
    unfold nm
    rw [rd86_get l j hj]
    simpa using h
  · rintro ⟨j, hj, h⟩
    refine ⟨l[j], List.getElem_mem hj, ?_⟩
    unfold nm at h
    rw [rd86_get l j hj] at h
    simpa using h
theorem bsearch_is (l : List S86) (s : ByteArray) (hr : Rising l 0) (hl : l.length ≤ 140737488351232) (d : Nat) : ∀ (k lo hi : Nat), lo ≤ hi → hi ≤ l.length → hi - lo ≤ d → d < k →
    (∀ j, j < lo → Op.bytesLess (nm l j) s.toList = true) → (∀ j, hi ≤ j → j < l.length → Op.bytesLess (nm l j) s.toList = false) →
    ∃ r, fn_bsearch_partner.l0 k l s (l.length : Int) lo hi = some r ∧ r.2 = l.any fun p => decide (p.f0.toList = s.toList) := by
  have fin : ∀ (k lo : Nat), lo ≤ l.length → (∀ j, j < lo → Op.bytesLess (nm l j) s.toList = true) → (∀ j, lo ≤ j → j < l.length → Op.bytesLess (nm l j) s.toList = false) →
      ∃ r, fn_bsearch_partner.l0 (k + 1) l s (l.length : Int) lo lo = some r ∧ r.2 = l.any fun p => decide (p.f0.toList = s.toList) := by
    intro k lo h1 hA hB
    simp only [fn_bsearch_partner.l0]
    rw [if_neg (by omega)]
    by_cases h : (lo : Int) < l.length
    · rw [if_pos h, if_pos (by omega), if_pos h]
      simp only [partner_isPartner_1.f, strings_Compare.f, Option.bind_some]
      refine ⟨_, rfl, ?_⟩
      rw [Bool.eq_iff_iff, beq_iff_eq, cmp_eq0, any_nm, ← toL, ← toL]
      constructor
      · intro h2; exact ⟨lo, by omega, h2⟩
      · rintro ⟨j, hj, h2⟩
        have g1 : ¬ j < lo := fun hlt => by have := hA j hlt; rw [h2, less_irr] at this; cases this
        by_cases e : j = lo
        · subst e; exact h2
        · have := rising_lt hr (j - lo - 1) lo (by omega)
          rw [show lo + (j - lo - 1) + 1 = j by omega, h2] at this
          rw [hB lo (by omega) (by omega)] at this
          cases this
    · rw [if_neg h]
      refine ⟨_, rfl, ?_⟩
      symm
      rw [Bool.eq_false_iff, Ne, any_nm]
      rintro ⟨j, hj, h2⟩
      have := hA j (by omega)
      rw [h2, less_irr] at this; cases this
  induction d with
  | zero =>
    intro k lo hi h1 h2 h3 h4 hA hB
    obtain ⟨k, rfl⟩ : ∃ m, k = m + 1 := ⟨k - 1, by omega⟩
    obtain rfl : lo = hi := by omega
    exact fin k lo h2 hA hB
  | succ d ih =>
    intro k lo hi h1 h2 h3 h4 hA hB
    obtain ⟨k, rfl⟩ : ∃ m, k = m + 1 := ⟨k - 1, by omega⟩
    by_cases h : (lo : Int) < hi
    · have hm : ((lo : Int) + hi) / 2 = (((lo + hi) / 2 : Nat) : Int) := by omega
      have m0 : (0 : Int) ≤ (((lo + hi) / 2 : Nat) : Int) := by omega
      have m1 : (((lo + hi) / 2 : Nat) : Int) < l.length := by omega
      have hmid : (lo + hi) / 2 < l.length := by omega
      have g1 := ih k ((lo + hi) / 2 + 1) hi (by omega) h2 (by omega) (by omega)
      have g2 := ih k lo ((lo + hi) / 2) (by omega) (by omega) (by omega) (by omega)
      simp only [fn_bsearch_partner.l0]
      rw [if_pos h, mid_eq (by omega) (by omega) (by omega), hm, if_pos m0, if_pos m1]
      have w : wrap64 ((((lo + hi) / 2 : Nat) : Int) + 1) = (((lo + hi) / 2 + 1 : Nat) : Int) := by rw [wrap_up (by omega) (by omega)]; omega
      rw [w]
      clear w
      simp only [partner_isPartner_1.f, strings_Compare.f, Option.bind_some]
      generalize hmm : (lo + hi) / 2 = m at *
      have hN : (rd_T86 l (m : Int)).f0.data.toList = nm l m := by unfold nm; rw [toL]
      rw [hN, ← toL]
      by_cases hc : Lib.compareBytes (nm l m) s.toList < 0
      · rw [if_pos hc]
        rw [cmp_lt] at hc
        refine g1 (fun j hj => ?_) hB
        by_cases e : j = m
        · subst e; exact hc
        · have := rising_lt hr (m - j - 1) j (by omega)
          rw [show j + (m - j - 1) + 1 = m by omega] at this
          exact less_tr _ _ _ this hc
      · rw [if_neg hc]
        rw [cmp_lt] at hc
        refine g2 hA (fun j hj hjl => ?_)
        by_cases e : j = m
        · subst e; simpa using hc
        · cases hq : Op.bytesLess (nm l j) s.toList with
          | false => rfl
          | true =>
            have := rising_lt hr (j - m - 1) m (by omega)
            rw [show m + (j - m - 1) + 1 = j by omega] at this
            exact absurd (less_tr _ _ _ this hq) hc
    · obtain rfl : lo = hi := by omega
      exact fin k lo h2 hA hB
theorem kit_isP (l : List S86) (s : ByteArray) (hr : Rising l 0) (hl : l.length ≤ 140737488351232) (k : Nat) (hk : l.length < k) :
    partner_isPartner.f k l s = some (l.any fun p => decide (p.f0.toList = s.toList)) := by
  unfold partner_isPartner.f fn_bsearch_partner.f
  obtain ⟨r, h, h2⟩ := bsearch_is l s hr hl l.length k 0 l.length (by omega) (by omega) (by omega) hk (fun j h => by omega) (fun j h1 h2 => by omega)
  simp only [Int.natCast_zero] at h
  rw [h, Option.bind_some, h2]
theorem agrees_same_l (p : List S86) (l : List S23) (hr : Rising p 0) (hp : p.length ≤ 200) (hl : l.length ≤ 200) (hx : ∀ x ∈ l, ok23 x) (d : Nat) : ∀ (k i : Nat), i ≤ l.length → l.length - i = d → 300 + 2 * d ≤ k →
    ∃ v, interchangeref8_CheckAgreements.l0 k p l (l.length : Int) i = some v ∧ partner_CheckAgreements.l0 k p l (l.length : Int) i = some v ∧ (v = 0 → ∀ j, i ≤ j → j < l.length → agf (rd_T23 l j) = 0) := by
  induction d with
  | zero =>
    intro k i h1 hd hk
    obtain ⟨k, rfl⟩ : ∃ m, k = m + 1 := ⟨k - 1, by omega⟩
    have c1 : ¬ ((i : Int) < l.length) := by omega
    simp only [interchangeref8_CheckAgreements.l0, partner_CheckAgreements.l0, c1, ↓reduceIte]
    exact ⟨_, rfl, rfl, fun _ j h1 h2 => by omega⟩
  | succ d ih =>
    intro k i h1 hd hk
    obtain ⟨k, rfl⟩ : ∃ m, k = m + 1 := ⟨k - 1, by omega⟩
    have hi : i < l.length := by omega
    have ho := hx l[i] (List.getElem_mem hi)
    have c1 : (i : Int) < l.length := by omega
    have c0 : (0 : Int) ≤ i := by omega
    have hj : ∀ b : Bool, ∃ v, interchangeref8_CheckAgreements.j1 k p l (l.length : Int) i b l[i].f0 l[i].f1 l[i].f2 l[i].f3 l[i].f4 l[i].f5 l[i].f6 l[i].f7 l[i].f8 = some v ∧ partner_CheckAgreements.j1 k p l (l.length : Int) i b l[i].f0 l[i].f1 l[i].f2 l[i].f3 l[i].f4 l[i].f5 l[i].f6 l[i].f7 l[i].f8 = some v ∧ (v = 0 → ∀ j, i ≤ j → j < l.length → agf (rd_T23 l j) = 0) := by
      intro b
      obtain ⟨k, rfl⟩ : ∃ m, k = m + 1 := ⟨k - 1, by omega⟩
      simp only [interchangeref8_CheckAgreements.j1, partner_CheckAgreements.j1]
      cases b
      · simp only [Bool.false_eq_true, ↓reduceIte, own_fault ho.2.2.1 ho.2.2.2.1 k (by omega), ref_ag ho.2.2.1 ho.2.2.2.1 k (by omega), Option.bind_some]
        by_cases h0 : agF l[i].f0 l[i].f1 l[i].f2 l[i].f3 l[i].f4 l[i].f5 l[i].f7 = 0
        · obtain ⟨v, e, e2, q⟩ := ih k (i + 1) (by omega) (by omega) (by omega)
          have w1 : wrap64 ((i : Int) + 1) = ((i + 1 : Nat) : Int) := by rw [wrap_up (by omega) (by omega)]; omega
          rw [if_pos h0, if_pos h0, w1]
          refine ⟨v, e, e2, fun hv j a b => ?_⟩
          by_cases e : j = i
          · subst e; rw [rd23_get l j hi]; exact h0
          · exact q hv j (by omega) b
        · rw [if_neg h0, if_neg h0]; exact ⟨_, rfl, rfl, fun h => absurd h h0⟩
      · simp only [↓reduceIte]; exact ⟨_, rfl, rfl, fun h => by cases h⟩
    simp only [interchangeref8_CheckAgreements.l0, partner_CheckAgreements.l0, c1, c0, ↓reduceIte, rd23_get l i hi, ref_isP p _ (show p.length ≤ 140737488351232 by omega) k (by omega), kit_isP p _ hr (show p.length ≤ 140737488351232 by omega) k (by omega), Option.bind_some]
    cases (p.any fun q => decide (q.f0.toList = l[i].f0.toList))
    · simp only [Bool.false_eq_true, ↓reduceIte]; exact hj _
    · simp only [↓reduceIte]; exact hj _
theorem agrees_same (p : List S86) (l : List S23) (hp : ∀ x ∈ p, ok86 x) (hx : ∀ x ∈ l, ok23 x) (k : Nat) (hk : 10000 ≤ k) : ∃ v, interchangeref8_CheckAgreements.f k p l = some v ∧ partner_CheckAgreements.f k p l = some v ∧ (v = 0 → p.length ≤ 200 ∧ Rising p 0 ∧ l.length ≤ 200 ∧ ∀ j, j < l.length → agf (rd_T23 l j) = 0) := by
  unfold interchangeref8_CheckAgreements.f partner_CheckAgreements.f
  obtain ⟨v, e, e2⟩ := check_same p hp k hk
  obtain ⟨v', e3, q⟩ := kit_check p hp k hk
  obtain rfl : v = v' := by rw [e2] at e3; exact Option.some.inj e3
  rw [e, e2, Option.bind_some, Option.bind_some]
  by_cases hv : v = 0
  · obtain ⟨q1, q2, _⟩ := q hv
    rw [if_pos hv, if_pos hv]
    by_cases h : (l.length : Int) > 200
    · rw [if_pos h, if_pos h]; exact ⟨_, rfl, rfl, fun h => by cases h⟩
    · rw [if_neg h, if_neg h]
      obtain ⟨w, f1, f2, f3⟩ := agrees_same_l p l q2 q1 (by omega) hx l.length k 0 (by omega) (by omega) (by omega)
      exact ⟨w, f1, f2, fun h2 => ⟨q1, q2, by omega, fun j hj => f3 h2 j (by omega) hj⟩⟩
  · rw [if_neg hv, if_neg hv]; exact ⟨_, rfl, rfl, fun h => absurd h hv⟩
theorem asked_same (p : List S86) (l : List S23) (c : S37) (hp : ∀ x ∈ p, ok86 x) (hx : ∀ x ∈ l, ok23 x) (hc : ok37 c) (k : Nat) (hk : 10000 ≤ k) :
    ∃ v, interchangeref8_askCase.f k p l c.f0 c.f1 c.f2 c.f3 c.f4 c.f5 = some v ∧ partner_askedFault.f k p l c.f0 c.f1 c.f2 c.f3 c.f4 c.f5 = some v ∧ (v = 0 → l.length ≤ 200 ∧ (∀ j, j < l.length → agf (rd_T23 l j) = 0) ∧ caseF c.f0 c.f1 c.f2 c.f3 c.f4 = 0) := by
  unfold interchangeref8_askCase.f partner_askedFault.f
  obtain ⟨v, e, e2, q⟩ := agrees_same p l hp hx k hk
  rw [e, e2, Option.bind_some, Option.bind_some]
  by_cases hv : v = 0
  · obtain ⟨q0, q1, q2, q3⟩ := q hv
    rw [if_pos hv, if_pos hv, kit_case hc.1 hc.2.1 hc.2.2.1 hc.2.2.2.1 k (by omega), ref_case hc.1 hc.2.1 hc.2.2.1 hc.2.2.2.1 k (by omega), Option.bind_some, Option.bind_some]
    by_cases hf : caseF c.f0 c.f1 c.f2 c.f3 c.f4 = 0
    · simp only [hf, ↓reduceIte, ref_isP p _ (show p.length ≤ 140737488351232 by omega) k (by omega), kit_isP p _ q1 (show p.length ≤ 140737488351232 by omega) k (by omega), Option.bind_some]
      cases (p.any fun q => decide (q.f0.toList = c.f0.toList)) <;> cases (p.any fun q => decide (q.f0.toList = c.f1.toList)) <;> simp <;> exact ⟨q2, q3⟩
    · rw [if_neg hf, if_neg hf]; exact ⟨_, rfl, rfl, fun h => absurd h hf⟩
  · rw [if_neg hv, if_neg hv]; exact ⟨_, rfl, rfl, fun h => absurd h hv⟩
theorem find_same_l (l : List S23) (c : S37) (hl : l.length ≤ 200) (ha : ∀ j : Nat, j < l.length → agf (rd_T23 l j) = 0) (d : Nat) : ∀ (k i : Nat) (b : Int), i ≤ l.length → l.length - i = d → 60 + d ≤ k → (b = -1 ∨ ∃ n : Nat, b = n ∧ n < l.length) →
    ∃ b', interchangeref8_find.l0 k l b l (l.length : Int) i c.f0 c.f1 c.f2 c.f3 c.f4 c.f5 = some b' ∧ partner_find.l0 k l b l (l.length : Int) i c.f0 c.f1 c.f2 c.f3 c.f4 c.f5 = some b' := by
  induction d with
  | zero =>
    intro k i b h1 hd hk hb
    obtain ⟨k, rfl⟩ : ∃ m, k = m + 1 := ⟨k - 1, by omega⟩
    have c1 : ¬ ((i : Int) < l.length) := by omega
    simp only [interchangeref8_find.l0, partner_find.l0, c1, ↓reduceIte]
    exact ⟨_, rfl, rfl⟩
  | succ d ih =>
    intro k i b h1 hd hk hb
    obtain ⟨k, rfl⟩ : ∃ m, k = m + 1 := ⟨k - 1, by omega⟩
    have hi : i < l.length := by omega
    have c1 : (i : Int) < l.length := by omega
    have c0 : (0 : Int) ≤ i := by omega
    have n2 : l.length - (i + 1) = d := by clear hb; omega
    have n3 : 60 + d ≤ k := by clear hb; omega
    have nx := fun b hb => ih k (i + 1) b hi n2 n3 hb
    clear n2 n3
    have w1 : wrap64 ((i : Int) + 1) = ((i + 1 : Nat) : Int) := by rw [wrap_up (by omega) (by omega)]; omega
    simp only [interchangeref8_find.l0, partner_find.l0, c1, c0, ↓reduceIte, kit_applies, ref_applies, Option.bind_some, w1]
    clear w1
    have zi := agF_zero (ha i hi)
    cases appB (rd_T23 l i).f0 (rd_T23 l i).f1 (rd_T23 l i).f2 (rd_T23 l i).f3 (rd_T23 l i).f4 (rd_T23 l i).f5 (rd_T23 l i).f6 c.f0 c.f1 c.f2 c.f3 c.f4 c.f5
    · simp only [Bool.false_eq_true, ↓reduceIte]; exact nx b hb
    · simp only [↓reduceIte]
      rcases hb with e | ⟨n, e, hn⟩
      · subst e
        simp only [show ((-1 : Int) < 0) by omega, ↓reduceIte]
        exact nx i (.inr ⟨i, rfl, hi⟩)
      · subst e
        have zn := agF_zero (ha n hn)
        obtain ⟨g4, g5⟩ := agf_days (ha i hi)
        obtain ⟨m4, m5⟩ := agf_days (ha n hn)
        have d0 : ¬ ((n : Int) < 0) := by omega
        have d1 : (0 : Int) ≤ n := by omega
        have d2 : (n : Int) < l.length := by omega
        simp only [d0, d1, d2, ↓reduceIte, kit_better g4 g5 m4 m5 k (by omega), ref_better zi.2.2.2.1 zn.2.2.2.1 g4 g5 m4 m5 k (by omega), Option.bind_some]
        split
        · exact nx i (.inr ⟨i, rfl, hi⟩)
        · exact nx n (.inr ⟨n, rfl, hn⟩)
theorem find_same (l : List S23) (c0 c1 c2 c3 : ByteArray) (c4 : Int) (c5 : Bool) (hl : l.length ≤ 200) (ha : ∀ j : Nat, j < l.length → agf (rd_T23 l j) = 0) (k : Nat) (hk : 1000 ≤ k) :
    ∃ b, interchangeref8_find.f k l c0 c1 c2 c3 c4 c5 = some b ∧ partner_find.f k l c0 c1 c2 c3 c4 c5 = some b := by
  unfold interchangeref8_find.f partner_find.f
  exact find_same_l l ⟨c0, c1, c2, c3, c4, c5⟩ hl ha l.length k 0 (-1) (by omega) (by omega) (by omega) (.inl rfl)
theorem Find_same (p : List S86) (l : List S23) (c : S37) (hp : ∀ x ∈ p, ok86 x) (hx : ∀ x ∈ l, ok23 x) (hc : ok37 c) (k : Nat) (hk : 10000 ≤ k) :
    ∃ r, interchangeref8_Find.f k p l c.f0 c.f1 c.f2 c.f3 c.f4 c.f5 = some r ∧ partner_Find.f k p l c.f0 c.f1 c.f2 c.f3 c.f4 c.f5 = some r := by
  unfold interchangeref8_Find.f partner_Find.f
  obtain ⟨v, e, e2, q⟩ := asked_same p l c hp hx hc k hk
  rw [e, e2, Option.bind_some, Option.bind_some]
  by_cases hv : v = 0
  · obtain ⟨q1, q2, _⟩ := q hv
    obtain ⟨b, f1, f2⟩ := find_same l c.f0 c.f1 c.f2 c.f3 c.f4 c.f5 q1 q2 k (by omega)
    rw [if_pos hv, if_pos hv, f1, f2]
    exact ⟨_, rfl, rfl⟩
  · rw [if_neg hv, if_neg hv]; exact ⟨_, rfl, rfl⟩
theorem Found_same (p : List S86) (l : List S23) (x y : S31) (c : S37) (hp : ∀ x ∈ p, ok86 x) (hn : p.length ≤ 140737488351232) (hl : ∀ x ∈ l, ok23 x) (ox : ok31 x) (oy : ok31 y) (hc : ok37 c) (k : Nat) (hk : 5000000100000 + p.length ≤ k) :
    ∃ r, interchangeref8_Found.f k p l x.f0 x.f1 y.f0 y.f1 c.f0 c.f1 c.f2 c.f3 c.f4 c.f5 = some r ∧ partner_Found.f k p l x.f0 x.f1 y.f0 y.f1 c.f0 c.f1 c.f2 c.f3 c.f4 c.f5 = some r := by
  unfold interchangeref8_Found.f partner_Found.f
  obtain ⟨v, e, e2, q⟩ := agrees_same p l hp hl k (by omega)
  simp only [e, e2, Option.bind_some]
  by_cases hv : v = 0
  · obtain ⟨q0, q1, q2, q3⟩ := q hv
    rw [if_pos hv, if_pos hv]
    obtain ⟨k, rfl⟩ : ∃ m, k = m + 4 := ⟨k - 4, by omega⟩
    have w0 : wrap64 1 = 1 := by unfold wrap64; omega
    have w1 : wrap64 2 = 2 := by unfold wrap64; omega
    have j : ∀ b : Bool, ∃ r, interchangeref8_Found.j1 (k + 1) p l b x.f0 x.f1 y.f0 y.f1 c.f0 c.f1 c.f2 c.f3 c.f4 c.f5 = some r ∧ partner_Found.j1 (k + 1) p l b x.f0 x.f1 y.f0 y.f1 c.f0 c.f1 c.f2 c.f3 c.f4 c.f5 = some r := by
      intro b
      simp only [interchangeref8_Found.j1, partner_Found.j1]
      cases b
      · simp only [Bool.false_eq_true, ↓reduceIte, kit_rest hc.2.2.1 hc.2.2.2.1 k (by omega), ref_rest hc.2.2.1 hc.2.2.2.1 k (by omega), Option.bind_some]
        by_cases hf : restF c.f2 c.f3 c.f4 = 0
        · simp only [hf, ↓reduceIte]
          obtain ⟨s, s1, s2⟩ := of_same p x.f0 x.f1 hp hn p.length k 0 (by omega) (by omega) (by omega)
          obtain ⟨t, t1, t2⟩ := of_same p y.f0 y.f1 hp hn p.length k 0 (by omega) (by omega) (by omega)
          have s1' : interchangeref8_partnerOf.f k p x.f0 x.f1 = some s := s1
          have s2' : partner_partnerOf.f k p x.f0 x.f1 = some s := s2
          have t1' : interchangeref8_partnerOf.f k p y.f0 y.f1 = some t := t1
          have t2' : partner_partnerOf.f k p y.f0 y.f1 = some t := t2
          obtain ⟨b, f1, f2⟩ := find_same l s t c.f2 c.f3 c.f4 c.f5 q2 q3 k (by omega)
          simp only [s1', s2', t1', t2', f1, f2, Option.bind_some]
          repeat' split
          all_goals exact ⟨_, rfl, rfl⟩
        · rw [if_neg hf, if_neg hf]; exact ⟨_, rfl, rfl⟩
      · simp only [↓reduceIte]; exact ⟨_, rfl, rfl⟩
    have g1 := ref_addr x ox (k + 3) (by omega)
    have g2 := kit_addr x ox (k + 3) (by omega)
    have g3 := ref_addr y oy (k + 2) (by omega)
    have g4 := kit_addr y oy (k + 2) (by omega)
    simp [interchangeref8_Found.l0, partner_Found.l0, rd_T31, w0, w1, g1, g2, g3, g4]
    by_cases h1 : addrF x.f0 x.f1 = 0
    · by_cases h2 : addrF y.f0 y.f1 = 0
      · simp only [h1, h2, ↓reduceIte]
        by_cases h3 : c.f0.toList = ([] : List UInt8)
        · simp only [h3, ↓reduceIte]; simpa using j (c.f1.toList != ([] : List UInt8))
        · simp only [h3, ↓reduceIte]; simpa using j true
      · simp [h1, h2]
    · simp [h1]
  · rw [if_neg hv, if_neg hv]; exact ⟨_, rfl, rfl⟩
theorem PartnerFindsMatchSpec : Pure := by
  rintro p l x y c ⟨_, hn, hp⟩ ⟨_, _, hx⟩ ox oy hc
  obtain ⟨k, hk⟩ : ∃ k, k = 5000000100000 + p.length := ⟨_, rfl⟩
  refine ⟨k + 2, ?_⟩
  unfold interchangelaw8_PartnerFindsMatchSpec.f
  obtain ⟨r, e1, e2⟩ := Find_same p l c hp hx hc (k + 2) (by omega)
  obtain ⟨v, e3, e4, _⟩ := agrees_same p l hp hx (k + 2) (by omega)
  obtain ⟨r2, f1, f2⟩ := Found_same p l x y c hp (by omega) hx ox oy hc (k + 1) (by omega)
  have hc2 : ok37 ⟨(⟨#[]⟩ : ByteArray), (⟨#[]⟩ : ByteArray), c.f2, c.f3, c.f4, c.f5⟩ := ⟨Nat.zero_le _, Nat.zero_le _, hc.2.2⟩
  obtain ⟨r3, g1, g2⟩ := Found_same p l x y ⟨(⟨#[]⟩ : ByteArray), (⟨#[]⟩ : ByteArray), c.f2, c.f3, c.f4, c.f5⟩ hp (by omega) hx ox oy hc2 k (by omega)
  simp only at g1 g2
  simp only [e1, e2, e3, e4, Option.bind_some, ↓reduceIte, bne_self_eq_false, interchangelaw8_PartnerFindsMatchSpec.j0, interchangelaw8_PartnerFindsMatchSpec.j1, Bool.false_eq_true, f1, f2, g1, g2, beq_self_eq_true, awake_true]
end Go.Proofs.YtdlgohhecicnoaaDoor.XPartnerFindsMatchSpec.Q
