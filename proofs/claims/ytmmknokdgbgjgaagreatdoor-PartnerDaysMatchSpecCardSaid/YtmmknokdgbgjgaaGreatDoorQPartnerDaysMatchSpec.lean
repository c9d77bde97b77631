/- The pure statement of PartnerDaysMatchSpec, proved: numbers, strings and lists alone. -/
import Derived.Test.YtmmknokdgbgjgaaGreatDoorPPartnerDaysMatchSpec
import Derived.Lib.Strings
import Derived.Lib.SlTrimSet
namespace Go.Proofs.YtmmknokdgbgjgaaGreatDoor.XPartnerDaysMatchSpec.Q
open Go.RowKit Go.Proofs.YtmmknokdgbgjgaaGreatDoor.XPartnerDaysMatchSpec Go.Proofs.YtmmknokdgbgjgaaGreatDoorW.PrintWords Go.Proofs.YtmmknokdgbgjgaaGreatDoorW.PrintMore
set_option linter.unusedVariables false
set_option linter.unusedSimpArgs false
theorem wrap_up {i : Int} (h0 : -1 ≤ i) (h : i < 9223372036854775807) : wrap64 (i + 1) = i + 1 := by unfold wrap64; omega
theorem toL (s : ByteArray) : s.toList = s.data.toList := Go.Lib.toList_data s
theorem bt_get (s : ByteArray) (i : Nat) (h : i < s.size) : bt s i = ((s.data.toList[i]'(by rw [data_length]; exact h)).toNat : Int) := by
  unfold bt
  rw [dif_pos (by simpa using h)]
  simp
  rfl
theorem toL_nil (s : ByteArray) : (s.toList = ([] : List UInt8)) ↔ s.size = 0 := by
  rw [toL, ← List.length_eq_zero_iff, data_length]
def nameByte (b : UInt8) : Bool := (decide (97 ≤ b.toNat) && decide (b.toNat ≤ 122)) || (decide (48 ≤ b.toNat) && decide (b.toNat ≤ 57)) || decide (b.toNat = 45)
def nameB (s : ByteArray) : Bool := decide (1 ≤ s.size) && decide (s.size ≤ 40) && decide (97 ≤ bt s 0) && decide (bt s 0 ≤ 122) && s.data.toList.all nameByte
theorem dw_nil {α : Type} (p : α → Bool) (l : List α) : (l.dropWhile p = []) ↔ ∀ x ∈ l, p x = true := by
  induction l with
  | nil => simp
  | cons a l ih =>
    rw [List.dropWhile_cons]
    cases h : p a <;> simp [h, ih]
theorem trimS_nil (l cs : List UInt8) : (Go.Lib.trimS l cs = []) ↔ ∀ b ∈ l, b ∈ cs := by
  unfold Go.Lib.trimS Go.Lib.trimLeftS Go.Lib.trimRightS
  rw [dw_nil]
  simp only [List.mem_reverse, List.contains_eq_mem, decide_eq_true_eq]
  constructor
  · intro h b hb
    by_cases hm : b ∈ List.dropWhile (fun x => decide (x ∈ cs)) l.reverse
    · exact h b hm
    · have hb2 : b ∈ List.takeWhile (fun x => decide (x ∈ cs)) l.reverse ++ List.dropWhile (fun x => decide (x ∈ cs)) l.reverse := by
        rw [List.takeWhile_append_dropWhile]; simpa using hb
      rcases List.mem_append.1 hb2 with h3 | h3
      · have := List.all_eq_true.1 (List.all_takeWhile (p := fun x => decide (x ∈ cs)) (l := l.reverse)) b h3
        simpa using this
      · exact absurd h3 hm
  · intro h b hb
    have := (List.dropWhile_sublist (fun x => decide (x ∈ cs)) (l := l.reverse)).subset hb
    exact h b (by simpa using this)
def nameSet : List UInt8 := [97, 98, 99, 100, 101, 102, 103, 104, 105, 106, 107, 108, 109, 110, 111, 112, 113, 114, 115, 116, 117, 118, 119, 120, 121, 122, 48, 49, 50, 51, 52, 53, 54, 55, 56, 57, 45]
theorem nameSet_mem (b : UInt8) : (b ∈ nameSet) ↔ nameByte b = true := by
  have h : ∀ n : Fin 256, ((UInt8.ofNat n.val) ∈ nameSet) ↔ nameByte (UInt8.ofNat n.val) = true := by decide +kernel
  have := h ⟨b.toNat, b.toNat_lt⟩
  simpa using this
theorem kit_name (s : ByteArray) (hs : s.size ≤ 140737488351232) : kit_IsName.f s = some (nameB s) := by
  unfold kit_IsName.f nameB
  by_cases h1 : (s.size : Int) < 1
  · rw [if_pos h1]; simp [show ¬ 1 ≤ s.size by omega]
  rw [if_neg h1]
  by_cases h2 : (s.size : Int) > 40
  · rw [if_pos h2]; simp [show ¬ s.size ≤ 40 by omega]
  rw [if_neg h2, if_pos (by omega)]
  by_cases h3 : bt s 0 < 97
  · rw [if_pos h3]; simp [show ¬ 97 ≤ bt s 0 by omega]
  rw [if_neg h3]
  by_cases h4 : bt s 0 > 122
  · rw [if_pos h4]; simp [show ¬ bt s 0 ≤ 122 by omega]
  rw [if_neg h4]
  unfold strings_Trim.f
  rw [if_pos ⟨by omega, by decide, by decide⟩]
  simp only [Option.bind_some]
  congr 1
  rw [Bool.eq_iff_iff, beq_iff_eq]
  simp only [toL, show (1 ≤ s.size) = True by simp; omega, show (s.size ≤ 40) = True by simp; omega, show (97 ≤ bt s 0) = True by simp; omega, show (bt s 0 ≤ 122) = True by simp; omega, decide_true, Bool.true_and, List.all_eq_true]
  show Go.Lib.trimS s.data.toList nameSet = [] ↔ _
  rw [trimS_nil]
  exact forall_congr' fun b => imp_congr_right fun _ => nameSet_mem b
theorem ref_name_l (s : ByteArray) (hs : s.size ≤ 140737488351232) (d : Nat) : ∀ (k i : Nat), i ≤ s.size → s.size - i = d → d < k →
    interchangeref1_isName.l0 k s (s.size : Int) i = some ((s.data.toList.drop i).all nameByte) := by
  induction d with
  | zero =>
    intro k i h1 hd hk
    obtain ⟨k, rfl⟩ : ∃ m, k = m + 1 := ⟨k - 1, by omega⟩
    simp only [interchangeref1_isName.l0]
    rw [if_neg (by omega), List.drop_of_length_le (by rw [data_length]; omega)]
    rfl
  | succ d ih =>
    intro k i h1 hd hk
    obtain ⟨k, rfl⟩ : ∃ m, k = m + 1 := ⟨k - 1, by omega⟩
    have hlt : i < s.size := by omega
    have hl : i < s.data.toList.length := by rw [data_length]; exact hlt
    have hr := ih k (i + 1) (by omega) (by omega) (by omega)
    simp only [interchangeref1_isName.l0]
    rw [if_pos (by omega), if_pos (by omega), if_pos (by omega), wrap_up (by omega) (by omega), List.drop_eq_getElem_cons hl, List.all_cons]
    have e1 : ((i : Int) + 1) = ((i + 1 : Nat) : Int) := by omega
    rw [e1, hr, bt_get s i hlt]
    generalize s.data.toList[i] = b
    generalize List.all _ _ = r
    have hb := b.toNat_lt
    cases hn : nameByte b
    · have hn' : ¬ ((97 ≤ b.toNat ∧ b.toNat ≤ 122 ∨ 48 ≤ b.toNat ∧ b.toNat ≤ 57) ∨ b.toNat = 45) := by
        intro h
        have : nameByte b = true := by simpa [nameByte] using h
        rw [this] at hn; cases hn
      repeat' split
      all_goals first | rfl | (exfalso; omega)
    · have hn' : ((97 ≤ b.toNat ∧ b.toNat ≤ 122 ∨ 48 ≤ b.toNat ∧ b.toNat ≤ 57) ∨ b.toNat = 45) := by simpa [nameByte] using hn
      repeat' split
      all_goals first | rfl | (exfalso; omega)
theorem ref_name (s : ByteArray) (hs : s.size ≤ 140737488351232) (k : Nat) (hk : 50 ≤ k) : interchangeref1_IsName.f k s = some (nameB s) := by
  obtain ⟨k, rfl⟩ : ∃ m, k = m + 1 := ⟨k - 1, by omega⟩
  unfold interchangeref1_IsName.f interchangeref1_isName.f nameB
  simp only [toL_nil, Option.bind_fun_some]
  by_cases h1 : s.size = 0
  · rw [if_pos h1]; simp [interchangeref1_isName.j0, h1]
  rw [if_neg h1]
  by_cases h2 : (s.size : Int) > 40
  · rw [if_pos h2]; simp [interchangeref1_isName.j0, show ¬ s.size ≤ 40 by omega]
  rw [if_neg h2, if_pos (by omega)]
  by_cases h3 : bt s 0 < 97
  · rw [if_pos h3]; simp [interchangeref1_isName.j0, show ¬ 97 ≤ bt s 0 by omega]
  rw [if_neg h3]
  by_cases h4 : bt s 0 > 122
  · simp [interchangeref1_isName.j0, show ¬ bt s 0 ≤ 122 by omega, h4]
  simp only [interchangeref1_isName.j0, h4, decide_false]
  rw [if_neg (by simp)]
  have := ref_name_l s hs s.size k 0 (by omega) (by omega) (by omega)
  simp only [Int.natCast_zero, List.drop_zero] at this
  rw [this]
  simp [show 1 ≤ s.size by omega, show s.size ≤ 40 by omega, show 97 ≤ bt s 0 by omega, show bt s 0 ≤ 122 by omega]
def anyB (s : ByteArray) : Bool := decide (s.toList = ([] : List UInt8)) || nameB s
theorem kit_any (s : ByteArray) (hs : s.size ≤ 140737488351232) : partner_isAny.f s = some (anyB s) := by
  unfold partner_isAny.f anyB
  by_cases h : s.toList = ([] : List UInt8)
  · rw [if_pos h]; simp [h]
  · rw [if_neg h, kit_name s hs]; simp [h]
theorem outside (x a b : Int) : kit_Outside.f x a b = some (decide (x < a ∨ b < x)) := by
  unfold kit_Outside.f
  by_cases h : x < a
  · rw [if_pos h]; simp [h]
  · rw [if_neg h]; simp [h]
def agF (a0 a1 a2 a3 : ByteArray) (a4 a5 a7 : Int) : Int :=
  if a0.toList = a1.toList then 12 else if anyB a2 = true ∧ anyB a3 = true then (if ¬ a3.toList = ([] : List UInt8) ∧ a2.toList = ([] : List UInt8) then 3 else if 1 ≤ a4 ∧ a4 ≤ 3652059 ∧ a4 ≤ a5 ∧ a5 ≤ 3652059 ∧ 0 ≤ a7 ∧ a7 ≤ 100000000 then 0 else 1) else 5
theorem own_fault {a0 a1 a2 a3 : ByteArray} {a4 a5 : Int} {a6 : Bool} {a7 : Int} {a8 : Bool} (h2 : a2.size ≤ 140737488351232) (h3 : a3.size ≤ 140737488351232) (k : Nat) (hk : 50 ≤ k) :
    partner_ownFault.f k a0 a1 a2 a3 a4 a5 a6 a7 a8 = some (agF a0 a1 a2 a3 a4 a5 a7) := by
  obtain ⟨k, rfl⟩ : ∃ m, k = m + 2 := ⟨k - 2, by omega⟩
  unfold partner_ownFault.f agF
  simp only [kit_any _ h2, kit_any _ h3, Option.bind_some]
  by_cases e1 : a0.toList = a1.toList
  · simp [e1]
  simp only [e1, if_false]
  cases m2 : anyB a2 <;> cases m3 : anyB a3 <;> simp [partner_ownFault.j0]
  by_cases e3 : a3.toList = ([] : List UInt8) <;> by_cases e2 : a2.toList = ([] : List UInt8) <;> simp [partner_ownFault.j1, e2, e3, outside]
  all_goals
    by_cases g1 : a4 < 1 ∨ 3652059 < a4
    · rw [if_pos g1, if_neg (by omega)]
    · rw [if_neg g1]
      by_cases g2 : a5 < a4 ∨ 3652059 < a5
      · rw [if_pos g2, if_neg (by omega)]
      · rw [if_neg g2]
        by_cases g3 : a7 < 0 ∨ 100000000 < a7
        · rw [if_pos g3, if_neg (by omega)]
        · rw [if_neg g3, if_pos (by omega)]
def firstSign : List Int → Int
  | [] => 0
  | x :: r => if x < 0 then -1 else if x > 0 then 1 else firstSign r
theorem rd_drop {ys : List Int} {i : Nat} (h : i < ys.length) : ys.drop i = rd ys i :: ys.drop (i + 1) := by
  rw [List.drop_eq_getElem_cons h]
  congr 1
  simp [rd, h]
theorem kit_better_l (ys : List Int) (hn : ys.length < 1000) (d : Nat) : ∀ (k i : Nat), i ≤ ys.length → ys.length - i = d → d < k → partner_better.l0 k ys (ys.length : Int) i = some (firstSign (ys.drop i)) := by
  induction d with
  | zero =>
    intro k i h1 hd hk
    obtain ⟨k, rfl⟩ : ∃ m, k = m + 1 := ⟨k - 1, by omega⟩
    simp only [partner_better.l0]
    rw [if_neg (by omega), List.drop_of_length_le (by omega)]; rfl
  | succ d ih =>
    intro k i h1 hd hk
    obtain ⟨k, rfl⟩ : ∃ m, k = m + 1 := ⟨k - 1, by omega⟩
    simp only [partner_better.l0]
    rw [if_pos (by omega), if_pos (by omega), if_pos (by omega), wrap_up (by omega) (by omega), rd_drop (show i < ys.length by omega)]
    have := ih k (i + 1) (by omega) (by omega) (by omega)
    simp only [firstSign]
    by_cases g1 : rd ys i < 0
    · rw [if_pos g1, if_pos g1]
    · rw [if_neg g1, if_neg g1]
      by_cases g2 : rd ys i > 0
      · rw [if_pos g2, if_pos g2]
      · rw [if_neg g2, if_neg g2]
        exact_mod_cast this
def oneIf (s : ByteArray) : Int := if s.toList = ([] : List UInt8) then 0 else 1
theorem flag (s : ByteArray) : partner_flagNumber.f (s.toList != ([] : List UInt8)) = some (oneIf s) := by
  unfold partner_flagNumber.f oneIf
  by_cases h : s.toList = ([] : List UInt8) <;> simp [h]
theorem oneIf_le (s : ByteArray) : 0 ≤ oneIf s ∧ oneIf s ≤ 1 := by unfold oneIf; split <;> omega
def betF (a2 a3 : ByteArray) (a4 a5 : Int) (b2 b3 : ByteArray) (b4 b5 : Int) : Int := firstSign [oneIf b2 - oneIf a2, oneIf b3 - oneIf a3, b4 - a4, a5 - b5]
theorem kit_better {a0 a1 a2 a3 : ByteArray} {a4 a5 : Int} {a6 : Bool} {a7 : Int} {a8 : Bool} {b0 b1 b2 b3 : ByteArray} {b4 b5 : Int} {b6 : Bool} {b7 : Int} {b8 : Bool}
    (h4 : 1 ≤ a4 ∧ a4 ≤ 3652059) (h5 : 1 ≤ a5 ∧ a5 ≤ 3652059) (g4 : 1 ≤ b4 ∧ b4 ≤ 3652059) (g5 : 1 ≤ b5 ∧ b5 ≤ 3652059) (k : Nat) (hk : 50 ≤ k) :
    partner_better.f k a0 a1 a2 a3 a4 a5 a6 a7 a8 b0 b1 b2 b3 b4 b5 b6 b7 b8 = some (betF a2 a3 a4 a5 b2 b3 b4 b5) := by
  unfold partner_better.f betF
  simp only [flag, Option.bind_some]
  have w1 : ∀ x : Int, -4000000 ≤ x → x ≤ 4000000 → wrap64 x = x := fun x _ _ => by unfold wrap64; omega
  have := oneIf_le a2; have := oneIf_le a3; have := oneIf_le b2; have := oneIf_le b3
  rw [w1 _ (by omega) (by omega), w1 _ (by omega) (by omega), w1 _ (by omega) (by omega), w1 _ (by omega) (by omega)]
  exact kit_better_l [oneIf b2 - oneIf a2, oneIf b3 - oneIf a3, b4 - a4, a5 - b5] (by simp) 4 k 0 (by simp) (by simp) (by omega)
theorem agF_zero {a0 a1 a2 a3 : ByteArray} {a4 a5 a7 : Int} (h : agF a0 a1 a2 a3 a4 a5 a7 = 0) :
    ¬ a0.toList = a1.toList ∧ anyB a2 = true ∧ anyB a3 = true ∧ (a2.toList = ([] : List UInt8) → a3.toList = ([] : List UInt8)) ∧ 1 ≤ a4 ∧ a4 ≤ 3652059 ∧ a4 ≤ a5 ∧ a5 ≤ 3652059 ∧ 0 ≤ a7 ∧ a7 ≤ 100000000 := by
  unfold agF at h
  split at h
  · cases h
  split at h
  · split at h
    · cases h
    split at h
    · rename_i n1 n2 n3 n4
      exact ⟨n1, n2.1, n2.2, fun e => by by_cases e3 : a3.toList = ([] : List UInt8); exact e3; exact absurd ⟨e3, e⟩ n3, n4⟩
    · cases h
  · cases h
theorem awake_true : l8awake.f = some true := by
  have w1 : wrap64 2 = 2 := by unfold wrap64; omega
  simp [l8awake.f, partner_NextNumber.f, partner_CheckSeries.f, partner_isOf.f, outside, w1]
theorem within8 (x a b : Int) : r8within.f x a b = some (decide (a ≤ x ∧ x ≤ b)) := by
  unfold r8within.f
  by_cases h : a ≤ x
  · rw [if_pos h]; simp [h]
  · rw [if_neg h]; simp [h]
theorem ref_day (x : Int) : interchangeref1_IsDay.f x = some (decide (1 ≤ x ∧ x ≤ 3652059)) := by
  unfold interchangeref1_IsDay.f interchangeref1_isDay.f interchangeref1_within.f
  by_cases h : 1 ≤ x
  · rw [if_pos h]; simp [h]
  · rw [if_neg h]; simp [h]
theorem ref_any (s : ByteArray) (hs : s.size ≤ 140737488351232) (k : Nat) (hk : 50 ≤ k) : r8isAny.f k s = some (anyB s) := by
  unfold r8isAny.f anyB
  by_cases h : s.toList = ([] : List UInt8)
  · rw [if_pos h]; simp [h]
  · rw [if_neg h, ref_name s hs k hk]; simp [h]
theorem ref_ag {a0 a1 a2 a3 : ByteArray} {a4 a5 : Int} {a6 : Bool} {a7 : Int} {a8 : Bool} (h2 : a2.size ≤ 140737488351232) (h3 : a3.size ≤ 140737488351232) (k : Nat) (hk : 50 ≤ k) :
    r8checkAgreement.f k a0 a1 a2 a3 a4 a5 a6 a7 a8 = some (agF a0 a1 a2 a3 a4 a5 a7) := by
  unfold r8checkAgreement.f agF
  simp only [ref_any _ h2 k hk, ref_any _ h3 k hk, Option.bind_some]
  obtain ⟨k, rfl⟩ : ∃ m, k = m + 2 := ⟨k - 2, by omega⟩
  by_cases e1 : a0.toList = a1.toList
  · simp [e1]
  simp only [e1, if_false]
  cases m2 : anyB a2 <;> cases m3 : anyB a3 <;> simp [r8checkAgreement.j0]
  by_cases e3 : a3.toList = ([] : List UInt8) <;> by_cases e2 : a2.toList = ([] : List UInt8) <;> simp [r8checkAgreement.j1, e2, e3, within8, ref_day]
  all_goals
    by_cases g1 : 1 ≤ a4 ∧ a4 ≤ 3652059
    · rw [if_pos g1]
      by_cases g2 : a4 ≤ a5 ∧ a5 ≤ 3652059
      · rw [if_pos g2]
        by_cases g3 : 0 ≤ a7 ∧ a7 ≤ 100000000
        · rw [if_pos g3, if_pos (by omega)]
        · rw [if_neg g3, if_neg (by omega)]
      · rw [if_neg g2, if_neg (by omega)]
    · rw [if_neg g1, if_neg (by omega)]
theorem ref_better_l (ys : List Int) (hn : ys.length < 1000) (d : Nat) : ∀ (k i : Nat), i ≤ ys.length → ys.length - i = d → d < k → r8better.l0 k ys (ys.length : Int) i = some (firstSign (ys.drop i)) := by
  induction d with
  | zero =>
    intro k i h1 hd hk
    obtain ⟨k, rfl⟩ : ∃ m, k = m + 1 := ⟨k - 1, by omega⟩
    simp only [r8better.l0]
    rw [if_neg (by omega), List.drop_of_length_le (by omega)]; rfl
  | succ d ih =>
    intro k i h1 hd hk
    obtain ⟨k, rfl⟩ : ∃ m, k = m + 1 := ⟨k - 1, by omega⟩
    simp only [r8better.l0]
    rw [if_pos (by omega), if_pos (by omega), if_pos (by omega), wrap_up (by omega) (by omega), rd_drop (show i < ys.length by omega)]
    have := ih k (i + 1) (by omega) (by omega) (by omega)
    simp only [firstSign]
    by_cases g1 : rd ys i < 0
    · rw [if_pos g1, if_pos g1]
    · rw [if_neg g1, if_neg g1]
      by_cases g2 : rd ys i > 0
      · rw [if_pos g2, if_pos g2]
      · rw [if_neg g2, if_neg g2]
        exact_mod_cast this
def rankF (a2 a3 : ByteArray) : Int := if a3.toList = ([] : List UInt8) then (if a2.toList = ([] : List UInt8) then 0 else 1) else 2
theorem ref_rank {a0 a1 a2 a3 : ByteArray} {a4 a5 : Int} {a6 : Bool} {a7 : Int} {a8 : Bool} : r8rank.f a0 a1 a2 a3 a4 a5 a6 a7 a8 = some (rankF a2 a3) := by
  unfold r8rank.f rankF
  repeat' split
  all_goals rfl
theorem rank_sign {a2 a3 b2 b3 : ByteArray} (ha : a2.toList = ([] : List UInt8) → a3.toList = ([] : List UInt8)) (hb : b2.toList = ([] : List UInt8) → b3.toList = ([] : List UInt8)) (r : List Int) :
    firstSign ((rankF b2 b3 - rankF a2 a3) :: r) = firstSign ((oneIf b2 - oneIf a2) :: (oneIf b3 - oneIf a3) :: r) := by
  by_cases e2 : a2.toList = ([] : List UInt8) <;> by_cases e3 : a3.toList = ([] : List UInt8) <;> by_cases f2 : b2.toList = ([] : List UInt8) <;> by_cases f3 : b3.toList = ([] : List UInt8) <;>
    first | (exact absurd (ha e2) e3) | (exact absurd (hb f2) f3) | simp [firstSign, rankF, oneIf, e2, e3, f2, f3]
theorem ref_better {a0 a1 a2 a3 : ByteArray} {a4 a5 : Int} {a6 : Bool} {a7 : Int} {a8 : Bool} {b0 b1 b2 b3 : ByteArray} {b4 b5 : Int} {b6 : Bool} {b7 : Int} {b8 : Bool}
    (ha : a2.toList = ([] : List UInt8) → a3.toList = ([] : List UInt8)) (hb : b2.toList = ([] : List UInt8) → b3.toList = ([] : List UInt8))
    (h4 : 1 ≤ a4 ∧ a4 ≤ 3652059) (h5 : 1 ≤ a5 ∧ a5 ≤ 3652059) (g4 : 1 ≤ b4 ∧ b4 ≤ 3652059) (g5 : 1 ≤ b5 ∧ b5 ≤ 3652059) (k : Nat) (hk : 50 ≤ k) :
    r8better.f k a0 a1 a2 a3 a4 a5 a6 a7 a8 b0 b1 b2 b3 b4 b5 b6 b7 b8 = some (betF a2 a3 a4 a5 b2 b3 b4 b5) := by
  unfold r8better.f betF
  simp only [ref_rank, Option.bind_some]
  have w1 : ∀ x : Int, -4000000 ≤ x → x ≤ 4000000 → wrap64 x = x := fun x _ _ => by unfold wrap64; omega
  have r1 : ∀ a b, 0 ≤ rankF a b ∧ rankF a b ≤ 2 := fun a b => by unfold rankF; (repeat' split) <;> omega
  have := r1 a2 a3; have := r1 b2 b3
  rw [w1 _ (by omega) (by omega), w1 _ (by omega) (by omega), w1 _ (by omega) (by omega), ← rank_sign ha hb]
  exact ref_better_l [rankF b2 b3 - rankF a2 a3, b4 - a4, a5 - b5] (by simp) 3 k 0 (by simp) (by simp) (by omega)
def restF (c2 c3 : ByteArray) (c4 : Int) : Int := if nameB c2 = true ∧ nameB c3 = true then (if 1 ≤ c4 ∧ c4 ≤ 3652059 then 0 else 1) else 5
def caseF (c0 c1 c2 c3 : ByteArray) (c4 : Int) : Int := if nameB c0 = true ∧ nameB c1 = true then restF c2 c3 c4 else 5
theorem kit_rest {c0 c1 c2 c3 : ByteArray} {c4 : Int} {c5 : Bool} (h2 : c2.size ≤ 140737488351232) (h3 : c3.size ≤ 140737488351232) (k : Nat) (hk : 50 ≤ k) : partner_restFault.f k c0 c1 c2 c3 c4 c5 = some (restF c2 c3 c4) := by
  obtain ⟨k, rfl⟩ : ∃ m, k = m + 2 := ⟨k - 2, by omega⟩
  unfold partner_restFault.f restF
  simp only [kit_name _ h2, kit_name _ h3, Option.bind_some]
  cases nameB c2 <;> cases nameB c3 <;> simp [partner_restFault.j0, kit_IsDay.f, outside]
  by_cases g : c4 < 1 ∨ 3652059 < c4
  · rw [if_neg (by omega), if_neg (by omega)]
  · rw [if_pos (by omega), if_pos (by omega)]
theorem kit_case {c0 c1 c2 c3 : ByteArray} {c4 : Int} {c5 : Bool} (h0 : c0.size ≤ 140737488351232) (h1 : c1.size ≤ 140737488351232) (h2 : c2.size ≤ 140737488351232) (h3 : c3.size ≤ 140737488351232) (k : Nat) (hk : 50 ≤ k) : partner_caseFault.f k c0 c1 c2 c3 c4 c5 = some (caseF c0 c1 c2 c3 c4) := by
  unfold partner_caseFault.f caseF
  simp only [kit_name _ h0, kit_name _ h1, kit_rest h2 h3 k hk, Option.bind_some]
  cases nameB c0 <;> cases nameB c1 <;> simp
def appB (a0 a1 a2 a3 : ByteArray) (a4 a5 : Int) (a6 : Bool) (c0 c1 c2 c3 : ByteArray) (c4 : Int) (c5 : Bool) : Bool :=
  decide (a0.toList = c0.toList) && (decide (a1.toList = c1.toList) && ((decide (a2.toList = ([] : List UInt8)) || decide (a2.toList = c2.toList)) && ((decide (a3.toList = ([] : List UInt8)) || decide (a3.toList = c3.toList)) && ((a6 == c5) && decide (a4 ≤ c4 ∧ c4 ≤ a5)))))
theorem kit_applies {a0 a1 a2 a3 : ByteArray} {a4 a5 : Int} {a6 : Bool} {a7 : Int} {a8 : Bool} {c0 c1 c2 c3 : ByteArray} {c4 : Int} {c5 : Bool} :
    partner_applies.f a0 a1 a2 a3 a4 a5 a6 a7 a8 c0 c1 c2 c3 c4 c5 = some (appB a0 a1 a2 a3 a4 a5 a6 c0 c1 c2 c3 c4 c5) := by
  unfold partner_applies.f partner_alike.f appB
  simp only [outside]
  have e : decide (a4 ≤ c4 ∧ c4 ≤ a5) = !decide (c4 < a4 ∨ a5 < c4) := by rw [← decide_not]; congr 1; simp only [eq_iff_iff]; omega
  rw [e]
  generalize decide (c4 < a4 ∨ a5 < c4) = q
  by_cases e0 : a0.toList = c0.toList <;> by_cases e1 : a1.toList = c1.toList <;> by_cases e2 : a2.toList = ([] : List UInt8) <;> by_cases e2' : a2.toList = c2.toList <;> by_cases e3 : a3.toList = ([] : List UInt8) <;> by_cases e3' : a3.toList = c3.toList <;> cases a6 <;> cases c5 <;> cases q <;> simp_all
theorem ref_rest {c0 c1 c2 c3 : ByteArray} {c4 : Int} {c5 : Bool} (h2 : c2.size ≤ 140737488351232) (h3 : c3.size ≤ 140737488351232) (k : Nat) (hk : 50 ≤ k) : r8checkCase.f k c0 c1 c2 c3 c4 c5 = some (restF c2 c3 c4) := by
  unfold r8checkCase.f restF
  simp only [ref_name _ h2 k hk, ref_name _ h3 k hk, Option.bind_some]
  obtain ⟨k, rfl⟩ : ∃ m, k = m + 2 := ⟨k - 2, by omega⟩
  cases nameB c2 <;> cases nameB c3 <;> simp [r8checkCase.j0, ref_day]
  split <;> rfl
theorem ref_case {c0 c1 c2 c3 : ByteArray} {c4 : Int} {c5 : Bool} (h0 : c0.size ≤ 140737488351232) (h1 : c1.size ≤ 140737488351232) (h2 : c2.size ≤ 140737488351232) (h3 : c3.size ≤ 140737488351232) (k : Nat) (hk : 50 ≤ k) : r8checkWhole.f k c0 c1 c2 c3 c4 c5 = some (caseF c0 c1 c2 c3 c4) := by
  unfold r8checkWhole.f caseF
  simp only [ref_name _ h0 k hk, ref_name _ h1 k hk, ref_rest h2 h3 k hk, Option.bind_some]
  cases nameB c0 <;> cases nameB c1 <;> simp
theorem ref_applies {a0 a1 a2 a3 : ByteArray} {a4 a5 : Int} {a6 : Bool} {a7 : Int} {a8 : Bool} {c0 c1 c2 c3 : ByteArray} {c4 : Int} {c5 : Bool} :
    r8applies.f a0 a1 a2 a3 a4 a5 a6 a7 a8 c0 c1 c2 c3 c4 c5 = some (appB a0 a1 a2 a3 a4 a5 a6 c0 c1 c2 c3 c4 c5) := by
  unfold r8applies.f appB
  simp only [within8]
  generalize decide (a4 ≤ c4 ∧ c4 ≤ a5) = q
  by_cases e0 : a0.toList = c0.toList <;> by_cases e1 : a1.toList = c1.toList <;> by_cases e2 : a2.toList = ([] : List UInt8) <;> by_cases e2' : a2.toList = c2.toList <;> by_cases e3 : a3.toList = ([] : List UInt8) <;> by_cases e3' : a3.toList = c3.toList <;> cases a6 <;> cases c5 <;> cases q <;> simp_all
theorem firstSign_neg : ∀ (l : List Int), firstSign (l.map (-·)) = - firstSign l
  | [] => rfl
  | x :: r => by
    have ih := firstSign_neg r
    simp only [List.map_cons, firstSign]
    by_cases h1 : x < 0
    · rw [if_neg (by omega), if_pos (by omega), if_pos h1]; rfl
    · rw [if_neg h1]
      by_cases h2 : x > 0
      · rw [if_pos (by omega), if_pos h2]
      · rw [if_neg (by omega), if_neg (by omega), if_neg h2, ih]
theorem bet_back (a2 a3 : ByteArray) (a4 a5 : Int) (b2 b3 : ByteArray) (b4 b5 : Int) : betF b2 b3 b4 b5 a2 a3 a4 a5 = - betF a2 a3 a4 a5 b2 b3 b4 b5 := by
  unfold betF
  rw [← firstSign_neg]
  simp only [List.map_cons, List.map_nil]
  congr 1
  simp only [List.cons.injEq, and_true]
  omega
theorem fs_trans : ∀ (ds es : List Int), ds.length = es.length → firstSign ds ≤ 0 → firstSign es ≤ 0 → firstSign (List.zipWith (· + ·) ds es) < 0 ∨ (firstSign ds = 0 ∧ firstSign es = 0 ∧ firstSign (List.zipWith (· + ·) ds es) = 0)
  | [], [], _, _, _ => .inr ⟨rfl, rfl, rfl⟩
  | d :: ds, e :: es, hl, h1, h2 => by
    have ih := fs_trans ds es (by simpa using hl)
    simp only [List.zipWith_cons_cons, firstSign] at *
    by_cases a1 : d < 0
    · by_cases b1 : e > 0
      · rw [if_neg (by omega), if_pos b1] at h2; omega
      · left; rw [if_pos (by omega)]; omega
    · by_cases a2 : d > 0
      · rw [if_neg a1, if_pos a2] at h1; omega
      · rw [if_neg a1, if_neg a2] at h1 ⊢
        by_cases b0 : e < 0
        · left; rw [if_pos (by omega)]; omega
        · by_cases b1 : e > 0
          · rw [if_neg b0, if_pos b1] at h2; omega
          · rw [if_neg b0, if_neg b1] at h2 ⊢
            rw [if_neg (by omega), if_neg (by omega)]
            exact ih h1 h2
theorem bet_trans {a2 a3 b2 b3 c2 c3 : ByteArray} {a4 a5 b4 b5 c4 c5 : Int} (h1 : betF a2 a3 a4 a5 b2 b3 b4 b5 ≤ 0) (h2 : betF b2 b3 b4 b5 c2 c3 c4 c5 ≤ 0) :
    betF a2 a3 a4 a5 c2 c3 c4 c5 < 0 ∨ (betF a2 a3 a4 a5 b2 b3 b4 b5 = 0 ∧ betF b2 b3 b4 b5 c2 c3 c4 c5 = 0 ∧ betF a2 a3 a4 a5 c2 c3 c4 c5 = 0) := by
  have := fs_trans _ _ (by rfl) h1 h2
  have e : List.zipWith (· + ·) [oneIf b2 - oneIf a2, oneIf b3 - oneIf a3, b4 - a4, a5 - b5] [oneIf c2 - oneIf b2, oneIf c3 - oneIf b3, c4 - b4, b5 - c5] = [oneIf c2 - oneIf a2, oneIf c3 - oneIf a3, c4 - a4, a5 - c5] := by
    simp only [List.zipWith_cons_cons, List.zipWith_nil_right, List.cons.injEq, and_true]
    omega
  rw [e] at this
  exact this
theorem rd31_get (xs : List S119) (i : Nat) (h : i < xs.length) : qk xs (i : Int) = xs[i] := by
  unfold qk
  rw [Int.toNat_natCast, List.getD_eq_getElem?_getD, List.getElem?_eq_getElem h]
  rfl
theorem rd86_get (xs : List S110) (i : Nat) (h : i < xs.length) : qf xs (i : Int) = xs[i] := by
  unfold qf
  rw [Int.toNat_natCast, List.getD_eq_getElem?_getD, List.getElem?_eq_getElem h]
  rfl
def addrF (a b : ByteArray) : Int := if nameB a = true then (if (b.size : Int) < 1 then 3 else if (b.size : Int) > 35 then 3 else if (b.data.toList.all fun c => decide (33 ≤ c.toNat) && decide (c.toNat ≤ 126)) = true then 0 else 3) else 5
theorem addrF_zero {a b : ByteArray} (h : addrF a b = 0) : a.size ≤ 40 ∧ b.size ≤ 35 := by
  unfold addrF at h
  split at h
  · rename_i hn
    simp only [nameB, Bool.and_eq_true, decide_eq_true_eq] at hn
    refine ⟨hn.1.1.1.2, ?_⟩
    split at h
    · cases h
    split at h
    · cases h
    omega
  · cases h
theorem kit_bytes_l (s : ByteArray) (hs : s.size ≤ 140737488351232) (d : Nat) : ∀ (k i : Nat), i ≤ s.size → s.size - i = d → d < k →
    kit_InBytes.l0 k s 33 126 (s.size : Int) i = some ((s.data.toList.drop i).all fun c => decide (33 ≤ c.toNat) && decide (c.toNat ≤ 126)) := by
  induction d with
  | zero =>
    intro k i h1 hd hk
    obtain ⟨k, rfl⟩ : ∃ m, k = m + 1 := ⟨k - 1, by omega⟩
    simp only [kit_InBytes.l0]
    rw [if_neg (by omega), List.drop_of_length_le (by rw [data_length]; omega)]
    rfl
  | succ d ih =>
    intro k i h1 hd hk
    obtain ⟨k, rfl⟩ : ∃ m, k = m + 1 := ⟨k - 1, by omega⟩
    have hlt : i < s.size := by omega
    have hl : i < s.data.toList.length := by rw [data_length]; exact hlt
    have hr := ih k (i + 1) (by omega) (by omega) (by omega)
    simp only [kit_InBytes.l0]
    rw [if_pos (by omega), if_pos (by omega), if_pos (by omega), wrap_up (by omega) (by omega), List.drop_eq_getElem_cons hl, List.all_cons]
    have e1 : ((i : Int) + 1) = ((i + 1 : Nat) : Int) := by omega
    rw [e1, hr, bt_get s i hlt]
    generalize s.data.toList[i] = b
    generalize List.all _ _ = r
    by_cases h1 : 33 ≤ b.toNat
    · by_cases h2 : b.toNat ≤ 126
      · rw [if_neg (by omega), if_neg (by omega)]; simp [h1, h2]
      · rw [if_neg (by omega), if_pos (by omega)]; simp [h2]
    · rw [if_pos (by omega)]; simp [h1]
theorem kit_addr (x : S119) (h : ok119 x) (k : Nat) (hk : 50 ≤ k) : partner_addressFault.f k x.f0 x.f1 = some (addrF x.f0 x.f1) := by
  unfold partner_addressFault.f addrF kit_InBytes.f
  rw [kit_name _ h.1, Option.bind_some]
  by_cases hn : nameB x.f0 = true
  · rw [if_pos hn, if_pos hn]
    by_cases h1 : (x.f1.size : Int) < 1
    · rw [if_pos h1, if_pos h1]
    rw [if_neg h1, if_neg h1]
    by_cases h2 : (x.f1.size : Int) > 35
    · rw [if_pos h2, if_pos h2]
    rw [if_neg h2, if_neg h2]
    have := kit_bytes_l x.f1 h.2 x.f1.size k 0 (by omega) (by omega) (by omega)
    simp only [Int.natCast_zero, List.drop_zero] at this
    rw [this, Option.bind_some]
    generalize List.all _ _ = r
    cases r <;> rfl
  · rw [if_neg hn, if_neg hn]
theorem ref_bytes_l (a s : ByteArray) (hs : s.size ≤ 140737488351232) (d : Nat) : ∀ (k i : Nat), i ≤ s.size → s.size - i = d → d < k →
    r8checkAddress.l0 k (s.size : Int) i a s = some (if ((s.data.toList.drop i).all fun c => decide (33 ≤ c.toNat) && decide (c.toNat ≤ 126)) = true then 0 else 3) := by
  induction d with
  | zero =>
    intro k i h1 hd hk
    obtain ⟨k, rfl⟩ : ∃ m, k = m + 1 := ⟨k - 1, by omega⟩
    simp only [r8checkAddress.l0]
    rw [if_neg (by omega), List.drop_of_length_le (by rw [data_length]; omega)]
    rfl
  | succ d ih =>
    intro k i h1 hd hk
    obtain ⟨k, rfl⟩ : ∃ m, k = m + 1 := ⟨k - 1, by omega⟩
    have hlt : i < s.size := by omega
    have hl : i < s.data.toList.length := by rw [data_length]; exact hlt
    have hr := ih k (i + 1) (by omega) (by omega) (by omega)
    simp only [r8checkAddress.l0]
    rw [if_pos (by omega), if_pos (by omega), if_pos (by omega), wrap_up (by omega) (by omega), List.drop_eq_getElem_cons hl, List.all_cons]
    have e1 : ((i : Int) + 1) = ((i + 1 : Nat) : Int) := by omega
    rw [e1, hr, bt_get s i hlt]
    generalize s.data.toList[i] = b
    generalize List.all _ _ = r
    by_cases h1 : 33 ≤ b.toNat
    · by_cases h2 : b.toNat ≤ 126
      · rw [if_neg (by omega), if_neg (by omega)]; simp [h1, h2]
      · rw [if_neg (by omega), if_pos (by omega)]; simp [h2]
    · rw [if_pos (by omega)]; simp [h1]
theorem ref_addr (x : S119) (h : ok119 x) (k : Nat) (hk : 50 ≤ k) : r8checkAddress.f k x.f0 x.f1 = some (addrF x.f0 x.f1) := by
  unfold r8checkAddress.f addrF r8within.f
  rw [ref_name _ h.1 k hk, Option.bind_some]
  by_cases hn : nameB x.f0 = true
  · rw [if_pos hn, if_pos hn]
    by_cases h1 : (x.f1.size : Int) < 1
    · rw [if_pos h1, if_neg (by omega)]; rfl
    rw [if_neg h1, if_pos (by omega), Option.bind_some]
    by_cases h2 : (x.f1.size : Int) > 35
    · rw [if_pos h2, if_neg (by simp; omega)]
    rw [if_neg h2, if_pos (by simp; omega)]
    have := ref_bytes_l x.f0 x.f1 h.2 x.f1.size k 0 (by omega) (by omega) (by omega)
    simp only [Int.natCast_zero, List.drop_zero] at this
    rw [this]
  · rw [if_neg hn, if_neg hn]
theorem same_adr (a b : ByteArray) (y : S119) : (a.toList == y.f0.toList && b.toList == y.f1.toList) = adrSame ⟨a, b⟩ y := by
  unfold adrSame
  congr 1 <;> (rw [Bool.eq_iff_iff]; simp)
theorem has_l (xs : List S119) (a b : ByteArray) (hx : xs.length ≤ 4611686018427387904) (d : Nat) : ∀ (k i : Nat), i ≤ xs.length → xs.length - i = d → d < k →
    ∃ v, api_Address_141.l0 k xs (xs.length : Int) i a b = some v ∧ decide (v ≥ 0) = (xs.drop i).any (adrSame ⟨a, b⟩) := by
  induction d with
  | zero =>
    intro k i h1 hd hk
    obtain ⟨k, rfl⟩ : ∃ m, k = m + 1 := ⟨k - 1, by omega⟩
    simp only [api_Address_141.l0]
    rw [if_neg (by omega), List.drop_of_length_le (by omega)]
    exact ⟨_, rfl, by simp⟩
  | succ d ih =>
    intro k i h1 hd hk
    obtain ⟨k, rfl⟩ : ∃ m, k = m + 1 := ⟨k - 1, by omega⟩
    have hl : i < xs.length := by omega
    obtain ⟨v, hv, hr⟩ := ih k (i + 1) (by omega) (by omega) (by omega)
    simp only [api_Address_141.l0]
    rw [if_pos (by omega), if_pos (by omega), if_pos (by omega), wrap_up (by omega) (by omega), List.drop_eq_getElem_cons hl, List.any_cons, rd31_get xs i hl, same_adr]
    have e1 : ((i : Int) + 1) = ((i + 1 : Nat) : Int) := by omega
    rw [e1, hv]
    cases adrSame ⟨a, b⟩ xs[i]
    · rw [if_neg (by simp)]; exact ⟨_, rfl, by simpa using hr⟩
    · rw [if_pos rfl]; exact ⟨_, rfl, by simp⟩
theorem has_adr (xs : List S119) (a b : ByteArray) (hx : xs.length ≤ 4611686018427387904) (k : Nat) (hk : xs.length < k) :
    api_Address_96.f k xs a b = some (xs.any (adrSame ⟨a, b⟩)) := by
  unfold api_Address_96.f api_Address_141.f
  obtain ⟨v, hv, hr⟩ := has_l xs a b hx xs.length k 0 (by omega) (by omega) hk
  simp only [Int.natCast_zero, List.drop_zero] at hv hr
  rw [hv, Option.bind_some, hr]
theorem check_adr (l : List S110) (i : Nat) (xs : List S119) (hi : i < l.length) (hl : l.length ≤ 200) (hm : xs.length ≤ 10) (hx : ∀ x ∈ xs, ok119 x) (B : Nat)
    (next : ∀ (k : Nat) (seen : List S119), B ≤ k → seen.length ≤ 10 * (i + 1) → ∃ v, r8CheckPartners.l0 k l seen l (l.length : Int) ((i + 1 : Nat) : Int) = some v ∧ partner_CheckPartners.l0 k l seen l (l.length : Int) ((i + 1 : Nat) : Int) = some v)
    (hB : 3000 ≤ B) (e : Nat) : ∀ (k j : Nat) (seen : List S119), j ≤ xs.length → xs.length - j = e → B + e + 1 ≤ k → seen.length ≤ 10 * i + j →
    ∃ v, r8CheckPartners.l1 k l seen l (l.length : Int) i xs (xs.length : Int) j = some v ∧ partner_CheckPartners.l1 k l seen l (l.length : Int) i xs (xs.length : Int) j = some v := by
  induction e with
  | zero =>
    intro k j seen h1 he hk hs
    obtain ⟨k, rfl⟩ : ∃ m, k = m + 1 := ⟨k - 1, by omega⟩
    have c1 : ¬ ((j : Int) < xs.length) := by omega
    have hn := next k seen (by omega) (by omega)
    have w1 : wrap64 ((i : Int) + 1) = ((i + 1 : Nat) : Int) := by rw [wrap_up (by omega) (by omega)]; omega
    simp only [r8CheckPartners.l1, partner_CheckPartners.l1, c1, ↓reduceIte, w1]
    exact hn
  | succ e ih =>
    intro k j seen h1 he hk hs
    obtain ⟨k, rfl⟩ : ∃ m, k = m + 1 := ⟨k - 1, by omega⟩
    have hj : j < xs.length := by omega
    have c1 : (j : Int) < xs.length := by omega
    have c0 : (0 : Int) ≤ j := by omega
    have w2 : wrap64 ((j : Int) + 1) = ((j + 1 : Nat) : Int) := by rw [wrap_up (by omega) (by omega)]; omega
    simp only [r8CheckPartners.l1, partner_CheckPartners.l1, c1, c0, ↓reduceIte, rd31_get xs j hj, w2]
    clear w2
    have ho := hx xs[j] (List.getElem_mem hj)
    rw [ref_addr _ ho k (by omega), kit_addr _ ho k (by omega)]
    simp only [Option.bind_some]
    by_cases hf : addrF xs[j].f0 xs[j].f1 = 0
    · have hz := addrF_zero hf
      rw [if_pos hf, if_pos hf, has_adr _ _ _ (by omega) k (by omega)]
      have s1 : xs[j].f0.size ≤ 1000 ∧ xs[j].f1.size ≤ 1000 := ⟨by omega, by omega⟩
      have s2 : xs[j].f0.size ≤ 1000 ∧ xs[j].f1.size ≤ 1000 ∧ seen.length < 1099511627776 := ⟨by omega, by omega, by omega⟩
      simp only [map_has_adr.f, map_put_adr.f]
      rw [if_pos s1]
      simp only [Option.bind_some]
      rw [if_pos s2]
      simp only [Option.bind_some]
      cases seen.any (adrSame ⟨xs[j].f0, xs[j].f1⟩)
      · simp only [Bool.false_eq_true, ↓reduceIte]
        rw [if_pos (by omega)]
        exact ih k (j + 1) _ (by omega) (by omega) (by omega) (by simp; omega)
      · rw [if_pos rfl, if_pos rfl]; exact ⟨_, rfl, rfl⟩
    · rw [if_neg hf, if_neg hf]; exact ⟨_, rfl, rfl⟩
theorem check_l (l : List S110) (hl : l.length ≤ 200) (hx : ∀ x ∈ l, ok110 x) (d : Nat) : ∀ (k i : Nat) (seen : List S119), i ≤ l.length → l.length - i = d → 3001 + 14 * d ≤ k → seen.length ≤ 10 * i →
    ∃ v, r8CheckPartners.l0 k l seen l (l.length : Int) i = some v ∧ partner_CheckPartners.l0 k l seen l (l.length : Int) i = some v := by
  induction d with
  | zero =>
    intro k i seen h1 hd hk hs
    obtain ⟨k, rfl⟩ : ∃ m, k = m + 1 := ⟨k - 1, by omega⟩
    simp only [r8CheckPartners.l0, partner_CheckPartners.l0]
    rw [if_neg (by omega), if_neg (by omega)]
    exact ⟨_, rfl, rfl⟩
  | succ d ih =>
    intro k i seen h1 hd hk hs
    obtain ⟨k, rfl⟩ : ∃ m, k = m + 1 := ⟨k - 1, by omega⟩
    have hi : i < l.length := by omega
    have ho := hx l[i] (List.getElem_mem hi)
    have hj : ∀ b : Bool, ∃ v, r8CheckPartners.j1 k l seen l (l.length : Int) i b l[i].f0 l[i].f1 = some v ∧ partner_CheckPartners.j1 k l seen l (l.length : Int) i b l[i].f0 l[i].f1 = some v := by
      intro b
      obtain ⟨k, rfl⟩ : ∃ m, k = m + 1 := ⟨k - 1, by omega⟩
      simp only [r8CheckPartners.j1, partner_CheckPartners.j1]
      cases b
      · simp only [Bool.false_eq_true, ↓reduceIte]
        by_cases hm : (l[i].f1.length : Int) > 10
        · rw [if_pos hm, if_pos hm]; exact ⟨_, rfl, rfl⟩
        · rw [if_neg hm, if_neg hm]
          exact check_adr l i l[i].f1 hi hl (by omega) ho.2.2.2 (3001 + 14 * d) (fun k seen hk hs => ih k (i + 1) seen (by omega) (by omega) hk hs) (by omega) l[i].f1.length k 0 seen (by omega) (by omega) (by omega) (by omega)
      · rw [if_pos rfl, if_pos rfl]; exact ⟨_, rfl, rfl⟩
    have c1 : (i : Int) < l.length := by omega
    have c0 : (0 : Int) ≤ i := by omega
    simp only [r8CheckPartners.l0, partner_CheckPartners.l0, c1, c0, ↓reduceIte, rd86_get l i hi, ref_name _ ho.1 k (by omega), kit_name _ ho.1, Option.bind_some]
    by_cases hn : nameB l[i].f0 = true
    · rw [if_pos hn, if_pos hn]
      by_cases h0 : (i : Int) > 0
      · have w1 : wrap64 ((i : Int) - 1) = (i : Int) - 1 := by unfold wrap64; omega
        rw [if_pos h0, if_pos h0, w1, if_pos (show (0 : Int) ≤ (i : Int) - 1 by omega), if_pos (show (i : Int) - 1 < l.length by omega), if_pos (show (0 : Int) ≤ (i : Int) - 1 by omega), if_pos (show (i : Int) - 1 < l.length by omega)]
        exact hj _
      · rw [if_neg h0, if_neg h0]; exact hj _
    · rw [if_neg hn, if_neg hn]; exact ⟨_, rfl, rfl⟩
theorem check_same (l : List S110) (hx : ∀ x ∈ l, ok110 x) (k : Nat) (hk : 10000 ≤ k) : ∃ v, r8CheckPartners.f k l = some v ∧ partner_CheckPartners.f k l = some v := by
  unfold r8CheckPartners.f partner_CheckPartners.f map_mk_adr.f
  by_cases h : (l.length : Int) > 200
  · rw [if_pos h, if_pos h]; exact ⟨_, rfl, rfl⟩
  · rw [if_neg h, if_neg h, Option.bind_some]
    have := check_l l (by omega) hx l.length k 0 [] (by omega) (by omega) (by omega) (by simp)
    exact this
theorem kit_adr (l : List S110) (i : Nat) (xs : List S119) (hi : i < l.length) (hl : l.length ≤ 200) (hm : xs.length ≤ 10) (hx : ∀ x ∈ xs, ok119 x) (B : Nat) (Q : Int → Prop) (hQ : ∀ v, v ≠ 0 → Q v)
    (next : ∀ (k : Nat) (seen : List S119), B ≤ k → seen.length ≤ 10 * (i + 1) → ∃ v, partner_CheckPartners.l0 k l seen l (l.length : Int) ((i + 1 : Nat) : Int) = some v ∧ Q v)
    (hB : 3000 ≤ B) (e : Nat) : ∀ (k j : Nat) (seen : List S119), j ≤ xs.length → xs.length - j = e → B + e + 1 ≤ k → seen.length ≤ 10 * i + j →
    ∃ v, partner_CheckPartners.l1 k l seen l (l.length : Int) i xs (xs.length : Int) j = some v ∧ Q v := by
  induction e with
  | zero =>
    intro k j seen h1 he hk hs
    obtain ⟨k, rfl⟩ : ∃ m, k = m + 1 := ⟨k - 1, by omega⟩
    have c1 : ¬ ((j : Int) < xs.length) := by omega
    have hn := next k seen (by omega) (by omega)
    have w1 : wrap64 ((i : Int) + 1) = ((i + 1 : Nat) : Int) := by rw [wrap_up (by omega) (by omega)]; omega
    simp only [partner_CheckPartners.l1, c1, ↓reduceIte, w1]
    exact hn
  | succ e ih =>
    intro k j seen h1 he hk hs
    obtain ⟨k, rfl⟩ : ∃ m, k = m + 1 := ⟨k - 1, by omega⟩
    have hj : j < xs.length := by omega
    have c1 : (j : Int) < xs.length := by omega
    have c0 : (0 : Int) ≤ j := by omega
    have w2 : wrap64 ((j : Int) + 1) = ((j + 1 : Nat) : Int) := by rw [wrap_up (by omega) (by omega)]; omega
    simp only [partner_CheckPartners.l1, c1, c0, ↓reduceIte, rd31_get xs j hj, w2]
    clear w2
    have ho := hx xs[j] (List.getElem_mem hj)
    rw [kit_addr _ ho k (by omega)]
    simp only [Option.bind_some]
    by_cases hf : addrF xs[j].f0 xs[j].f1 = 0
    · have hz := addrF_zero hf
      rw [if_pos hf]
      have s1 : xs[j].f0.size ≤ 1000 ∧ xs[j].f1.size ≤ 1000 := ⟨by omega, by omega⟩
      have s2 : xs[j].f0.size ≤ 1000 ∧ xs[j].f1.size ≤ 1000 ∧ seen.length < 1099511627776 := ⟨by omega, by omega, by omega⟩
      simp only [map_has_adr.f, map_put_adr.f]
      rw [if_pos s1]
      simp only [Option.bind_some]
      rw [if_pos s2]
      simp only [Option.bind_some]
      cases seen.any (adrSame ⟨xs[j].f0, xs[j].f1⟩)
      · simp only [Bool.false_eq_true, ↓reduceIte]
        exact ih k (j + 1) _ (by omega) (by omega) (by omega) (by simp; omega)
      · rw [if_pos rfl]; exact ⟨_, rfl, hQ _ (by decide)⟩
    · rw [if_neg hf]; exact ⟨_, rfl, hQ _ hf⟩
def Rising (l : List S110) (i : Nat) : Prop := ∀ j, i ≤ j → j < l.length → 0 < j → Op.bytesLess (qf l ((j : Int) - 1)).f0.toList (qf l j).f0.toList = true
theorem kit_l (l : List S110) (hl : l.length ≤ 200) (hx : ∀ x ∈ l, ok110 x) (d : Nat) : ∀ (k i : Nat) (seen : List S119), i ≤ l.length → l.length - i = d → 3001 + 14 * d ≤ k → seen.length ≤ 10 * i →
    ∃ v, partner_CheckPartners.l0 k l seen l (l.length : Int) i = some v ∧ (v = 0 → Rising l i ∧ ∀ j, i ≤ j → j < l.length → nameB (qf l j).f0 = true) := by
  induction d with
  | zero =>
    intro k i seen h1 hd hk hs
    obtain ⟨k, rfl⟩ : ∃ m, k = m + 1 := ⟨k - 1, by omega⟩
    simp only [partner_CheckPartners.l0]
    rw [if_neg (by omega)]
    exact ⟨_, rfl, fun _ => ⟨fun j h1 h2 => by omega, fun j h1 h2 => by omega⟩⟩
  | succ d ih =>
    intro k i seen h1 hd hk hs
    obtain ⟨k, rfl⟩ : ∃ m, k = m + 1 := ⟨k - 1, by omega⟩
    have hi : i < l.length := by omega
    have ho := hx l[i] (List.getElem_mem hi)
    have hj : ∀ b : Bool, nameB l[i].f0 = true → (b = false → 0 < i → Op.bytesLess (qf l ((i : Int) - 1)).f0.toList (qf l i).f0.toList = true) →
        ∃ v, partner_CheckPartners.j1 k l seen l (l.length : Int) i b l[i].f0 l[i].f1 = some v ∧ (v = 0 → Rising l i ∧ ∀ j, i ≤ j → j < l.length → nameB (qf l j).f0 = true) := by
      intro b hnm hb
      obtain ⟨k, rfl⟩ : ∃ m, k = m + 1 := ⟨k - 1, by omega⟩
      simp only [partner_CheckPartners.j1]
      cases b
      · simp only [Bool.false_eq_true, ↓reduceIte]
        by_cases hm : (l[i].f1.length : Int) > 10
        · rw [if_pos hm]; exact ⟨_, rfl, fun h => by cases h⟩
        · rw [if_neg hm]
          refine kit_adr l i l[i].f1 hi hl (by omega) ho.2.2.2 (3001 + 14 * d) (fun v => v = 0 → Rising l i ∧ ∀ j, i ≤ j → j < l.length → nameB (qf l j).f0 = true) (fun v hv h => absurd h hv) (fun k seen hk hs => ?_) (by omega) l[i].f1.length k 0 seen (by omega) (by omega) (by omega) (by omega)
          obtain ⟨v, e, q⟩ := ih k (i + 1) seen (by omega) (by omega) hk hs
          refine ⟨v, e, fun hv => ?_⟩
          obtain ⟨r, n⟩ := q hv
          refine ⟨fun j a b c => ?_, fun j a b => ?_⟩
          · by_cases e : j = i
            · subst e; exact hb rfl c
            · exact r j (by omega) b c
          · by_cases e : j = i
            · subst e; rw [rd86_get l j hi]; exact hnm
            · exact n j (by omega) b
      · rw [if_pos rfl]; exact ⟨_, rfl, fun h => by cases h⟩
    have c1 : (i : Int) < l.length := by omega
    have c0 : (0 : Int) ≤ i := by omega
    simp only [partner_CheckPartners.l0, c1, c0, ↓reduceIte, rd86_get l i hi, kit_name _ ho.1, Option.bind_some]
    by_cases hn : nameB l[i].f0 = true
    · rw [if_pos hn]
      by_cases h0 : (i : Int) > 0
      · have p1 : (0 : Int) ≤ (i : Int) - 1 := by omega
        have p2 : (i : Int) - 1 < l.length := by omega
        have w1 : wrap64 ((i : Int) - 1) = (i : Int) - 1 := by unfold wrap64; omega
        rw [if_pos h0, w1, if_pos p1, if_pos p2]
        exact hj _ hn (fun hb _ => by rw [rd86_get l i hi]; simpa using hb)
      · rw [if_neg h0]; exact hj _ hn (fun _ h => by omega)
    · rw [if_neg hn]; exact ⟨_, rfl, fun h => by cases h⟩
theorem kit_check (l : List S110) (hx : ∀ x ∈ l, ok110 x) (k : Nat) (hk : 10000 ≤ k) : ∃ v, partner_CheckPartners.f k l = some v ∧ (v = 0 → l.length ≤ 200 ∧ Rising l 0 ∧ ∀ j, j < l.length → nameB (qf l j).f0 = true) := by
  unfold partner_CheckPartners.f map_mk_adr.f
  by_cases h : (l.length : Int) > 200
  · rw [if_pos h]; exact ⟨_, rfl, fun h => by cases h⟩
  · rw [if_neg h, Option.bind_some]
    obtain ⟨v, e, q⟩ := kit_l l (by omega) hx l.length k 0 [] (by omega) (by omega) (by omega) (by simp)
    exact ⟨v, e, fun hv => ⟨by omega, (q hv).1, fun j hj => (q hv).2 j (by omega) hj⟩⟩
theorem rd23_get (xs : List S53) (i : Nat) (h : i < xs.length) : qa xs (i : Int) = xs[i] := by
  unfold qa
  rw [Int.toNat_natCast, List.getD_eq_getElem?_getD, List.getElem?_eq_getElem h]
  rfl
theorem u64_id {x : Int} (h0 : 0 ≤ x) (h1 : x < 18446744073709551616) : IntKind.u64.wrap x = x := by
  simp [IntKind.wrap, IntKind.signed, IntKind.bits]; omega
theorem mid_eq {a b : Int} (ha : 0 ≤ a) (hb : 0 ≤ b) (h : a + b < 9223372036854775807) : wrap64 ((IntKind.u64.wrap (wrap64 (a + b))) / 2) = (a + b) / 2 := by
  have e : wrap64 (a + b) = a + b := by unfold wrap64; omega
  rw [e, u64_id (by omega) (by omega)]
  unfold wrap64; omega
def agf (a : S53) : Int := agF a.f0 a.f1 a.f2 a.f3 a.f4 a.f5 a.f7
def bet (a b : S53) : Int := betF a.f2 a.f3 a.f4 a.f5 b.f2 b.f3 b.f4 b.f5
def app (a : S53) (c : S25) : Bool := appB a.f0 a.f1 a.f2 a.f3 a.f4 a.f5 a.f6 c.f0 c.f1 c.f2 c.f3 c.f4 c.f5
theorem agf_days {a : S53} (h : agf a = 0) : (1 ≤ a.f4 ∧ a.f4 ≤ 3652059) ∧ (1 ≤ a.f5 ∧ a.f5 ≤ 3652059) := by
  have z := agF_zero h
  exact ⟨⟨z.2.2.2.2.1, z.2.2.2.2.2.1⟩, by omega, by omega⟩
def Best (l : List S53) (c : S25) (i : Nat) (b : Int) : Prop :=
  (b = -1 ∧ ∀ j : Nat, j < i → app (qa l j) c = false) ∨
  ∃ n : Nat, b = n ∧ n < i ∧ app (qa l n) c = true ∧ ∀ j : Nat, j < i → app (qa l j) c = true → 0 ≤ bet (qa l j) (qa l n) ∧ (bet (qa l j) (qa l n) = 0 → n ≤ j)
theorem bet_anti (a b : S53) : bet b a = - bet a b := bet_back _ _ _ _ _ _ _ _
theorem bet_self (a : S53) : bet a a = 0 := by have := bet_anti a a; omega
theorem bet_tr {a b c : S53} (h1 : bet a b ≤ 0) (h2 : bet b c ≤ 0) : bet a c < 0 ∨ (bet a b = 0 ∧ bet b c = 0 ∧ bet a c = 0) := bet_trans h1 h2
theorem find_l (l : List S53) (c : S25) (hl : l.length ≤ 200) (ha : ∀ j : Nat, j < l.length → agf (qa l j) = 0) (d : Nat) : ∀ (k i : Nat) (b : Int), i ≤ l.length → l.length - i = d → 60 + d ≤ k → Best l c i b →
    ∃ b', partner_find.l0 k l b l (l.length : Int) i c.f0 c.f1 c.f2 c.f3 c.f4 c.f5 = some b' ∧ Best l c l.length b' := by
  induction d with
  | zero =>
    intro k i b h1 hd hk hb
    obtain ⟨k, rfl⟩ : ∃ m, k = m + 1 := ⟨k - 1, by omega⟩
    simp only [partner_find.l0]
    rw [if_neg (by omega)]
    obtain rfl : i = l.length := by omega
    exact ⟨_, rfl, hb⟩
  | succ d ih =>
    intro k i b h1 hd hk hb
    obtain ⟨k, rfl⟩ : ∃ m, k = m + 1 := ⟨k - 1, by omega⟩
    have hi : i < l.length := by omega
    have c1 : (i : Int) < l.length := by omega
    have c0 : (0 : Int) ≤ i := by omega
    have nx := fun b hb => ih k (i + 1) b (by omega) (by omega) (by omega) hb
    have w1 : wrap64 ((i : Int) + 1) = ((i + 1 : Nat) : Int) := by rw [wrap_up (by omega) (by omega)]; omega
    simp only [partner_find.l0, c1, c0, ↓reduceIte, kit_applies, Option.bind_some, w1]
    clear w1
    have hA : appB (qa l i).f0 (qa l i).f1 (qa l i).f2 (qa l i).f3 (qa l i).f4 (qa l i).f5 (qa l i).f6 c.f0 c.f1 c.f2 c.f3 c.f4 c.f5 = app (qa l i) c := rfl
    rw [hA]
    cases happ : app (qa l i) c
    · simp only [Bool.false_eq_true, ↓reduceIte]
      refine nx b ?_
      rcases hb with ⟨e, h⟩ | ⟨n, e, hn, hp, h⟩
      · exact .inl ⟨e, fun j hj => by by_cases e : j = i; subst e; exact happ; exact h j (by omega)⟩
      · refine .inr ⟨n, e, by omega, hp, fun j hj hjp => ?_⟩
        by_cases e : j = i
        · subst e; rw [happ] at hjp; cases hjp
        · exact h j (by omega) hjp
    · rw [if_pos rfl]
      rcases hb with ⟨e, h⟩ | ⟨n, e, hn, hp, h⟩
      · rw [if_pos (by omega)]
        refine nx i (.inr ⟨i, rfl, by omega, happ, fun j hj hjp => ?_⟩)
        by_cases e : j = i
        · subst e; exact ⟨by rw [bet_self]; omega, fun _ => by omega⟩
        · have := h j (by omega); rw [this] at hjp; cases hjp
      · subst e
        have hnl : n < l.length := by omega
        obtain ⟨g4, g5⟩ := agf_days (ha i hi)
        obtain ⟨m4, m5⟩ := agf_days (ha n hnl)
        rw [if_neg (by omega), if_pos (by omega), if_pos (by omega), kit_better g4 g5 m4 m5 k (by omega), Option.bind_some]
        have hB : betF (qa l i).f2 (qa l i).f3 (qa l i).f4 (qa l i).f5 (qa l n).f2 (qa l n).f3 (qa l n).f4 (qa l n).f5 = bet (qa l i) (qa l n) := rfl
        rw [hB]
        by_cases hlt : bet (qa l i) (qa l n) < 0
        · rw [if_pos hlt]
          refine nx i (.inr ⟨i, rfl, by omega, happ, fun j hj hjp => ?_⟩)
          by_cases e : j = i
          · subst e; exact ⟨by rw [bet_self]; omega, fun _ => by omega⟩
          · have h1 := (h j (by omega) hjp).1
            have h2 := bet_anti (qa l j) (qa l n)
            have h3 := bet_anti (qa l i) (qa l j)
            rcases bet_tr (show bet (qa l i) (qa l n) ≤ 0 by omega) (show bet (qa l n) (qa l j) ≤ 0 by omega) with h4 | h4
            · exact ⟨by omega, fun _ => by omega⟩
            · omega
        · rw [if_neg hlt]
          refine nx n (.inr ⟨n, rfl, by omega, hp, fun j hj hjp => ?_⟩)
          by_cases e : j = i
          · subst e; exact ⟨by omega, fun _ => by omega⟩
          · exact h j (by omega) hjp
theorem kit_find (l : List S53) (c : S25) (hl : l.length ≤ 200) (ha : ∀ j : Nat, j < l.length → agf (qa l j) = 0) (k : Nat) (hk : 1000 ≤ k) :
    ∃ b, partner_find.f k l c.f0 c.f1 c.f2 c.f3 c.f4 c.f5 = some b ∧ Best l c l.length b := by
  unfold partner_find.f
  have := find_l l c hl ha l.length k 0 (-1) (by omega) (by omega) (by omega) (.inl ⟨rfl, fun j h => by omega⟩)
  simpa using this
theorem cmp_lt : ∀ (a b : List UInt8), (Lib.compareBytes a b < 0) ↔ Op.bytesLess a b = true
  | [], [] => by simp [Lib.compareBytes, Op.bytesLess]
  | [], _ :: _ => by simp [Lib.compareBytes, Op.bytesLess]
  | _ :: _, [] => by simp [Lib.compareBytes, Op.bytesLess]
  | a :: x, b :: y => by
    have ih := cmp_lt x y
    simp only [Lib.compareBytes, Op.bytesLess]
    by_cases h1 : a < b
    · simp [h1]
    · by_cases h2 : b < a
      · have h3 : ¬ a = b := fun e => by subst e; exact h1 h2
        simp [h1, h2, h3]
      · have h3 : a = b := UInt8.le_antisymm (UInt8.not_lt.1 h2) (UInt8.not_lt.1 h1)
        subst h3
        simp [h1, ih]
theorem cmp_eq0 : ∀ (a b : List UInt8), (Lib.compareBytes a b = 0) ↔ a = b
  | [], [] => by simp [Lib.compareBytes]
  | [], _ :: _ => by simp [Lib.compareBytes]
  | _ :: _, [] => by simp [Lib.compareBytes]
  | a :: x, b :: y => by
    have ih := cmp_eq0 x y
    simp only [Lib.compareBytes]
    by_cases h1 : a < b
    · have h3 : ¬ a = b := fun e => by subst e; exact absurd h1 (UInt8.lt_irrefl a)
      simp [h1, h3]
    · by_cases h2 : b < a
      · have h3 : ¬ a = b := fun e => by subst e; exact h1 h2
        simp [h1, h2, h3]
      · have h3 : a = b := UInt8.le_antisymm (UInt8.not_lt.1 h2) (UInt8.not_lt.1 h1)
        subst h3
        simp [h1, ih]
theorem less_irr : ∀ a : List UInt8, Op.bytesLess a a = false
  | [] => rfl
  | a :: x => by simp [Op.bytesLess, less_irr x, UInt8.lt_irrefl]
theorem less_tr : ∀ (a b c : List UInt8), Op.bytesLess a b = true → Op.bytesLess b c = true → Op.bytesLess a c = true
  | _, _, [], _, h => by simp [Op.bytesLess] at h
  | _, [], _ :: _, h, _ => by simp [Op.bytesLess] at h
  | [], _ :: _, _ :: _, _, _ => by simp [Op.bytesLess]
  | a :: x, b :: y, c :: z, h1, h2 => by
    have ih := less_tr x y z
    simp only [Op.bytesLess, Bool.or_eq_true, decide_eq_true_eq, Bool.and_eq_true, beq_iff_eq] at h1 h2 ⊢
    rcases h1 with h1 | ⟨rfl, h1⟩
    · rcases h2 with h2 | ⟨rfl, h2⟩
      · exact .inl (UInt8.lt_trans h1 h2)
      · exact .inl h1
    · rcases h2 with h2 | ⟨rfl, h2⟩
      · exact .inl h2
      · exact .inr ⟨rfl, ih h1 h2⟩
def nm (l : List S110) (j : Nat) : List UInt8 := (qf l (j : Int)).f0.toList
theorem rising_lt {l : List S110} (h : Rising l 0) : ∀ (d i : Nat), i + d + 1 < l.length → Op.bytesLess (nm l i) (nm l (i + d + 1)) = true
  | 0, i, hl => by
    have := h (i + 1) (by omega) hl (by omega)
    unfold nm
    have e : (((i + 0 + 1 : Nat) : Int) - 1) = (i : Int) := by omega
    have e2 : ((i + 1 : Nat) : Int) - 1 = (i : Int) := by omega
    rw [e2] at this
    exact this
  | d + 1, i, hl => by
    have h1 := rising_lt h d i (by omega)
    have h2 := h (i + d + 1 + 1) (by omega) (by omega) (by omega)
    have e2 : ((i + d + 1 + 1 : Nat) : Int) - 1 = ((i + d + 1 : Nat) : Int) := by omega
    rw [e2] at h2
    exact less_tr _ _ _ h1 h2
theorem ref_isP_l (l : List S110) (s : ByteArray) (hl : l.length ≤ 140737488351232) (d : Nat) : ∀ (k i : Nat), i ≤ l.length → l.length - i = d → d < k →
    r8isPartner.l0 k s l (l.length : Int) i = some ((l.drop i).any fun p => decide (p.f0.toList = s.toList)) := by
  induction d with
  | zero =>
    intro k i h1 hd hk
    obtain ⟨k, rfl⟩ : ∃ m, k = m + 1 := ⟨k - 1, by omega⟩
    simp only [r8isPartner.l0]
    rw [if_neg (by omega), List.drop_of_length_le (by omega)]
    rfl
  | succ d ih =>
    intro k i h1 hd hk
    obtain ⟨k, rfl⟩ : ∃ m, k = m + 1 := ⟨k - 1, by omega⟩
    have hi : i < l.length := by omega
    have hr := ih k (i + 1) (by omega) (by omega) (by omega)
    have w1 : wrap64 ((i : Int) + 1) = ((i + 1 : Nat) : Int) := by rw [wrap_up (by omega) (by omega)]; omega
    have c1 : (i : Int) < l.length := by omega
    have c0 : (0 : Int) ≤ i := by omega
    simp only [r8isPartner.l0, c1, c0, ↓reduceIte, rd86_get l i hi, w1, hr]
    rw [List.drop_eq_getElem_cons hi, List.any_cons]
    by_cases h : l[i].f0.toList = s.toList <;> simp [h]
theorem ref_isP (l : List S110) (s : ByteArray) (hl : l.length ≤ 140737488351232) (k : Nat) (hk : l.length < k) :
    r8isPartner.f k l s = some (l.any fun p => decide (p.f0.toList = s.toList)) := by
  unfold r8isPartner.f
  have := ref_isP_l l s hl l.length k 0 (by omega) (by omega) hk
  simpa using this
theorem any_nm (l : List S110) (s : ByteArray) : (l.any fun p => decide (p.f0.toList = s.toList)) = true ↔ ∃ j, j < l.length ∧ nm l j = s.toList := by
  rw [List.any_eq_true]
  constructor
  · rintro ⟨p, hp, h⟩
    obtain ⟨j, hj, rfl⟩ := List.getElem_of_mem hp
    refine ⟨j, hj, ?_⟩
    unfold nm
    rw [rd86_get l j hj]
    simpa using h
  · rintro ⟨j, hj, h⟩
    refine ⟨l[j], List.getElem_mem hj, ?_⟩
    unfold nm at h
    rw [rd86_get l j hj] at h
    simpa using h
theorem bsearch_is (l : List S110) (s : ByteArray) (hr : Rising l 0) (hl : l.length ≤ 140737488351232) (d : Nat) : ∀ (k lo hi : Nat), lo ≤ hi → hi ≤ l.length → hi - lo ≤ d → d < k →
    (∀ j, j < lo → Op.bytesLess (nm l j) s.toList = true) → (∀ j, hi ≤ j → j < l.length → Op.bytesLess (nm l j) s.toList = false) →
    ∃ r, fn_bsearch_partner.l0 k l s (l.length : Int) lo hi = some r ∧ r.2 = l.any fun p => decide (p.f0.toList = s.toList) := by
  have fin : ∀ (k lo : Nat), lo ≤ l.length → (∀ j, j < lo → Op.bytesLess (nm l j) s.toList = true) → (∀ j, lo ≤ j → j < l.length → Op.bytesLess (nm l j) s.toList = false) →
      ∃ r, fn_bsearch_partner.l0 (k + 1) l s (l.length : Int) lo lo = some r ∧ r.2 = l.any fun p => decide (p.f0.toList = s.toList) := by
    intro k lo h1 hA hB
    simp only [fn_bsearch_partner.l0]
    rw [if_neg (by omega)]
    by_cases h : (lo : Int) < l.length
    · rw [if_pos h, if_pos (by omega), if_pos h]
      simp only [partner_isPartner_1.f, strings_Compare.f, Option.bind_some]
      refine ⟨_, rfl, ?_⟩
      rw [Bool.eq_iff_iff, beq_iff_eq, cmp_eq0, any_nm, ← toL, ← toL]
      constructor
      · intro h2; exact ⟨lo, by omega, h2⟩
      · rintro ⟨j, hj, h2⟩
        have g1 : ¬ j < lo := fun hlt => by have := hA j hlt; rw [h2, less_irr] at this; cases this
        by_cases e : j = lo
        · subst e; exact h2
        · have := rising_lt hr (j - lo - 1) lo (by omega)
          rw [show lo + (j - lo - 1) + 1 = j by omega, h2] at this
          rw [hB lo (by omega) (by omega)] at this
          cases this
    · rw [if_neg h]
      refine ⟨_, rfl, ?_⟩
      symm
      rw [Bool.eq_false_iff, Ne, any_nm]
      rintro ⟨j, hj, h2⟩
      have := hA j (by omega)
      rw [h2, less_irr] at this; cases this
  induction d with
  | zero =>
    intro k lo hi h1 h2 h3 h4 hA hB
    obtain ⟨k, rfl⟩ : ∃ m, k = m + 1 := ⟨k - 1, by omega⟩
    obtain rfl : lo = hi := by omega
    exact fin k lo h2 hA hB
  | succ d ih =>
    intro k lo hi h1 h2 h3 h4 hA hB
    obtain ⟨k, rfl⟩ : ∃ m, k = m + 1 := ⟨k - 1, by omega⟩
    by_cases h : (lo : Int) < hi
    · have hm : ((lo : Int) + hi) / 2 = (((lo + hi) / 2 : Nat) : Int) := by omega
      have m0 : (0 : Int) ≤ (((lo + hi) / 2 : Nat) : Int) := by omega
      have m1 : (((lo + hi) / 2 : Nat) : Int) < l.length := by omega
      have hmid : (lo + hi) / 2 < l.length := by omega
      have g1 := ih k ((lo + hi) / 2 + 1) hi (by omega) h2 (by omega) (by omega)
      have g2 := ih k lo ((lo + hi) / 2) (by omega) (by omega) (by omega) (by omega)
      simp only [fn_bsearch_partner.l0]
      rw [if_pos h, mid_eq (by omega) (by omega) (by omega), hm, if_pos m0, if_pos m1]
      have w : wrap64 ((((lo + hi) / 2 : Nat) : Int) + 1) = (((lo + hi) / 2 + 1 : Nat) : Int) := by rw [wrap_up (by omega) (by omega)]; omega
      rw [w]
      clear w
      simp only [partner_isPartner_1.f, strings_Compare.f, Option.bind_some]
      generalize hmm : (lo + hi) / 2 = m at *
      have hN : (qf l (m : Int)).f0.data.toList = nm l m := by unfold nm; rw [toL]
      rw [hN, ← toL]
      by_cases hc : Lib.compareBytes (nm l m) s.toList < 0
      · rw [if_pos hc]
        rw [cmp_lt] at hc
        refine g1 (fun j hj => ?_) hB
        by_cases e : j = m
        · subst e; exact hc
        · have := rising_lt hr (m - j - 1) j (by omega)
          rw [show j + (m - j - 1) + 1 = m by omega] at this
          exact less_tr _ _ _ this hc
      · rw [if_neg hc]
        rw [cmp_lt] at hc
        refine g2 hA (fun j hj hjl => ?_)
        by_cases e : j = m
        · subst e; simpa using hc
        · cases hq : Op.bytesLess (nm l j) s.toList with
          | false => rfl
          | true =>
            have := rising_lt hr (j - m - 1) m (by omega)
            rw [show m + (j - m - 1) + 1 = j by omega] at this
            exact absurd (less_tr _ _ _ this hq) hc
    · obtain rfl : lo = hi := by omega
      exact fin k lo h2 hA hB
theorem kit_isP (l : List S110) (s : ByteArray) (hr : Rising l 0) (hl : l.length ≤ 140737488351232) (k : Nat) (hk : l.length < k) :
    partner_isPartner.f k l s = some (l.any fun p => decide (p.f0.toList = s.toList)) := by
  unfold partner_isPartner.f fn_bsearch_partner.f
  obtain ⟨r, h, h2⟩ := bsearch_is l s hr hl l.length k 0 l.length (by omega) (by omega) (by omega) hk (fun j h => by omega) (fun j h1 h2 => by omega)
  simp only [Int.natCast_zero] at h
  rw [h, Option.bind_some, h2]
theorem agrees_same_l (p : List S110) (l : List S53) (hr : Rising p 0) (hp : p.length ≤ 200) (hl : l.length ≤ 200) (hx : ∀ x ∈ l, ok53 x) (d : Nat) : ∀ (k i : Nat), i ≤ l.length → l.length - i = d → 300 + 2 * d ≤ k →
    ∃ v, r8CheckAgreements.l0 k p l (l.length : Int) i = some v ∧ partner_CheckAgreements.l0 k p l (l.length : Int) i = some v ∧ (v = 0 → ∀ j, i ≤ j → j < l.length → agf (qa l j) = 0) := by
  induction d with
  | zero =>
    intro k i h1 hd hk
    obtain ⟨k, rfl⟩ : ∃ m, k = m + 1 := ⟨k - 1, by omega⟩
    have c1 : ¬ ((i : Int) < l.length) := by omega
    simp only [r8CheckAgreements.l0, partner_CheckAgreements.l0, c1, ↓reduceIte]
    exact ⟨_, rfl, rfl, fun _ j h1 h2 => by omega⟩
  | succ d ih =>
    intro k i h1 hd hk
    obtain ⟨k, rfl⟩ : ∃ m, k = m + 1 := ⟨k - 1, by omega⟩
    have hi : i < l.length := by omega
    have ho := hx l[i] (List.getElem_mem hi)
    have c1 : (i : Int) < l.length := by omega
    have c0 : (0 : Int) ≤ i := by omega
    have hj : ∀ b : Bool, ∃ v, r8CheckAgreements.j1 k p l (l.length : Int) i b l[i].f0 l[i].f1 l[i].f2 l[i].f3 l[i].f4 l[i].f5 l[i].f6 l[i].f7 l[i].f8 = some v ∧ partner_CheckAgreements.j1 k p l (l.length : Int) i b l[i].f0 l[i].f1 l[i].f2 l[i].f3 l[i].f4 l[i].f5 l[i].f6 l[i].f7 l[i].f8 = some v ∧ (v = 0 → ∀ j, i ≤ j → j < l.length → agf (qa l j) = 0) := by
      intro b
      obtain ⟨k, rfl⟩ : ∃ m, k = m + 1 := ⟨k - 1, by omega⟩
      simp only [r8CheckAgreements.j1, partner_CheckAgreements.j1]
      cases b
      · simp only [Bool.false_eq_true, ↓reduceIte, own_fault ho.2.2.1 ho.2.2.2.1 k (by omega), ref_ag ho.2.2.1 ho.2.2.2.1 k (by omega), Option.bind_some]
        by_cases h0 : agF l[i].f0 l[i].f1 l[i].f2 l[i].f3 l[i].f4 l[i].f5 l[i].f7 = 0
        · obtain ⟨v, e, e2, q⟩ := ih k (i + 1) (by omega) (by omega) (by omega)
          have w1 : wrap64 ((i : Int) + 1) = ((i + 1 : Nat) : Int) := by rw [wrap_up (by omega) (by omega)]; omega
          rw [if_pos h0, if_pos h0, w1]
          refine ⟨v, e, e2, fun hv j a b => ?_⟩
          by_cases e : j = i
          · subst e; rw [rd23_get l j hi]; exact h0
          · exact q hv j (by omega) b
        · rw [if_neg h0, if_neg h0]; exact ⟨_, rfl, rfl, fun h => absurd h h0⟩
      · simp only [↓reduceIte]; exact ⟨_, rfl, rfl, fun h => by cases h⟩
    simp only [r8CheckAgreements.l0, partner_CheckAgreements.l0, c1, c0, ↓reduceIte, rd23_get l i hi, ref_isP p _ (show p.length ≤ 140737488351232 by omega) k (by omega), kit_isP p _ hr (show p.length ≤ 140737488351232 by omega) k (by omega), Option.bind_some]
    cases (p.any fun q => decide (q.f0.toList = l[i].f0.toList))
    · simp only [Bool.false_eq_true, ↓reduceIte]; exact hj _
    · simp only [↓reduceIte]; exact hj _
theorem agrees_same (p : List S110) (l : List S53) (hp : ∀ x ∈ p, ok110 x) (hx : ∀ x ∈ l, ok53 x) (k : Nat) (hk : 10000 ≤ k) : ∃ v, r8CheckAgreements.f k p l = some v ∧ partner_CheckAgreements.f k p l = some v ∧ (v = 0 → p.length ≤ 200 ∧ Rising p 0 ∧ l.length ≤ 200 ∧ ∀ j, j < l.length → agf (qa l j) = 0) := by
  unfold r8CheckAgreements.f partner_CheckAgreements.f
  obtain ⟨v, e, e2⟩ := check_same p hp k hk
  obtain ⟨v', e3, q⟩ := kit_check p hp k hk
  obtain rfl : v = v' := by rw [e2] at e3; exact Option.some.inj e3
  rw [e, e2, Option.bind_some, Option.bind_some]
  by_cases hv : v = 0
  · obtain ⟨q1, q2, _⟩ := q hv
    rw [if_pos hv, if_pos hv]
    by_cases h : (l.length : Int) > 200
    · rw [if_pos h, if_pos h]; exact ⟨_, rfl, rfl, fun h => by cases h⟩
    · rw [if_neg h, if_neg h]
      obtain ⟨w, f1, f2, f3⟩ := agrees_same_l p l q2 q1 (by omega) hx l.length k 0 (by omega) (by omega) (by omega)
      exact ⟨w, f1, f2, fun h2 => ⟨q1, q2, by omega, fun j hj => f3 h2 j (by omega) hj⟩⟩
  · rw [if_neg hv, if_neg hv]; exact ⟨_, rfl, rfl, fun h => absurd h hv⟩
theorem asked_same (p : List S110) (l : List S53) (c : S25) (hp : ∀ x ∈ p, ok110 x) (hx : ∀ x ∈ l, ok53 x) (hc : ok25 c) (k : Nat) (hk : 10000 ≤ k) :
    ∃ v, r8askCase.f k p l c.f0 c.f1 c.f2 c.f3 c.f4 c.f5 = some v ∧ partner_askedFault.f k p l c.f0 c.f1 c.f2 c.f3 c.f4 c.f5 = some v ∧ (v = 0 → l.length ≤ 200 ∧ (∀ j, j < l.length → agf (qa l j) = 0) ∧ caseF c.f0 c.f1 c.f2 c.f3 c.f4 = 0) := by
  unfold r8askCase.f partner_askedFault.f
  obtain ⟨v, e, e2, q⟩ := agrees_same p l hp hx k hk
  rw [e, e2, Option.bind_some, Option.bind_some]
  by_cases hv : v = 0
  · obtain ⟨q0, q1, q2, q3⟩ := q hv
    rw [if_pos hv, if_pos hv, kit_case hc.1 hc.2.1 hc.2.2.1 hc.2.2.2.1 k (by omega), ref_case hc.1 hc.2.1 hc.2.2.1 hc.2.2.2.1 k (by omega), Option.bind_some, Option.bind_some]
    by_cases hf : caseF c.f0 c.f1 c.f2 c.f3 c.f4 = 0
    · simp only [hf, ↓reduceIte, ref_isP p _ (show p.length ≤ 140737488351232 by omega) k (by omega), kit_isP p _ q1 (show p.length ≤ 140737488351232 by omega) k (by omega), Option.bind_some]
      cases (p.any fun q => decide (q.f0.toList = c.f0.toList)) <;> cases (p.any fun q => decide (q.f0.toList = c.f1.toList)) <;> simp <;> exact ⟨q2, q3⟩
    · rw [if_neg hf, if_neg hf]; exact ⟨_, rfl, rfl, fun h => absurd h hf⟩
  · rw [if_neg hv, if_neg hv]; exact ⟨_, rfl, rfl, fun h => absurd h hv⟩
theorem find_same_l (l : List S53) (c : S25) (hl : l.length ≤ 200) (ha : ∀ j : Nat, j < l.length → agf (qa l j) = 0) (d : Nat) : ∀ (k i : Nat) (b : Int), i ≤ l.length → l.length - i = d → 60 + d ≤ k → (b = -1 ∨ ∃ n : Nat, b = n ∧ n < l.length) →
    ∃ b', r8find.l0 k l b l (l.length : Int) i c.f0 c.f1 c.f2 c.f3 c.f4 c.f5 = some b' ∧ partner_find.l0 k l b l (l.length : Int) i c.f0 c.f1 c.f2 c.f3 c.f4 c.f5 = some b' := by
  induction d with
  | zero =>
    intro k i b h1 hd hk hb
    obtain ⟨k, rfl⟩ : ∃ m, k = m + 1 := ⟨k - 1, by omega⟩
    have c1 : ¬ ((i : Int) < l.length) := by omega
    simp only [r8find.l0, partner_find.l0, c1, ↓reduceIte]
    exact ⟨_, rfl, rfl⟩
  | succ d ih =>
    intro k i b h1 hd hk hb
    obtain ⟨k, rfl⟩ : ∃ m, k = m + 1 := ⟨k - 1, by omega⟩
    have hi : i < l.length := by omega
    have c1 : (i : Int) < l.length := by omega
    have c0 : (0 : Int) ≤ i := by omega
    have n2 : l.length - (i + 1) = d := by clear hb; omega
    have n3 : 60 + d ≤ k := by clear hb; omega
    have nx := fun b hb => ih k (i + 1) b hi n2 n3 hb
    clear n2 n3
    have w1 : wrap64 ((i : Int) + 1) = ((i + 1 : Nat) : Int) := by rw [wrap_up (by omega) (by omega)]; omega
    simp only [r8find.l0, partner_find.l0, c1, c0, ↓reduceIte, kit_applies, ref_applies, Option.bind_some, w1]
    clear w1
    have zi := agF_zero (ha i hi)
    cases appB (qa l i).f0 (qa l i).f1 (qa l i).f2 (qa l i).f3 (qa l i).f4 (qa l i).f5 (qa l i).f6 c.f0 c.f1 c.f2 c.f3 c.f4 c.f5
    · simp only [Bool.false_eq_true, ↓reduceIte]; exact nx b hb
    · simp only [↓reduceIte]
      rcases hb with e | ⟨n, e, hn⟩
      · subst e
        simp only [show ((-1 : Int) < 0) by omega, ↓reduceIte]
        exact nx i (.inr ⟨i, rfl, hi⟩)
      · subst e
        have zn := agF_zero (ha n hn)
        obtain ⟨g4, g5⟩ := agf_days (ha i hi)
        obtain ⟨m4, m5⟩ := agf_days (ha n hn)
        have d0 : ¬ ((n : Int) < 0) := by omega
        have d1 : (0 : Int) ≤ n := by omega
        have d2 : (n : Int) < l.length := by omega
        simp only [d0, d1, d2, ↓reduceIte, kit_better g4 g5 m4 m5 k (by omega), ref_better zi.2.2.2.1 zn.2.2.2.1 g4 g5 m4 m5 k (by omega), Option.bind_some]
        split
        · exact nx i (.inr ⟨i, rfl, hi⟩)
        · exact nx n (.inr ⟨n, rfl, hn⟩)
theorem find_same (l : List S53) (c0 c1 c2 c3 : ByteArray) (c4 : Int) (c5 : Bool) (hl : l.length ≤ 200) (ha : ∀ j : Nat, j < l.length → agf (qa l j) = 0) (k : Nat) (hk : 1000 ≤ k) :
    ∃ b, r8find.f k l c0 c1 c2 c3 c4 c5 = some b ∧ partner_find.f k l c0 c1 c2 c3 c4 c5 = some b := by
  unfold r8find.f partner_find.f
  exact find_same_l l ⟨c0, c1, c2, c3, c4, c5⟩ hl ha l.length k 0 (-1) (by omega) (by omega) (by omega) (.inl rfl)
def dd : List Int → List Int
  | [] => []
  | [a] => [a]
  | a :: b :: r => if a = b then dd (b :: r) else a :: dd (b :: r)
theorem dd_snoc (x : Int) : ∀ l : List Int, dd (l ++ [x]) = dd l ++ (if l.getLast? = some x then [] else [x])
  | [] => rfl
  | [a] => by
    by_cases e : a = x
    · subst e; simp [dd]
    · simp [dd, e]
  | a :: b :: r => by
    have ih := dd_snoc x (b :: r)
    simp only [List.cons_append, dd] at *
    have hl : (a :: b :: r).getLast? = (b :: r).getLast? := by simp
    rw [hl]
    by_cases e : a = b
    · rw [if_pos e, if_pos e]; exact ih
    · rw [if_neg e, if_neg e, List.cons_append, ← ih]
open Go.Lib in
theorem compact_snoc (l : List Int) (x : Int) : compact (l ++ [x]) = compact l ++ (if l.getLast? = some x then [] else [x]) := by
  unfold compact
  rw [List.length_append, List.length_singleton, compactUpTo_succ]
  have h1 : compactUpTo (l ++ [x]).toArray l.length = compactUpTo l.toArray l.length := by
    unfold compactUpTo
    have hf : ∀ j, j < l.length → (l ++ [x]).toArray[j]! = l.toArray[j]! := by
      intro j hj
      rw [getElem!_pos _ _ (by simp; omega), getElem!_pos _ _ (by simpa using hj)]
      simp [List.getElem_append_left hj]
    have hk : ∀ j ∈ List.range l.length, keeps (l ++ [x]).toArray j = keeps l.toArray j := by
      intro j hj
      have hj := List.mem_range.1 hj
      unfold keeps
      rw [hf j hj, hf (j - 1) (by omega)]
    rw [List.filter_congr hk]
    refine List.map_congr_left fun j hj => hf j (List.mem_range.1 (List.mem_filter.1 hj).1)
  rw [h1]
  congr 1
  have hx : (l ++ [x]).toArray[l.length]! = x := by rw [getElem!_pos _ _ (by simp)]; simp
  rw [hx]
  rcases l.eq_nil_or_concat with rfl | ⟨l, y, rfl⟩
  · simp [keeps]
  · rw [List.concat_eq_append] at *
    have hy : (l ++ [y] ++ [x]).toArray[(l ++ [y]).length - 1]! = y := by rw [getElem!_pos _ _ (by simp)]; simp
    unfold keeps
    rw [hx, hy]
    by_cases e : y = x
    · simp [e]
    · simp [e, Ne.symm e]
theorem compact_dd' : ∀ (n : Nat) (l : List Int), l.length = n → Go.Lib.compact l = dd l
  | 0, l, h => by
    obtain rfl := List.length_eq_zero_iff.1 h
    rfl
  | n + 1, l, h => by
    rcases l.eq_nil_or_concat with rfl | ⟨l, y, rfl⟩
    · rfl
    · rw [List.concat_eq_append] at *
      rw [compact_snoc, dd_snoc, compact_dd' n l (by simpa using h)]
theorem compact_dd (l : List Int) : Go.Lib.compact l = dd l := compact_dd' _ l rfl
theorem dd_mem : ∀ (l : List Int) (x : Int), x ∈ dd l → x ∈ l
  | [], x, h => h
  | [a], x, h => h
  | a :: b :: r, x, h => by
    simp only [dd] at h
    split at h
    · exact List.mem_cons_of_mem _ (dd_mem (b :: r) x h)
    · rcases List.mem_cons.1 h with rfl | h
      · simp
      · exact List.mem_cons_of_mem _ (dd_mem (b :: r) x h)
theorem dd_len : ∀ l : List Int, (dd l).length ≤ l.length
  | [] => Nat.le_refl _
  | [a] => Nat.le_refl _
  | a :: b :: r => by
    have := dd_len (b :: r)
    simp only [dd]
    split <;> simp only [List.length_cons] at * <;> omega
abbrev srt (l : List Int) : List Int := l.mergeSort fun x y => decide (x ≤ y)
theorem srt_le (l : List Int) : (srt l).Pairwise (· ≤ ·) := by
  have := List.pairwise_mergeSort (le := fun (x y : Int) => decide (x ≤ y)) (fun a b c h1 h2 => by simp at *; omega) (fun a b => by simp; omega) l
  simpa using this
theorem mem_dd : ∀ (l : List Int) (x : Int), x ∈ l → x ∈ dd l
  | [], x, h => h
  | [a], x, h => h
  | a :: b :: r, x, h => by
    have ih := mem_dd (b :: r) x
    simp only [dd]
    by_cases e : a = b
    · rw [if_pos e]
      subst e
      rcases List.mem_cons.1 h with rfl | h
      · exact ih (by simp)
      · exact ih h
    · rw [if_neg e]
      rcases List.mem_cons.1 h with rfl | h
      · simp
      · exact List.mem_cons_of_mem _ (ih h)
theorem dd_lt : ∀ (l : List Int), l.Pairwise (· ≤ ·) → (dd l).Pairwise (· < ·)
  | [], _ => List.Pairwise.nil
  | [a], _ => by simp [dd]
  | a :: b :: r, h => by
    have h2 := (List.pairwise_cons.1 h)
    have ih := dd_lt (b :: r) h2.2
    simp only [dd]
    by_cases e : a = b
    · rw [if_pos e]; exact ih
    · rw [if_neg e]
      refine List.pairwise_cons.2 ⟨fun x hx => ?_, ih⟩
      have hx := dd_mem _ _ hx
      have h3 := h2.1 b (by simp)
      rcases List.mem_cons.1 hx with rfl | hx
      · omega
      · have := (List.pairwise_cons.1 h2.2).1 x hx
        omega
def onDay (c : S25) (d : Int) : S25 := ⟨c.f0, c.f1, c.f2, c.f3, d, c.f5⟩
theorem best_unique {l : List S53} {c : S25} {n : Nat} {b b' : Int} (h : Best l c n b) (h' : Best l c n b') : b = b' := by
  rcases h with ⟨e, h⟩ | ⟨m, e, hm, hp, h⟩ <;> rcases h' with ⟨e', h'⟩ | ⟨m', e', hm', hp', h'⟩
  · rw [e, e']
  · rw [h m' hm'] at hp'; cases hp'
  · rw [h' m hm] at hp; cases hp
  · have q1 := h m' hm' hp'
    have q2 := h' m hm hp
    have q3 := bet_anti (qa l m) (qa l m')
    have q4 := q1.2 (by omega)
    have q5 := q2.2 (by omega)
    rw [e, e']; omega
theorem find_is {l : List S53} {c : S25} {b : Int} (hl : l.length ≤ 200) (ha : ∀ j : Nat, j < l.length → agf (qa l j) = 0) (h : Best l c l.length b) (k : Nat) (hk : 1000 ≤ k) :
    partner_find.f k l c.f0 c.f1 c.f2 c.f3 c.f4 c.f5 = some b := by
  obtain ⟨b', e, h'⟩ := kit_find l c hl ha k hk
  rw [e, best_unique h' h]
def SameDays (l : List S53) (d e : Int) : Prop := ∀ j : Nat, j < l.length → (((qa l j).f4 ≤ d ∧ d ≤ (qa l j).f5) ↔ ((qa l j).f4 ≤ e ∧ e ≤ (qa l j).f5))
theorem app_same {l : List S53} {c : S25} {d e : Int} (h : SameDays l d e) (j : Nat) (hj : j < l.length) : app (qa l j) (onDay c d) = app (qa l j) (onDay c e) := by
  unfold app appB onDay
  simp only [h j hj]
theorem best_same {l : List S53} {c : S25} {d e : Int} {b : Int} (h : SameDays l d e) (hb : Best l (onDay c d) l.length b) : Best l (onDay c e) l.length b := by
  rcases hb with ⟨e1, h1⟩ | ⟨m, e1, hm, hp, h1⟩
  · exact .inl ⟨e1, fun j hj => by rw [← app_same h j hj]; exact h1 j hj⟩
  · exact .inr ⟨m, e1, hm, by rw [← app_same h m hm]; exact hp, fun j hj hjp => h1 j hj (by rw [app_same h j hj]; exact hjp)⟩
def Turn (l : List S53) (from_ d : Int) (i : Nat) : Prop := d = from_ ∨ (from_ < d ∧ d ≤ 3652059 ∧ ∃ j : Nat, j < i ∧ (d = (qa l j).f4 ∨ d = (qa l j).f5 + 1))
theorem wr_id {x : Int} (h0 : -9223372036854775808 ≤ x) (h1 : x < 9223372036854775808) : wrap64 x = x := by unfold wrap64; omega
theorem changes_two (l : List S53) (from_ x y : Int) (acc : List Int) (i : Nat) (hi : i < l.length) (hl : l.length ≤ 200) (hacc : acc.length ≤ 1 + 2 * i) (k : Nat) :
    partner_changes.l1 (k + 3) from_ acc l (l.length : Int) i [x, y] 2 0 = partner_changes.l0 k from_ (acc ++ [x, y].filter (fun d => decide (from_ < d) && decide (d ≤ 3652059))) l (l.length : Int) ((i + 1 : Nat) : Int) := by
  have w0 : wrap64 1 = 1 := by unfold wrap64; omega
  have w1 : wrap64 2 = 2 := by unfold wrap64; omega
  have a1 : acc.length < 17592186044416 := by omega
  have a2 : acc.length + 1 < 17592186044416 := by omega
  have w2 : wrap64 ((i : Int) + 1) = ((i + 1 : Nat) : Int) := by rw [wr_id (by omega) (by omega)]; omega
  by_cases h1 : from_ < x <;> by_cases h2 : x ≤ 3652059 <;> by_cases h3 : from_ < y <;> by_cases h4 : y ≤ 3652059 <;>
    simp [partner_changes.l1, rd, w0, w1, h1, h2, h3, h4, a1, a2, w2]
theorem changes_l (l : List S53) (from_ : Int) (hl : l.length ≤ 200) (ha : ∀ j : Nat, j < l.length → agf (qa l j) = 0) (d : Nat) : ∀ (k i : Nat) (acc : List Int), i ≤ l.length → l.length - i = d → 10 + 4 * d ≤ k → acc.length ≤ 1 + 2 * i →
    (∀ x, x ∈ acc ↔ Turn l from_ x i) → ∃ ys, partner_changes.l0 k from_ acc l (l.length : Int) i = some ys ∧ ys.length ≤ 401 ∧ ys.Pairwise (· < ·) ∧ ∀ x, x ∈ ys ↔ Turn l from_ x l.length := by
  induction d with
  | zero =>
    intro k i acc h1 hd hk hacc hm
    obtain ⟨k, rfl⟩ : ∃ m, k = m + 1 := ⟨k - 1, by omega⟩
    obtain rfl : i = l.length := by omega
    have c1 : ¬ (((l.length : Nat) : Int) < l.length) := by omega
    have e1 : slices_Sort_int_int.f acc = some (srt acc) := by unfold slices_Sort_int_int.f; rw [if_pos (by omega)]
    have e2 : slices_Compact_int_int.f (srt acc) = some (dd (srt acc)) := by
      unfold slices_Compact_int_int.f
      have : (srt acc).length = acc.length := by simp [srt]
      rw [if_pos (by omega), compact_dd]
    simp only [partner_changes.l0, c1, ↓reduceIte, e1, e2, Option.bind_some]
    have hmem : ∀ x, x ∈ srt acc ↔ x ∈ acc := fun x => List.mem_mergeSort
    refine ⟨_, rfl, ?_, dd_lt _ (srt_le acc), fun x => ?_⟩
    · have := dd_len (srt acc)
      have h2 : (srt acc).length = acc.length := by simp [srt]
      omega
    · rw [← hm x, ← hmem x]
      exact ⟨dd_mem _ _, mem_dd _ _⟩
  | succ d ih =>
    intro k i acc hle hd hk hacc hm
    obtain ⟨k, rfl⟩ : ∃ m, k = m + 4 := ⟨k - 4, by omega⟩
    have hi : i < l.length := by omega
    have c1 : (i : Int) < l.length := by omega
    have c0 : (0 : Int) ≤ i := by omega
    obtain ⟨g4, g5⟩ := agf_days (ha i hi)
    have w5 : wrap64 ((qa l i).f5 + 1) = (qa l i).f5 + 1 := wr_id (by omega) (by omega)
    simp only [partner_changes.l0, c1, c0, ↓reduceIte, Option.bind_some, w5]
    have h2 := changes_two l from_ (qa l i).f4 ((qa l i).f5 + 1) acc i hi hl hacc k
    have e2 : ((([(qa l i).f4, (qa l i).f5 + 1] : List Int).length : Nat) : Int) = 2 := rfl
    rw [e2, h2]
    refine ih k (i + 1) _ (by omega) (by omega) (by omega) ?_ (fun x => ?_)
    · have := List.length_filter_le (fun d => decide (from_ < d) && decide (d ≤ 3652059)) [(qa l i).f4, (qa l i).f5 + 1]
      simp only [List.length_append, List.length_cons, List.length_nil] at this ⊢
      omega
    · rw [List.mem_append, hm x, List.mem_filter]
      simp only [List.mem_cons, List.not_mem_nil, or_false, Bool.and_eq_true, decide_eq_true_eq]
      unfold Turn
      constructor
      · rintro ((h | ⟨h1, h2, j, hj, h3⟩) | ⟨h, h1, h2⟩)
        · exact .inl h
        · exact .inr ⟨h1, h2, j, by omega, h3⟩
        · exact .inr ⟨h1, h2, i, by omega, h⟩
      · rintro (h | ⟨h1, h2, j, hj, h3⟩)
        · exact .inl (.inl h)
        · by_cases e : j = i
          · subst e; exact .inr ⟨h3, ‹_›, ‹_›⟩
          · exact .inl (.inr ⟨‹_›, ‹_›, j, by omega, h3⟩)
theorem kit_changes (l : List S53) (from_ : Int) (hl : l.length ≤ 200) (ha : ∀ j : Nat, j < l.length → agf (qa l j) = 0) (k : Nat) (hk : 2000 ≤ k) :
    ∃ r, partner_changes.f k l from_ = some (from_ :: r) ∧ r.length ≤ 400 ∧ (from_ :: r).Pairwise (· < ·) ∧ ∀ x, x ∈ from_ :: r ↔ Turn l from_ x l.length := by
  unfold partner_changes.f
  obtain ⟨ys, e, h1, h2, h3⟩ := changes_l l from_ hl ha l.length k 0 [from_] (by omega) (by omega) (by omega) (by simp) (fun x => by
    unfold Turn
    constructor
    · intro h; exact .inl (by simpa using h)
    · rintro (h | ⟨_, _, j, hj, _⟩)
      · simp [h]
      · omega)
  have hf : from_ ∈ ys := (h3 from_).2 (.inl rfl)
  cases ys with
  | nil => cases hf
  | cons a r =>
    have : a = from_ := by
      rcases List.mem_cons.1 hf with h | h
      · exact h.symm
      · have q := (List.pairwise_cons.1 h2).1 from_ h
        rcases (h3 a).1 (by simp) with g | ⟨g, _⟩
        · exact g
        · omega
    subst this
    simp only [Int.natCast_zero] at e
    exact ⟨r, e, by simpa using h1, h2, h3⟩
theorem between {l : List S53} {from_ y x : Int} (ha : ∀ j : Nat, j < l.length → agf (qa l j) = 0) (h0 : from_ ≤ y) (h1 : y ≤ x) (h2 : x ≤ 3652059) (hn : ∀ t, Turn l from_ t l.length → y < t → t ≤ x → False) : SameDays l y x := by
  intro j hj
  obtain ⟨g4, g5⟩ := agf_days (ha j hj)
  have n1 : ¬ (y < (qa l j).f4 ∧ (qa l j).f4 ≤ x) := fun h => hn _ (.inr ⟨by omega, by omega, j, hj, .inl rfl⟩) h.1 h.2
  have n2 : ¬ (y < (qa l j).f5 + 1 ∧ (qa l j).f5 + 1 ≤ x) := fun h => hn _ (.inr ⟨by omega, by omega, j, hj, .inr rfl⟩) h.1 h.2
  omega
theorem rest_in {c2 c3 : ByteArray} {d : Int} (h : restF c2 c3 d = 0) : 1 ≤ d ∧ d ≤ 3652059 := by
  unfold restF at h
  split at h
  · split at h
    · assumption
    · cases h
  · cases h
theorem case_rest {c0 c1 c2 c3 : ByteArray} {c4 : Int} (h : caseF c0 c1 c2 c3 c4 = 0) : restF c2 c3 c4 = 0 := by
  unfold caseF at h
  split at h
  · exact h
  · cases h
def UntilIs (l : List S53) (c : S25) (from_ first end_ : Int) : Prop :=
  (from_ ≤ end_ ∧ end_ ≤ 3652059 ∧ ∀ x, from_ ≤ x → x ≤ end_ → Best l (onDay c x) l.length first) ∧ (end_ = 3652059 ∨ ∃ t, t ≠ first ∧ Best l (onDay c (end_ + 1)) l.length t)
theorem until_l (l : List S53) (c : S25) (from_ first : Int) (hf : 1 ≤ from_ ∧ from_ ≤ 3652059) (r : List Int) (hr : r.length ≤ 400) (hl : l.length ≤ 200) (ha : ∀ j : Nat, j < l.length → agf (qa l j) = 0) (hp : (from_ :: r).Pairwise (· < ·)) (hm : ∀ x, x ∈ from_ :: r ↔ Turn l from_ x l.length) (d : Nat) :
    ∀ (k i : Nat) (cur : Int), i ≤ r.length → r.length - i = d → 1100 + d ≤ k → (∀ x, from_ ≤ x → x ≤ (from_ :: r).getD i 0 → Best l (onDay c x) l.length first) →
    ∃ e, partner_Until.l0 k l first r (r.length : Int) i c.f0 c.f1 c.f2 c.f3 cur c.f5 = some (e, 0) ∧ UntilIs l c from_ first e := by
  have hlt : ∀ i j : Nat, i < j → j < (from_ :: r).length → (from_ :: r).getD i 0 < (from_ :: r).getD j 0 := by
    intro i j hij hj
    rw [List.getD_eq_getElem?_getD, List.getD_eq_getElem?_getD, List.getElem?_eq_getElem hj, List.getElem?_eq_getElem (show i < (from_ :: r).length by omega)]
    exact List.pairwise_iff_getElem.1 hp i j _ hj hij
  have hmm : ∀ i : Nat, i < (from_ :: r).length → Turn l from_ ((from_ :: r).getD i 0) l.length := by
    intro i hi
    rw [← hm, List.getD_eq_getElem?_getD, List.getElem?_eq_getElem hi]
    exact List.getElem_mem hi
  have hix : ∀ x, Turn l from_ x l.length → ∃ i : Nat, i < (from_ :: r).length ∧ (from_ :: r).getD i 0 = x := by
    intro x hx
    obtain ⟨i, hi, e⟩ := List.getElem_of_mem ((hm x).2 hx)
    exact ⟨i, hi, by rw [List.getD_eq_getElem?_getD, List.getElem?_eq_getElem hi]; exact e⟩
  have hbig : ∀ i : Nat, i < (from_ :: r).length → from_ ≤ (from_ :: r).getD i 0 ∧ (from_ :: r).getD i 0 ≤ 3652059 := by
    intro i hi
    rcases hmm i hi with h | ⟨h1, h2, _⟩
    · rw [h]; omega
    · omega
  have hsame : ∀ (i : Nat) (x : Int), i < (from_ :: r).length → (from_ :: r).getD i 0 ≤ x → x ≤ 3652059 → (i + 1 < (from_ :: r).length → x < (from_ :: r).getD (i + 1) 0) → SameDays l ((from_ :: r).getD i 0) x := by
    intro i x hi h1 h2 h3
    refine between ha (hbig i hi).1 h1 h2 (fun t ht g1 g2 => ?_)
    obtain ⟨j, hj, rfl⟩ := hix t ht
    have g3 : i < j := by
      rcases Nat.lt_trichotomy i j with h | h | h
      · exact h
      · subst h; omega
      · have := hlt j i h hi; omega
    have g4 := h3 (by omega)
    by_cases e : j = i + 1
    · subst e; omega
    · have := hlt (i + 1) j (by omega) hj; omega
  induction d with
  | zero =>
    intro k i cur h1 hd hk hb
    obtain ⟨k, rfl⟩ : ∃ m, k = m + 1 := ⟨k - 1, by omega⟩
    have c1 : ¬ ((i : Int) < r.length) := by omega
    simp only [partner_Until.l0, c1, ↓reduceIte]
    have hi : i < (from_ :: r).length := by simp; omega
    refine ⟨_, rfl, ⟨hf.2, by omega, fun x g1 g2 => ?_⟩, .inl rfl⟩
    by_cases g : x ≤ (from_ :: r).getD i 0
    · exact hb x g1 g
    · exact best_same (hsame i x hi (by omega) g2 (fun h => by simp at h; omega)) (hb _ (hbig i hi).1 (Int.le_refl _))
  | succ d ih =>
    intro k i cur h1 hd hk hb
    obtain ⟨k, rfl⟩ : ∃ m, k = m + 1 := ⟨k - 1, by omega⟩
    have hi : i < r.length := by omega
    have c1 : (i : Int) < r.length := by omega
    have c0 : (0 : Int) ≤ i := by omega
    have hi1 : i + 1 < (from_ :: r).length := by simp; omega
    have hi0 : i < (from_ :: r).length := by omega
    have er : rd r (i : Int) = (from_ :: r).getD (i + 1) 0 := by simp [rd]
    obtain ⟨b1, b2⟩ := hbig (i + 1) hi1
    have hl1 := hlt i (i + 1) (by omega) hi1
    obtain ⟨t, et, ht⟩ := kit_find l (onDay c ((from_ :: r).getD (i + 1) 0)) hl ha k (by omega)
    have et' : partner_find.f k l c.f0 c.f1 c.f2 c.f3 ((from_ :: r).getD (i + 1) 0) c.f5 = some t := et
    have w1 : wrap64 ((i : Int) + 1) = ((i + 1 : Nat) : Int) := by rw [wr_id (by omega) (by omega)]; omega
    have w2 : wrap64 ((from_ :: r).getD (i + 1) 0 - 1) = (from_ :: r).getD (i + 1) 0 - 1 := wr_id (by omega) (by omega)
    simp only [partner_Until.l0, c1, c0, ↓reduceIte, er, et', Option.bind_some, w1, w2]
    clear w1 w2
    have hall : ∀ x, from_ ≤ x → x < (from_ :: r).getD (i + 1) 0 → Best l (onDay c x) l.length first := by
      intro x g1 g2
      by_cases g : x ≤ (from_ :: r).getD i 0
      · exact hb x g1 g
      · exact best_same (hsame i x hi0 (by omega) (by omega) (fun _ => g2)) (hb _ (hbig i hi0).1 (Int.le_refl _))
    by_cases he : t = first
    · rw [if_pos he]
      subst he
      refine ih k (i + 1) _ (by omega) (by omega) (by omega) (fun x g1 g2 => ?_)
      by_cases g : x = (from_ :: r).getD (i + 1) 0
      · subst g; exact ht
      · exact hall x g1 (by omega)
    · rw [if_neg he]
      refine ⟨_, rfl, ⟨by have := (hbig i hi0).1; omega, by omega, fun x g1 g2 => hall x g1 (by omega)⟩, .inr ⟨t, he, ?_⟩⟩
      rw [Int.sub_add_cancel]; exact ht
def zs (n : Nat) : ByteArray := ⟨(List.replicate (n + 1) (122 : UInt8)).toArray⟩
theorem zs_next (n : Nat) : zs n ++ ⟨#[122]⟩ = zs (n + 1) := by
  apply ByteArray.ext
  rw [ByteArray.data_append]
  unfold zs
  apply Array.toList_inj.1
  rw [Array.toList_append]
  show List.replicate (n + 1) (122 : UInt8) ++ [122] = List.replicate (n + 1 + 1) 122
  rw [List.replicate_succ' (n := n + 1)]
theorem zs_size (n : Nat) : (zs n).size = n + 1 := by
  unfold zs
  show (List.replicate (n + 1) (122 : UInt8)).toArray.size = n + 1
  simp
theorem size_eq {a b : ByteArray} (h : a.toList = b.toList) : a.size = b.size := by
  rw [str_eq] at h; rw [h]
theorem any_size {s : ByteArray} (h : anyB s = true) : s.size ≤ 40 := by
  unfold anyB at h
  rw [Bool.or_eq_true, decide_eq_true_eq, toL_nil] at h
  rcases h with h | h
  · omega
  · simp only [nameB, Bool.and_eq_true, decide_eq_true_eq] at h
    exact h.1.1.1.2
theorem other_m_l (l : List S53) (hl : ∀ a ∈ l, a.f2.size ≤ 40) (d : Nat) : ∀ (k n : Nat), n ≤ 40 → 40 - n = d → d < k → ∃ m, n ≤ m ∧ m ≤ 40 ∧ fn_other_message.l0 k l (zs n) = some (zs m) ∧ ∀ a ∈ l, ¬ a.f2.toList = (zs m).toList := by
  induction d with
  | zero =>
    intro k n h1 hd hk
    obtain ⟨k, rfl⟩ : ∃ m, k = m + 1 := ⟨k - 1, by omega⟩
    have hn : (l.any fun a => decide (a.f2.toList = (zs n).toList)) = false := by
      rw [Bool.eq_false_iff, Ne, List.any_eq_true]
      rintro ⟨a, ha, h⟩
      have h := size_eq (of_decide_eq_true h)
      have := hl a ha
      rw [zs_size] at h
      omega
    rw [fn_other_message.l0, hn]
    refine ⟨n, Nat.le_refl _, h1, rfl, fun a ha h => ?_⟩
    rw [Bool.eq_false_iff, Ne, List.any_eq_true] at hn
    exact hn ⟨a, ha, decide_eq_true h⟩
  | succ d ih =>
    intro k n h1 hd hk
    obtain ⟨k, rfl⟩ : ∃ m, k = m + 1 := ⟨k - 1, by omega⟩
    rw [fn_other_message.l0]
    cases hn : (l.any fun a => decide (a.f2.toList = (zs n).toList)) with
    | true =>
      rw [if_pos rfl, if_pos (by rw [zs_size]; omega), zs_next]
      obtain ⟨m, m1, m2, m3, m4⟩ := ih k (n + 1) (by omega) (by omega) (by omega)
      exact ⟨m, by omega, m2, m3, m4⟩
    | false =>
      refine ⟨n, Nat.le_refl _, h1, rfl, fun a ha h => ?_⟩
      rw [Bool.eq_false_iff, Ne, List.any_eq_true] at hn
      exact hn ⟨a, ha, decide_eq_true h⟩
theorem other_v_l (l : List S53) (hl : ∀ a ∈ l, a.f3.size ≤ 40) (d : Nat) : ∀ (k n : Nat), n ≤ 40 → 40 - n = d → d < k → ∃ m, n ≤ m ∧ m ≤ 40 ∧ fn_other_version.l0 k l (zs n) = some (zs m) ∧ ∀ a ∈ l, ¬ a.f3.toList = (zs m).toList := by
  induction d with
  | zero =>
    intro k n h1 hd hk
    obtain ⟨k, rfl⟩ : ∃ m, k = m + 1 := ⟨k - 1, by omega⟩
    have hn : (l.any fun a => decide (a.f3.toList = (zs n).toList)) = false := by
      rw [Bool.eq_false_iff, Ne, List.any_eq_true]
      rintro ⟨a, ha, h⟩
      have h := size_eq (of_decide_eq_true h)
      have := hl a ha
      rw [zs_size] at h
      omega
    rw [fn_other_version.l0, hn]
    refine ⟨n, Nat.le_refl _, h1, rfl, fun a ha h => ?_⟩
    rw [Bool.eq_false_iff, Ne, List.any_eq_true] at hn
    exact hn ⟨a, ha, decide_eq_true h⟩
  | succ d ih =>
    intro k n h1 hd hk
    obtain ⟨k, rfl⟩ : ∃ m, k = m + 1 := ⟨k - 1, by omega⟩
    rw [fn_other_version.l0]
    cases hn : (l.any fun a => decide (a.f3.toList = (zs n).toList)) with
    | true =>
      rw [if_pos rfl, if_pos (by rw [zs_size]; omega), zs_next]
      obtain ⟨m, m1, m2, m3, m4⟩ := ih k (n + 1) (by omega) (by omega) (by omega)
      exact ⟨m, by omega, m2, m3, m4⟩
    | false =>
      refine ⟨n, Nat.le_refl _, h1, rfl, fun a ha h => ?_⟩
      rw [Bool.eq_false_iff, Ne, List.any_eq_true] at hn
      exact hn ⟨a, ha, decide_eq_true h⟩
theorem other_m (l : List S53) (hl : ∀ a ∈ l, a.f2.size ≤ 40) (k : Nat) (hk : 50 ≤ k) : ∃ s, fn_other_message.f k l = some s ∧ 1 ≤ s.size ∧ ∀ a ∈ l, ¬ a.f2.toList = s.toList := by
  obtain ⟨m, _, _, e, h⟩ := other_m_l l hl 40 k 0 (by omega) (by omega) (by omega)
  exact ⟨zs m, e, by rw [zs_size]; omega, h⟩
theorem other_v (l : List S53) (hl : ∀ a ∈ l, a.f3.size ≤ 40) (k : Nat) (hk : 50 ≤ k) : ∃ s, fn_other_version.f k l = some s ∧ 1 ≤ s.size ∧ ∀ a ∈ l, ¬ a.f3.toList = s.toList := by
  obtain ⟨m, _, _, e, h⟩ := other_v_l l hl 40 k 0 (by omega) (by omega) (by omega)
  exact ⟨zs m, e, by rw [zs_size]; omega, h⟩
theorem filter_one {α : Type} (p : α → Bool) (x : α) : [x].filter p = if p x = true then [x] else [] := by
  rw [List.filter_cons, List.filter_nil]
def sameP (a x : S53) : Bool := decide (x.f0.toList = a.f0.toList) && (decide (x.f1.toList = a.f1.toList) && (x.f6 == a.f6))
def nearOf (l : List S53) (a : S53) : List S53 := l.filter (sameP a)
def cnt (l : List S53) (a : S53) (j : Nat) : Nat := ((l.take j).filter (sameP a)).length
theorem take_rd (l : List S53) (j : Nat) (h : j < l.length) : l.take (j + 1) = l.take j ++ [qa l j] := by
  rw [rd23_get l j h, List.take_add_one, List.getElem?_eq_getElem h]; rfl
theorem cnt_up (l : List S53) (a : S53) (j : Nat) (h : j < l.length) : cnt l a (j + 1) = cnt l a j + (if sameP a (qa l j) = true then 1 else 0) := by
  unfold cnt
  rw [take_rd l j h, List.filter_append, List.length_append, filter_one]
  cases sameP a (qa l j) <;> simp
theorem cnt_mono (l : List S53) (a : S53) : ∀ (d j : Nat), j + d ≤ l.length → cnt l a j ≤ cnt l a (j + d)
  | 0, j, _ => Nat.le_refl _
  | d + 1, j, h => by
    have h1 := cnt_mono l a d j (by omega)
    have h2 := cnt_up l a (j + d) (by omega)
    have : j + (d + 1) = j + d + 1 := by omega
    rw [this, h2]
    split <;> omega
theorem cnt_all (l : List S53) (a : S53) : cnt l a l.length = (nearOf l a).length := by unfold cnt nearOf; rw [List.take_length]
theorem near_at (l : List S53) (a : S53) (j : Nat) (h : j < l.length) (hs : sameP a (qa l j) = true) : cnt l a j < (nearOf l a).length ∧ qa (nearOf l a) (cnt l a j) = qa l j := by
  have h1 := cnt_up l a j h
  rw [if_pos hs] at h1
  have h2 := cnt_mono l a (l.length - (j + 1)) (j + 1) (by omega)
  rw [show j + 1 + (l.length - (j + 1)) = l.length by omega, cnt_all] at h2
  have hlt : cnt l a j < (nearOf l a).length := by omega
  refine ⟨hlt, ?_⟩
  rw [rd23_get _ _ hlt]
  have e : nearOf l a = (l.take j).filter (sameP a) ++ (qa l j :: (l.drop (j + 1)).filter (sameP a)) := by
    unfold nearOf
    conv => lhs; rw [← List.take_append_drop j l]
    rw [List.filter_append, List.drop_eq_getElem_cons h, List.filter_cons, ← rd23_get l j h, if_pos hs]
  have := List.getElem_of_eq e hlt
  rw [this, List.getElem_append_right (by unfold cnt; omega)]
  simp [cnt]
theorem near_of (l : List S53) (a : S53) : ∀ (n m : Nat), m ≤ l.length → n < cnt l a m → ∃ j, j < m ∧ cnt l a j = n ∧ sameP a (qa l j) = true
  | n, 0, _, h => by simp [cnt] at h
  | n, m + 1, hm, h => by
    have h1 := cnt_up l a m (by omega)
    by_cases hs : sameP a (qa l m) = true
    · rw [if_pos hs] at h1
      by_cases e : n = cnt l a m
      · exact ⟨m, by omega, e.symm, hs⟩
      · obtain ⟨j, h2, h3⟩ := near_of l a n m (by omega) (by omega)
        exact ⟨j, by omega, h3⟩
    · rw [if_neg hs] at h1
      obtain ⟨j, h2, h3⟩ := near_of l a n m (by omega) (by omega)
      exact ⟨j, by omega, h3⟩
def ownS (s o : ByteArray) : ByteArray := if s.toList = ([] : List UInt8) then o else s
def askC (a : S53) (m v : ByteArray) (d : Int) : S25 := ⟨a.f0, a.f1, ownS a.f2 m, ownS a.f3 v, d, a.f6⟩
theorem own_eq (s o : ByteArray) : partner_withOwn.f s o = some (ownS s o) := by unfold partner_withOwn.f ownS; split <;> rfl
def Hid (l : List S53) (i : Nat) (m v : ByteArray) : Prop :=
  ∀ d, Turn (nearOf l (qa l i)) (qa l i).f4 d (nearOf l (qa l i)).length → d ≤ (qa l i).f5 → ∀ b, Best (nearOf l (qa l i)) (askC (qa l i) m v d) (nearOf l (qa l i)).length b → b ≠ (cnt l (qa l i) i : Nat)
theorem hides_l1 (N : List S53) (a : S53) (m v : ByteArray) (pos : Int) (hN : N.length ≤ 200) (ha : ∀ j : Nat, j < N.length → agf (qa N j) = 0) (ys : List Int) (hy : ys.length ≤ 401) (hp : ys.Pairwise (· < ·)) (d : Nat) : ∀ (k q : Nat), q ≤ ys.length → ys.length - q = d → 1100 + d ≤ k →
    ∃ b, partner_hides.l1 k (ownS a.f2 m) (ownS a.f3 v) N pos ys (ys.length : Int) q a.f0 a.f1 a.f2 a.f3 a.f4 a.f5 a.f6 a.f7 a.f8 = some b ∧ (b = true ↔ ∀ t : Nat, q ≤ t → t < ys.length → rd ys t ≤ a.f5 → ∀ b, Best N (askC a m v (rd ys t)) N.length b → b ≠ pos) := by
  induction d with
  | zero =>
    intro k q h1 hd hk
    obtain ⟨k, rfl⟩ : ∃ m, k = m + 1 := ⟨k - 1, by omega⟩
    have c1 : ¬ ((q : Int) < ys.length) := by omega
    simp only [partner_hides.l1, c1, ↓reduceIte]
    exact ⟨_, rfl, fun _ t h1 h2 => by omega, fun _ => rfl⟩
  | succ d ih =>
    intro k q h1 hd hk
    obtain ⟨k, rfl⟩ : ∃ m, k = m + 1 := ⟨k - 1, by omega⟩
    have hq : q < ys.length := by omega
    have c1 : (q : Int) < ys.length := by omega
    have c0 : (0 : Int) ≤ q := by omega
    have hrd : ∀ t : Nat, (ht : t < ys.length) → rd ys t = ys[t] := fun t ht => by simp [rd, ht]
    simp only [partner_hides.l1, c1, c0, ↓reduceIte]
    by_cases hgt : rd ys q > a.f5
    · rw [if_pos hgt]
      refine ⟨_, rfl, fun _ t h1 h2 h3 => ?_, fun _ => rfl⟩
      exfalso
      by_cases e : t = q
      · subst e; omega
      · have := List.pairwise_iff_getElem.1 hp q t hq h2 (by omega)
        rw [hrd q hq] at hgt; rw [hrd t h2] at h3
        omega
    · rw [if_neg hgt]
      obtain ⟨b, eb, hb⟩ := kit_find N (askC a m v (rd ys q)) hN ha k (by omega)
      have eb' : partner_find.f k N a.f0 a.f1 (ownS a.f2 m) (ownS a.f3 v) (rd ys q) a.f6 = some b := eb
      rw [eb', Option.bind_some]
      by_cases hbp : b = pos
      · rw [if_pos hbp]
        refine ⟨_, rfl, fun h => (by cases h), fun h => ?_⟩
        exact absurd hbp (h q (Nat.le_refl _) hq (by omega) b hb)
      · rw [if_neg hbp]
        obtain ⟨b2, e2, i2⟩ := ih k (q + 1) (by omega) (by omega) (by omega)
        have w1 : wrap64 ((q : Int) + 1) = ((q + 1 : Nat) : Int) := by rw [wr_id (by omega) (by omega)]; omega
        rw [w1]
        refine ⟨b2, e2, fun h t h1 h2 h3 b' hb' => ?_, fun h => i2.2 fun t h1 h2 h3 b' hb' => h t (by omega) h2 h3 b' hb'⟩
        by_cases e : t = q
        · subst e; rw [best_unique hb' hb]; exact hbp
        · exact i2.1 h t (by omega) h2 h3 b' hb'
theorem hides_l0 (l : List S53) (hl : l.length ≤ 200) (i : Nat) (hi : i < l.length) (x2 x3 : ByteArray) (d : Nat) : ∀ (k j : Nat), j ≤ l.length → l.length - j = d → 2 * d < k →
    partner_hides.l0 k i x2 x3 ((l.take j).filter (sameP (qa l i))) (if i < j then (cnt l (qa l i) i : Int) else -1) l (l.length : Int) j (qa l i).f0 (qa l i).f1 (qa l i).f2 (qa l i).f3 (qa l i).f4 (qa l i).f5 (qa l i).f6 (qa l i).f7 (qa l i).f8 =
      (partner_changes.f (k - 2 * d - 1) (nearOf l (qa l i)) (qa l i).f4).bind fun t => partner_hides.l1 (k - 2 * d - 1) x2 x3 (nearOf l (qa l i)) (cnt l (qa l i) i : Int) t (t.length : Int) 0 (qa l i).f0 (qa l i).f1 (qa l i).f2 (qa l i).f3 (qa l i).f4 (qa l i).f5 (qa l i).f6 (qa l i).f7 (qa l i).f8 := by
  induction d with
  | zero =>
    intro k j h1 hd hk
    obtain ⟨k, rfl⟩ : ∃ m, k = m + 1 := ⟨k - 1, by omega⟩
    obtain rfl : j = l.length := by omega
    have c1 : ¬ (((l.length : Nat) : Int) < l.length) := by omega
    rw [if_pos hi, List.take_length]
    simp only [partner_hides.l0, c1, ↓reduceIte]
    rfl
  | succ d ih =>
    intro k j h1 hd hk
    obtain ⟨k, rfl⟩ : ∃ m, k = m + 2 := ⟨k - 2, by omega⟩
    have hj : j < l.length := by omega
    have c1 : (j : Int) < l.length := by omega
    have c0 : (0 : Int) ≤ j := by omega
    have w1 : wrap64 ((j : Int) + 1) = ((j + 1 : Nat) : Int) := by rw [wr_id (by omega) (by omega)]; omega
    have ek : k + 2 - 2 * (d + 1) - 1 = k - 2 * d - 1 := by omega
    have nx := ih k (j + 1) (by omega) (by omega) (by omega)
    rw [take_rd l j hj, List.filter_append, filter_one] at nx
    rw [ek, ← nx]
    have hlen : ((l.take j).filter (sameP (qa l i))).length ≤ 200 := Nat.le_trans (List.length_filter_le _ _) (by simp; omega)
    have hl2 : ((l.take j).filter (sameP (qa l i))).length < 1353245080339 := by omega
    have hsp : sameP (qa l i) (qa l j) = (decide ((qa l j).f0.toList = (qa l i).f0.toList) && (decide ((qa l j).f1.toList = (qa l i).f1.toList) && ((qa l j).f6 == (qa l i).f6))) := rfl
    have hat : ∀ b : Bool, b = true ∨ j ≠ i → (if i < j + 1 then (cnt l (qa l i) i : Int) else -1) = if j = i then (cnt l (qa l i) i : Int) else if i < j then (cnt l (qa l i) i : Int) else -1 := by
      intro b _
      by_cases e : j = i
      · subst e; simp
      · rw [if_neg e]
        by_cases e2 : i < j
        · rw [if_pos e2, if_pos (by omega)]
        · rw [if_neg e2, if_neg (by omega)]
    simp only [partner_hides.l0, c1, c0, ↓reduceIte]
    by_cases e0 : (qa l j).f0.toList = (qa l i).f0.toList
    · by_cases e1 : (qa l j).f1.toList = (qa l i).f1.toList
      · rw [if_pos e0, if_pos e1]
        cases e6 : ((qa l j).f6 == (qa l i).f6) with
        | true =>
          have hs : sameP (qa l i) (qa l j) = true := by rw [hsp]; simp [e0, e1, e6]
          rw [hs]
          simp only [partner_hides.j1, ↓reduceIte, hl2, w1]
          have heta : (⟨(qa l j).f0, (qa l j).f1, (qa l j).f2, (qa l j).f3, (qa l j).f4, (qa l j).f5, (qa l j).f6, (qa l j).f7, (qa l j).f8⟩ : S53) = qa l j := rfl
          by_cases e : j = i
          · have e' : (j : Int) = i := by omega
            rw [if_pos e', if_pos (show i < j + 1 by omega)]
            subst e
            rfl
          · have e' : ¬ ((j : Int) = i) := by omega
            rw [if_neg e', hat true (.inl rfl), if_neg e]
        | false =>
          have hs : sameP (qa l i) (qa l j) = false := by rw [hsp, e6]; simp
          have e : j ≠ i := by rintro rfl; simp at e6
          rw [hs]
          simp only [partner_hides.j1, Bool.false_eq_true, ↓reduceIte, w1, List.append_nil]
          rw [hat true (.inl rfl), if_neg e]
      · have hs : sameP (qa l i) (qa l j) = false := by rw [hsp]; simp [e1]
        have e : j ≠ i := by rintro rfl; exact e1 rfl
        rw [if_pos e0, if_neg e1, hs]
        simp only [partner_hides.j1, Bool.false_eq_true, ↓reduceIte, w1, List.append_nil]
        rw [hat true (.inl rfl), if_neg e]
    · have hs : sameP (qa l i) (qa l j) = false := by rw [hsp]; simp [e0]
      have e : j ≠ i := by rintro rfl; exact e0 rfl
      rw [if_neg e0, hs]
      simp only [partner_hides.j1, Bool.false_eq_true, ↓reduceIte, w1, List.append_nil]
      rw [hat true (.inl rfl), if_neg e]
theorem near_ag {l : List S53} {a : S53} (ha : ∀ j : Nat, j < l.length → agf (qa l j) = 0) : ∀ n : Nat, n < (nearOf l a).length → agf (qa (nearOf l a) n) = 0 := by
  intro n hn
  have hn' := hn
  rw [← cnt_all] at hn'
  obtain ⟨j, h1, h2, h3⟩ := near_of l a n l.length (Nat.le_refl _) hn'
  obtain ⟨_, h4⟩ := near_at l a j h1 h3
  rw [h2] at h4
  rw [h4]; exact ha j h1
theorem kit_hides (l : List S53) (hl : l.length ≤ 200) (ha : ∀ j : Nat, j < l.length → agf (qa l j) = 0) (i : Nat) (hi : i < l.length) (m v : ByteArray) (k : Nat) (hk : 4000 ≤ k) : ∃ b, partner_hides.f k l i m v = some b ∧ (b = true ↔ Hid l i m v) := by
  unfold partner_hides.f
  have c1 : (i : Int) < l.length := by omega
  have c0 : (0 : Int) ≤ i := by omega
  rw [if_pos c0, if_pos c1, own_eq, own_eq]
  simp only [Option.bind_some]
  have h0 := hides_l0 l hl i hi (ownS (qa l i).f2 m) (ownS (qa l i).f3 v) l.length k 0 (by omega) (by omega) (by omega)
  rw [if_neg (by omega)] at h0
  have h0' : partner_hides.l0 k i (ownS (qa l i).f2 m) (ownS (qa l i).f3 v) ([] : List S53) (-1) l (l.length : Int) 0 (qa l i).f0 (qa l i).f1 (qa l i).f2 (qa l i).f3 (qa l i).f4 (qa l i).f5 (qa l i).f6 (qa l i).f7 (qa l i).f8 = _ := h0
  rw [h0']
  have hN : (nearOf l (qa l i)).length ≤ 200 := Nat.le_trans (List.length_filter_le _ _) hl
  have haN := near_ag (a := qa l i) ha
  obtain ⟨r, er, hr, hpw, hm⟩ := kit_changes (nearOf l (qa l i)) (qa l i).f4 hN haN (k - 2 * l.length - 1) (by omega)
  rw [er, Option.bind_some]
  obtain ⟨b, eb, ib⟩ := hides_l1 (nearOf l (qa l i)) (qa l i) m v (cnt l (qa l i) i : Int) hN haN ((qa l i).f4 :: r) (by simp; omega) hpw ((qa l i).f4 :: r).length (k - 2 * l.length - 1) 0 (by omega) (by omega) (by simp; omega)
  refine ⟨b, eb, ib.trans ?_⟩
  have hrd : ∀ t : Nat, (ht : t < ((qa l i).f4 :: r).length) → rd ((qa l i).f4 :: r) t = ((qa l i).f4 :: r)[t] := fun t ht => by unfold rd; rw [Int.toNat_natCast, List.getD_eq_getElem?_getD, List.getElem?_eq_getElem ht]; rfl
  constructor
  · intro h d hd hd2
    obtain ⟨t, ht, e⟩ := List.getElem_of_mem ((hm d).2 hd)
    have := h t (by omega) ht
    rw [hrd t ht, e] at this
    exact this hd2
  · intro h t _ ht hle
    refine h _ ((hm _).1 ?_) hle
    rw [hrd t ht]; exact List.getElem_mem ht
theorem turn_to {N : List S53} {from_ x : Int} (hN : N.length ≤ 200) (ha : ∀ j : Nat, j < N.length → agf (qa N j) = 0) (h0 : from_ ≤ x) (h1 : x ≤ 3652059) : ∃ d, Turn N from_ d N.length ∧ from_ ≤ d ∧ d ≤ x ∧ SameDays N d x := by
  obtain ⟨r, _, _, hpw, hm⟩ := kit_changes N from_ hN ha 2000 (by omega)
  have key : ∀ (ys : List Int), ys.Pairwise (· < ·) → ∀ y, y ≤ x → ∃ d, (d = y ∨ d ∈ ys) ∧ d ≤ x ∧ y ≤ d ∧ ∀ t ∈ ys, d < t → x < t := by
    intro ys
    induction ys with
    | nil => intro _ y hy; exact ⟨y, .inl rfl, hy, Int.le_refl _, fun t h => by cases h⟩
    | cons z zs ih =>
      intro hp y hy
      obtain ⟨hz, hp2⟩ := List.pairwise_cons.1 hp
      by_cases hzx : z ≤ x ∧ y ≤ z
      · obtain ⟨d, h1, h2, h3, h4⟩ := ih hp2 z hzx.1
        refine ⟨d, .inr ?_, h2, by omega, fun t ht hlt => ?_⟩
        · rcases h1 with rfl | h1
          · simp
          · exact List.mem_cons_of_mem _ h1
        · rcases List.mem_cons.1 ht with rfl | ht
          · omega
          · exact h4 t ht hlt
      · by_cases hyz : y ≤ z
        · refine ⟨y, .inl rfl, hy, Int.le_refl _, fun t ht hlt => ?_⟩
          rcases List.mem_cons.1 ht with rfl | ht
          · omega
          · have := hz t ht; omega
        · obtain ⟨d, h1, h2, h3, h4⟩ := ih hp2 y hy
          refine ⟨d, ?_, h2, h3, fun t ht hlt => ?_⟩
          · rcases h1 with h1 | h1
            · exact .inl h1
            · exact .inr (List.mem_cons_of_mem _ h1)
          · rcases List.mem_cons.1 ht with rfl | ht
            · omega
            · exact h4 t ht hlt
  obtain ⟨d, h2, h3, h4, h5⟩ := key r (List.pairwise_cons.1 hpw).2 from_ h0
  have hd : d ∈ from_ :: r := by rcases h2 with rfl | h2; simp; exact List.mem_cons_of_mem _ h2
  refine ⟨d, (hm d).1 hd, h4, h3, between ha h4 h3 h1 (fun t ht g1 g2 => ?_)⟩
  rcases List.mem_cons.1 ((hm t).2 ht) with rfl | ht
  · omega
  · have := h5 t ht g1; omega
theorem hid_not {l : List S53} (hl : l.length ≤ 200) (ha : ∀ j : Nat, j < l.length → agf (qa l j) = 0) {i : Nat} (hi : i < l.length) {m v : ByteArray} (hm : ∀ j : Nat, j < l.length → ¬ (qa l j).f2.toList = m.toList) (hv : ∀ j : Nat, j < l.length → ¬ (qa l j).f3.toList = v.toList)
    (hid : Hid l i m v) (c2 c3 : ByteArray) (x : Int) (hx : (qa l i).f4 ≤ x ∧ x ≤ (qa l i).f5) : ¬ Best l ⟨(qa l i).f0, (qa l i).f1, ownS (qa l i).f2 c2, ownS (qa l i).f3 c3, x, (qa l i).f6⟩ l.length (i : Int) := by
  intro hb
  rcases hb with ⟨e, _⟩ | ⟨n, e, hn, hp, hbest⟩
  · omega
  obtain rfl : i = n := by omega
  obtain ⟨g4, g5⟩ := agf_days (ha i hi)
  have hself : sameP (qa l i) (qa l i) = true := by simp [sameP]
  obtain ⟨d, ht, d1, d2, hsame⟩ := turn_to (N := nearOf l (qa l i)) (from_ := (qa l i).f4) (x := x) (Nat.le_trans (List.length_filter_le _ _) hl) (near_ag ha) hx.1 (by omega)
  obtain ⟨q1, q2⟩ := near_at l (qa l i) i hi hself
  refine hid d ht (by omega) (cnt l (qa l i) i : Nat) (.inr ⟨cnt l (qa l i) i, rfl, q1, ?_, fun n' hn' hap => ?_⟩) rfl
  · rw [q2]
    unfold app appB askC ownS
    simp only [decide_true, Bool.true_and, beq_self_eq_true, Bool.and_eq_true, Bool.or_eq_true, decide_eq_true_eq]
    refine ⟨?_, ?_, by omega, by omega⟩
    · split
      · exact .inl ‹_›
      · exact .inr rfl
    · split
      · exact .inl ‹_›
      · exact .inr rfl
  · have hn2 := hn'
    rw [← cnt_all] at hn2
    obtain ⟨j, j1, j2, j3⟩ := near_of l (qa l i) n' l.length (Nat.le_refl _) hn2
    obtain ⟨_, j4⟩ := near_at l (qa l i) j j1 j3
    rw [j2] at j4
    have hsd := hsame n' hn'
    rw [q2, j4]
    rw [j4] at hap hsd
    have happ : app (qa l j) ⟨(qa l i).f0, (qa l i).f1, ownS (qa l i).f2 c2, ownS (qa l i).f3 c3, x, (qa l i).f6⟩ = true := by
      unfold app appB askC at hap
      unfold app appB
      simp only [Bool.and_eq_true, Bool.or_eq_true, decide_eq_true_eq] at hap ⊢
      obtain ⟨a0, a1, a2, a3, a6, ad⟩ := hap
      refine ⟨a0, a1, ?_, ?_, a6, hsd.1 ad⟩
      · rcases a2 with a2 | a2
        · exact .inl a2
        · unfold ownS at a2 ⊢
          split at a2
          · exact absurd a2 (hm j j1)
          · rename_i hne
            rw [if_neg hne]; exact .inr a2
      · rcases a3 with a3 | a3
        · exact .inl a3
        · unfold ownS at a3 ⊢
          split at a3
          · exact absurd a3 (hv j j1)
          · rename_i hne
            rw [if_neg hne]; exact .inr a3
    obtain ⟨r1, r2⟩ := hbest j j1 happ
    refine ⟨r1, fun hz => ?_⟩
    have hij := r2 hz
    have := cnt_mono l (qa l i) (j - i) i (by omega)
    rw [show i + (j - i) = j by omega, j2] at this
    exact this
theorem ag_sizes {l : List S53} (ha : ∀ j : Nat, j < l.length → agf (qa l j) = 0) : (∀ a ∈ l, a.f2.size ≤ 40) ∧ ∀ a ∈ l, a.f3.size ≤ 40 := by
  constructor <;> intro a h <;> (obtain ⟨j, hj, rfl⟩ := List.getElem_of_mem h; have := agF_zero (ha j hj); rw [rd23_get l j hj] at this)
  · exact any_size this.2.1
  · exact any_size this.2.2.1
def RT (l : List S53) (x : Int) : Prop := ∃ j : Nat, j < l.length ∧ (x = (qa l j).f4 ∨ x = (qa l j).f5 + 1)
theorem turns_l (l : List S53) (hl : l.length ≤ 200) (ha : ∀ j : Nat, j < l.length → agf (qa l j) = 0) (d : Nat) : ∀ (k i : Nat) (acc : List Int), i ≤ l.length → l.length - i = d → d < k → acc.length = 2 * i →
    (∀ x, x ∈ acc ↔ ∃ j : Nat, j < i ∧ (x = (qa l j).f4 ∨ x = (qa l j).f5 + 1)) → ∃ ys, r8turns.l0 k acc l (l.length : Int) i = some ys ∧ ys.length ≤ 400 ∧ ys.Pairwise (· < ·) ∧ ∀ x, x ∈ ys ↔ RT l x := by
  induction d with
  | zero =>
    intro k i acc h1 hd hk hacc hm
    obtain ⟨k, rfl⟩ : ∃ m, k = m + 1 := ⟨k - 1, by omega⟩
    obtain rfl : i = l.length := by omega
    have c1 : ¬ (((l.length : Nat) : Int) < l.length) := by omega
    have e1 : slices_Sort_int_int.f acc = some (srt acc) := by unfold slices_Sort_int_int.f; rw [if_pos (by omega)]
    have e2 : slices_Compact_int_int.f (srt acc) = some (dd (srt acc)) := by
      unfold slices_Compact_int_int.f
      have : (srt acc).length = acc.length := by simp [srt]
      rw [if_pos (by omega), compact_dd]
    simp only [r8turns.l0, c1, ↓reduceIte, e1, e2, Option.bind_some]
    have hmem : ∀ x, x ∈ srt acc ↔ x ∈ acc := fun x => List.mem_mergeSort
    refine ⟨_, rfl, ?_, dd_lt _ (srt_le acc), fun x => ?_⟩
    · have := dd_len (srt acc)
      have h2 : (srt acc).length = acc.length := by simp [srt]
      omega
    · unfold RT
      rw [← hm x, ← hmem x]
      exact ⟨dd_mem _ _, mem_dd _ _⟩
  | succ d ih =>
    intro k i acc hle hd hk hacc hm
    obtain ⟨k, rfl⟩ : ∃ m, k = m + 1 := ⟨k - 1, by omega⟩
    have hi : i < l.length := by omega
    have c1 : (i : Int) < l.length := by omega
    have c0 : (0 : Int) ≤ i := by omega
    obtain ⟨g4, g5⟩ := agf_days (ha i hi)
    have w5 : wrap64 ((qa l i).f5 + 1) = (qa l i).f5 + 1 := wr_id (by omega) (by omega)
    have w1 : wrap64 ((i : Int) + 1) = ((i + 1 : Nat) : Int) := by rw [wr_id (by omega) (by omega)]; omega
    have hlen : acc.length + ([(qa l i).f4, (qa l i).f5 + 1] : List Int).length < 17592186044416 := by simp; omega
    simp only [r8turns.l0, c1, c0, ↓reduceIte, Option.bind_some, w5, w1]
    rw [if_pos hlen]
    refine ih k (i + 1) _ (by omega) (by omega) (by omega) (by simp; omega) (fun x => ?_)
    rw [List.mem_append, hm x]
    simp only [List.mem_cons, List.not_mem_nil, or_false]
    constructor
    · rintro (⟨j, hj, h3⟩ | h)
      · exact ⟨j, by omega, h3⟩
      · exact ⟨i, by omega, h⟩
    · rintro ⟨j, hj, h3⟩
      by_cases e : j = i
      · subst e; exact .inr h3
      · exact .inl ⟨j, by omega, h3⟩
theorem ref_turns (l : List S53) (hl : l.length ≤ 200) (ha : ∀ j : Nat, j < l.length → agf (qa l j) = 0) : ∃ ys, (∀ k, 300 ≤ k → r8turns.f k l = some ys) ∧ ys.length ≤ 400 ∧ ys.Pairwise (· < ·) ∧ ∀ x, x ∈ ys ↔ RT l x := by
  obtain ⟨ys, e, h⟩ := turns_l l hl ha l.length 300 0 [] (by omega) (by omega) (by omega) (by simp) (fun x => by simp)
  refine ⟨ys, fun k hk => ?_, h⟩
  obtain ⟨n, rfl⟩ : ∃ n, k = 300 + n := ⟨k - 300, by omega⟩
  induction n with
  | zero => unfold r8turns.f; simpa using e
  | succ n ih => exact r8turns.mono l (300 + n) _ (ih (by omega))
theorem ref_find_is {l : List S53} {c : S25} {b : Int} (hl : l.length ≤ 200) (ha : ∀ j : Nat, j < l.length → agf (qa l j) = 0) (h : Best l c l.length b) (k : Nat) (hk : 1000 ≤ k) : r8find.f k l c.f0 c.f1 c.f2 c.f3 c.f4 c.f5 = some b := by
  obtain ⟨b', e1, e2⟩ := find_same l c.f0 c.f1 c.f2 c.f3 c.f4 c.f5 hl ha k hk
  rw [find_is hl ha h k hk] at e2
  rw [e1, Option.some.inj e2]
theorem until_unique {l : List S53} {c : S25} {from_ first e1 e2 : Int} (h1 : UntilIs l c from_ first e1) (h2 : UntilIs l c from_ first e2) : e1 = e2 := by
  obtain ⟨⟨a1, a2, a3⟩, a4⟩ := h1
  obtain ⟨⟨b1, b2, b3⟩, b4⟩ := h2
  rcases Int.lt_trichotomy e1 e2 with h | h | h
  · rcases a4 with h' | ⟨t, ht, hb⟩
    · omega
    · exact absurd (best_unique hb (b3 (e1 + 1) (by omega) (by omega))) ht
  · exact h
  · rcases b4 with h' | ⟨t, ht, hb⟩
    · omega
    · exact absurd (best_unique hb (a3 (e2 + 1) (by omega) (by omega))) ht
theorem rd_mem {ys : List Int} {t : Nat} (h : t < ys.length) : rd ys t ∈ ys := by
  have : rd ys t = ys[t] := by simp [rd, h]
  rw [this]; exact List.getElem_mem h
theorem rd_of_mem {ys : List Int} {x : Int} (h : x ∈ ys) : ∃ t : Nat, t < ys.length ∧ rd ys t = x := by
  obtain ⟨t, ht, e⟩ := List.getElem_of_mem h
  exact ⟨t, ht, by rw [← e]; simp [rd, ht]⟩
theorem rd_lt {ys : List Int} (hp : ys.Pairwise (· < ·)) {a b : Nat} (h : a < b) (hb : b < ys.length) : rd ys a < rd ys b := by
  have e1 : rd ys a = ys[a] := by simp [rd, show a < ys.length by omega]
  have e2 : rd ys b = ys[b] := by simp [rd, hb]
  rw [e1, e2]; exact List.pairwise_iff_getElem.1 hp a b _ hb h
theorem ref_until_l (l : List S53) (c : S25) (first : Int) (hf : 1 ≤ c.f4 ∧ c.f4 ≤ 3652059) (ys : List Int) (hy : ys.length ≤ 400) (hl : l.length ≤ 200) (ha : ∀ j : Nat, j < l.length → agf (qa l j) = 0) (hp : ys.Pairwise (· < ·)) (hm : ∀ x, x ∈ ys ↔ RT l x) (d : Nat) :
    ∀ (k i : Nat), i ≤ ys.length → ys.length - i = d → 1100 + 2 * d ≤ k → (∀ x, c.f4 ≤ x → x ≤ 3652059 → (∀ t : Nat, i ≤ t → t < ys.length → c.f4 < rd ys t → x < rd ys t) → Best l (onDay c x) l.length first) →
    ∃ e, r8Until.l0 k l first ys (ys.length : Int) i c.f0 c.f1 c.f2 c.f3 c.f4 c.f5 = some (e, 0) ∧ UntilIs l c c.f4 first e := by
  induction d with
  | zero =>
    intro k i h1 hd hk hb
    obtain ⟨k, rfl⟩ : ∃ m, k = m + 1 := ⟨k - 1, by omega⟩
    have c1 : ¬ ((i : Int) < ys.length) := by omega
    simp only [r8Until.l0, c1, ↓reduceIte]
    exact ⟨_, rfl, ⟨hf.2, Int.le_refl _, fun x g1 g2 => hb x g1 g2 (fun t ht h2 => by omega)⟩, .inl rfl⟩
  | succ d ih =>
    intro k i h1 hd hk hb
    obtain ⟨k, rfl⟩ : ∃ m, k = m + 2 := ⟨k - 2, by omega⟩
    have hi : i < ys.length := by omega
    have c1 : (i : Int) < ys.length := by omega
    have c0 : (0 : Int) ≤ i := by omega
    have w1 : wrap64 ((i : Int) + 1) = ((i + 1 : Nat) : Int) := by rw [wr_id (by omega) (by omega)]; omega
    have n2 : ys.length - (i + 1) = d := by omega
    have n3 : 1100 + 2 * d ≤ k := by omega
    simp only [r8Until.l0, c1, c0, ↓reduceIte]
    by_cases h2 : rd ys i ≤ c.f4
    · rw [if_pos h2]
      simp only [r8Until.j1, ↓reduceIte, w1]
      refine ih k (i + 1) hi n2 n3 (fun x g1 g2 g3 => hb x g1 g2 (fun t ht h3 h4 => ?_))
      by_cases e : t = i
      · subst e; omega
      · exact g3 t (by omega) h3 h4
    · rw [if_neg h2]
      by_cases h3 : rd ys i > 3652059
      · rw [decide_eq_true h3]
        simp only [r8Until.j1, ↓reduceIte, w1]
        refine ih k (i + 1) hi n2 n3 (fun x g1 g2 g3 => hb x g1 g2 (fun t ht h4 h5 => ?_))
        by_cases e : t = i
        · subst e; omega
        · exact g3 t (by omega) h4 h5
      · rw [decide_eq_false h3]
        obtain ⟨b, eb, hbb⟩ := kit_find l (onDay c (rd ys i)) hl ha k (by omega)
        have er : r8find.f k l c.f0 c.f1 c.f2 c.f3 (rd ys i) c.f5 = some b := ref_find_is (c := onDay c (rd ys i)) hl ha hbb k (by omega)
        have w2 : wrap64 (rd ys i - 1) = rd ys i - 1 := wr_id (by omega) (by omega)
        simp only [r8Until.j1, Bool.false_eq_true, ↓reduceIte, w1, er, Option.bind_some, w2]
        clear w1 w2
        have hall : ∀ x, c.f4 ≤ x → x < rd ys i → Best l (onDay c x) l.length first := fun x g1 g2 => hb x g1 (by omega) (fun t ht h4 h5 => by
          by_cases e : t = i
          · subst e; exact g2
          · have := rd_lt hp (show i < t by omega) h4; omega)
        by_cases he : b = first
        · rw [if_pos he]
          subst he
          refine ih k (i + 1) hi n2 n3 (fun x g1 g2 g3 => ?_)
          by_cases g : x < rd ys i
          · exact hall x g1 g
          · refine best_same (between (from_ := c.f4) ha (by omega) (show rd ys i ≤ x by omega) g2 (fun t ht a1 a2 => ?_)) hbb
            rcases ht with ht | ⟨b1, b2, b3⟩
            · omega
            · obtain ⟨q, hq, rfl⟩ := rd_of_mem ((hm t).2 b3)
              rcases Nat.lt_trichotomy i q with h | h | h
              · have := g3 q (by omega) hq b1; omega
              · subst h; omega
              · have := rd_lt hp h hi; omega
        · rw [if_neg he]
          refine ⟨_, rfl, ⟨by omega, by omega, fun x g1 g2 => hall x g1 (by omega)⟩, .inr ⟨b, he, ?_⟩⟩
          rw [Int.sub_add_cancel]; exact hbb
def caseOf (a : S53) (m v : ByteArray) (d : Int) : S25 := ⟨a.f0, a.f1, m, v, d, a.f6⟩
def Fd (l : List S53) (i : Nat) (m v : ByteArray) (d : Int) : Prop := ¬ m.toList = ([] : List UInt8) ∧ ¬ v.toList = ([] : List UInt8) ∧ Best l (caseOf (qa l i) m v d) l.length (i : Int)
theorem found_l3 (l : List S53) (hl : l.length ≤ 200) (ha : ∀ j : Nat, j < l.length → agf (qa l j) = 0) (i : Nat) (x7 : List ByteArray) (m v : ByteArray) (x41 : List ByteArray) (x42 x43 : Int) (x50 : List ByteArray) (x51 x52 : Int) (zs : List Int) (hz : zs.length ≤ 401) (d : Nat) :
    ∀ (k q : Nat), q ≤ zs.length → zs.length - q = d → 1000 + d < k →
    ((∃ t : Nat, q ≤ t ∧ t < zs.length ∧ Fd l i m v (rd zs t)) ∧ r8isFound.l3 k l i x7 m v x41 x42 x43 x50 x51 x52 zs (zs.length : Int) q (qa l i).f0 (qa l i).f1 (qa l i).f2 (qa l i).f3 (qa l i).f4 (qa l i).f5 (qa l i).f6 (qa l i).f7 (qa l i).f8 = some true) ∨
    ((∀ t : Nat, q ≤ t → t < zs.length → ¬ Fd l i m v (rd zs t)) ∧ r8isFound.l3 k l i x7 m v x41 x42 x43 x50 x51 x52 zs (zs.length : Int) q (qa l i).f0 (qa l i).f1 (qa l i).f2 (qa l i).f3 (qa l i).f4 (qa l i).f5 (qa l i).f6 (qa l i).f7 (qa l i).f8 =
      r8isFound.l2 (k - d - 1) l i x7 m x41 x42 x43 x50 x51 (wrap64 (x52 + 1)) (qa l i).f0 (qa l i).f1 (qa l i).f2 (qa l i).f3 (qa l i).f4 (qa l i).f5 (qa l i).f6 (qa l i).f7 (qa l i).f8) := by
  induction d with
  | zero =>
    intro k q h1 hd hk
    obtain ⟨k, rfl⟩ : ∃ m, k = m + 1 := ⟨k - 1, by omega⟩
    have c1 : ¬ ((q : Int) < zs.length) := by omega
    right
    refine ⟨fun t h2 h3 => by omega, ?_⟩
    simp only [r8isFound.l3, c1, ↓reduceIte]
    rfl
  | succ d ih =>
    intro k q h1 hd hk
    obtain ⟨k, rfl⟩ : ∃ m, k = m + 1 := ⟨k - 1, by omega⟩
    have hq : q < zs.length := by omega
    have c1 : (q : Int) < zs.length := by omega
    have c0 : (0 : Int) ≤ q := by omega
    have w1 : wrap64 ((q : Int) + 1) = ((q + 1 : Nat) : Int) := by rw [wr_id (by omega) (by omega)]; omega
    have ek : k + 1 - (d + 1) - 1 = k - d - 1 := by omega
    simp only [r8isFound.l3, c1, c0, ↓reduceIte, w1, ek]
    clear w1
    have nx := ih k (q + 1) hq (by omega) (by omega)
    have skip : ¬ Fd l i m v (rd zs q) → ((∃ t : Nat, q ≤ t ∧ t < zs.length ∧ Fd l i m v (rd zs t)) ∧ r8isFound.l3 k l i x7 m v x41 x42 x43 x50 x51 x52 zs (zs.length : Int) ((q + 1 : Nat) : Int) (qa l i).f0 (qa l i).f1 (qa l i).f2 (qa l i).f3 (qa l i).f4 (qa l i).f5 (qa l i).f6 (qa l i).f7 (qa l i).f8 = some true) ∨
        ((∀ t : Nat, q ≤ t → t < zs.length → ¬ Fd l i m v (rd zs t)) ∧ r8isFound.l3 k l i x7 m v x41 x42 x43 x50 x51 x52 zs (zs.length : Int) ((q + 1 : Nat) : Int) (qa l i).f0 (qa l i).f1 (qa l i).f2 (qa l i).f3 (qa l i).f4 (qa l i).f5 (qa l i).f6 (qa l i).f7 (qa l i).f8 =
          r8isFound.l2 (k - d - 1) l i x7 m x41 x42 x43 x50 x51 (wrap64 (x52 + 1)) (qa l i).f0 (qa l i).f1 (qa l i).f2 (qa l i).f3 (qa l i).f4 (qa l i).f5 (qa l i).f6 (qa l i).f7 (qa l i).f8) := by
      intro hn
      rcases nx with ⟨⟨t, h2, h3, h4⟩, e⟩ | ⟨h2, e⟩
      · exact .inl ⟨⟨t, by omega, h3, h4⟩, e⟩
      · refine .inr ⟨fun t h3 h4 h5 => ?_, e⟩
        by_cases e : t = q
        · subst e; exact hn h5
        · exact h2 t (by omega) h4 h5
    by_cases hm : m.toList = ([] : List UInt8)
    · rw [if_pos hm]; exact skip (fun h => h.1 hm)
    · rw [if_neg hm]
      by_cases hv : v.toList = ([] : List UInt8)
      · rw [if_pos hv]; exact skip (fun h => h.2.1 hv)
      · rw [if_neg hv]
        obtain ⟨b, eb, hbb⟩ := kit_find l (caseOf (qa l i) m v (rd zs q)) hl ha k (by omega)
        have er : r8find.f k l (qa l i).f0 (qa l i).f1 m v (rd zs q) (qa l i).f6 = some b := ref_find_is (c := caseOf (qa l i) m v (rd zs q)) hl ha hbb k (by omega)
        rw [er, Option.bind_some]
        by_cases he : b = i
        · rw [if_pos he]
          subst he
          exact .inl ⟨⟨q, Nat.le_refl _, hq, hm, hv, hbb⟩, rfl⟩
        · rw [if_neg he]
          exact skip (fun h => he (best_unique hbb h.2.2))
theorem found_l2 (l : List S53) (hl : l.length ≤ 200) (ha : ∀ j : Nat, j < l.length → agf (qa l j) = 0) (i : Nat) (ys : List Int) (hy : ys.length ≤ 400) (ht : ∀ k, 300 ≤ k → r8turns.f k l = some ys) (x7 : List ByteArray) (m : ByteArray) (x41 : List ByteArray) (x42 x43 : Int) (vs : List ByteArray) (hv : vs.length ≤ 201) (d : Nat) :
    ∀ (k q : Nat), q ≤ vs.length → vs.length - q = d → 2000 + 500 * d < k → ∃ k', k ≤ k' + 500 * (d + 1) ∧
    (((∃ t : Nat, q ≤ t ∧ t < vs.length ∧ ∃ s : Nat, s < (ys ++ [(qa l i).f4]).length ∧ Fd l i m (rdOf ByteArray.empty vs t) (rd (ys ++ [(qa l i).f4]) s)) ∧ r8isFound.l2 k l i x7 m x41 x42 x43 vs (vs.length : Int) q (qa l i).f0 (qa l i).f1 (qa l i).f2 (qa l i).f3 (qa l i).f4 (qa l i).f5 (qa l i).f6 (qa l i).f7 (qa l i).f8 = some true) ∨
    ((∀ t : Nat, q ≤ t → t < vs.length → ∀ s : Nat, s < (ys ++ [(qa l i).f4]).length → ¬ Fd l i m (rdOf ByteArray.empty vs t) (rd (ys ++ [(qa l i).f4]) s)) ∧ r8isFound.l2 k l i x7 m x41 x42 x43 vs (vs.length : Int) q (qa l i).f0 (qa l i).f1 (qa l i).f2 (qa l i).f3 (qa l i).f4 (qa l i).f5 (qa l i).f6 (qa l i).f7 (qa l i).f8 =
      r8isFound.l1 k' l i x7 x41 x42 (wrap64 (x43 + 1)) (qa l i).f0 (qa l i).f1 (qa l i).f2 (qa l i).f3 (qa l i).f4 (qa l i).f5 (qa l i).f6 (qa l i).f7 (qa l i).f8)) := by
  induction d with
  | zero =>
    intro k q h1 hd hk
    obtain ⟨k, rfl⟩ : ∃ m, k = m + 1 := ⟨k - 1, by omega⟩
    have c1 : ¬ ((q : Int) < vs.length) := by omega
    refine ⟨k, by omega, .inr ⟨fun t h2 h3 => by omega, ?_⟩⟩
    simp only [r8isFound.l2, c1, ↓reduceIte]
  | succ d ih =>
    intro k q h1 hd hk
    obtain ⟨k, rfl⟩ : ∃ m, k = m + 1 := ⟨k - 1, by omega⟩
    have hq : q < vs.length := by omega
    have c1 : (q : Int) < vs.length := by omega
    have c0 : (0 : Int) ≤ q := by omega
    have w1 : wrap64 ((q : Int) + 1) = ((q + 1 : Nat) : Int) := by rw [wr_id (by omega) (by omega)]; omega
    have hz : (ys ++ [(qa l i).f4]).length ≤ 401 := by simp; omega
    have hlen : ys.length + ([(qa l i).f4] : List Int).length < 17592186044416 := by simp; omega
    simp only [r8isFound.l2, c1, c0, ↓reduceIte, ht k (by omega), Option.bind_some]
    rw [if_pos hlen]
    have h3 := found_l3 l hl ha i x7 m (rdOf ByteArray.empty vs q) x41 x42 x43 vs (vs.length : Int) (q : Int) (ys ++ [(qa l i).f4]) hz (ys ++ [(qa l i).f4]).length k 0 (by omega) (by omega) (by omega)
    rw [w1] at h3
    clear w1
    rcases h3 with ⟨⟨t, a1, a2, a3⟩, e⟩ | ⟨a1, e⟩
    · exact ⟨k, by omega, .inl ⟨⟨q, Nat.le_refl _, hq, t, a2, a3⟩, e⟩⟩
    · obtain ⟨k', hk', nx⟩ := ih (k - (ys ++ [(qa l i).f4]).length - 1) (q + 1) hq (by omega) (by omega)
      refine ⟨k', by omega, ?_⟩
      have e' := e
      rcases nx with ⟨⟨t, b1, b2, b3⟩, e2⟩ | ⟨b1, e2⟩
      · exact .inl ⟨⟨t, by omega, b2, b3⟩, e.trans e2⟩
      · refine .inr ⟨fun t b2 b3 s b4 b5 => ?_, e.trans e2⟩
        by_cases e : t = q
        · subst e; exact a1 s (by omega) b4 b5
        · exact b1 t (by omega) b3 s b4 b5
def someL (s : ByteArray) (all : List ByteArray) : List ByteArray := if s.toList = ([] : List UInt8) then all ++ [⟨#[63]⟩] else [s]
theorem some_eq (s : ByteArray) (all : List ByteArray) (h : all.length ≤ 200) : r8some.f s all = some (someL s all) := by
  unfold r8some.f someL slices_Clone_string_string.f
  by_cases e : s.toList = ([] : List UInt8)
  · rw [if_pos e, if_pos e, if_pos (by omega), Option.bind_some, if_pos (by omega)]
  · rw [if_neg e, if_neg e]
theorem someL_len (s : ByteArray) (all : List ByteArray) (h : all.length ≤ 200) : (someL s all).length ≤ 201 := by
  unfold someL; split
  · simp; omega
  · simp
theorem found_l1 (l : List S53) (hl : l.length ≤ 200) (ha : ∀ j : Nat, j < l.length → agf (qa l j) = 0) (i : Nat) (ys : List Int) (hy : ys.length ≤ 400) (ht : ∀ k, 300 ≤ k → r8turns.f k l = some ys) (x7 : List ByteArray) (h7 : x7.length ≤ 200) (ms : List ByteArray) (hms : ms.length ≤ 201) (d : Nat) :
    ∀ (k q : Nat), q ≤ ms.length → ms.length - q = d → 110000 + 102000 * d < k →
    ∃ b, r8isFound.l1 k l i x7 ms (ms.length : Int) q (qa l i).f0 (qa l i).f1 (qa l i).f2 (qa l i).f3 (qa l i).f4 (qa l i).f5 (qa l i).f6 (qa l i).f7 (qa l i).f8 = some b ∧
      (b = true ↔ ∃ t : Nat, q ≤ t ∧ t < ms.length ∧ ∃ r : Nat, r < (someL (qa l i).f3 x7).length ∧ ∃ s : Nat, s < (ys ++ [(qa l i).f4]).length ∧ Fd l i (rdOf ByteArray.empty ms t) (rdOf ByteArray.empty (someL (qa l i).f3 x7) r) (rd (ys ++ [(qa l i).f4]) s)) := by
  have hv := someL_len (qa l i).f3 x7 h7
  induction d with
  | zero =>
    intro k q h1 hd hk
    obtain ⟨k, rfl⟩ : ∃ m, k = m + 1 := ⟨k - 1, by omega⟩
    have c1 : ¬ ((q : Int) < ms.length) := by omega
    simp only [r8isFound.l1, c1, ↓reduceIte]
    exact ⟨_, rfl, fun h => by simp at h, fun ⟨t, a, b, _⟩ => by omega⟩
  | succ d ih =>
    intro k q h1 hd hk
    obtain ⟨k, rfl⟩ : ∃ m, k = m + 1 := ⟨k - 1, by omega⟩
    have hq : q < ms.length := by omega
    have c1 : (q : Int) < ms.length := by omega
    have c0 : (0 : Int) ≤ q := by omega
    have w1 : wrap64 ((q : Int) + 1) = ((q + 1 : Nat) : Int) := by rw [wr_id (by omega) (by omega)]; omega
    simp only [r8isFound.l1, c1, c0, ↓reduceIte, some_eq _ _ h7, Option.bind_some]
    obtain ⟨k', hk', h2⟩ := found_l2 l hl ha i ys hy ht x7 (rdOf ByteArray.empty ms q) ms (ms.length : Int) (q : Int) (someL (qa l i).f3 x7) hv (someL (qa l i).f3 x7).length k 0 (by omega) (by omega) (by omega)
    rw [w1] at h2
    clear w1
    rcases h2 with ⟨⟨t, a1, a2, s, a3, a4⟩, e⟩ | ⟨a1, e⟩
    · exact ⟨true, e, fun _ => ⟨q, Nat.le_refl _, hq, t, a2, s, a3, a4⟩, fun _ => rfl⟩
    · obtain ⟨b, eb, ib⟩ := ih k' (q + 1) hq (by omega) (by omega)
      refine ⟨b, e.trans eb, ib.trans ⟨fun ⟨t, b1, b2⟩ => ⟨t, by omega, b2⟩, fun ⟨t, b1, b2, r, b3, s, b4, b5⟩ => ?_⟩⟩
      by_cases e : t = q
      · subst e; exact absurd b5 (a1 r (by omega) b3 s b4)
      · exact ⟨t, by omega, b2, r, b3, s, b4, b5⟩
theorem found_l0 (l : List S53) (hl : l.length ≤ 200) (i : Nat) (d : Nat) : ∀ (k j : Nat), j ≤ l.length → l.length - j = d → d < k →
    r8isFound.l0 k l i ((l.take j).map S53.f2) ((l.take j).map S53.f3) l (l.length : Int) j (qa l i).f0 (qa l i).f1 (qa l i).f2 (qa l i).f3 (qa l i).f4 (qa l i).f5 (qa l i).f6 (qa l i).f7 (qa l i).f8 =
      r8isFound.l1 (k - d - 1) l i (l.map S53.f3) (someL (qa l i).f2 (l.map S53.f2)) ((someL (qa l i).f2 (l.map S53.f2)).length : Int) 0 (qa l i).f0 (qa l i).f1 (qa l i).f2 (qa l i).f3 (qa l i).f4 (qa l i).f5 (qa l i).f6 (qa l i).f7 (qa l i).f8 := by
  induction d with
  | zero =>
    intro k j h1 hd hk
    obtain ⟨k, rfl⟩ : ∃ m, k = m + 1 := ⟨k - 1, by omega⟩
    obtain rfl : j = l.length := by omega
    have c1 : ¬ (((l.length : Nat) : Int) < l.length) := by omega
    rw [List.take_length]
    simp only [r8isFound.l0, c1, ↓reduceIte, some_eq _ _ (show (l.map S53.f2).length ≤ 200 by simpa using hl), Option.bind_some]
    rfl
  | succ d ih =>
    intro k j h1 hd hk
    obtain ⟨k, rfl⟩ : ∃ m, k = m + 1 := ⟨k - 1, by omega⟩
    have hj : j < l.length := by omega
    have c1 : (j : Int) < l.length := by omega
    have c0 : (0 : Int) ≤ j := by omega
    have w1 : wrap64 ((j : Int) + 1) = ((j + 1 : Nat) : Int) := by rw [wr_id (by omega) (by omega)]; omega
    have ek : k + 1 - (d + 1) - 1 = k - d - 1 := by omega
    have nx := ih k (j + 1) hj (by omega) (by omega)
    rw [take_rd l j hj, List.map_append, List.map_append] at nx
    have hlen : ∀ (g : S53 → ByteArray) (x : ByteArray), ((l.take j).map g).length + ([x] : List ByteArray).length < 8796093022208 := fun g x => by simp; omega
    simp only [r8isFound.l0, c1, c0, ↓reduceIte, Option.bind_some, hlen, w1, ek]
    exact nx
theorem mem_of_rdOf {ms : List ByteArray} {t : Nat} (h : t < ms.length) : rdOf ByteArray.empty ms (t : Int) ∈ ms := by
  have : rdOf ByteArray.empty ms (t : Int) = ms[t] := by simp [rdOf, h]
  rw [this]; exact List.getElem_mem h
theorem rdOf_of_mem {ms : List ByteArray} {x : ByteArray} (h : x ∈ ms) : ∃ t : Nat, t < ms.length ∧ rdOf ByteArray.empty ms (t : Int) = x := by
  obtain ⟨t, ht, e⟩ := List.getElem_of_mem h
  exact ⟨t, ht, by rw [← e]; simp [rdOf, ht]⟩
theorem found_is (l : List S53) (hl : l.length ≤ 200) (ha : ∀ j : Nat, j < l.length → agf (qa l j) = 0) (i : Nat) (hi : i < l.length) (ys : List Int) (hy : ys.length ≤ 400) (ht : ∀ k, 300 ≤ k → r8turns.f k l = some ys) (k : Nat) (hk : 21000000 ≤ k) :
    ∃ b, r8isFound.f k l i = some b ∧ (b = true ↔ ∃ m ∈ someL (qa l i).f2 (l.map S53.f2), ∃ v ∈ someL (qa l i).f3 (l.map S53.f3), ∃ d ∈ ys ++ [(qa l i).f4], Fd l i m v d) := by
  unfold r8isFound.f
  have c1 : (i : Int) < l.length := by omega
  have c0 : (0 : Int) ≤ i := by omega
  rw [if_pos c0, if_pos c1]
  have h0 := found_l0 l hl i l.length k 0 (by omega) (by omega) (by omega)
  simp only [List.take_zero, List.map_nil, Int.natCast_zero] at h0
  rw [h0]
  have hm := someL_len (qa l i).f2 (l.map S53.f2) (by simpa using hl)
  obtain ⟨b, eb, ib⟩ := found_l1 l hl ha i ys hy ht (l.map S53.f3) (by simpa using hl) (someL (qa l i).f2 (l.map S53.f2)) hm (someL (qa l i).f2 (l.map S53.f2)).length (k - l.length - 1) 0 (by omega) (by omega) (by omega)
  refine ⟨b, eb, ib.trans ⟨fun ⟨t, _, b2, r, b3, s, b4, b5⟩ => ⟨_, mem_of_rdOf b2, _, mem_of_rdOf b3, _, rd_mem b4, b5⟩, fun ⟨m, hm, v, hv, d, hd, h⟩ => ?_⟩⟩
  obtain ⟨t, t1, rfl⟩ := rdOf_of_mem hm
  obtain ⟨r, r1, rfl⟩ := rdOf_of_mem hv
  obtain ⟨s, s1, rfl⟩ := rd_of_mem hd
  exact ⟨t, Nat.zero_le _, t1, r, r1, s, s1, h⟩
theorem near_best {l : List S53} {i : Nat} (hi : i < l.length) {m v m2 v2 : ByteArray} (hm : ∀ j : Nat, j < l.length → ¬ (qa l j).f2.toList = m2.toList) (hv : ∀ j : Nat, j < l.length → ¬ (qa l j).f3.toList = v2.toList) {d : Int}
    (h : Best (nearOf l (qa l i)) (askC (qa l i) m v d) (nearOf l (qa l i)).length (cnt l (qa l i) i : Nat)) : Best l (askC (qa l i) m2 v2 d) l.length (i : Int) := by
  have hself : sameP (qa l i) (qa l i) = true := by simp [sameP]
  obtain ⟨q1, q2⟩ := near_at l (qa l i) i hi hself
  rcases h with ⟨e, _⟩ | ⟨n, e, hn, hp, hbest⟩
  · omega
  obtain rfl : n = cnt l (qa l i) i := by omega
  rw [q2] at hp hbest
  have hd : (qa l i).f4 ≤ d ∧ d ≤ (qa l i).f5 := by
    unfold app appB askC at hp
    simp only [Bool.and_eq_true, Bool.or_eq_true, decide_eq_true_eq] at hp
    obtain ⟨_, _, _, _, _, hd⟩ := hp
    exact hd
  refine .inr ⟨i, rfl, hi, ?_, fun j hj hap => ?_⟩
  · unfold app appB askC ownS
    simp only [decide_true, Bool.true_and, beq_self_eq_true, Bool.and_eq_true, Bool.or_eq_true, decide_eq_true_eq]
    refine ⟨?_, ?_, hd.1, hd.2⟩
    · split
      · exact .inl ‹_›
      · exact .inr rfl
    · split
      · exact .inl ‹_›
      · exact .inr rfl
  · have hs : sameP (qa l i) (qa l j) = true := by
      unfold app appB askC at hap
      unfold sameP
      simp only [Bool.and_eq_true, Bool.or_eq_true, decide_eq_true_eq] at hap ⊢
      obtain ⟨a0, a1, _, _, a6, _⟩ := hap
      exact ⟨a0, a1, a6⟩
    obtain ⟨j1, j2⟩ := near_at l (qa l i) j hj hs
    have happ : app (qa l j) (askC (qa l i) m v d) = true := by
      unfold app appB askC at hap
      unfold app appB askC
      simp only [Bool.and_eq_true, Bool.or_eq_true, decide_eq_true_eq] at hap ⊢
      obtain ⟨a0, a1, a2, a3, a6, ad⟩ := hap
      refine ⟨a0, a1, ?_, ?_, a6, ad⟩
      · rcases a2 with a2 | a2
        · exact .inl a2
        · unfold ownS at a2 ⊢
          split at a2
          · exact absurd a2 (hm j hj)
          · rename_i hne
            rw [if_neg hne]; exact .inr a2
      · rcases a3 with a3 | a3
        · exact .inl a3
        · unfold ownS at a3 ⊢
          split at a3
          · exact absurd a3 (hv j hj)
          · rename_i hne
            rw [if_neg hne]; exact .inr a3
    have hb := hbest (cnt l (qa l i) j) j1 (by rw [j2]; exact happ)
    rw [j2] at hb
    refine ⟨hb.1, fun hz => ?_⟩
    have hc := hb.2 hz
    by_cases hji : i ≤ j
    · exact hji
    · have u := cnt_up l (qa l i) j hj
      rw [if_pos hs] at u
      have m1 := cnt_mono l (qa l i) (i - (j + 1)) (j + 1) (by omega)
      rw [show j + 1 + (i - (j + 1)) = i by omega] at m1
      omega
theorem found_hid {l : List S53} (hl : l.length ≤ 200) (ha : ∀ j : Nat, j < l.length → agf (qa l j) = 0) {i : Nat} (hi : i < l.length) {m v : ByteArray} (hm : ∀ j : Nat, j < l.length → ¬ (qa l j).f2.toList = m.toList) (hv : ∀ j : Nat, j < l.length → ¬ (qa l j).f3.toList = v.toList)
    {ys : List Int} (hys : ∀ x, x ∈ ys ↔ RT l x) : (∃ m ∈ someL (qa l i).f2 (l.map S53.f2), ∃ v ∈ someL (qa l i).f3 (l.map S53.f3), ∃ d ∈ ys ++ [(qa l i).f4], Fd l i m v d) ↔ ¬ Hid l i m v := by
  constructor
  · rintro ⟨m', hm', v', hv', d, hd, n1, n2, hb⟩ hid
    have own : ∀ (s x : ByteArray) (all : List ByteArray), x ∈ someL s all → ownS s x = x := by
      intro s x all h
      unfold someL at h
      unfold ownS
      split at h
      · rename_i e; rw [if_pos e]
      · rename_i e; rw [if_neg e]; simpa using (List.mem_singleton.1 h).symm
    have hday : (qa l i).f4 ≤ d ∧ d ≤ (qa l i).f5 := by
      rcases hb with ⟨e, _⟩ | ⟨n, e, hn, hp, _⟩
      · omega
      · obtain rfl : i = n := by omega
        unfold app appB caseOf at hp
        simp only [Bool.and_eq_true, Bool.or_eq_true, decide_eq_true_eq] at hp
        obtain ⟨_, _, _, _, _, hd⟩ := hp
        exact hd
    have := hid_not hl ha hi hm hv hid m' v' d hday
    rw [own _ _ _ hm', own _ _ _ hv'] at this
    exact this hb
  · intro hn
    obtain ⟨d, hd⟩ := Classical.not_forall.1 hn
    obtain ⟨h1, hd⟩ := Classical.not_imp.1 hd
    obtain ⟨h2, hd⟩ := Classical.not_imp.1 hd
    obtain ⟨b, hd⟩ := Classical.not_forall.1 hd
    obtain ⟨h3, hd⟩ := Classical.not_imp.1 hd
    have hb := Classical.not_not.1 hd
    subst hb
    have hq : ∀ s : ByteArray, anyB s = true → ¬ s.toList = (⟨#[63]⟩ : ByteArray).toList := by
      intro s hs he
      rw [str_eq] at he
      subst he
      revert hs
      decide +kernel
    have z := fun j hj => agF_zero (ha j hj)
    have hb2 := near_best hi (m2 := ⟨#[63]⟩) (v2 := ⟨#[63]⟩) (fun j hj => hq _ (z j hj).2.1) (fun j hj => hq _ (z j hj).2.2.1) h3
    have hin : ∀ (s : ByteArray) (all : List ByteArray), ownS s ⟨#[63]⟩ ∈ someL s all := by
      intro s all
      unfold ownS someL
      by_cases e : s.toList = ([] : List UInt8)
      · rw [if_pos e, if_pos e]; simp
      · rw [if_neg e, if_neg e]; simp
    have hne : ∀ s : ByteArray, ¬ (ownS s ⟨#[63]⟩).toList = ([] : List UInt8) := by
      intro s
      unfold ownS
      split
      · decide +kernel
      · assumption
    refine ⟨_, hin _ _, _, hin _ _, d, ?_, hne _, hne _, hb2⟩
    rw [List.mem_append]
    rcases h1 with h1 | ⟨_, _, n, hn, h1⟩
    · exact .inr (by simp [h1])
    · left
      rw [hys]
      have hn' := hn
      rw [← cnt_all] at hn'
      obtain ⟨j, j1, j2, j3⟩ := near_of l (qa l i) n l.length (Nat.le_refl _) hn'
      obtain ⟨_, j4⟩ := near_at l (qa l i) j j1 j3
      rw [j2] at j4
      rw [j4] at h1
      exact ⟨j, j1, h1⟩
theorem never_same_l (l : List S53) (hl : l.length ≤ 200) (ha : ∀ j : Nat, j < l.length → agf (qa l j) = 0) {m v : ByteArray} (hm : ∀ j : Nat, j < l.length → ¬ (qa l j).f2.toList = m.toList) (hv : ∀ j : Nat, j < l.length → ¬ (qa l j).f3.toList = v.toList) (d : Nat) :
    ∀ (k i : Nat) (acc : List Int), i ≤ l.length → l.length - i = d → 22000000 + d ≤ k → acc.length ≤ i →
    ∃ out, r8Never.l0 k l acc (l.length : Int) i = some (out, 0) ∧ partner_Never.l0 k l acc m v (l.length : Int) i = some (out, 0) ∧ out.length ≤ 200 := by
  obtain ⟨ys, ht, hy, _, hys⟩ := ref_turns l hl ha
  induction d with
  | zero =>
    intro k i acc h1 hd hk hacc
    obtain ⟨k, rfl⟩ : ∃ m, k = m + 1 := ⟨k - 1, by omega⟩
    have c1 : ¬ ((i : Int) < l.length) := by omega
    simp only [r8Never.l0, partner_Never.l0, c1, ↓reduceIte]
    exact ⟨_, rfl, rfl, by omega⟩
  | succ d ih =>
    intro k i acc h1 hd hk hacc
    obtain ⟨k, rfl⟩ : ∃ m, k = m + 1 := ⟨k - 1, by omega⟩
    have hi : i < l.length := by omega
    have c1 : (i : Int) < l.length := by omega
    obtain ⟨b, eb, ib⟩ := kit_hides l hl ha i hi m v k (by omega)
    obtain ⟨b2, eb2, ib2⟩ := found_is l hl ha i hi ys hy ht k (by omega)
    have hac : acc.length < 17592186044416 := by omega
    have w1 : wrap64 ((i : Int) + 1) = ((i + 1 : Nat) : Int) := by rw [wr_id (by omega) (by omega)]; omega
    have hbb : b2 = !b := by
      have := ib2.trans (found_hid hl ha hi hm hv hys)
      rw [← ib] at this
      clear ib ib2 hk hacc hac w1
      cases b <;> cases b2 <;> simp at this ⊢
    subst hbb
    simp only [r8Never.l0, partner_Never.l0, c1, ↓reduceIte, eb, eb2, Option.bind_some, hac, w1]
    clear w1
    cases b
    · simp only [Bool.not_false, Bool.false_eq_true, ↓reduceIte]
      exact ih k (i + 1) acc (by omega) (by omega) (by omega) (by omega)
    · simp only [Bool.not_true, Bool.false_eq_true, ↓reduceIte]
      exact ih k (i + 1) _ (by omega) (by omega) (by omega) (by simp; omega)
theorem equal_l (xs : List Int) (hn : xs.length ≤ 4000000000) (d : Nat) : ∀ (k i : Nat), i ≤ xs.length → xs.length - i = d → d < k → slices_Equal_int_int.l0 k xs xs (xs.length : Int) i = some true := by
  induction d with
  | zero =>
    intro k i h1 hd hk
    obtain ⟨k, rfl⟩ : ∃ m, k = m + 1 := ⟨k - 1, by omega⟩
    have c1 : ¬ ((i : Int) < xs.length) := by omega
    simp only [slices_Equal_int_int.l0, c1, ↓reduceIte]
  | succ d ih =>
    intro k i h1 hd hk
    obtain ⟨k, rfl⟩ : ∃ m, k = m + 1 := ⟨k - 1, by omega⟩
    have c1 : (i : Int) < xs.length := by omega
    have c0 : (0 : Int) ≤ i := by omega
    have w1 : wrap64 ((i : Int) + 1) = ((i + 1 : Nat) : Int) := by rw [wr_id (by omega) (by omega)]; omega
    simp only [slices_Equal_int_int.l0, c1, c0, ↓reduceIte, w1]
    exact ih k (i + 1) (by omega) (by omega) (by omega)
theorem equal_same (xs : List Int) (hn : xs.length ≤ 4000000000) (k : Nat) (hk : xs.length < k) : slices_Equal_int_int.f k xs xs = some true := by
  unfold slices_Equal_int_int.f
  rw [if_pos rfl]
  exact equal_l xs hn xs.length k 0 (by omega) (by omega) (by omega)
theorem Until_same (p : List S110) (l : List S53) (c : S25) (hp : ∀ x ∈ p, ok110 x) (hx : ∀ x ∈ l, ok53 x) (hc : ok25 c) (k : Nat) (hk : 20000 ≤ k) :
    ∃ r, r8Until.f k p l c.f0 c.f1 c.f2 c.f3 c.f4 c.f5 = some r ∧ partner_Until.f k p l c.f0 c.f1 c.f2 c.f3 c.f4 c.f5 = some r := by
  unfold r8Until.f partner_Until.f
  obtain ⟨v, e, e2, q⟩ := asked_same p l c hp hx hc k (by omega)
  rw [e, e2, Option.bind_some, Option.bind_some]
  by_cases hv : v = 0
  · obtain ⟨hl, ha, hcf⟩ := q hv
    have hday := rest_in (case_rest hcf)
    obtain ⟨b, eb, hb⟩ := kit_find l c hl ha k (by omega)
    have hb0 : Best l (onDay c c.f4) l.length b := hb
    rw [if_pos hv, if_pos hv, ref_find_is hl ha hb k (by omega), eb, Option.bind_some, Option.bind_some]
    by_cases hneg : b < 0
    · rw [if_pos hneg, if_pos hneg]; exact ⟨_, rfl, rfl⟩
    · rw [if_neg hneg, if_neg hneg]
      obtain ⟨r, er, hr, hpw, hm⟩ := kit_changes l c.f4 hl ha k (by omega)
      obtain ⟨e1, eu, u1⟩ := until_l l c c.f4 b hday r hr hl ha hpw hm r.length k 0 c.f4 (by omega) (by omega) (by omega) (fun x g1 g2 => by
        have : x = c.f4 := by simp at g2; omega
        subst this; exact hb0)
      obtain ⟨ys, ht, hy, hyp, hys⟩ := ref_turns l hl ha
      obtain ⟨e2', eu2, u2⟩ := ref_until_l l c b hday ys hy hl ha hyp hys ys.length k 0 (by omega) (by omega) (by omega) (fun x g1 g2 g3 => by
        refine best_same (between (from_ := c.f4) ha (Int.le_refl _) g1 g2 (fun t ht a1 a2 => ?_)) hb0
        rcases ht with ht | ⟨b1, b2, b3⟩
        · omega
        · obtain ⟨q, hq, rfl⟩ := rd_of_mem ((hys t).2 b3)
          have := g3 q (by omega) hq b1; omega)
      have he := until_unique u1 u2
      subst he
      have eu' : partner_Until.l0 k l b r (r.length : Int) 0 c.f0 c.f1 c.f2 c.f3 c.f4 c.f5 = some (e1, 0) := eu
      have eu2' : r8Until.l0 k l b ys (ys.length : Int) 0 c.f0 c.f1 c.f2 c.f3 c.f4 c.f5 = some (e1, 0) := eu2
      have d1 : (((c.f4 :: r).drop (1 : Int).toNat)) = r := rfl
      have l1 : (1 : Int) ≤ ((c.f4 :: r).length : Int) := by simp; omega
      rw [er, ht k (by omega)]
      simp only [Option.bind_some]
      rw [if_pos l1]
      simp only [d1, Option.bind_some, eu', eu2']
      exact ⟨_, rfl, rfl⟩
  · rw [if_neg hv, if_neg hv]; exact ⟨_, rfl, rfl⟩
theorem Never_same (p : List S110) (l : List S53) (hp : ∀ x ∈ p, ok110 x) (hx : ∀ x ∈ l, ok53 x) (k : Nat) (hk : 23000000 ≤ k) :
    ∃ r, r8Never.f k p l = some r ∧ partner_Never.f k p l = some r ∧ r.1.length ≤ 200 := by
  unfold r8Never.f partner_Never.f
  obtain ⟨v, e, e2, q⟩ := agrees_same p l hp hx k (by omega)
  rw [e, e2, Option.bind_some, Option.bind_some]
  by_cases hv : v = 0
  · obtain ⟨_, _, hl, ha⟩ := q hv
    obtain ⟨z1, z2⟩ := ag_sizes ha
    obtain ⟨m, em, _, hm⟩ := other_m l z1 k (by omega)
    obtain ⟨w, ew, _, hw⟩ := other_v l z2 k (by omega)
    rw [if_pos hv, if_pos hv, em, Option.bind_some, ew, Option.bind_some]
    obtain ⟨out, e1, e3, ho⟩ := never_same_l l hl ha (m := m) (v := w) (fun j hj => by rw [rd23_get l j hj]; exact hm _ (List.getElem_mem hj)) (fun j hj => by rw [rd23_get l j hj]; exact hw _ (List.getElem_mem hj)) l.length k 0 [] (by omega) (by omega) (by omega) (by simp)
    exact ⟨_, e1, e3, ho⟩
  · rw [if_neg hv, if_neg hv]; exact ⟨_, rfl, rfl, by simp⟩
theorem PartnerDaysMatchSpec : Pure := by
  rintro p l c ⟨_, _, hp⟩ ⟨_, _, hx⟩ hc
  refine ⟨24000000 + 1, ?_⟩
  unfold l8PartnerDaysMatchSpec.f
  obtain ⟨r, e1, e2⟩ := Until_same p l c hp hx hc (24000000 + 1) (by omega)
  obtain ⟨s, f1, f2, hs⟩ := Never_same p l hp hx 24000000 (by omega)
  rw [e1, e2]
  simp only [Option.bind_some, ↓reduceIte, bne_self_eq_false, l8PartnerDaysMatchSpec.j0, Bool.false_eq_true, f1, f2, equal_same s.1 (by omega) 24000000 (by omega), awake_true]
end Go.Proofs.YtmmknokdgbgjgaaGreatDoor.XPartnerDaysMatchSpec.Q
