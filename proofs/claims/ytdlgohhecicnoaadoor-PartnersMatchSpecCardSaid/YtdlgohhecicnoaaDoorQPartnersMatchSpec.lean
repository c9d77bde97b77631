/- The pure statement of PartnersMatchSpec, proved: numbers, strings and lists alone. -/
import Derived.Test.YtdlgohhecicnoaaDoorPPartnersMatchSpec
import Derived.Lib.Strings
import Derived.Lib.SlTrimSet
namespace Go.Proofs.YtdlgohhecicnoaaDoor.XPartnersMatchSpec.Q
open Go.RowKit Go.Proofs.YtdlgohhecicnoaaDoor.XPartnersMatchSpec Go.Proofs.YtdlgohhecicnoaaDoorW.PrintWords Go.Proofs.YtdlgohhecicnoaaDoorW.PrintMore
set_option linter.unusedVariables false
set_option linter.unusedSimpArgs false
/-! names -/
theorem wrap_up {i : Int} (h0 : -1 ≤ i) (h : i < 9223372036854775807) : wrap64 (i + 1) = i + 1 := by unfold wrap64; omega
theorem toL (s : ByteArray) : s.toList = s.data.toList := Go.Lib.toList_data s
theorem bt_get (s : ByteArray) (i : Nat) (h : i < s.size) : bt s i = ((s.data.toList[i]'(by rw [data_length]; exact h)).toNat : Int) := by
  unfold bt
  rw [dif_pos (by simpa using h)]
  simp
  rfl
theorem toL_nil (s : ByteArray) : (s.toList = ([] : List UInt8)) ↔ s.size = 0 := by
  rw [toL, ← List.length_eq_zero_iff, data_length]
/-- A byte of a name. -/
def nameByte (b : UInt8) : Bool := (decide (97 ≤ b.toNat) && decide (b.toNat ≤ 122)) || (decide (48 ≤ b.toNat) && decide (b.toNat ≤ 57)) || decide (b.toNat = 45)
/-- Is it a name? -/
def nameB (s : ByteArray) : Bool := decide (1 ≤ s.size) && decide (s.size ≤ 40) && decide (97 ≤ bt s 0) && decide (bt s 0 ≤ 122) && s.data.toList.all nameByte
theorem dw_nil {α : Type} (p : α → Bool) (l : List α) : (l.dropWhile p = []) ↔ ∀ x ∈ l, p x = true := by
  induction l with
  | nil => simp
  | cons a l ih =>
    rw [List.dropWhile_cons]
    cases h : p a <;> simp [h, ih]
theorem trimS_nil (l cs : List UInt8) : (Go.Lib.trimS l cs = []) ↔ ∀ b ∈ l, b ∈ cs := by
  unfold Go.Lib.trimS Go.Lib.trimLeftS Go.Lib.trimRightS
  rw [dw_nil]
  simp only [List.mem_reverse, List.contains_eq_mem, decide_eq_true_eq]
  constructor
  · intro h b hb
    by_cases hm : b ∈ List.dropWhile (fun x => decide (x ∈ cs)) l.reverse
    · exact h b hm
    · have hb2 : b ∈ List.takeWhile (fun x => decide (x ∈ cs)) l.reverse ++ List.dropWhile (fun x => decide (x ∈ cs)) l.reverse := by
        rw [List.takeWhile_append_dropWhile]; simpa using hb
      rcases List.mem_append.1 hb2 with h3 | h3
      · have := List.all_eq_true.1 (List.all_takeWhile (p := fun x => decide (x ∈ cs)) (l := l.reverse)) b h3
        simpa using this
      · exact absurd h3 hm
  · intro h b hb
    have := (List.dropWhile_sublist (fun x => decide (x ∈ cs)) (l := l.reverse)).subset hb
    exact h b (by simpa using this)
def nameSet : List UInt8 := [97, 98, 99, 100, 101, 102, 103, 104, 105, 106, 107, 108, 109, 110, 111, 112, 113, 114, 115, 116, 117, 118, 119, 120, 121, 122, 48, 49, 50, 51, 52, 53, 54, 55, 56, 57, 45]
theorem nameSet_mem (b : UInt8) : (b ∈ nameSet) ↔ nameByte b = true := by
  have h : ∀ n : Fin 256, ((UInt8.ofNat n.val) ∈ nameSet) ↔ nameByte (UInt8.ofNat n.val) = true := by decide +kernel
  have := h ⟨b.toNat, b.toNat_lt⟩
  simpa using this
theorem kit_name (s : ByteArray) (hs : s.size ≤ 140737488351232) : kit_IsName.f s = some (nameB s) := by
  unfold kit_IsName.f nameB
  by_cases h1 : (s.size : Int) < 1
  · rw [if_pos h1]; simp [show ¬ 1 ≤ s.size by omega]
  rw [if_neg h1]
  by_cases h2 : (s.size : Int) > 40
  · rw [if_pos h2]; simp [show ¬ s.size ≤ 40 by omega]
  rw [if_neg h2, if_pos (by omega)]
  by_cases h3 : bt s 0 < 97
  · rw [if_pos h3]; simp [show ¬ 97 ≤ bt s 0 by omega]
  rw [if_neg h3]
  by_cases h4 : bt s 0 > 122
  · rw [if_pos h4]; simp [show ¬ bt s 0 ≤ 122 by omega]
  rw [if_neg h4]
  unfold strings_Trim.f
  rw [if_pos ⟨by omega, by decide, by decide⟩]
  simp only [Option.bind_some]
  congr 1
  rw [Bool.eq_iff_iff, beq_iff_eq]
  simp only [toL, show (1 ≤ s.size) = True by simp; omega, show (s.size ≤ 40) = True by simp; omega, show (97 ≤ bt s 0) = True by simp; omega, show (bt s 0 ≤ 122) = True by simp; omega, decide_true, Bool.true_and, List.all_eq_true]
  show Go.Lib.trimS s.data.toList nameSet = [] ↔ _
  rw [trimS_nil]
  exact forall_congr' fun b => imp_congr_right fun _ => nameSet_mem b
theorem ref_name_l (s : ByteArray) (hs : s.size ≤ 140737488351232) (d : Nat) : ∀ (k i : Nat), i ≤ s.size → s.size - i = d → d < k →
    interchangeref1_isName.l0 k s (s.size : Int) i = some ((s.data.toList.drop i).all nameByte) := by
  induction d with
  | zero =>
    intro k i h1 hd hk
    obtain ⟨k, rfl⟩ : ∃ m, k = m + 1 := ⟨k - 1, by omega⟩
    simp only [interchangeref1_isName.l0]
    rw [if_neg (by omega), List.drop_of_length_le (by rw [data_length]; omega)]
    rfl
  | succ d ih =>
    intro k i h1 hd hk
    obtain ⟨k, rfl⟩ : ∃ m, k = m + 1 := ⟨k - 1, by omega⟩
    have hlt : i < s.size := by omega
    have hl : i < s.data.toList.length := by rw [data_length]; exact hlt
    have hr := ih k (i + 1) (by omega) (by omega) (by omega)
    simp only [interchangeref1_isName.l0]
    rw [if_pos (by omega), if_pos (by omega), if_pos (by omega), wrap_up (by omega) (by omega), List.drop_eq_getElem_cons hl, List.all_cons]
    have e1 : ((i : Int) + 1) = ((i + 1 : Nat) : Int) := by omega
    rw [e1, hr, bt_get s i hlt]
    generalize s.data.toList[i] = b
    generalize List.all _ _ = r
    have hb := b.toNat_lt
    cases hn : nameByte b
    · have hn' : ¬ ((97 ≤ b.toNat ∧ b.toNat ≤ 122 ∨ 48 ≤ b.toNat ∧ b.toNat ≤ 57) ∨ b.toNat = 45) := by
        intro h
        have : nameByte b = true := by simpa [nameByte] using h
        rw [this] at hn; cases hn
      repeat' split
      all_goals first | rfl | (exfalso; omega)
    · have hn' : ((97 ≤ b.toNat ∧ b.toNat ≤ 122 ∨ 48 ≤ b.toNat ∧ b.toNat ≤ 57) ∨ b.toNat = 45) := by simpa [nameByte] using hn
      repeat' split
      all_goals first | rfl | (exfalso; omega)
theorem ref_name (s : ByteArray) (hs : s.size ≤ 140737488351232) (k : Nat) (hk : 50 ≤ k) : interchangeref1_IsName.f k s = some (nameB s) := by
  obtain ⟨k, rfl⟩ : ∃ m, k = m + 1 := ⟨k - 1, by omega⟩
  unfold interchangeref1_IsName.f interchangeref1_isName.f nameB
  simp only [toL_nil, Option.bind_fun_some]
  by_cases h1 : s.size = 0
  · rw [if_pos h1]; simp [interchangeref1_isName.j0, h1]
  rw [if_neg h1]
  by_cases h2 : (s.size : Int) > 40
  · rw [if_pos h2]; simp [interchangeref1_isName.j0, show ¬ s.size ≤ 40 by omega]
  rw [if_neg h2, if_pos (by omega)]
  by_cases h3 : bt s 0 < 97
  · rw [if_pos h3]; simp [interchangeref1_isName.j0, show ¬ 97 ≤ bt s 0 by omega]
  rw [if_neg h3]
  by_cases h4 : bt s 0 > 122
  · simp [interchangeref1_isName.j0, show ¬ bt s 0 ≤ 122 by omega, h4]
  simp only [interchangeref1_isName.j0, h4, decide_false]
  rw [if_neg (by simp)]
  have := ref_name_l s hs s.size k 0 (by omega) (by omega) (by omega)
  simp only [Int.natCast_zero, List.drop_zero] at this
  rw [this]
  simp [show 1 ≤ s.size by omega, show s.size ≤ 40 by omega, show 97 ≤ bt s 0 by omega, show bt s 0 ≤ 122 by omega]
/-! partners and their addresses -/
theorem rd31_get (xs : List S31) (i : Nat) (h : i < xs.length) : rd_T31 xs (i : Int) = xs[i] := by
  unfold rd_T31
  rw [Int.toNat_natCast, List.getD_eq_getElem?_getD, List.getElem?_eq_getElem h]
  rfl
theorem rd86_get (xs : List S86) (i : Nat) (h : i < xs.length) : rd_T86 xs (i : Int) = xs[i] := by
  unfold rd_T86
  rw [Int.toNat_natCast, List.getD_eq_getElem?_getD, List.getElem?_eq_getElem h]
  rfl
theorem outside (x a b : Int) : kit_Outside.f x a b = some (decide (x < a ∨ b < x)) := by
  unfold kit_Outside.f
  by_cases h : x < a
  · rw [if_pos h]; simp [h]
  · rw [if_neg h]; simp [h]
theorem awake_true : interchangelaw8_awake.f = some true := by
  have w1 : wrap64 2 = 2 := by unfold wrap64; omega
  simp [interchangelaw8_awake.f, partner_NextNumber.f, partner_CheckSeries.f, partner_isOf.f, outside, w1]
/-- The fault of an address. -/
def addrF (a b : ByteArray) : Int := if nameB a = true then (if (b.size : Int) < 1 then 3 else if (b.size : Int) > 35 then 3 else if (b.data.toList.all fun c => decide (33 ≤ c.toNat) && decide (c.toNat ≤ 126)) = true then 0 else 3) else 5
theorem addrF_zero {a b : ByteArray} (h : addrF a b = 0) : a.size ≤ 40 ∧ b.size ≤ 35 := by
  unfold addrF at h
  split at h
  · rename_i hn
    simp only [nameB, Bool.and_eq_true, decide_eq_true_eq] at hn
    refine ⟨hn.1.1.1.2, ?_⟩
    split at h
    · cases h
    split at h
    · cases h
    omega
  · cases h
theorem kit_bytes_l (s : ByteArray) (hs : s.size ≤ 140737488351232) (d : Nat) : ∀ (k i : Nat), i ≤ s.size → s.size - i = d → d < k →
    kit_InBytes.l0 k s 33 126 (s.size : Int) i = some ((s.data.toList.drop i).all fun c => decide (33 ≤ c.toNat) && decide (c.toNat ≤ 126)) := by
  induction d with
  | zero =>
    intro k i h1 hd hk
    obtain ⟨k, rfl⟩ : ∃ m, k = m + 1 := ⟨k - 1, by omega⟩
    simp only [kit_InBytes.l0]
    rw [if_neg (by omega), List.drop_of_length_le (by rw [data_length]; omega)]
    rfl
  | succ d ih =>
    intro k i h1 hd hk
    obtain ⟨k, rfl⟩ : ∃ m, k = m + 1 := ⟨k - 1, by omega⟩
    have hlt : i < s.size := by omega
    have hl : i < s.data.toList.length := by rw [data_length]; exact hlt
    have hr := ih k (i + 1) (by omega) (by omega) (by omega)
    simp only [kit_InBytes.l0]
    rw [if_pos (by omega), if_pos (by omega), if_pos (by omega), wrap_up (by omega) (by omega), List.drop_eq_getElem_cons hl, List.all_cons]
    have e1 : ((i : Int) + 1) = ((i + 1 : Nat) : Int) := by omega
    rw [e1, hr, bt_get s i hlt]
    generalize s.data.toList[i] = b
    generalize List.all _ _ = r
    by_cases h1 : 33 ≤ b.toNat
    · by_cases h2 : b.toNat ≤ 126
      · rw [if_neg (by omega), if_neg (by omega)]; simp [h1, h2]
      · rw [if_neg (by omega), if_pos (by omega)]; simp [h2]
    · rw [if_pos (by omega)]; simp [h1]
theorem ref_bytes_l (a s : ByteArray) (hs : s.size ≤ 140737488351232) (d : Nat) : ∀ (k i : Nat), i ≤ s.size → s.size - i = d → d < k →
    interchangeref8_checkAddress.l0 k (s.size : Int) i a s = some (if ((s.data.toList.drop i).all fun c => decide (33 ≤ c.toNat) && decide (c.toNat ≤ 126)) = true then 0 else 3) := by
  induction d with
  | zero =>
    intro k i h1 hd hk
    obtain ⟨k, rfl⟩ : ∃ m, k = m + 1 := ⟨k - 1, by omega⟩
    simp only [interchangeref8_checkAddress.l0]
    rw [if_neg (by omega), List.drop_of_length_le (by rw [data_length]; omega)]
    rfl
  | succ d ih =>
    intro k i h1 hd hk
    obtain ⟨k, rfl⟩ : ∃ m, k = m + 1 := ⟨k - 1, by omega⟩
    have hlt : i < s.size := by omega
    have hl : i < s.data.toList.length := by rw [data_length]; exact hlt
    have hr := ih k (i + 1) (by omega) (by omega) (by omega)
    simp only [interchangeref8_checkAddress.l0]
    rw [if_pos (by omega), if_pos (by omega), if_pos (by omega), wrap_up (by omega) (by omega), List.drop_eq_getElem_cons hl, List.all_cons]
    have e1 : ((i : Int) + 1) = ((i + 1 : Nat) : Int) := by omega
    rw [e1, hr, bt_get s i hlt]
    generalize s.data.toList[i] = b
    generalize List.all _ _ = r
    by_cases h1 : 33 ≤ b.toNat
    · by_cases h2 : b.toNat ≤ 126
      · rw [if_neg (by omega), if_neg (by omega)]; simp [h1, h2]
      · rw [if_neg (by omega), if_pos (by omega)]; simp [h2]
    · rw [if_pos (by omega)]; simp [h1]
theorem kit_addr (x : S31) (h : ok31 x) (k : Nat) (hk : 50 ≤ k) : partner_addressFault.f k x.f0 x.f1 = some (addrF x.f0 x.f1) := by
  unfold partner_addressFault.f addrF kit_InBytes.f
  rw [kit_name _ h.1, Option.bind_some]
  by_cases hn : nameB x.f0 = true
  · rw [if_pos hn, if_pos hn]
    by_cases h1 : (x.f1.size : Int) < 1
    · rw [if_pos h1, if_pos h1]
    rw [if_neg h1, if_neg h1]
    by_cases h2 : (x.f1.size : Int) > 35
    · rw [if_pos h2, if_pos h2]
    rw [if_neg h2, if_neg h2]
    have := kit_bytes_l x.f1 h.2 x.f1.size k 0 (by omega) (by omega) (by omega)
    simp only [Int.natCast_zero, List.drop_zero] at this
    rw [this, Option.bind_some]
    generalize List.all _ _ = r
    cases r <;> rfl
  · rw [if_neg hn, if_neg hn]
theorem ref_addr (x : S31) (h : ok31 x) (k : Nat) (hk : 50 ≤ k) : interchangeref8_checkAddress.f k x.f0 x.f1 = some (addrF x.f0 x.f1) := by
  unfold interchangeref8_checkAddress.f addrF interchangeref8_within.f
  rw [ref_name _ h.1 k hk, Option.bind_some]
  by_cases hn : nameB x.f0 = true
  · rw [if_pos hn, if_pos hn]
    by_cases h1 : (x.f1.size : Int) < 1
    · rw [if_pos h1, if_neg (by omega)]; rfl
    rw [if_neg h1, if_pos (by omega), Option.bind_some]
    by_cases h2 : (x.f1.size : Int) > 35
    · rw [if_pos h2, if_neg (by simp; omega)]
    rw [if_neg h2, if_pos (by simp; omega)]
    have := ref_bytes_l x.f0 x.f1 h.2 x.f1.size k 0 (by omega) (by omega) (by omega)
    simp only [Int.natCast_zero, List.drop_zero] at this
    rw [this]
  · rw [if_neg hn, if_neg hn]
theorem same_adr (a b : ByteArray) (y : S31) : (a.toList == y.f0.toList && b.toList == y.f1.toList) = adrSame ⟨a, b⟩ y := by
  unfold adrSame
  congr 1 <;> (rw [Bool.eq_iff_iff]; simp)
theorem has_l (xs : List S31) (a b : ByteArray) (hx : xs.length ≤ 4611686018427387904) (d : Nat) : ∀ (k i : Nat), i ≤ xs.length → xs.length - i = d → d < k →
    ∃ v, api_Address_92.l0 k xs (xs.length : Int) i a b = some v ∧ decide (v ≥ 0) = (xs.drop i).any (adrSame ⟨a, b⟩) := by
  induction d with
  | zero =>
    intro k i h1 hd hk
    obtain ⟨k, rfl⟩ : ∃ m, k = m + 1 := ⟨k - 1, by omega⟩
    simp only [api_Address_92.l0]
    rw [if_neg (by omega), List.drop_of_length_le (by omega)]
    exact ⟨_, rfl, by simp⟩
  | succ d ih =>
    intro k i h1 hd hk
    obtain ⟨k, rfl⟩ : ∃ m, k = m + 1 := ⟨k - 1, by omega⟩
    have hl : i < xs.length := by omega
    obtain ⟨v, hv, hr⟩ := ih k (i + 1) (by omega) (by omega) (by omega)
    simp only [api_Address_92.l0]
    rw [if_pos (by omega), if_pos (by omega), if_pos (by omega), wrap_up (by omega) (by omega), List.drop_eq_getElem_cons hl, List.any_cons, rd31_get xs i hl, same_adr]
    have e1 : ((i : Int) + 1) = ((i + 1 : Nat) : Int) := by omega
    rw [e1, hv]
    cases adrSame ⟨a, b⟩ xs[i]
    · rw [if_neg (by simp)]; exact ⟨_, rfl, by simpa using hr⟩
    · rw [if_pos rfl]; exact ⟨_, rfl, by simp⟩
theorem has_adr (xs : List S31) (a b : ByteArray) (hx : xs.length ≤ 4611686018427387904) (k : Nat) (hk : xs.length < k) :
    api_Address_51.f k xs a b = some (xs.any (adrSame ⟨a, b⟩)) := by
  unfold api_Address_51.f api_Address_92.f
  obtain ⟨v, hv, hr⟩ := has_l xs a b hx xs.length k 0 (by omega) (by omega) hk
  simp only [Int.natCast_zero, List.drop_zero] at hv hr
  rw [hv, Option.bind_some, hr]
/-- The two checks of partners answer alike: a round of addresses. -/
theorem check_adr (l : List S86) (i : Nat) (xs : List S31) (hi : i < l.length) (hl : l.length ≤ 200) (hm : xs.length ≤ 10) (hx : ∀ x ∈ xs, ok31 x) (B : Nat)
    (next : ∀ (k : Nat) (seen : List S31), B ≤ k → seen.length ≤ 10 * (i + 1) → ∃ v, interchangeref8_CheckPartners.l0 k l seen l (l.length : Int) ((i + 1 : Nat) : Int) = some v ∧ partner_CheckPartners.l0 k l seen l (l.length : Int) ((i + 1 : Nat) : Int) = some v)
    (hB : 3000 ≤ B) (e : Nat) : ∀ (k j : Nat) (seen : List S31), j ≤ xs.length → xs.length - j = e → B + e + 1 ≤ k → seen.length ≤ 10 * i + j →
    ∃ v, interchangeref8_CheckPartners.l1 k l seen l (l.length : Int) i xs (xs.length : Int) j = some v ∧ partner_CheckPartners.l1 k l seen l (l.length : Int) i xs (xs.length : Int) j = some v := by
  induction e with
  | zero =>
    intro k j seen h1 he hk hs
    obtain ⟨k, rfl⟩ : ∃ m, k = m + 1 := ⟨k - 1, by omega⟩
    have c1 : ¬ ((j : Int) < xs.length) := by omega
    have hn := next k seen (by omega) (by omega)
    have w1 : wrap64 ((i : Int) + 1) = ((i + 1 : Nat) : Int) := by rw [wrap_up (by omega) (by omega)]; omega
    simp only [interchangeref8_CheckPartners.l1, partner_CheckPartners.l1, c1, ↓reduceIte, w1]
    exact hn
  | succ e ih =>
    intro k j seen h1 he hk hs
    obtain ⟨k, rfl⟩ : ∃ m, k = m + 1 := ⟨k - 1, by omega⟩
    have hj : j < xs.length := by omega
    have c1 : (j : Int) < xs.length := by omega
    have c0 : (0 : Int) ≤ j := by omega
    have w2 : wrap64 ((j : Int) + 1) = ((j + 1 : Nat) : Int) := by rw [wrap_up (by omega) (by omega)]; omega
    simp only [interchangeref8_CheckPartners.l1, partner_CheckPartners.l1, c1, c0, ↓reduceIte, rd31_get xs j hj, w2]
    clear w2
    have ho := hx xs[j] (List.getElem_mem hj)
    rw [ref_addr _ ho k (by omega), kit_addr _ ho k (by omega)]
    simp only [Option.bind_some]
    by_cases hf : addrF xs[j].f0 xs[j].f1 = 0
    · have hz := addrF_zero hf
      rw [if_pos hf, if_pos hf, has_adr _ _ _ (by omega) k (by omega)]
      have s1 : xs[j].f0.size ≤ 1000 ∧ xs[j].f1.size ≤ 1000 := ⟨by omega, by omega⟩
      have s2 : xs[j].f0.size ≤ 1000 ∧ xs[j].f1.size ≤ 1000 ∧ seen.length < 1099511627776 := ⟨by omega, by omega, by omega⟩
      simp only [map_has_adr.f, map_put_adr.f]
      rw [if_pos s1]
      simp only [Option.bind_some]
      rw [if_pos s2]
      simp only [Option.bind_some]
      cases seen.any (adrSame ⟨xs[j].f0, xs[j].f1⟩)
      · simp only [Bool.false_eq_true, ↓reduceIte]
        rw [if_pos (by omega)]
        exact ih k (j + 1) _ (by omega) (by omega) (by omega) (by simp; omega)
      · rw [if_pos rfl, if_pos rfl]; exact ⟨_, rfl, rfl⟩
    · rw [if_neg hf, if_neg hf]; exact ⟨_, rfl, rfl⟩
theorem check_l (l : List S86) (hl : l.length ≤ 200) (hx : ∀ x ∈ l, ok86 x) (d : Nat) : ∀ (k i : Nat) (seen : List S31), i ≤ l.length → l.length - i = d → 3001 + 14 * d ≤ k → seen.length ≤ 10 * i →
    ∃ v, interchangeref8_CheckPartners.l0 k l seen l (l.length : Int) i = some v ∧ partner_CheckPartners.l0 k l seen l (l.length : Int) i = some v := by
  induction d with
  | zero =>
    intro k i seen h1 hd hk hs
    obtain ⟨k, rfl⟩ : ∃ m, k = m + 1 := ⟨k - 1, by omega⟩
    simp only [interchangeref8_CheckPartners.l0, partner_CheckPartners.l0]
    rw [if_neg (by omega), if_neg (by omega)]
    exact ⟨_, rfl, rfl⟩
  | succ d ih =>
    intro k i seen h1 hd hk hs
    obtain ⟨k, rfl⟩ : ∃ m, k = m + 1 := ⟨k - 1, by omega⟩
    have hi : i < l.length := by omega
    have ho := hx l[i] (List.getElem_mem hi)
    have hj : ∀ b : Bool, ∃ v, interchangeref8_CheckPartners.j1 k l seen l (l.length : Int) i b l[i].f0 l[i].f1 = some v ∧ partner_CheckPartners.j1 k l seen l (l.length : Int) i b l[i].f0 l[i].f1 = some v := by
      intro b
      obtain ⟨k, rfl⟩ : ∃ m, k = m + 1 := ⟨k - 1, by omega⟩
      simp only [interchangeref8_CheckPartners.j1, partner_CheckPartners.j1]
      cases b
      · simp only [Bool.false_eq_true, ↓reduceIte]
        by_cases hm : (l[i].f1.length : Int) > 10
        · rw [if_pos hm, if_pos hm]; exact ⟨_, rfl, rfl⟩
        · rw [if_neg hm, if_neg hm]
          exact check_adr l i l[i].f1 hi hl (by omega) ho.2.2.2 (3001 + 14 * d) (fun k seen hk hs => ih k (i + 1) seen (by omega) (by omega) hk hs) (by omega) l[i].f1.length k 0 seen (by omega) (by omega) (by omega) (by omega)
      · rw [if_pos rfl, if_pos rfl]; exact ⟨_, rfl, rfl⟩
    have c1 : (i : Int) < l.length := by omega
    have c0 : (0 : Int) ≤ i := by omega
    simp only [interchangeref8_CheckPartners.l0, partner_CheckPartners.l0, c1, c0, ↓reduceIte, rd86_get l i hi, ref_name _ ho.1 k (by omega), kit_name _ ho.1, Option.bind_some]
    by_cases hn : nameB l[i].f0 = true
    · rw [if_pos hn, if_pos hn]
      by_cases h0 : (i : Int) > 0
      · have w1 : wrap64 ((i : Int) - 1) = (i : Int) - 1 := by unfold wrap64; omega
        rw [if_pos h0, if_pos h0, w1, if_pos (show (0 : Int) ≤ (i : Int) - 1 by omega), if_pos (show (i : Int) - 1 < l.length by omega), if_pos (show (0 : Int) ≤ (i : Int) - 1 by omega), if_pos (show (i : Int) - 1 < l.length by omega)]
        exact hj _
      · rw [if_neg h0, if_neg h0]; exact hj _
    · rw [if_neg hn, if_neg hn]; exact ⟨_, rfl, rfl⟩
theorem check_same (l : List S86) (hx : ∀ x ∈ l, ok86 x) (k : Nat) (hk : 10000 ≤ k) : ∃ v, interchangeref8_CheckPartners.f k l = some v ∧ partner_CheckPartners.f k l = some v := by
  unfold interchangeref8_CheckPartners.f partner_CheckPartners.f map_mk_adr.f
  by_cases h : (l.length : Int) > 200
  · rw [if_pos h, if_pos h]; exact ⟨_, rfl, rfl⟩
  · rw [if_neg h, if_neg h, Option.bind_some]
    have := check_l l (by omega) hx l.length k 0 [] (by omega) (by omega) (by omega) (by simp)
    exact this
theorem of_same (l : List S86) (a b : ByteArray) (hx : ∀ x ∈ l, ok86 x) (hn : l.length ≤ 140737488351232) (d : Nat) : ∀ (k i : Nat), i ≤ l.length → l.length - i = d → 5000000000000 + d < k →
    ∃ v, interchangeref8_partnerOf.l0 k l (l.length : Int) i a b = some v ∧ partner_partnerOf.l0 k l (l.length : Int) i a b = some v := by
  induction d with
  | zero =>
    intro k i h1 hd hk
    obtain ⟨k, rfl⟩ : ∃ m, k = m + 1 := ⟨k - 1, by omega⟩
    simp only [interchangeref8_partnerOf.l0, partner_partnerOf.l0]
    rw [if_neg (by omega), if_neg (by omega)]
    exact ⟨_, rfl, rfl⟩
  | succ d ih =>
    intro k i h1 hd hk
    obtain ⟨k, rfl⟩ : ∃ m, k = m + 1 := ⟨k - 1, by omega⟩
    have hi : i < l.length := by omega
    have ho := hx l[i] (List.getElem_mem hi)
    have h2 := ho.2.2.1
    have c1 : (i : Int) < l.length := by omega
    have c0 : (0 : Int) ≤ i := by omega
    simp only [interchangeref8_partnerOf.l0, partner_partnerOf.l0, c1, c0, ↓reduceIte, rd86_get l i hi, has_adr l[i].f1 a b (by omega) k (by omega), wrap_up (show -1 ≤ (i : Int) by omega) (show (i : Int) < 9223372036854775807 by omega), Option.bind_some]
    cases l[i].f1.any (adrSame ⟨a, b⟩)
    · simp only [Bool.false_eq_true, ↓reduceIte]
      have e1 : ((i : Int) + 1) = ((i + 1 : Nat) : Int) := by omega
      rw [e1]
      exact ih k (i + 1) (by omega) (by omega) (by omega)
    · rw [if_pos rfl, if_pos rfl]; exact ⟨_, rfl, rfl⟩
theorem PartnersMatchSpec : Pure := by
  rintro l a ⟨_, hn, hx⟩ ha
  refine ⟨5000000000000 + l.length + 1, ?_⟩
  obtain ⟨v, h1, h2⟩ := check_same l hx (5000000000000 + l.length + 1) (by omega)
  unfold interchangelaw8_PartnersMatchSpec.f interchangeref8_PartnerOf.f partner_PartnerOf.f
  obtain ⟨s, h3, h4⟩ := of_same l a.f0 a.f1 hx (by omega) l.length (5000000000000 + l.length + 1) 0 (by omega) (by omega) (by omega)
  have h5 : interchangeref8_partnerOf.f (5000000000000 + l.length + 1) l a.f0 a.f1 = some s := h3
  have h6 : partner_partnerOf.f (5000000000000 + l.length + 1) l a.f0 a.f1 = some s := h4
  simp only [h1, h2, Option.bind_some, ref_addr a ha _ (show 50 ≤ 5000000000000 + l.length + 1 by omega), kit_addr a ha _ (show 50 ≤ 5000000000000 + l.length + 1 by omega), h5, h6]
  by_cases hv : v = 0
  · by_cases hf : addrF a.f0 a.f1 = 0
    · simp [hv, hf, awake_true]
    · simp [hv, hf, awake_true]
  · simp [hv, awake_true]
end Go.Proofs.YtdlgohhecicnoaaDoor.XPartnersMatchSpec.Q
