/- The pure statement of PartnerBetterIsAnOrder, proved: numbers, strings and lists alone. -/
import Derived.Test.YtdlgohhecicnoaaDoorPPartnerBetterIsAnOrder
import Derived.Lib.Strings
import Derived.Lib.SlTrimSet
namespace Go.Proofs.YtdlgohhecicnoaaDoor.XPartnerBetterIsAnOrder.Q
open Go.RowKit Go.Proofs.YtdlgohhecicnoaaDoor.XPartnerBetterIsAnOrder Go.Proofs.YtdlgohhecicnoaaDoorW.PrintWords Go.Proofs.YtdlgohhecicnoaaDoorW.PrintMore
set_option linter.unusedVariables false
set_option linter.unusedSimpArgs false
/-! names -/
theorem wrap_up {i : Int} (h0 : -1 ≤ i) (h : i < 9223372036854775807) : wrap64 (i + 1) = i + 1 := by unfold wrap64; omega
theorem toL (s : ByteArray) : s.toList = s.data.toList := Go.Lib.toList_data s
theorem bt_get (s : ByteArray) (i : Nat) (h : i < s.size) : bt s i = ((s.data.toList[i]'(by rw [data_length]; exact h)).toNat : Int) := by
  unfold bt
  rw [dif_pos (by simpa using h)]
  simp
  rfl
theorem toL_nil (s : ByteArray) : (s.toList = ([] : List UInt8)) ↔ s.size = 0 := by
  rw [toL, ← List.length_eq_zero_iff, data_length]
/-- A byte of a name. -/
def nameByte (b : UInt8) : Bool := (decide (97 ≤ b.toNat) && decide (b.toNat ≤ 122)) || (decide (48 ≤ b.toNat) && decide (b.toNat ≤ 57)) || decide (b.toNat = 45)
/-- Is it a name? -/
def nameB (s : ByteArray) : Bool := decide (1 ≤ s.size) && decide (s.size ≤ 40) && decide (97 ≤ bt s 0) && decide (bt s 0 ≤ 122) && s.data.toList.all nameByte
theorem dw_nil {α : Type} (p : α → Bool) (l : List α) : (l.dropWhile p = []) ↔ ∀ x ∈ l, p x = true := by
  induction l with
  | nil => simp
  | cons a l ih =>
    rw [List.dropWhile_cons]
    cases h : p a <;> simp [h, ih]
theorem trimS_nil (l cs : List UInt8) : (Go.Lib.trimS l cs = []) ↔ ∀ b ∈ l, b ∈ cs := by
  unfold Go.Lib.trimS Go.Lib.trimLeftS Go.Lib.trimRightS
  rw [dw_nil]
  simp only [List.mem_reverse, List.contains_eq_mem, decide_eq_true_eq]
  constructor
  · intro h b hb
    by_cases hm : b ∈ List.dropWhile (fun x => decide (x ∈ cs)) l.reverse
    · exact h b hm
    · have hb2 : b ∈ List.takeWhile (fun x => decide (x ∈ cs)) l.reverse ++ List.dropWhile (fun x => decide (x ∈ cs)) l.reverse := by
        rw [List.takeWhile_append_dropWhile]; simpa using hb
      rcases List.mem_append.1 hb2 with h3 | h3
      · have := List.all_eq_true.1 (List.all_takeWhile (p := fun x => decide (x ∈ cs)) (l := l.reverse)) b h3
        simpa using this
      · exact absurd h3 hm
  · intro h b hb
    have := (List.dropWhile_sublist (fun x => decide (x ∈ cs)) (l := l.reverse)).subset hb
    exact h b (by simpa using this)
def nameSet : List UInt8 := [97, 98, 99, 100, 101, 102, 103, 104, 105, 106, 107, 108, 109, 110, 111, 112, 113, 114, 115, 116, 117, 118, 119, 120, 121, 122, 48, 49, 50, 51, 52, 53, 54, 55, 56, 57, 45]
theorem nameSet_mem (b : UInt8) : (b ∈ nameSet) ↔ nameByte b = true := by
  have h : ∀ n : Fin 256, ((UInt8.ofNat n.val) ∈ nameSet) ↔ nameByte (UInt8.ofNat n.val) = true := by decide +kernel
  have := h ⟨b.toNat, b.toNat_lt⟩
  simpa using this
theorem kit_name (s : ByteArray) (hs : s.size ≤ 140737488351232) : kit_IsName.f s = some (nameB s) := by
  unfold kit_IsName.f nameB
  by_cases h1 : (s.size : Int) < 1
  · rw [if_pos h1]; simp [show ¬ 1 ≤ s.size by omega]
  rw [if_neg h1]
  by_cases h2 : (s.size : Int) > 40
  · rw [if_pos h2]; simp [show ¬ s.size ≤ 40 by omega]
  rw [if_neg h2, if_pos (by omega)]
  by_cases h3 : bt s 0 < 97
  · rw [if_pos h3]; simp [show ¬ 97 ≤ bt s 0 by omega]
  rw [if_neg h3]
  by_cases h4 : bt s 0 > 122
  · rw [if_pos h4]; simp [show ¬ bt s 0 ≤ 122 by omega]
  rw [if_neg h4]
  unfold strings_Trim.f
  rw [if_pos ⟨by omega, by decide, by decide⟩]
  simp only [Option.bind_some]
  congr 1
  rw [Bool.eq_iff_iff, beq_iff_eq]
  simp only [toL, show (1 ≤ s.size) = True by simp; omega, show (s.size ≤ 40) = True by simp; omega, show (97 ≤ bt s 0) = True by simp; omega, show (bt s 0 ≤ 122) = True by simp; omega, decide_true, Bool.true_and, List.all_eq_true]
  show Go.Lib.trimS s.data.toList nameSet = [] ↔ _
  rw [trimS_nil]
  exact forall_congr' fun b => imp_congr_right fun _ => nameSet_mem b
/-! agreements and cases -/
theorem wf_i64 {x : Int} (h : (Lit.int .i64 x).wf = true) : -9223372036854775808 ≤ x ∧ x ≤ 9223372036854775807 := by
  simpa [Lit.wf, IntKind.min, IntKind.max, IntKind.signed, IntKind.bits] using h
def anyB (s : ByteArray) : Bool := decide (s.toList = ([] : List UInt8)) || nameB s
theorem kit_any (s : ByteArray) (hs : s.size ≤ 140737488351232) : partner_isAny.f s = some (anyB s) := by
  unfold partner_isAny.f anyB
  by_cases h : s.toList = ([] : List UInt8)
  · rw [if_pos h]; simp [h]
  · rw [if_neg h, kit_name s hs]; simp [h]
theorem outside (x a b : Int) : kit_Outside.f x a b = some (decide (x < a ∨ b < x)) := by
  unfold kit_Outside.f
  by_cases h : x < a
  · rw [if_pos h]; simp [h]
  · rw [if_neg h]; simp [h]
/-- What is wrong with an agreement by itself. -/
def agF (a0 a1 a2 a3 : ByteArray) (a4 a5 a7 : Int) : Int :=
  if a0.toList = a1.toList then 12 else if anyB a2 = true ∧ anyB a3 = true then (if ¬ a3.toList = ([] : List UInt8) ∧ a2.toList = ([] : List UInt8) then 3 else if 1 ≤ a4 ∧ a4 ≤ 3652059 ∧ a4 ≤ a5 ∧ a5 ≤ 3652059 ∧ 0 ≤ a7 ∧ a7 ≤ 100000000 then 0 else 1) else 5
theorem own_fault {a0 a1 a2 a3 : ByteArray} {a4 a5 : Int} {a6 : Bool} {a7 : Int} {a8 : Bool} (h2 : a2.size ≤ 140737488351232) (h3 : a3.size ≤ 140737488351232) (k : Nat) (hk : 50 ≤ k) :
    partner_ownFault.f k a0 a1 a2 a3 a4 a5 a6 a7 a8 = some (agF a0 a1 a2 a3 a4 a5 a7) := by
  obtain ⟨k, rfl⟩ : ∃ m, k = m + 2 := ⟨k - 2, by omega⟩
  unfold partner_ownFault.f agF
  simp only [kit_any _ h2, kit_any _ h3, Option.bind_some]
  by_cases e1 : a0.toList = a1.toList
  · simp [e1]
  simp only [e1, if_false]
  cases m2 : anyB a2 <;> cases m3 : anyB a3 <;> simp [partner_ownFault.j0]
  by_cases e3 : a3.toList = ([] : List UInt8) <;> by_cases e2 : a2.toList = ([] : List UInt8) <;> simp [partner_ownFault.j1, e2, e3, outside]
  all_goals
    by_cases g1 : a4 < 1 ∨ 3652059 < a4
    · rw [if_pos g1, if_neg (by omega)]
    · rw [if_neg g1]
      by_cases g2 : a5 < a4 ∨ 3652059 < a5
      · rw [if_pos g2, if_neg (by omega)]
      · rw [if_neg g2]
        by_cases g3 : a7 < 0 ∨ 100000000 < a7
        · rw [if_pos g3, if_neg (by omega)]
        · rw [if_neg g3, if_pos (by omega)]
/-- The sign of the first number that is not zero. -/
def firstSign : List Int → Int
  | [] => 0
  | x :: r => if x < 0 then -1 else if x > 0 then 1 else firstSign r
theorem rd_drop {ys : List Int} {i : Nat} (h : i < ys.length) : ys.drop i = rd ys i :: ys.drop (i + 1) := by
  rw [List.drop_eq_getElem_cons h]
  congr 1
  simp [rd, h]
theorem kit_better_l (ys : List Int) (hn : ys.length < 1000) (d : Nat) : ∀ (k i : Nat), i ≤ ys.length → ys.length - i = d → d < k → partner_better.l0 k ys (ys.length : Int) i = some (firstSign (ys.drop i)) := by
  induction d with
  | zero =>
    intro k i h1 hd hk
    obtain ⟨k, rfl⟩ : ∃ m, k = m + 1 := ⟨k - 1, by omega⟩
    simp only [partner_better.l0]
    rw [if_neg (by omega), List.drop_of_length_le (by omega)]; rfl
  | succ d ih =>
    intro k i h1 hd hk
    obtain ⟨k, rfl⟩ : ∃ m, k = m + 1 := ⟨k - 1, by omega⟩
    simp only [partner_better.l0]
    rw [if_pos (by omega), if_pos (by omega), if_pos (by omega), wrap_up (by omega) (by omega), rd_drop (show i < ys.length by omega)]
    have := ih k (i + 1) (by omega) (by omega) (by omega)
    simp only [firstSign]
    by_cases g1 : rd ys i < 0
    · rw [if_pos g1, if_pos g1]
    · rw [if_neg g1, if_neg g1]
      by_cases g2 : rd ys i > 0
      · rw [if_pos g2, if_pos g2]
      · rw [if_neg g2, if_neg g2]
        exact_mod_cast this
def oneIf (s : ByteArray) : Int := if s.toList = ([] : List UInt8) then 0 else 1
theorem flag (s : ByteArray) : partner_flagNumber.f (s.toList != ([] : List UInt8)) = some (oneIf s) := by
  unfold partner_flagNumber.f oneIf
  by_cases h : s.toList = ([] : List UInt8) <;> simp [h]
theorem oneIf_le (s : ByteArray) : 0 ≤ oneIf s ∧ oneIf s ≤ 1 := by unfold oneIf; split <;> omega
/-- How two agreements compare. -/
def betF (a2 a3 : ByteArray) (a4 a5 : Int) (b2 b3 : ByteArray) (b4 b5 : Int) : Int := firstSign [oneIf b2 - oneIf a2, oneIf b3 - oneIf a3, b4 - a4, a5 - b5]
theorem kit_better {a0 a1 a2 a3 : ByteArray} {a4 a5 : Int} {a6 : Bool} {a7 : Int} {a8 : Bool} {b0 b1 b2 b3 : ByteArray} {b4 b5 : Int} {b6 : Bool} {b7 : Int} {b8 : Bool}
    (h4 : 1 ≤ a4 ∧ a4 ≤ 3652059) (h5 : 1 ≤ a5 ∧ a5 ≤ 3652059) (g4 : 1 ≤ b4 ∧ b4 ≤ 3652059) (g5 : 1 ≤ b5 ∧ b5 ≤ 3652059) (k : Nat) (hk : 50 ≤ k) :
    partner_better.f k a0 a1 a2 a3 a4 a5 a6 a7 a8 b0 b1 b2 b3 b4 b5 b6 b7 b8 = some (betF a2 a3 a4 a5 b2 b3 b4 b5) := by
  unfold partner_better.f betF
  simp only [flag, Option.bind_some]
  have w1 : ∀ x : Int, -4000000 ≤ x → x ≤ 4000000 → wrap64 x = x := fun x _ _ => by unfold wrap64; omega
  have := oneIf_le a2; have := oneIf_le a3; have := oneIf_le b2; have := oneIf_le b3
  rw [w1 _ (by omega) (by omega), w1 _ (by omega) (by omega), w1 _ (by omega) (by omega), w1 _ (by omega) (by omega)]
  exact kit_better_l [oneIf b2 - oneIf a2, oneIf b3 - oneIf a3, b4 - a4, a5 - b5] (by simp) 4 k 0 (by simp) (by simp) (by omega)
theorem agF_zero {a0 a1 a2 a3 : ByteArray} {a4 a5 a7 : Int} (h : agF a0 a1 a2 a3 a4 a5 a7 = 0) :
    ¬ a0.toList = a1.toList ∧ anyB a2 = true ∧ anyB a3 = true ∧ (a2.toList = ([] : List UInt8) → a3.toList = ([] : List UInt8)) ∧ 1 ≤ a4 ∧ a4 ≤ 3652059 ∧ a4 ≤ a5 ∧ a5 ≤ 3652059 ∧ 0 ≤ a7 ∧ a7 ≤ 100000000 := by
  unfold agF at h
  split at h
  · cases h
  split at h
  · split at h
    · cases h
    split at h
    · rename_i n1 n2 n3 n4
      exact ⟨n1, n2.1, n2.2, fun e => by by_cases e3 : a3.toList = ([] : List UInt8); exact e3; exact absurd ⟨e3, e⟩ n3, n4⟩
    · cases h
  · cases h
theorem kit_Better {a0 a1 a2 a3 : ByteArray} {a4 a5 : Int} {a6 : Bool} {a7 : Int} {a8 : Bool} {b0 b1 b2 b3 : ByteArray} {b4 b5 : Int} {b6 : Bool} {b7 : Int} {b8 : Bool}
    (h2 : a2.size ≤ 140737488351232) (h3 : a3.size ≤ 140737488351232) (g2 : b2.size ≤ 140737488351232) (g3 : b3.size ≤ 140737488351232) (k : Nat) (hk : 60 ≤ k) :
    partner_Better.f k a0 a1 a2 a3 a4 a5 a6 a7 a8 b0 b1 b2 b3 b4 b5 b6 b7 b8 =
      some (if agF a0 a1 a2 a3 a4 a5 a7 = 0 then (if agF b0 b1 b2 b3 b4 b5 b7 = 0 then (betF a2 a3 a4 a5 b2 b3 b4 b5, 0) else (0, agF b0 b1 b2 b3 b4 b5 b7)) else (0, agF a0 a1 a2 a3 a4 a5 a7)) := by
  obtain ⟨k, rfl⟩ : ∃ m, k = m + 3 := ⟨k - 3, by omega⟩
  unfold partner_Better.f
  have w0 : wrap64 1 = 1 := by unfold wrap64; omega
  have w1 : wrap64 2 = 2 := by unfold wrap64; omega
  simp [partner_Better.l0, rd_T23, w0, w1, own_fault h2 h3 (k + 2) (by omega), own_fault g2 g3 (k + 1) (by omega)]
  by_cases e1 : agF a0 a1 a2 a3 a4 a5 a7 = 0
  · by_cases e2 : agF b0 b1 b2 b3 b4 b5 b7 = 0
    · have z1 := agF_zero e1; have z2 := agF_zero e2
      simp [e1, e2, kit_better (show 1 ≤ a4 ∧ a4 ≤ 3652059 by omega) (show 1 ≤ a5 ∧ a5 ≤ 3652059 by omega) (show 1 ≤ b4 ∧ b4 ≤ 3652059 by omega) (show 1 ≤ b5 ∧ b5 ≤ 3652059 by omega) k (by omega)]
    · simp [e1, e2]
  · simp [e1]
theorem awake_true : interchangelaw8_awake.f = some true := by
  have w1 : wrap64 2 = 2 := by unfold wrap64; omega
  simp [interchangelaw8_awake.f, partner_NextNumber.f, partner_CheckSeries.f, partner_isOf.f, outside, w1]
theorem firstSign_neg : ∀ (l : List Int), firstSign (l.map (-·)) = - firstSign l
  | [] => rfl
  | x :: r => by
    have ih := firstSign_neg r
    simp only [List.map_cons, firstSign]
    by_cases h1 : x < 0
    · rw [if_neg (by omega), if_pos (by omega), if_pos h1]; rfl
    · rw [if_neg h1]
      by_cases h2 : x > 0
      · rw [if_pos (by omega), if_pos h2]
      · rw [if_neg (by omega), if_neg (by omega), if_neg h2, ih]
theorem bet_back (a2 a3 : ByteArray) (a4 a5 : Int) (b2 b3 : ByteArray) (b4 b5 : Int) : betF b2 b3 b4 b5 a2 a3 a4 a5 = - betF a2 a3 a4 a5 b2 b3 b4 b5 := by
  unfold betF
  rw [← firstSign_neg]
  simp only [List.map_cons, List.map_nil]
  congr 1
  simp only [List.cons.injEq, and_true]
  omega
theorem firstSign_cases (l : List Int) : firstSign l = -1 ∨ firstSign l = 0 ∨ firstSign l = 1 := by
  induction l with
  | nil => simp [firstSign]
  | cons x r ih => simp only [firstSign]; (repeat' split) <;> first | exact ih | simp
theorem bet_cases (a2 a3 : ByteArray) (a4 a5 : Int) (b2 b3 : ByteArray) (b4 b5 : Int) : betF a2 a3 a4 a5 b2 b3 b4 b5 = -1 ∨ betF a2 a3 a4 a5 b2 b3 b4 b5 = 0 ∨ betF a2 a3 a4 a5 b2 b3 b4 b5 = 1 := firstSign_cases _
theorem fs_trans : ∀ (ds es : List Int), ds.length = es.length → firstSign ds ≤ 0 → firstSign es ≤ 0 → firstSign (List.zipWith (· + ·) ds es) < 0 ∨ (firstSign ds = 0 ∧ firstSign es = 0 ∧ firstSign (List.zipWith (· + ·) ds es) = 0)
  | [], [], _, _, _ => .inr ⟨rfl, rfl, rfl⟩
  | d :: ds, e :: es, hl, h1, h2 => by
    have ih := fs_trans ds es (by simpa using hl)
    simp only [List.zipWith_cons_cons, firstSign] at *
    by_cases a1 : d < 0
    · by_cases b1 : e > 0
      · rw [if_neg (by omega), if_pos b1] at h2; omega
      · left; rw [if_pos (by omega)]; omega
    · by_cases a2 : d > 0
      · rw [if_neg a1, if_pos a2] at h1; omega
      · rw [if_neg a1, if_neg a2] at h1 ⊢
        by_cases b0 : e < 0
        · left; rw [if_pos (by omega)]; omega
        · by_cases b1 : e > 0
          · rw [if_neg b0, if_pos b1] at h2; omega
          · rw [if_neg b0, if_neg b1] at h2 ⊢
            rw [if_neg (by omega), if_neg (by omega)]
            exact ih h1 h2
theorem bet_trans {a2 a3 b2 b3 c2 c3 : ByteArray} {a4 a5 b4 b5 c4 c5 : Int} (h1 : betF a2 a3 a4 a5 b2 b3 b4 b5 ≤ 0) (h2 : betF b2 b3 b4 b5 c2 c3 c4 c5 ≤ 0) :
    betF a2 a3 a4 a5 c2 c3 c4 c5 < 0 ∨ (betF a2 a3 a4 a5 b2 b3 b4 b5 = 0 ∧ betF b2 b3 b4 b5 c2 c3 c4 c5 = 0 ∧ betF a2 a3 a4 a5 c2 c3 c4 c5 = 0) := by
  have := fs_trans _ _ (by rfl) h1 h2
  have e : List.zipWith (· + ·) [oneIf b2 - oneIf a2, oneIf b3 - oneIf a3, b4 - a4, a5 - b5] [oneIf c2 - oneIf b2, oneIf c3 - oneIf b3, c4 - b4, b5 - c5] = [oneIf c2 - oneIf a2, oneIf c3 - oneIf a3, c4 - a4, a5 - c5] := by
    simp only [List.zipWith_cons_cons, List.zipWith_nil_right, List.cons.injEq, and_true]
    omega
  rw [e] at this
  exact this
theorem PartnerBetterIsAnOrder : Pure := by
  rintro a b c ⟨_, _, a2, a3, _⟩ ⟨_, _, b2, b3, _⟩ ⟨_, _, c2, c3, _⟩
  refine ⟨100, ?_⟩
  unfold interchangelaw8_PartnerBetterIsAnOrder.f
  rw [kit_Better a2 a3 b2 b3 100 (by omega), kit_Better b2 b3 c2 c3 100 (by omega), kit_Better a2 a3 c2 c3 100 (by omega)]
  simp only [Option.bind_some, interchangelaw8_PartnerBetterIsAnOrder.j0, kit_Better b2 b3 a2 a3 99 (by omega), awake_true]
  by_cases ea : agF a.f0 a.f1 a.f2 a.f3 a.f4 a.f5 a.f7 = 0 <;> by_cases eb : agF b.f0 b.f1 b.f2 b.f3 b.f4 b.f5 b.f7 = 0 <;> by_cases ec : agF c.f0 c.f1 c.f2 c.f3 c.f4 c.f5 c.f7 = 0 <;> simp [ea, eb, ec]
  have hn := bet_back a.f2 a.f3 a.f4 a.f5 b.f2 b.f3 b.f4 b.f5
  have h1 := bet_cases a.f2 a.f3 a.f4 a.f5 b.f2 b.f3 b.f4 b.f5
  have h2 := bet_cases b.f2 b.f3 b.f4 b.f5 c.f2 c.f3 c.f4 c.f5
  have ht := @bet_trans a.f2 a.f3 b.f2 b.f3 c.f2 c.f3 a.f4 a.f5 b.f4 b.f5 c.f4 c.f5
  rw [hn]
  generalize betF a.f2 a.f3 a.f4 a.f5 b.f2 b.f3 b.f4 b.f5 = x at *
  generalize betF b.f2 b.f3 b.f4 b.f5 c.f2 c.f3 c.f4 c.f5 = y at *
  generalize betF a.f2 a.f3 a.f4 a.f5 c.f2 c.f3 c.f4 c.f5 = z at *
  have hw : wrap64 (-x) = -x := by unfold wrap64; omega
  rw [if_pos hw.symm]
  by_cases g1 : 0 < x
  · rw [if_pos g1]
  by_cases g2 : 0 < y
  · rw [if_neg g1, if_pos g2]
  rw [if_neg g1, if_neg g2]
  rcases ht (by omega) (by omega) with h | ⟨r1, r2, r3⟩
  · rw [if_pos h]
  · rw [if_neg (by omega), if_pos r1, if_pos r2]; simp [r3]
end Go.Proofs.YtdlgohhecicnoaaDoor.XPartnerBetterIsAnOrder.Q
