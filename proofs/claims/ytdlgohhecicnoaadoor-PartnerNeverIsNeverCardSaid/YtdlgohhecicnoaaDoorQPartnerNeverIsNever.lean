/- The pure statement of PartnerNeverIsNever, proved: numbers, strings and lists alone. -/
import Derived.Test.YtdlgohhecicnoaaDoorPPartnerNeverIsNever
import Derived.Lib.Strings
import Derived.Lib.SlTrimSet
namespace Go.Proofs.YtdlgohhecicnoaaDoor.XPartnerNeverIsNever.Q
open Go.RowKit Go.Proofs.YtdlgohhecicnoaaDoor.XPartnerNeverIsNever Go.Proofs.YtdlgohhecicnoaaDoorW.PrintWords Go.Proofs.YtdlgohhecicnoaaDoorW.PrintMore
set_option linter.unusedVariables false
set_option linter.unusedSimpArgs false
/-! names -/
theorem wrap_up {i : Int} (h0 : -1 ≤ i) (h : i < 9223372036854775807) : wrap64 (i + 1) = i + 1 := by unfold wrap64; omega
theorem toL (s : ByteArray) : s.toList = s.data.toList := Go.Lib.toList_data s
theorem bt_get (s : ByteArray) (i : Nat) (h : i < s.size) : bt s i = ((s.data.toList[i]'(by rw [data_length]; exact h)).toNat : Int) := by
  unfold bt
  rw [dif_pos (by simpa using h)]
  simp
  rfl
theorem toL_nil (s : ByteArray) : (s.toList = ([] : List UInt8)) ↔ s.size = 0 := by
  rw [toL, ← List.length_eq_zero_iff, data_length]
/-- A byte of a name. -/
def nameByte (b : UInt8) : Bool := (decide (97 ≤ b.toNat) && decide (b.toNat ≤ 122)) || (decide (48 ≤ b.toNat) && decide (b.toNat ≤ 57)) || decide (b.toNat = 45)
/-- Is it a name? -/
def nameB (s : ByteArray) : Bool := decide (1 ≤ s.size) && decide (s.size ≤ 40) && decide (97 ≤ bt s 0) && decide (bt s 0 ≤ 122) && s.data.toList.all nameByte
theorem dw_nil {α : Type} (p : α → Bool) (l : List α) : (l.dropWhile p = []) ↔ ∀ x ∈ l, p x = true := by
  induction l with
  | nil => simp
  | cons a l ih =>
    rw [List.dropWhile_cons]
    cases h : p a <;> simp [h, ih]
theorem trimS_nil (l cs : List UInt8) : (Go.Lib.trimS l cs = []) ↔ ∀ b ∈ l, b ∈ cs := by
  unfold Go.Lib.trimS Go.Lib.trimLeftS Go.Lib.trimRightS
  rw [dw_nil]
  simp only [List.mem_reverse, List.contains_eq_mem, decide_eq_true_eq]
  constructor
  · intro h b hb
    by_cases hm : b ∈ List.dropWhile (fun x => decide (x ∈ cs)) l.reverse
    · exact h b hm
    · have hb2 : b ∈ List.takeWhile (fun x => decide (x ∈ cs)) l.reverse ++ List.dropWhile (fun x => decide (x ∈ cs)) l.reverse := by
        rw [List.takeWhile_append_dropWhile]; simpa using hb
      rcases List.mem_append.1 hb2 with h3 | h3
      · have := List.all_eq_true.1 (List.all_takeWhile (p := fun x => decide (x ∈ cs)) (l := l.reverse)) b h3
        simpa using this
      · exact absurd h3 hm
  · intro h b hb
    have := (List.dropWhile_sublist (fun x => decide (x ∈ cs)) (l := l.reverse)).subset hb
    exact h b (by simpa using this)
def nameSet : List UInt8 := [97, 98, 99, 100, 101, 102, 103, 104, 105, 106, 107, 108, 109, 110, 111, 112, 113, 114, 115, 116, 117, 118, 119, 120, 121, 122, 48, 49, 50, 51, 52, 53, 54, 55, 56, 57, 45]
theorem nameSet_mem (b : UInt8) : (b ∈ nameSet) ↔ nameByte b = true := by
  have h : ∀ n : Fin 256, ((UInt8.ofNat n.val) ∈ nameSet) ↔ nameByte (UInt8.ofNat n.val) = true := by decide +kernel
  have := h ⟨b.toNat, b.toNat_lt⟩
  simpa using this
theorem kit_name (s : ByteArray) (hs : s.size ≤ 140737488351232) : kit_IsName.f s = some (nameB s) := by
  unfold kit_IsName.f nameB
  by_cases h1 : (s.size : Int) < 1
  · rw [if_pos h1]; simp [show ¬ 1 ≤ s.size by omega]
  rw [if_neg h1]
  by_cases h2 : (s.size : Int) > 40
  · rw [if_pos h2]; simp [show ¬ s.size ≤ 40 by omega]
  rw [if_neg h2, if_pos (by omega)]
  by_cases h3 : bt s 0 < 97
  · rw [if_pos h3]; simp [show ¬ 97 ≤ bt s 0 by omega]
  rw [if_neg h3]
  by_cases h4 : bt s 0 > 122
  · rw [if_pos h4]; simp [show ¬ bt s 0 ≤ 122 by omega]
  rw [if_neg h4]
  unfold strings_Trim.f
  rw [if_pos ⟨by omega, by decide, by decide⟩]
  simp only [Option.bind_some]
  congr 1
  rw [Bool.eq_iff_iff, beq_iff_eq]
  simp only [toL, show (1 ≤ s.size) = True by simp; omega, show (s.size ≤ 40) = True by simp; omega, show (97 ≤ bt s 0) = True by simp; omega, show (bt s 0 ≤ 122) = True by simp; omega, decide_true, Bool.true_and, List.all_eq_true]
  show Go.Lib.trimS s.data.toList nameSet = [] ↔ _
  rw [trimS_nil]
  exact forall_congr' fun b => imp_congr_right fun _ => nameSet_mem b
/-! agreements and cases -/
theorem wf_i64 {x : Int} (h : (Lit.int .i64 x).wf = true) : -9223372036854775808 ≤ x ∧ x ≤ 9223372036854775807 := by
  simpa [Lit.wf, IntKind.min, IntKind.max, IntKind.signed, IntKind.bits] using h
def anyB (s : ByteArray) : Bool := decide (s.toList = ([] : List UInt8)) || nameB s
theorem kit_any (s : ByteArray) (hs : s.size ≤ 140737488351232) : partner_isAny.f s = some (anyB s) := by
  unfold partner_isAny.f anyB
  by_cases h : s.toList = ([] : List UInt8)
  · rw [if_pos h]; simp [h]
  · rw [if_neg h, kit_name s hs]; simp [h]
theorem outside (x a b : Int) : kit_Outside.f x a b = some (decide (x < a ∨ b < x)) := by
  unfold kit_Outside.f
  by_cases h : x < a
  · rw [if_pos h]; simp [h]
  · rw [if_neg h]; simp [h]
/-- What is wrong with an agreement by itself. -/
def agF (a0 a1 a2 a3 : ByteArray) (a4 a5 a7 : Int) : Int :=
  if a0.toList = a1.toList then 12 else if anyB a2 = true ∧ anyB a3 = true then (if ¬ a3.toList = ([] : List UInt8) ∧ a2.toList = ([] : List UInt8) then 3 else if 1 ≤ a4 ∧ a4 ≤ 3652059 ∧ a4 ≤ a5 ∧ a5 ≤ 3652059 ∧ 0 ≤ a7 ∧ a7 ≤ 100000000 then 0 else 1) else 5
theorem own_fault {a0 a1 a2 a3 : ByteArray} {a4 a5 : Int} {a6 : Bool} {a7 : Int} {a8 : Bool} (h2 : a2.size ≤ 140737488351232) (h3 : a3.size ≤ 140737488351232) (k : Nat) (hk : 50 ≤ k) :
    partner_ownFault.f k a0 a1 a2 a3 a4 a5 a6 a7 a8 = some (agF a0 a1 a2 a3 a4 a5 a7) := by
  obtain ⟨k, rfl⟩ : ∃ m, k = m + 2 := ⟨k - 2, by omega⟩
  unfold partner_ownFault.f agF
  simp only [kit_any _ h2, kit_any _ h3, Option.bind_some]
  by_cases e1 : a0.toList = a1.toList
  · simp [e1]
  simp only [e1, if_false]
  cases m2 : anyB a2 <;> cases m3 : anyB a3 <;> simp [partner_ownFault.j0]
  by_cases e3 : a3.toList = ([] : List UInt8) <;> by_cases e2 : a2.toList = ([] : List UInt8) <;> simp [partner_ownFault.j1, e2, e3, outside]
  all_goals
    by_cases g1 : a4 < 1 ∨ 3652059 < a4
    · rw [if_pos g1, if_neg (by omega)]
    · rw [if_neg g1]
      by_cases g2 : a5 < a4 ∨ 3652059 < a5
      · rw [if_pos g2, if_neg (by omega)]
      · rw [if_neg g2]
        by_cases g3 : a7 < 0 ∨ 100000000 < a7
        · rw [if_pos g3, if_neg (by omega)]
        · rw [if_neg g3, if_pos (by omega)]
/-- The sign of the first number that is not zero. -/
def firstSign : List Int → Int
  | [] => 0
  | x :: r => if x < 0 then -1 else if x > 0 then 1 else firstSign r
theorem rd_drop {ys : List Int} {i : Nat} (h : i < ys.length) : ys.drop i = rd ys i :: ys.drop (i + 1) := by
  rw [List.drop_eq_getElem_cons h]
  congr 1
  simp [rd, h]
theorem kit_better_l (ys : List Int) (hn : ys.length < 1000) (d : Nat) : ∀ (k i : Nat), i ≤ ys.length → ys.length - i = d → d < k → partner_better.l0 k ys (ys.length : Int) i = some (firstSign (ys.drop i)) := by
  induction d with
  | zero =>
    intro k i h1 hd hk
    obtain ⟨k, rfl⟩ : ∃ m, k = m + 1 := ⟨k - 1, by omega⟩
    simp only [partner_better.l0]
    rw [if_neg (by omega), List.drop_of_length_le (by omega)]; rfl
  | succ d ih =>
    intro k i h1 hd hk
    obtain ⟨k, rfl⟩ : ∃ m, k = m + 1 := ⟨k - 1, by omega⟩
    simp only [partner_better.l0]
    rw [if_pos (by omega), if_pos (by omega), if_pos (by omega), wrap_up (by omega) (by omega), rd_drop (show i < ys.length by omega)]
    have := ih k (i + 1) (by omega) (by omega) (by omega)
    simp only [firstSign]
    by_cases g1 : rd ys i < 0
    · rw [if_pos g1, if_pos g1]
    · rw [if_neg g1, if_neg g1]
      by_cases g2 : rd ys i > 0
      · rw [if_pos g2, if_pos g2]
      · rw [if_neg g2, if_neg g2]
        exact_mod_cast this
def oneIf (s : ByteArray) : Int := if s.toList = ([] : List UInt8) then 0 else 1
theorem flag (s : ByteArray) : partner_flagNumber.f (s.toList != ([] : List UInt8)) = some (oneIf s) := by
  unfold partner_flagNumber.f oneIf
  by_cases h : s.toList = ([] : List UInt8) <;> simp [h]
theorem oneIf_le (s : ByteArray) : 0 ≤ oneIf s ∧ oneIf s ≤ 1 := by unfold oneIf; split <;> omega
/-- How two agreements compare. -/
def betF (a2 a3 : ByteArray) (a4 a5 : Int) (b2 b3 : ByteArray) (b4 b5 : Int) : Int := firstSign [oneIf b2 - oneIf a2, oneIf b3 - oneIf a3, b4 - a4, a5 - b5]
theorem kit_better {a0 a1 a2 a3 : ByteArray} {a4 a5 : Int} {a6 : Bool} {a7 : Int} {a8 : Bool} {b0 b1 b2 b3 : ByteArray} {b4 b5 : Int} {b6 : Bool} {b7 : Int} {b8 : Bool}
    (h4 : 1 ≤ a4 ∧ a4 ≤ 3652059) (h5 : 1 ≤ a5 ∧ a5 ≤ 3652059) (g4 : 1 ≤ b4 ∧ b4 ≤ 3652059) (g5 : 1 ≤ b5 ∧ b5 ≤ 3652059) (k : Nat) (hk : 50 ≤ k) :
    partner_better.f k a0 a1 a2 a3 a4 a5 a6 a7 a8 b0 b1 b2 b3 b4 b5 b6 b7 b8 = some (betF a2 a3 a4 a5 b2 b3 b4 b5) := by
  unfold partner_better.f betF
  simp only [flag, Option.bind_some]
  have w1 : ∀ x : Int, -4000000 ≤ x → x ≤ 4000000 → wrap64 x = x := fun x _ _ => by unfold wrap64; omega
  have := oneIf_le a2; have := oneIf_le a3; have := oneIf_le b2; have := oneIf_le b3
  rw [w1 _ (by omega) (by omega), w1 _ (by omega) (by omega), w1 _ (by omega) (by omega), w1 _ (by omega) (by omega)]
  exact kit_better_l [oneIf b2 - oneIf a2, oneIf b3 - oneIf a3, b4 - a4, a5 - b5] (by simp) 4 k 0 (by simp) (by simp) (by omega)
theorem agF_zero {a0 a1 a2 a3 : ByteArray} {a4 a5 a7 : Int} (h : agF a0 a1 a2 a3 a4 a5 a7 = 0) :
    ¬ a0.toList = a1.toList ∧ anyB a2 = true ∧ anyB a3 = true ∧ (a2.toList = ([] : List UInt8) → a3.toList = ([] : List UInt8)) ∧ 1 ≤ a4 ∧ a4 ≤ 3652059 ∧ a4 ≤ a5 ∧ a5 ≤ 3652059 ∧ 0 ≤ a7 ∧ a7 ≤ 100000000 := by
  unfold agF at h
  split at h
  · cases h
  split at h
  · split at h
    · cases h
    split at h
    · rename_i n1 n2 n3 n4
      exact ⟨n1, n2.1, n2.2, fun e => by by_cases e3 : a3.toList = ([] : List UInt8); exact e3; exact absurd ⟨e3, e⟩ n3, n4⟩
    · cases h
  · cases h
theorem awake_true : interchangelaw8_awake.f = some true := by
  have w1 : wrap64 2 = 2 := by unfold wrap64; omega
  simp [interchangelaw8_awake.f, partner_NextNumber.f, partner_CheckSeries.f, partner_isOf.f, outside, w1]
/-- What is wrong with a case without its partners. -/
def restF (c2 c3 : ByteArray) (c4 : Int) : Int := if nameB c2 = true ∧ nameB c3 = true then (if 1 ≤ c4 ∧ c4 ≤ 3652059 then 0 else 1) else 5
def caseF (c0 c1 c2 c3 : ByteArray) (c4 : Int) : Int := if nameB c0 = true ∧ nameB c1 = true then restF c2 c3 c4 else 5
theorem kit_rest {c0 c1 c2 c3 : ByteArray} {c4 : Int} {c5 : Bool} (h2 : c2.size ≤ 140737488351232) (h3 : c3.size ≤ 140737488351232) (k : Nat) (hk : 50 ≤ k) : partner_restFault.f k c0 c1 c2 c3 c4 c5 = some (restF c2 c3 c4) := by
  obtain ⟨k, rfl⟩ : ∃ m, k = m + 2 := ⟨k - 2, by omega⟩
  unfold partner_restFault.f restF
  simp only [kit_name _ h2, kit_name _ h3, Option.bind_some]
  cases nameB c2 <;> cases nameB c3 <;> simp [partner_restFault.j0, kit_IsDay.f, outside]
  by_cases g : c4 < 1 ∨ 3652059 < c4
  · rw [if_neg (by omega), if_neg (by omega)]
  · rw [if_pos (by omega), if_pos (by omega)]
theorem kit_case {c0 c1 c2 c3 : ByteArray} {c4 : Int} {c5 : Bool} (h0 : c0.size ≤ 140737488351232) (h1 : c1.size ≤ 140737488351232) (h2 : c2.size ≤ 140737488351232) (h3 : c3.size ≤ 140737488351232) (k : Nat) (hk : 50 ≤ k) : partner_caseFault.f k c0 c1 c2 c3 c4 c5 = some (caseF c0 c1 c2 c3 c4) := by
  unfold partner_caseFault.f caseF
  simp only [kit_name _ h0, kit_name _ h1, kit_rest h2 h3 k hk, Option.bind_some]
  cases nameB c0 <;> cases nameB c1 <;> simp
/-- Is an agreement for a case? -/
def appB (a0 a1 a2 a3 : ByteArray) (a4 a5 : Int) (a6 : Bool) (c0 c1 c2 c3 : ByteArray) (c4 : Int) (c5 : Bool) : Bool :=
  decide (a0.toList = c0.toList) && (decide (a1.toList = c1.toList) && ((decide (a2.toList = ([] : List UInt8)) || decide (a2.toList = c2.toList)) && ((decide (a3.toList = ([] : List UInt8)) || decide (a3.toList = c3.toList)) && ((a6 == c5) && decide (a4 ≤ c4 ∧ c4 ≤ a5)))))
theorem kit_applies {a0 a1 a2 a3 : ByteArray} {a4 a5 : Int} {a6 : Bool} {a7 : Int} {a8 : Bool} {c0 c1 c2 c3 : ByteArray} {c4 : Int} {c5 : Bool} :
    partner_applies.f a0 a1 a2 a3 a4 a5 a6 a7 a8 c0 c1 c2 c3 c4 c5 = some (appB a0 a1 a2 a3 a4 a5 a6 c0 c1 c2 c3 c4 c5) := by
  unfold partner_applies.f partner_alike.f appB
  simp only [outside]
  have e : decide (a4 ≤ c4 ∧ c4 ≤ a5) = !decide (c4 < a4 ∨ a5 < c4) := by rw [← decide_not]; congr 1; simp only [eq_iff_iff]; omega
  rw [e]
  generalize decide (c4 < a4 ∨ a5 < c4) = q
  by_cases e0 : a0.toList = c0.toList <;> by_cases e1 : a1.toList = c1.toList <;> by_cases e2 : a2.toList = ([] : List UInt8) <;> by_cases e2' : a2.toList = c2.toList <;> by_cases e3 : a3.toList = ([] : List UInt8) <;> by_cases e3' : a3.toList = c3.toList <;> cases a6 <;> cases c5 <;> cases q <;> simp_all
theorem firstSign_neg : ∀ (l : List Int), firstSign (l.map (-·)) = - firstSign l
  | [] => rfl
  | x :: r => by
    have ih := firstSign_neg r
    simp only [List.map_cons, firstSign]
    by_cases h1 : x < 0
    · rw [if_neg (by omega), if_pos (by omega), if_pos h1]; rfl
    · rw [if_neg h1]
      by_cases h2 : x > 0
      · rw [if_pos (by omega), if_pos h2]
      · rw [if_neg (by omega), if_neg (by omega), if_neg h2, ih]
theorem bet_back (a2 a3 : ByteArray) (a4 a5 : Int) (b2 b3 : ByteArray) (b4 b5 : Int) : betF b2 b3 b4 b5 a2 a3 a4 a5 = - betF a2 a3 a4 a5 b2 b3 b4 b5 := by
  unfold betF
  rw [← firstSign_neg]
  simp only [List.map_cons, List.map_nil]
  congr 1
  simp only [List.cons.injEq, and_true]
  omega
theorem firstSign_cases (l : List Int) : firstSign l = -1 ∨ firstSign l = 0 ∨ firstSign l = 1 := by
  induction l with
  | nil => simp [firstSign]
  | cons x r ih => simp only [firstSign]; (repeat' split) <;> first | exact ih | simp
theorem bet_cases (a2 a3 : ByteArray) (a4 a5 : Int) (b2 b3 : ByteArray) (b4 b5 : Int) : betF a2 a3 a4 a5 b2 b3 b4 b5 = -1 ∨ betF a2 a3 a4 a5 b2 b3 b4 b5 = 0 ∨ betF a2 a3 a4 a5 b2 b3 b4 b5 = 1 := firstSign_cases _
theorem fs_trans : ∀ (ds es : List Int), ds.length = es.length → firstSign ds ≤ 0 → firstSign es ≤ 0 → firstSign (List.zipWith (· + ·) ds es) < 0 ∨ (firstSign ds = 0 ∧ firstSign es = 0 ∧ firstSign (List.zipWith (· + ·) ds es) = 0)
  | [], [], _, _, _ => .inr ⟨rfl, rfl, rfl⟩
  | d :: ds, e :: es, hl, h1, h2 => by
    have ih := fs_trans ds es (by simpa using hl)
    simp only [List.zipWith_cons_cons, firstSign] at *
    by_cases a1 : d < 0
    · by_cases b1 : e > 0
      · rw [if_neg (by omega), if_pos b1] at h2; omega
      · left; rw [if_pos (by omega)]; omega
    · by_cases a2 : d > 0
      · rw [if_neg a1, if_pos a2] at h1; omega
      · rw [if_neg a1, if_neg a2] at h1 ⊢
        by_cases b0 : e < 0
        · left; rw [if_pos (by omega)]; omega
        · by_cases b1 : e > 0
          · rw [if_neg b0, if_pos b1] at h2; omega
          · rw [if_neg b0, if_neg b1] at h2 ⊢
            rw [if_neg (by omega), if_neg (by omega)]
            exact ih h1 h2
theorem bet_trans {a2 a3 b2 b3 c2 c3 : ByteArray} {a4 a5 b4 b5 c4 c5 : Int} (h1 : betF a2 a3 a4 a5 b2 b3 b4 b5 ≤ 0) (h2 : betF b2 b3 b4 b5 c2 c3 c4 c5 ≤ 0) :
    betF a2 a3 a4 a5 c2 c3 c4 c5 < 0 ∨ (betF a2 a3 a4 a5 b2 b3 b4 b5 = 0 ∧ betF b2 b3 b4 b5 c2 c3 c4 c5 = 0 ∧ betF a2 a3 a4 a5 c2 c3 c4 c5 = 0) := by
  have := fs_trans _ _ (by rfl) h1 h2
  have e : List.zipWith (· + ·) [oneIf b2 - oneIf a2, oneIf b3 - oneIf a3, b4 - a4, a5 - b5] [oneIf c2 - oneIf b2, oneIf c3 - oneIf b3, c4 - b4, b5 - c5] = [oneIf c2 - oneIf a2, oneIf c3 - oneIf a3, c4 - a4, a5 - c5] := by
    simp only [List.zipWith_cons_cons, List.zipWith_nil_right, List.cons.injEq, and_true]
    omega
  rw [e] at this
  exact this
/-! partners and their addresses -/
theorem rd31_get (xs : List S31) (i : Nat) (h : i < xs.length) : rd_T31 xs (i : Int) = xs[i] := by
  unfold rd_T31
  rw [Int.toNat_natCast, List.getD_eq_getElem?_getD, List.getElem?_eq_getElem h]
  rfl
theorem rd86_get (xs : List S86) (i : Nat) (h : i < xs.length) : rd_T86 xs (i : Int) = xs[i] := by
  unfold rd_T86
  rw [Int.toNat_natCast, List.getD_eq_getElem?_getD, List.getElem?_eq_getElem h]
  rfl
/-- The fault of an address. -/
def addrF (a b : ByteArray) : Int := if nameB a = true then (if (b.size : Int) < 1 then 3 else if (b.size : Int) > 35 then 3 else if (b.data.toList.all fun c => decide (33 ≤ c.toNat) && decide (c.toNat ≤ 126)) = true then 0 else 3) else 5
theorem addrF_zero {a b : ByteArray} (h : addrF a b = 0) : a.size ≤ 40 ∧ b.size ≤ 35 := by
  unfold addrF at h
  split at h
  · rename_i hn
    simp only [nameB, Bool.and_eq_true, decide_eq_true_eq] at hn
    refine ⟨hn.1.1.1.2, ?_⟩
    split at h
    · cases h
    split at h
    · cases h
    omega
  · cases h
theorem kit_bytes_l (s : ByteArray) (hs : s.size ≤ 140737488351232) (d : Nat) : ∀ (k i : Nat), i ≤ s.size → s.size - i = d → d < k →
    kit_InBytes.l0 k s 33 126 (s.size : Int) i = some ((s.data.toList.drop i).all fun c => decide (33 ≤ c.toNat) && decide (c.toNat ≤ 126)) := by
  induction d with
  | zero =>
    intro k i h1 hd hk
    obtain ⟨k, rfl⟩ : ∃ m, k = m + 1 := ⟨k - 1, by omega⟩
    simp only [kit_InBytes.l0]
    rw [if_neg (by omega), List.drop_of_length_le (by rw [data_length]; omega)]
    rfl
  | succ d ih =>
    intro k i h1 hd hk
    obtain ⟨k, rfl⟩ : ∃ m, k = m + 1 := ⟨k - 1, by omega⟩
    have hlt : i < s.size := by omega
    have hl : i < s.data.toList.length := by rw [data_length]; exact hlt
    have hr := ih k (i + 1) (by omega) (by omega) (by omega)
    simp only [kit_InBytes.l0]
    rw [if_pos (by omega), if_pos (by omega), if_pos (by omega), wrap_up (by omega) (by omega), List.drop_eq_getElem_cons hl, List.all_cons]
    have e1 : ((i : Int) + 1) = ((i + 1 : Nat) : Int) := by omega
    rw [e1, hr, bt_get s i hlt]
    generalize s.data.toList[i] = b
    generalize List.all _ _ = r
    by_cases h1 : 33 ≤ b.toNat
    · by_cases h2 : b.toNat ≤ 126
      · rw [if_neg (by omega), if_neg (by omega)]; simp [h1, h2]
      · rw [if_neg (by omega), if_pos (by omega)]; simp [h2]
    · rw [if_pos (by omega)]; simp [h1]
theorem kit_addr (x : S31) (h : ok31 x) (k : Nat) (hk : 50 ≤ k) : partner_addressFault.f k x.f0 x.f1 = some (addrF x.f0 x.f1) := by
  unfold partner_addressFault.f addrF kit_InBytes.f
  rw [kit_name _ h.1, Option.bind_some]
  by_cases hn : nameB x.f0 = true
  · rw [if_pos hn, if_pos hn]
    by_cases h1 : (x.f1.size : Int) < 1
    · rw [if_pos h1, if_pos h1]
    rw [if_neg h1, if_neg h1]
    by_cases h2 : (x.f1.size : Int) > 35
    · rw [if_pos h2, if_pos h2]
    rw [if_neg h2, if_neg h2]
    have := kit_bytes_l x.f1 h.2 x.f1.size k 0 (by omega) (by omega) (by omega)
    simp only [Int.natCast_zero, List.drop_zero] at this
    rw [this, Option.bind_some]
    generalize List.all _ _ = r
    cases r <;> rfl
  · rw [if_neg hn, if_neg hn]
theorem kit_adr (l : List S86) (i : Nat) (xs : List S31) (hi : i < l.length) (hl : l.length ≤ 200) (hm : xs.length ≤ 10) (hx : ∀ x ∈ xs, ok31 x) (B : Nat) (Q : Int → Prop) (hQ : ∀ v, v ≠ 0 → Q v)
    (next : ∀ (k : Nat) (seen : List S31), B ≤ k → seen.length ≤ 10 * (i + 1) → ∃ v, partner_CheckPartners.l0 k l seen l (l.length : Int) ((i + 1 : Nat) : Int) = some v ∧ Q v)
    (hB : 3000 ≤ B) (e : Nat) : ∀ (k j : Nat) (seen : List S31), j ≤ xs.length → xs.length - j = e → B + e + 1 ≤ k → seen.length ≤ 10 * i + j →
    ∃ v, partner_CheckPartners.l1 k l seen l (l.length : Int) i xs (xs.length : Int) j = some v ∧ Q v := by
  induction e with
  | zero =>
    intro k j seen h1 he hk hs
    obtain ⟨k, rfl⟩ : ∃ m, k = m + 1 := ⟨k - 1, by omega⟩
    have c1 : ¬ ((j : Int) < xs.length) := by omega
    have hn := next k seen (by omega) (by omega)
    have w1 : wrap64 ((i : Int) + 1) = ((i + 1 : Nat) : Int) := by rw [wrap_up (by omega) (by omega)]; omega
    simp only [partner_CheckPartners.l1, c1, ↓reduceIte, w1]
    exact hn
  | succ e ih =>
    intro k j seen h1 he hk hs
    obtain ⟨k, rfl⟩ : ∃ m, k = m + 1 := ⟨k - 1, by omega⟩
    have hj : j < xs.length := by omega
    have c1 : (j : Int) < xs.length := by omega
    have c0 : (0 : Int) ≤ j := by omega
    have w2 : wrap64 ((j : Int) + 1) = ((j + 1 : Nat) : Int) := by rw [wrap_up (by omega) (by omega)]; omega
    simp only [partner_CheckPartners.l1, c1, c0, ↓reduceIte, rd31_get xs j hj, w2]
    clear w2
    have ho := hx xs[j] (List.getElem_mem hj)
    rw [kit_addr _ ho k (by omega)]
    simp only [Option.bind_some]
    by_cases hf : addrF xs[j].f0 xs[j].f1 = 0
    · have hz := addrF_zero hf
      rw [if_pos hf]
      have s1 : xs[j].f0.size ≤ 1000 ∧ xs[j].f1.size ≤ 1000 := ⟨by omega, by omega⟩
      have s2 : xs[j].f0.size ≤ 1000 ∧ xs[j].f1.size ≤ 1000 ∧ seen.length < 1099511627776 := ⟨by omega, by omega, by omega⟩
      simp only [map_has_adr.f, map_put_adr.f]
      rw [if_pos s1]
      simp only [Option.bind_some]
      rw [if_pos s2]
      simp only [Option.bind_some]
      cases seen.any (adrSame ⟨xs[j].f0, xs[j].f1⟩)
      · simp only [Bool.false_eq_true, ↓reduceIte]
        exact ih k (j + 1) _ (by omega) (by omega) (by omega) (by simp; omega)
      · rw [if_pos rfl]; exact ⟨_, rfl, hQ _ (by decide)⟩
    · rw [if_neg hf]; exact ⟨_, rfl, hQ _ hf⟩
/-- The names rise from a place on. -/
def Rising (l : List S86) (i : Nat) : Prop := ∀ j, i ≤ j → j < l.length → 0 < j → Op.bytesLess (rd_T86 l ((j : Int) - 1)).f0.toList (rd_T86 l j).f0.toList = true
theorem kit_l (l : List S86) (hl : l.length ≤ 200) (hx : ∀ x ∈ l, ok86 x) (d : Nat) : ∀ (k i : Nat) (seen : List S31), i ≤ l.length → l.length - i = d → 3001 + 14 * d ≤ k → seen.length ≤ 10 * i →
    ∃ v, partner_CheckPartners.l0 k l seen l (l.length : Int) i = some v ∧ (v = 0 → Rising l i ∧ ∀ j, i ≤ j → j < l.length → nameB (rd_T86 l j).f0 = true) := by
  induction d with
  | zero =>
    intro k i seen h1 hd hk hs
    obtain ⟨k, rfl⟩ : ∃ m, k = m + 1 := ⟨k - 1, by omega⟩
    simp only [partner_CheckPartners.l0]
    rw [if_neg (by omega)]
    exact ⟨_, rfl, fun _ => ⟨fun j h1 h2 => by omega, fun j h1 h2 => by omega⟩⟩
  | succ d ih =>
    intro k i seen h1 hd hk hs
    obtain ⟨k, rfl⟩ : ∃ m, k = m + 1 := ⟨k - 1, by omega⟩
    have hi : i < l.length := by omega
    have ho := hx l[i] (List.getElem_mem hi)
    have hj : ∀ b : Bool, nameB l[i].f0 = true → (b = false → 0 < i → Op.bytesLess (rd_T86 l ((i : Int) - 1)).f0.toList (rd_T86 l i).f0.toList = true) →
        ∃ v, partner_CheckPartners.j1 k l seen l (l.length : Int) i b l[i].f0 l[i].f1 = some v ∧ (v = 0 → Rising l i ∧ ∀ j, i ≤ j → j < l.length → nameB (rd_T86 l j).f0 = true) := by
      intro b hnm hb
      obtain ⟨k, rfl⟩ : ∃ m, k = m + 1 := ⟨k - 1, by omega⟩
      simp only [partner_CheckPartners.j1]
      cases b
      · simp only [Bool.false_eq_true, ↓reduceIte]
        by_cases hm : (l[i].f1.length : Int) > 10
        · rw [if_pos hm]; exact ⟨_, rfl, fun h => by cases h⟩
        · rw [if_neg hm]
          refine kit_adr l i l[i].f1 hi hl (by omega) ho.2.2.2 (3001 + 14 * d) (fun v => v = 0 → Rising l i ∧ ∀ j, i ≤ j → j < l.length → nameB (rd_T86 l j).f0 = true) (fun v hv h => absurd h hv) (fun k seen hk hs => ?_) (by omega) l[i].f1.length k 0 seen (by omega) (by omega) (by omega) (by omega)
          obtain ⟨v, e, q⟩ := ih k (i + 1) seen (by omega) (by omega) hk hs
          refine ⟨v, e, fun hv => ?_⟩
          obtain ⟨r, n⟩ := q hv
          refine ⟨fun j a b c => ?_, fun j a b => ?_⟩
          · by_cases e : j = i
            · subst e; exact hb rfl c
            · exact r j (by omega) b c
          · by_cases e : j = i
            · subst e; rw [rd86_get l j hi]; exact hnm
            · exact n j (by omega) b
      · rw [if_pos rfl]; exact ⟨_, rfl, fun h => by cases h⟩
    have c1 : (i : Int) < l.length := by omega
    have c0 : (0 : Int) ≤ i := by omega
    simp only [partner_CheckPartners.l0, c1, c0, ↓reduceIte, rd86_get l i hi, kit_name _ ho.1, Option.bind_some]
    by_cases hn : nameB l[i].f0 = true
    · rw [if_pos hn]
      by_cases h0 : (i : Int) > 0
      · have p1 : (0 : Int) ≤ (i : Int) - 1 := by omega
        have p2 : (i : Int) - 1 < l.length := by omega
        have w1 : wrap64 ((i : Int) - 1) = (i : Int) - 1 := by unfold wrap64; omega
        rw [if_pos h0, w1, if_pos p1, if_pos p2]
        exact hj _ hn (fun hb _ => by rw [rd86_get l i hi]; simpa using hb)
      · rw [if_neg h0]; exact hj _ hn (fun _ h => by omega)
    · rw [if_neg hn]; exact ⟨_, rfl, fun h => by cases h⟩
theorem kit_check (l : List S86) (hx : ∀ x ∈ l, ok86 x) (k : Nat) (hk : 10000 ≤ k) : ∃ v, partner_CheckPartners.f k l = some v ∧ (v = 0 → l.length ≤ 200 ∧ Rising l 0 ∧ ∀ j, j < l.length → nameB (rd_T86 l j).f0 = true) := by
  unfold partner_CheckPartners.f map_mk_adr.f
  by_cases h : (l.length : Int) > 200
  · rw [if_pos h]; exact ⟨_, rfl, fun h => by cases h⟩
  · rw [if_neg h, Option.bind_some]
    obtain ⟨v, e, q⟩ := kit_l l (by omega) hx l.length k 0 [] (by omega) (by omega) (by omega) (by simp)
    exact ⟨v, e, fun hv => ⟨by omega, (q hv).1, fun j hj => (q hv).2 j (by omega) hj⟩⟩
structure S37 where
  f0 : ByteArray
  f1 : ByteArray
  f2 : ByteArray
  f3 : ByteArray
  f4 : Int
  f5 : Bool
def ok37 (x : S37) : Prop := (x.f0).size ≤ 140737488351232 ∧ (x.f1).size ≤ 140737488351232 ∧ (x.f2).size ≤ 140737488351232 ∧ (x.f3).size ≤ 140737488351232 ∧ (Lit.int .i64 x.f4).wf = true ∧ True
/-! what is found: the program alone -/
theorem rd23_get (xs : List S23) (i : Nat) (h : i < xs.length) : rd_T23 xs (i : Int) = xs[i] := by
  unfold rd_T23
  rw [Int.toNat_natCast, List.getD_eq_getElem?_getD, List.getElem?_eq_getElem h]
  rfl
theorem u64_id {x : Int} (h0 : 0 ≤ x) (h1 : x < 18446744073709551616) : IntKind.u64.wrap x = x := by
  simp [IntKind.wrap, IntKind.signed, IntKind.bits]; omega
theorem mid_eq {a b : Int} (ha : 0 ≤ a) (hb : 0 ≤ b) (h : a + b < 9223372036854775807) : wrap64 ((IntKind.u64.wrap (wrap64 (a + b))) / 2) = (a + b) / 2 := by
  have e : wrap64 (a + b) = a + b := by unfold wrap64; omega
  rw [e, u64_id (by omega) (by omega)]
  unfold wrap64; omega
def agf (a : S23) : Int := agF a.f0 a.f1 a.f2 a.f3 a.f4 a.f5 a.f7
def bet (a b : S23) : Int := betF a.f2 a.f3 a.f4 a.f5 b.f2 b.f3 b.f4 b.f5
def app (a : S23) (c : S37) : Bool := appB a.f0 a.f1 a.f2 a.f3 a.f4 a.f5 a.f6 c.f0 c.f1 c.f2 c.f3 c.f4 c.f5
theorem agf_days {a : S23} (h : agf a = 0) : (1 ≤ a.f4 ∧ a.f4 ≤ 3652059) ∧ (1 ≤ a.f5 ∧ a.f5 ≤ 3652059) := by
  have z := agF_zero h
  exact ⟨⟨z.2.2.2.2.1, z.2.2.2.2.2.1⟩, by omega, by omega⟩
theorem bsearch_total (l : List S86) (s : ByteArray) (hl : l.length ≤ 140737488351232) (d : Nat) : ∀ (k lo hi : Nat), lo ≤ hi → hi ≤ l.length → hi - lo ≤ d → d < k →
    ∃ r, fn_bsearch_partner.l0 k l s (l.length : Int) lo hi = some r := by
  induction d with
  | zero =>
    intro k lo hi h1 h2 h3 h4
    obtain ⟨k, rfl⟩ : ∃ m, k = m + 1 := ⟨k - 1, by omega⟩
    simp only [fn_bsearch_partner.l0]
    rw [if_neg (by omega)]
    by_cases h : (lo : Int) < l.length
    · rw [if_pos h, if_pos (by omega), if_pos h]
      simp [partner_isPartner_1.f, strings_Compare.f]
    · rw [if_neg h]; exact ⟨_, rfl⟩
  | succ d ih =>
    intro k lo hi h1 h2 h3 h4
    obtain ⟨k, rfl⟩ : ∃ m, k = m + 1 := ⟨k - 1, by omega⟩
    simp only [fn_bsearch_partner.l0]
    by_cases h : (lo : Int) < hi
    · have hm : ((lo : Int) + hi) / 2 = (((lo + hi) / 2 : Nat) : Int) := by omega
      have m0 : (0 : Int) ≤ (((lo + hi) / 2 : Nat) : Int) := by omega
      have m1 : (((lo + hi) / 2 : Nat) : Int) < l.length := by omega
      have g1 := ih k ((lo + hi) / 2 + 1) hi (by omega) h2 (by omega) (by omega)
      have g2 := ih k lo ((lo + hi) / 2) (by omega) (by omega) (by omega) (by omega)
      rw [if_pos h, mid_eq (by omega) (by omega) (by omega), hm, if_pos m0, if_pos m1]
      have w : wrap64 ((((lo + hi) / 2 : Nat) : Int) + 1) = (((lo + hi) / 2 + 1 : Nat) : Int) := by rw [wrap_up (by omega) (by omega)]; omega
      rw [w]
      clear w
      simp only [partner_isPartner_1.f, strings_Compare.f, Option.bind_some]
      split
      · exact g1
      · exact g2
    · rw [if_neg h]
      by_cases h : (lo : Int) < l.length
      · rw [if_pos h, if_pos (by omega), if_pos h]
        simp [partner_isPartner_1.f, strings_Compare.f]
      · rw [if_neg h]; exact ⟨_, rfl⟩
theorem isP_total (l : List S86) (s : ByteArray) (hl : l.length ≤ 140737488351232) (k : Nat) (hk : l.length < k) : ∃ b, partner_isPartner.f k l s = some b := by
  unfold partner_isPartner.f fn_bsearch_partner.f
  obtain ⟨r, h⟩ := bsearch_total l s hl l.length k 0 l.length (by omega) (by omega) (by omega) hk
  simp only [Int.natCast_zero] at h
  rw [h]
  exact ⟨_, rfl⟩
theorem agrees_l (p : List S86) (l : List S23) (hp : p.length ≤ 200) (hl : l.length ≤ 200) (hx : ∀ x ∈ l, ok23 x) (d : Nat) : ∀ (k i : Nat), i ≤ l.length → l.length - i = d → 300 + 2 * d ≤ k →
    ∃ v, partner_CheckAgreements.l0 k p l (l.length : Int) i = some v ∧ (v = 0 → ∀ j, i ≤ j → j < l.length → agf (rd_T23 l j) = 0) := by
  induction d with
  | zero =>
    intro k i h1 hd hk
    obtain ⟨k, rfl⟩ : ∃ m, k = m + 1 := ⟨k - 1, by omega⟩
    simp only [partner_CheckAgreements.l0]
    rw [if_neg (by omega)]
    exact ⟨_, rfl, fun _ j h1 h2 => by omega⟩
  | succ d ih =>
    intro k i h1 hd hk
    obtain ⟨k, rfl⟩ : ∃ m, k = m + 1 := ⟨k - 1, by omega⟩
    have hi : i < l.length := by omega
    have ho := hx l[i] (List.getElem_mem hi)
    have c1 : (i : Int) < l.length := by omega
    have c0 : (0 : Int) ≤ i := by omega
    have hj : ∀ b : Bool, ∃ v, partner_CheckAgreements.j1 k p l (l.length : Int) i b l[i].f0 l[i].f1 l[i].f2 l[i].f3 l[i].f4 l[i].f5 l[i].f6 l[i].f7 l[i].f8 = some v ∧ (v = 0 → ∀ j, i ≤ j → j < l.length → agf (rd_T23 l j) = 0) := by
      intro b
      obtain ⟨k, rfl⟩ : ∃ m, k = m + 1 := ⟨k - 1, by omega⟩
      simp only [partner_CheckAgreements.j1]
      cases b
      · simp only [Bool.false_eq_true, ↓reduceIte]
        rw [own_fault ho.2.2.1 ho.2.2.2.1 k (by omega), Option.bind_some]
        by_cases h0 : agF l[i].f0 l[i].f1 l[i].f2 l[i].f3 l[i].f4 l[i].f5 l[i].f7 = 0
        · obtain ⟨v, e, q⟩ := ih k (i + 1) (by omega) (by omega) (by omega)
          have w1 : wrap64 ((i : Int) + 1) = ((i + 1 : Nat) : Int) := by rw [wrap_up (by omega) (by omega)]; omega
          rw [if_pos h0, w1]
          refine ⟨v, e, fun hv j a b => ?_⟩
          by_cases e : j = i
          · subst e; rw [rd23_get l j hi]; exact h0
          · exact q hv j (by omega) b
        · rw [if_neg h0]; exact ⟨_, rfl, fun h => absurd h h0⟩
      · rw [if_pos rfl]; exact ⟨_, rfl, fun h => by cases h⟩
    simp only [partner_CheckAgreements.l0, c1, c0, ↓reduceIte, rd23_get l i hi]
    obtain ⟨b1, e1⟩ := isP_total p l[i].f0 (by omega) k (by omega)
    obtain ⟨b2, e2⟩ := isP_total p l[i].f1 (by omega) k (by omega)
    rw [e1, e2]
    simp only [Option.bind_some]
    cases b1
    · simp only [Bool.false_eq_true, ↓reduceIte]; exact hj _
    · rw [if_pos rfl]; exact hj _
theorem kit_agrees (p : List S86) (l : List S23) (hp : ∀ x ∈ p, ok86 x) (hx : ∀ x ∈ l, ok23 x) (k : Nat) (hk : 10000 ≤ k) : ∃ v, partner_CheckAgreements.f k p l = some v ∧ (v = 0 → p.length ≤ 200 ∧ l.length ≤ 200 ∧ ∀ j, j < l.length → agf (rd_T23 l j) = 0) := by
  unfold partner_CheckAgreements.f
  obtain ⟨v, e, q⟩ := kit_check p hp k hk
  rw [e, Option.bind_some]
  by_cases hv : v = 0
  · rw [if_pos hv]
    obtain ⟨q1, _, _⟩ := q hv
    by_cases h : (l.length : Int) > 200
    · rw [if_pos h]; exact ⟨_, rfl, fun h => by cases h⟩
    · rw [if_neg h]
      obtain ⟨v2, e2, q2⟩ := agrees_l p l q1 (by omega) hx l.length k 0 (by omega) (by omega) (by omega)
      exact ⟨v2, e2, fun h2 => ⟨q1, by omega, fun j hj => q2 h2 j (by omega) hj⟩⟩
  · rw [if_neg hv]; exact ⟨_, rfl, fun h => absurd h hv⟩
theorem kit_asked (p : List S86) (l : List S23) (c : S37) (hp : ∀ x ∈ p, ok86 x) (hx : ∀ x ∈ l, ok23 x) (hc : ok37 c) (k : Nat) (hk : 10000 ≤ k) :
    ∃ v, partner_askedFault.f k p l c.f0 c.f1 c.f2 c.f3 c.f4 c.f5 = some v ∧ (v = 0 → l.length ≤ 200 ∧ (∀ j, j < l.length → agf (rd_T23 l j) = 0) ∧ caseF c.f0 c.f1 c.f2 c.f3 c.f4 = 0) := by
  unfold partner_askedFault.f
  obtain ⟨v, e, q⟩ := kit_agrees p l hp hx k hk
  rw [e, Option.bind_some]
  by_cases hv : v = 0
  · obtain ⟨q0, q1, q2⟩ := q hv
    rw [if_pos hv, kit_case hc.1 hc.2.1 hc.2.2.1 hc.2.2.2.1 k (by omega), Option.bind_some]
    by_cases hf : caseF c.f0 c.f1 c.f2 c.f3 c.f4 = 0
    · obtain ⟨b1, e1⟩ := isP_total p c.f0 (by omega) k (by omega)
      obtain ⟨b2, e2⟩ := isP_total p c.f1 (by omega) k (by omega)
      rw [if_pos hf, e1, e2]
      simp only [Option.bind_some]
      cases b1 <;> cases b2 <;> simp <;> exact ⟨by omega, q2, hf⟩
    · rw [if_neg hf]; exact ⟨_, rfl, fun h => absurd h hf⟩
  · rw [if_neg hv]; exact ⟨_, rfl, fun h => absurd h hv⟩
/-- The best of the first ones. -/
def Best (l : List S23) (c : S37) (i : Nat) (b : Int) : Prop :=
  (b = -1 ∧ ∀ j : Nat, j < i → app (rd_T23 l j) c = false) ∨
  ∃ n : Nat, b = n ∧ n < i ∧ app (rd_T23 l n) c = true ∧ ∀ j : Nat, j < i → app (rd_T23 l j) c = true → 0 ≤ bet (rd_T23 l j) (rd_T23 l n) ∧ (bet (rd_T23 l j) (rd_T23 l n) = 0 → n ≤ j)
theorem bet_anti (a b : S23) : bet b a = - bet a b := bet_back _ _ _ _ _ _ _ _
theorem bet_self (a : S23) : bet a a = 0 := by have := bet_anti a a; omega
theorem bet_tr {a b c : S23} (h1 : bet a b ≤ 0) (h2 : bet b c ≤ 0) : bet a c < 0 ∨ (bet a b = 0 ∧ bet b c = 0 ∧ bet a c = 0) := bet_trans h1 h2
theorem find_l (l : List S23) (c : S37) (hl : l.length ≤ 200) (ha : ∀ j : Nat, j < l.length → agf (rd_T23 l j) = 0) (d : Nat) : ∀ (k i : Nat) (b : Int), i ≤ l.length → l.length - i = d → 60 + d ≤ k → Best l c i b →
    ∃ b', partner_find.l0 k l b l (l.length : Int) i c.f0 c.f1 c.f2 c.f3 c.f4 c.f5 = some b' ∧ Best l c l.length b' := by
  induction d with
  | zero =>
    intro k i b h1 hd hk hb
    obtain ⟨k, rfl⟩ : ∃ m, k = m + 1 := ⟨k - 1, by omega⟩
    simp only [partner_find.l0]
    rw [if_neg (by omega)]
    obtain rfl : i = l.length := by omega
    exact ⟨_, rfl, hb⟩
  | succ d ih =>
    intro k i b h1 hd hk hb
    obtain ⟨k, rfl⟩ : ∃ m, k = m + 1 := ⟨k - 1, by omega⟩
    have hi : i < l.length := by omega
    have c1 : (i : Int) < l.length := by omega
    have c0 : (0 : Int) ≤ i := by omega
    have nx := fun b hb => ih k (i + 1) b (by omega) (by omega) (by omega) hb
    have w1 : wrap64 ((i : Int) + 1) = ((i + 1 : Nat) : Int) := by rw [wrap_up (by omega) (by omega)]; omega
    simp only [partner_find.l0, c1, c0, ↓reduceIte, kit_applies, Option.bind_some, w1]
    clear w1
    have hA : appB (rd_T23 l i).f0 (rd_T23 l i).f1 (rd_T23 l i).f2 (rd_T23 l i).f3 (rd_T23 l i).f4 (rd_T23 l i).f5 (rd_T23 l i).f6 c.f0 c.f1 c.f2 c.f3 c.f4 c.f5 = app (rd_T23 l i) c := rfl
    rw [hA]
    cases happ : app (rd_T23 l i) c
    · simp only [Bool.false_eq_true, ↓reduceIte]
      refine nx b ?_
      rcases hb with ⟨e, h⟩ | ⟨n, e, hn, hp, h⟩
      · exact .inl ⟨e, fun j hj => by by_cases e : j = i; subst e; exact happ; exact h j (by omega)⟩
      · refine .inr ⟨n, e, by omega, hp, fun j hj hjp => ?_⟩
        by_cases e : j = i
        · subst e; rw [happ] at hjp; cases hjp
        · exact h j (by omega) hjp
    · rw [if_pos rfl]
      rcases hb with ⟨e, h⟩ | ⟨n, e, hn, hp, h⟩
      · rw [if_pos (by omega)]
        refine nx i (.inr ⟨i, rfl, by omega, happ, fun j hj hjp => ?_⟩)
        by_cases e : j = i
        · subst e; exact ⟨by rw [bet_self]; omega, fun _ => by omega⟩
        · have := h j (by omega); rw [this] at hjp; cases hjp
      · subst e
        have hnl : n < l.length := by omega
        obtain ⟨g4, g5⟩ := agf_days (ha i hi)
        obtain ⟨m4, m5⟩ := agf_days (ha n hnl)
        rw [if_neg (by omega), if_pos (by omega), if_pos (by omega), kit_better g4 g5 m4 m5 k (by omega), Option.bind_some]
        have hB : betF (rd_T23 l i).f2 (rd_T23 l i).f3 (rd_T23 l i).f4 (rd_T23 l i).f5 (rd_T23 l n).f2 (rd_T23 l n).f3 (rd_T23 l n).f4 (rd_T23 l n).f5 = bet (rd_T23 l i) (rd_T23 l n) := rfl
        rw [hB]
        by_cases hlt : bet (rd_T23 l i) (rd_T23 l n) < 0
        · rw [if_pos hlt]
          refine nx i (.inr ⟨i, rfl, by omega, happ, fun j hj hjp => ?_⟩)
          by_cases e : j = i
          · subst e; exact ⟨by rw [bet_self]; omega, fun _ => by omega⟩
          · have h1 := (h j (by omega) hjp).1
            have h2 := bet_anti (rd_T23 l j) (rd_T23 l n)
            have h3 := bet_anti (rd_T23 l i) (rd_T23 l j)
            rcases bet_tr (show bet (rd_T23 l i) (rd_T23 l n) ≤ 0 by omega) (show bet (rd_T23 l n) (rd_T23 l j) ≤ 0 by omega) with h4 | h4
            · exact ⟨by omega, fun _ => by omega⟩
            · omega
        · rw [if_neg hlt]
          refine nx n (.inr ⟨n, rfl, by omega, hp, fun j hj hjp => ?_⟩)
          by_cases e : j = i
          · subst e; exact ⟨by omega, fun _ => by omega⟩
          · exact h j (by omega) hjp
theorem kit_find (l : List S23) (c : S37) (hl : l.length ≤ 200) (ha : ∀ j : Nat, j < l.length → agf (rd_T23 l j) = 0) (k : Nat) (hk : 1000 ≤ k) :
    ∃ b, partner_find.f k l c.f0 c.f1 c.f2 c.f3 c.f4 c.f5 = some b ∧ Best l c l.length b := by
  unfold partner_find.f
  have := find_l l c hl ha l.length k 0 (-1) (by omega) (by omega) (by omega) (.inl ⟨rfl, fun j h => by omega⟩)
  simpa using this
/-! lists that are sorted, and such that lost their doubles -/
def dd : List Int → List Int
  | [] => []
  | [a] => [a]
  | a :: b :: r => if a = b then dd (b :: r) else a :: dd (b :: r)
theorem dd_snoc (x : Int) : ∀ l : List Int, dd (l ++ [x]) = dd l ++ (if l.getLast? = some x then [] else [x])
  | [] => rfl
  | [a] => by
    by_cases e : a = x
    · subst e; simp [dd]
    · simp [dd, e]
  | a :: b :: r => by
    have ih := dd_snoc x (b :: r)
    simp only [List.cons_append, dd] at *
    have hl : (a :: b :: r).getLast? = (b :: r).getLast? := by simp
    rw [hl]
    by_cases e : a = b
    · rw [if_pos e, if_pos e]; exact ih
    · rw [if_neg e, if_neg e, List.cons_append, ← ih]
open Go.Lib in
theorem compact_snoc (l : List Int) (x : Int) : compact (l ++ [x]) = compact l ++ (if l.getLast? = some x then [] else [x]) := by
  unfold compact
  rw [List.length_append, List.length_singleton, compactUpTo_succ]
  have h1 : compactUpTo (l ++ [x]).toArray l.length = compactUpTo l.toArray l.length := by
    unfold compactUpTo
    have hf : ∀ j, j < l.length → (l ++ [x]).toArray[j]! = l.toArray[j]! := by
      intro j hj
      rw [getElem!_pos _ _ (by simp; omega), getElem!_pos _ _ (by simpa using hj)]
      simp [List.getElem_append_left hj]
    have hk : ∀ j ∈ List.range l.length, keeps (l ++ [x]).toArray j = keeps l.toArray j := by
      intro j hj
      have hj := List.mem_range.1 hj
      unfold keeps
      rw [hf j hj, hf (j - 1) (by omega)]
    rw [List.filter_congr hk]
    refine List.map_congr_left fun j hj => hf j (List.mem_range.1 (List.mem_filter.1 hj).1)
  rw [h1]
  congr 1
  have hx : (l ++ [x]).toArray[l.length]! = x := by rw [getElem!_pos _ _ (by simp)]; simp
  rw [hx]
  rcases l.eq_nil_or_concat with rfl | ⟨l, y, rfl⟩
  · simp [keeps]
  · rw [List.concat_eq_append] at *
    have hy : (l ++ [y] ++ [x]).toArray[(l ++ [y]).length - 1]! = y := by rw [getElem!_pos _ _ (by simp)]; simp
    unfold keeps
    rw [hx, hy]
    by_cases e : y = x
    · simp [e]
    · simp [e, Ne.symm e]
theorem compact_dd' : ∀ (n : Nat) (l : List Int), l.length = n → Go.Lib.compact l = dd l
  | 0, l, h => by
    obtain rfl := List.length_eq_zero_iff.1 h
    rfl
  | n + 1, l, h => by
    rcases l.eq_nil_or_concat with rfl | ⟨l, y, rfl⟩
    · rfl
    · rw [List.concat_eq_append] at *
      rw [compact_snoc, dd_snoc, compact_dd' n l (by simpa using h)]
theorem compact_dd (l : List Int) : Go.Lib.compact l = dd l := compact_dd' _ l rfl
theorem dd_mem : ∀ (l : List Int) (x : Int), x ∈ dd l → x ∈ l
  | [], x, h => h
  | [a], x, h => h
  | a :: b :: r, x, h => by
    simp only [dd] at h
    split at h
    · exact List.mem_cons_of_mem _ (dd_mem (b :: r) x h)
    · rcases List.mem_cons.1 h with rfl | h
      · simp
      · exact List.mem_cons_of_mem _ (dd_mem (b :: r) x h)
theorem dd_len : ∀ l : List Int, (dd l).length ≤ l.length
  | [] => Nat.le_refl _
  | [a] => Nat.le_refl _
  | a :: b :: r => by
    have := dd_len (b :: r)
    simp only [dd]
    split <;> simp only [List.length_cons] at * <;> omega
abbrev srt (l : List Int) : List Int := l.mergeSort fun x y => decide (x ≤ y)
theorem srt_le (l : List Int) : (srt l).Pairwise (· ≤ ·) := by
  have := List.pairwise_mergeSort (le := fun (x y : Int) => decide (x ≤ y)) (fun a b c h1 h2 => by simp at *; omega) (fun a b => by simp; omega) l
  simpa using this
theorem mem_dd : ∀ (l : List Int) (x : Int), x ∈ l → x ∈ dd l
  | [], x, h => h
  | [a], x, h => h
  | a :: b :: r, x, h => by
    have ih := mem_dd (b :: r) x
    simp only [dd]
    by_cases e : a = b
    · rw [if_pos e]
      subst e
      rcases List.mem_cons.1 h with rfl | h
      · exact ih (by simp)
      · exact ih h
    · rw [if_neg e]
      rcases List.mem_cons.1 h with rfl | h
      · simp
      · exact List.mem_cons_of_mem _ (ih h)
theorem dd_lt : ∀ (l : List Int), l.Pairwise (· ≤ ·) → (dd l).Pairwise (· < ·)
  | [], _ => List.Pairwise.nil
  | [a], _ => by simp [dd]
  | a :: b :: r, h => by
    have h2 := (List.pairwise_cons.1 h)
    have ih := dd_lt (b :: r) h2.2
    simp only [dd]
    by_cases e : a = b
    · rw [if_pos e]; exact ih
    · rw [if_neg e]
      refine List.pairwise_cons.2 ⟨fun x hx => ?_, ih⟩
      have hx := dd_mem _ _ hx
      have h3 := h2.1 b (by simp)
      rcases List.mem_cons.1 hx with rfl | hx
      · omega
      · have := (List.pairwise_cons.1 h2.2).1 x hx
        omega
/-! days -/
def onDay (c : S37) (d : Int) : S37 := ⟨c.f0, c.f1, c.f2, c.f3, d, c.f5⟩
theorem best_unique {l : List S23} {c : S37} {n : Nat} {b b' : Int} (h : Best l c n b) (h' : Best l c n b') : b = b' := by
  rcases h with ⟨e, h⟩ | ⟨m, e, hm, hp, h⟩ <;> rcases h' with ⟨e', h'⟩ | ⟨m', e', hm', hp', h'⟩
  · rw [e, e']
  · rw [h m' hm'] at hp'; cases hp'
  · rw [h' m hm] at hp; cases hp
  · have q1 := h m' hm' hp'
    have q2 := h' m hm hp
    have q3 := bet_anti (rd_T23 l m) (rd_T23 l m')
    have q4 := q1.2 (by omega)
    have q5 := q2.2 (by omega)
    rw [e, e']; omega
theorem find_is {l : List S23} {c : S37} {b : Int} (hl : l.length ≤ 200) (ha : ∀ j : Nat, j < l.length → agf (rd_T23 l j) = 0) (h : Best l c l.length b) (k : Nat) (hk : 1000 ≤ k) :
    partner_find.f k l c.f0 c.f1 c.f2 c.f3 c.f4 c.f5 = some b := by
  obtain ⟨b', e, h'⟩ := kit_find l c hl ha k hk
  rw [e, best_unique h' h]
/-- Two days at which the same agreements apply. -/
def SameDays (l : List S23) (d e : Int) : Prop := ∀ j : Nat, j < l.length → (((rd_T23 l j).f4 ≤ d ∧ d ≤ (rd_T23 l j).f5) ↔ ((rd_T23 l j).f4 ≤ e ∧ e ≤ (rd_T23 l j).f5))
theorem app_same {l : List S23} {c : S37} {d e : Int} (h : SameDays l d e) (j : Nat) (hj : j < l.length) : app (rd_T23 l j) (onDay c d) = app (rd_T23 l j) (onDay c e) := by
  unfold app appB onDay
  simp only [h j hj]
theorem best_same {l : List S23} {c : S37} {d e : Int} {b : Int} (h : SameDays l d e) (hb : Best l (onDay c d) l.length b) : Best l (onDay c e) l.length b := by
  rcases hb with ⟨e1, h1⟩ | ⟨m, e1, hm, hp, h1⟩
  · exact .inl ⟨e1, fun j hj => by rw [← app_same h j hj]; exact h1 j hj⟩
  · exact .inr ⟨m, e1, hm, by rw [← app_same h m hm]; exact hp, fun j hj hjp => h1 j hj (by rw [app_same h j hj]; exact hjp)⟩
/-- A day on which something can change. -/
def Turn (l : List S23) (from_ d : Int) (i : Nat) : Prop := d = from_ ∨ (from_ < d ∧ d ≤ 3652059 ∧ ∃ j : Nat, j < i ∧ (d = (rd_T23 l j).f4 ∨ d = (rd_T23 l j).f5 + 1))
theorem wr_id {x : Int} (h0 : -9223372036854775808 ≤ x) (h1 : x < 9223372036854775808) : wrap64 x = x := by unfold wrap64; omega
theorem changes_two (l : List S23) (from_ x y : Int) (acc : List Int) (i : Nat) (hi : i < l.length) (hl : l.length ≤ 200) (hacc : acc.length ≤ 1 + 2 * i) (k : Nat) :
    partner_changes.l1 (k + 3) from_ acc l (l.length : Int) i [x, y] 2 0 = partner_changes.l0 k from_ (acc ++ [x, y].filter (fun d => decide (from_ < d) && decide (d ≤ 3652059))) l (l.length : Int) ((i + 1 : Nat) : Int) := by
  have w0 : wrap64 1 = 1 := by unfold wrap64; omega
  have w1 : wrap64 2 = 2 := by unfold wrap64; omega
  have a1 : acc.length < 17592186044416 := by omega
  have a2 : acc.length + 1 < 17592186044416 := by omega
  have w2 : wrap64 ((i : Int) + 1) = ((i + 1 : Nat) : Int) := by rw [wr_id (by omega) (by omega)]; omega
  by_cases h1 : from_ < x <;> by_cases h2 : x ≤ 3652059 <;> by_cases h3 : from_ < y <;> by_cases h4 : y ≤ 3652059 <;>
    simp [partner_changes.l1, rd, w0, w1, h1, h2, h3, h4, a1, a2, w2]
theorem changes_l (l : List S23) (from_ : Int) (hl : l.length ≤ 200) (ha : ∀ j : Nat, j < l.length → agf (rd_T23 l j) = 0) (d : Nat) : ∀ (k i : Nat) (acc : List Int), i ≤ l.length → l.length - i = d → 10 + 4 * d ≤ k → acc.length ≤ 1 + 2 * i →
    (∀ x, x ∈ acc ↔ Turn l from_ x i) → ∃ ys, partner_changes.l0 k from_ acc l (l.length : Int) i = some ys ∧ ys.length ≤ 401 ∧ ys.Pairwise (· < ·) ∧ ∀ x, x ∈ ys ↔ Turn l from_ x l.length := by
  induction d with
  | zero =>
    intro k i acc h1 hd hk hacc hm
    obtain ⟨k, rfl⟩ : ∃ m, k = m + 1 := ⟨k - 1, by omega⟩
    obtain rfl : i = l.length := by omega
    have c1 : ¬ (((l.length : Nat) : Int) < l.length) := by omega
    have e1 : slices_Sort_int_int.f acc = some (srt acc) := by unfold slices_Sort_int_int.f; rw [if_pos (by omega)]
    have e2 : slices_Compact_int_int.f (srt acc) = some (dd (srt acc)) := by
      unfold slices_Compact_int_int.f
      have : (srt acc).length = acc.length := by simp [srt]
      rw [if_pos (by omega), compact_dd]
    simp only [partner_changes.l0, c1, ↓reduceIte, e1, e2, Option.bind_some]
    have hmem : ∀ x, x ∈ srt acc ↔ x ∈ acc := fun x => List.mem_mergeSort
    refine ⟨_, rfl, ?_, dd_lt _ (srt_le acc), fun x => ?_⟩
    · have := dd_len (srt acc)
      have h2 : (srt acc).length = acc.length := by simp [srt]
      omega
    · rw [← hm x, ← hmem x]
      exact ⟨dd_mem _ _, mem_dd _ _⟩
  | succ d ih =>
    intro k i acc hle hd hk hacc hm
    obtain ⟨k, rfl⟩ : ∃ m, k = m + 4 := ⟨k - 4, by omega⟩
    have hi : i < l.length := by omega
    have c1 : (i : Int) < l.length := by omega
    have c0 : (0 : Int) ≤ i := by omega
    obtain ⟨g4, g5⟩ := agf_days (ha i hi)
    have w5 : wrap64 ((rd_T23 l i).f5 + 1) = (rd_T23 l i).f5 + 1 := wr_id (by omega) (by omega)
    simp only [partner_changes.l0, c1, c0, ↓reduceIte, Option.bind_some, w5]
    have h2 := changes_two l from_ (rd_T23 l i).f4 ((rd_T23 l i).f5 + 1) acc i hi hl hacc k
    have e2 : ((([(rd_T23 l i).f4, (rd_T23 l i).f5 + 1] : List Int).length : Nat) : Int) = 2 := rfl
    rw [e2, h2]
    refine ih k (i + 1) _ (by omega) (by omega) (by omega) ?_ (fun x => ?_)
    · have := List.length_filter_le (fun d => decide (from_ < d) && decide (d ≤ 3652059)) [(rd_T23 l i).f4, (rd_T23 l i).f5 + 1]
      simp only [List.length_append, List.length_cons, List.length_nil] at this ⊢
      omega
    · rw [List.mem_append, hm x, List.mem_filter]
      simp only [List.mem_cons, List.not_mem_nil, or_false, Bool.and_eq_true, decide_eq_true_eq]
      unfold Turn
      constructor
      · rintro ((h | ⟨h1, h2, j, hj, h3⟩) | ⟨h, h1, h2⟩)
        · exact .inl h
        · exact .inr ⟨h1, h2, j, by omega, h3⟩
        · exact .inr ⟨h1, h2, i, by omega, h⟩
      · rintro (h | ⟨h1, h2, j, hj, h3⟩)
        · exact .inl (.inl h)
        · by_cases e : j = i
          · subst e; exact .inr ⟨h3, ‹_›, ‹_›⟩
          · exact .inl (.inr ⟨‹_›, ‹_›, j, by omega, h3⟩)
theorem kit_changes (l : List S23) (from_ : Int) (hl : l.length ≤ 200) (ha : ∀ j : Nat, j < l.length → agf (rd_T23 l j) = 0) (k : Nat) (hk : 2000 ≤ k) :
    ∃ r, partner_changes.f k l from_ = some (from_ :: r) ∧ r.length ≤ 400 ∧ (from_ :: r).Pairwise (· < ·) ∧ ∀ x, x ∈ from_ :: r ↔ Turn l from_ x l.length := by
  unfold partner_changes.f
  obtain ⟨ys, e, h1, h2, h3⟩ := changes_l l from_ hl ha l.length k 0 [from_] (by omega) (by omega) (by omega) (by simp) (fun x => by
    unfold Turn
    constructor
    · intro h; exact .inl (by simpa using h)
    · rintro (h | ⟨_, _, j, hj, _⟩)
      · simp [h]
      · omega)
  have hf : from_ ∈ ys := (h3 from_).2 (.inl rfl)
  cases ys with
  | nil => cases hf
  | cons a r =>
    have : a = from_ := by
      rcases List.mem_cons.1 hf with h | h
      · exact h.symm
      · have q := (List.pairwise_cons.1 h2).1 from_ h
        rcases (h3 a).1 (by simp) with g | ⟨g, _⟩
        · exact g
        · omega
    subst this
    simp only [Int.natCast_zero] at e
    exact ⟨r, e, by simpa using h1, h2, h3⟩
/-- No turn stands between. -/
theorem between {l : List S23} {from_ y x : Int} (ha : ∀ j : Nat, j < l.length → agf (rd_T23 l j) = 0) (h0 : from_ ≤ y) (h1 : y ≤ x) (h2 : x ≤ 3652059) (hn : ∀ t, Turn l from_ t l.length → y < t → t ≤ x → False) : SameDays l y x := by
  intro j hj
  obtain ⟨g4, g5⟩ := agf_days (ha j hj)
  have n1 : ¬ (y < (rd_T23 l j).f4 ∧ (rd_T23 l j).f4 ≤ x) := fun h => hn _ (.inr ⟨by omega, by omega, j, hj, .inl rfl⟩) h.1 h.2
  have n2 : ¬ (y < (rd_T23 l j).f5 + 1 ∧ (rd_T23 l j).f5 + 1 ≤ x) := fun h => hn _ (.inr ⟨by omega, by omega, j, hj, .inr rfl⟩) h.1 h.2
  omega
theorem rest_day {c2 c3 : ByteArray} {d e : Int} (h : restF c2 c3 d = 0) (he : 1 ≤ e ∧ e ≤ 3652059) : restF c2 c3 e = 0 := by
  unfold restF at *
  split at h
  · rename_i hn
    rw [if_pos hn, if_pos he]
  · cases h
theorem rest_in {c2 c3 : ByteArray} {d : Int} (h : restF c2 c3 d = 0) : 1 ≤ d ∧ d ≤ 3652059 := by
  unfold restF at h
  split at h
  · split at h
    · assumption
    · cases h
  · cases h
theorem case_rest {c0 c1 c2 c3 : ByteArray} {c4 : Int} (h : caseF c0 c1 c2 c3 c4 = 0) : restF c2 c3 c4 = 0 := by
  unfold caseF at h
  split at h
  · exact h
  · cases h
theorem case_day {c0 c1 c2 c3 : ByteArray} {d e : Int} (h : caseF c0 c1 c2 c3 d = 0) (he : 1 ≤ e ∧ e ≤ 3652059) : caseF c0 c1 c2 c3 e = 0 := by
  have hr := case_rest h
  unfold caseF at *
  split at h
  · rename_i hn
    rw [if_pos hn]; exact rest_day hr he
  · cases h
/-! a name that no agreement has -/
def zs (n : Nat) : ByteArray := ⟨(List.replicate (n + 1) (122 : UInt8)).toArray⟩
theorem zs_next (n : Nat) : zs n ++ ⟨#[122]⟩ = zs (n + 1) := by
  apply ByteArray.ext
  rw [ByteArray.data_append]
  unfold zs
  apply Array.toList_inj.1
  rw [Array.toList_append]
  show List.replicate (n + 1) (122 : UInt8) ++ [122] = List.replicate (n + 1 + 1) 122
  rw [List.replicate_succ' (n := n + 1)]
theorem zs_size (n : Nat) : (zs n).size = n + 1 := by
  unfold zs
  show (List.replicate (n + 1) (122 : UInt8)).toArray.size = n + 1
  simp
theorem size_eq {a b : ByteArray} (h : a.toList = b.toList) : a.size = b.size := by
  rw [str_eq] at h; rw [h]
theorem any_size {s : ByteArray} (h : anyB s = true) : s.size ≤ 40 := by
  unfold anyB at h
  rw [Bool.or_eq_true, decide_eq_true_eq, toL_nil] at h
  rcases h with h | h
  · omega
  · simp only [nameB, Bool.and_eq_true, decide_eq_true_eq] at h
    exact h.1.1.1.2
theorem other_m_l (l : List S23) (hl : ∀ a ∈ l, a.f2.size ≤ 40) (d : Nat) : ∀ (k n : Nat), n ≤ 40 → 40 - n = d → d < k → ∃ m, n ≤ m ∧ m ≤ 40 ∧ fn_other_message.l0 k l (zs n) = some (zs m) ∧ ∀ a ∈ l, ¬ a.f2.toList = (zs m).toList := by
  induction d with
  | zero =>
    intro k n h1 hd hk
    obtain ⟨k, rfl⟩ : ∃ m, k = m + 1 := ⟨k - 1, by omega⟩
    have hn : (l.any fun a => decide (a.f2.toList = (zs n).toList)) = false := by
      rw [Bool.eq_false_iff, Ne, List.any_eq_true]
      rintro ⟨a, ha, h⟩
      have h := size_eq (of_decide_eq_true h)
      have := hl a ha
      rw [zs_size] at h
      omega
    rw [fn_other_message.l0, hn]
    refine ⟨n, Nat.le_refl _, h1, rfl, fun a ha h => ?_⟩
    rw [Bool.eq_false_iff, Ne, List.any_eq_true] at hn
    exact hn ⟨a, ha, decide_eq_true h⟩
  | succ d ih =>
    intro k n h1 hd hk
    obtain ⟨k, rfl⟩ : ∃ m, k = m + 1 := ⟨k - 1, by omega⟩
    rw [fn_other_message.l0]
    cases hn : (l.any fun a => decide (a.f2.toList = (zs n).toList)) with
    | true =>
      rw [if_pos rfl, if_pos (by rw [zs_size]; omega), zs_next]
      obtain ⟨m, m1, m2, m3, m4⟩ := ih k (n + 1) (by omega) (by omega) (by omega)
      exact ⟨m, by omega, m2, m3, m4⟩
    | false =>
      refine ⟨n, Nat.le_refl _, h1, rfl, fun a ha h => ?_⟩
      rw [Bool.eq_false_iff, Ne, List.any_eq_true] at hn
      exact hn ⟨a, ha, decide_eq_true h⟩
theorem other_v_l (l : List S23) (hl : ∀ a ∈ l, a.f3.size ≤ 40) (d : Nat) : ∀ (k n : Nat), n ≤ 40 → 40 - n = d → d < k → ∃ m, n ≤ m ∧ m ≤ 40 ∧ fn_other_version.l0 k l (zs n) = some (zs m) ∧ ∀ a ∈ l, ¬ a.f3.toList = (zs m).toList := by
  induction d with
  | zero =>
    intro k n h1 hd hk
    obtain ⟨k, rfl⟩ : ∃ m, k = m + 1 := ⟨k - 1, by omega⟩
    have hn : (l.any fun a => decide (a.f3.toList = (zs n).toList)) = false := by
      rw [Bool.eq_false_iff, Ne, List.any_eq_true]
      rintro ⟨a, ha, h⟩
      have h := size_eq (of_decide_eq_true h)
      have := hl a ha
      rw [zs_size] at h
      omega
    rw [fn_other_version.l0, hn]
    refine ⟨n, Nat.le_refl _, h1, rfl, fun a ha h => ?_⟩
    rw [Bool.eq_false_iff, Ne, List.any_eq_true] at hn
    exact hn ⟨a, ha, decide_eq_true h⟩
  | succ d ih =>
    intro k n h1 hd hk
    obtain ⟨k, rfl⟩ : ∃ m, k = m + 1 := ⟨k - 1, by omega⟩
    rw [fn_other_version.l0]
    cases hn : (l.any fun a => decide (a.f3.toList = (zs n).toList)) with
    | true =>
      rw [if_pos rfl, if_pos (by rw [zs_size]; omega), zs_next]
      obtain ⟨m, m1, m2, m3, m4⟩ := ih k (n + 1) (by omega) (by omega) (by omega)
      exact ⟨m, by omega, m2, m3, m4⟩
    | false =>
      refine ⟨n, Nat.le_refl _, h1, rfl, fun a ha h => ?_⟩
      rw [Bool.eq_false_iff, Ne, List.any_eq_true] at hn
      exact hn ⟨a, ha, decide_eq_true h⟩
theorem other_m (l : List S23) (hl : ∀ a ∈ l, a.f2.size ≤ 40) (k : Nat) (hk : 50 ≤ k) : ∃ s, fn_other_message.f k l = some s ∧ 1 ≤ s.size ∧ ∀ a ∈ l, ¬ a.f2.toList = s.toList := by
  obtain ⟨m, _, _, e, h⟩ := other_m_l l hl 40 k 0 (by omega) (by omega) (by omega)
  exact ⟨zs m, e, by rw [zs_size]; omega, h⟩
theorem other_v (l : List S23) (hl : ∀ a ∈ l, a.f3.size ≤ 40) (k : Nat) (hk : 50 ≤ k) : ∃ s, fn_other_version.f k l = some s ∧ 1 ≤ s.size ∧ ∀ a ∈ l, ¬ a.f3.toList = s.toList := by
  obtain ⟨m, _, _, e, h⟩ := other_v_l l hl 40 k 0 (by omega) (by omega) (by omega)
  exact ⟨zs m, e, by rw [zs_size]; omega, h⟩
/-! what no case finds -/
theorem filter_one {α : Type} (p : α → Bool) (x : α) : [x].filter p = if p x = true then [x] else [] := by
  rw [List.filter_cons, List.filter_nil]
def sameP (a x : S23) : Bool := decide (x.f0.toList = a.f0.toList) && (decide (x.f1.toList = a.f1.toList) && (x.f6 == a.f6))
def nearOf (l : List S23) (a : S23) : List S23 := l.filter (sameP a)
def cnt (l : List S23) (a : S23) (j : Nat) : Nat := ((l.take j).filter (sameP a)).length
theorem take_rd (l : List S23) (j : Nat) (h : j < l.length) : l.take (j + 1) = l.take j ++ [rd_T23 l j] := by
  rw [rd23_get l j h, List.take_add_one, List.getElem?_eq_getElem h]; rfl
theorem cnt_up (l : List S23) (a : S23) (j : Nat) (h : j < l.length) : cnt l a (j + 1) = cnt l a j + (if sameP a (rd_T23 l j) = true then 1 else 0) := by
  unfold cnt
  rw [take_rd l j h, List.filter_append, List.length_append, filter_one]
  cases sameP a (rd_T23 l j) <;> simp
theorem cnt_mono (l : List S23) (a : S23) : ∀ (d j : Nat), j + d ≤ l.length → cnt l a j ≤ cnt l a (j + d)
  | 0, j, _ => Nat.le_refl _
  | d + 1, j, h => by
    have h1 := cnt_mono l a d j (by omega)
    have h2 := cnt_up l a (j + d) (by omega)
    have : j + (d + 1) = j + d + 1 := by omega
    rw [this, h2]
    split <;> omega
theorem cnt_all (l : List S23) (a : S23) : cnt l a l.length = (nearOf l a).length := by unfold cnt nearOf; rw [List.take_length]
theorem near_at (l : List S23) (a : S23) (j : Nat) (h : j < l.length) (hs : sameP a (rd_T23 l j) = true) : cnt l a j < (nearOf l a).length ∧ rd_T23 (nearOf l a) (cnt l a j) = rd_T23 l j := by
  have h1 := cnt_up l a j h
  rw [if_pos hs] at h1
  have h2 := cnt_mono l a (l.length - (j + 1)) (j + 1) (by omega)
  rw [show j + 1 + (l.length - (j + 1)) = l.length by omega, cnt_all] at h2
  have hlt : cnt l a j < (nearOf l a).length := by omega
  refine ⟨hlt, ?_⟩
  rw [rd23_get _ _ hlt]
  have e : nearOf l a = (l.take j).filter (sameP a) ++ (rd_T23 l j :: (l.drop (j + 1)).filter (sameP a)) := by
    unfold nearOf
    conv => lhs; rw [← List.take_append_drop j l]
    rw [List.filter_append, List.drop_eq_getElem_cons h, List.filter_cons, ← rd23_get l j h, if_pos hs]
  have := List.getElem_of_eq e hlt
  rw [this, List.getElem_append_right (by unfold cnt; omega)]
  simp [cnt]
theorem near_of (l : List S23) (a : S23) : ∀ (n m : Nat), m ≤ l.length → n < cnt l a m → ∃ j, j < m ∧ cnt l a j = n ∧ sameP a (rd_T23 l j) = true
  | n, 0, _, h => by simp [cnt] at h
  | n, m + 1, hm, h => by
    have h1 := cnt_up l a m (by omega)
    by_cases hs : sameP a (rd_T23 l m) = true
    · rw [if_pos hs] at h1
      by_cases e : n = cnt l a m
      · exact ⟨m, by omega, e.symm, hs⟩
      · obtain ⟨j, h2, h3⟩ := near_of l a n m (by omega) (by omega)
        exact ⟨j, by omega, h3⟩
    · rw [if_neg hs] at h1
      obtain ⟨j, h2, h3⟩ := near_of l a n m (by omega) (by omega)
      exact ⟨j, by omega, h3⟩
/-- The case that is asked of an agreement at a day. -/
def ownS (s o : ByteArray) : ByteArray := if s.toList = ([] : List UInt8) then o else s
def askC (a : S23) (m v : ByteArray) (d : Int) : S37 := ⟨a.f0, a.f1, ownS a.f2 m, ownS a.f3 v, d, a.f6⟩
theorem own_eq (s o : ByteArray) : partner_withOwn.f s o = some (ownS s o) := by unfold partner_withOwn.f ownS; split <;> rfl
/-- No turn of its days finds it among those near it. -/
def Hid (l : List S23) (i : Nat) (m v : ByteArray) : Prop :=
  ∀ d, Turn (nearOf l (rd_T23 l i)) (rd_T23 l i).f4 d (nearOf l (rd_T23 l i)).length → d ≤ (rd_T23 l i).f5 → ∀ b, Best (nearOf l (rd_T23 l i)) (askC (rd_T23 l i) m v d) (nearOf l (rd_T23 l i)).length b → b ≠ (cnt l (rd_T23 l i) i : Nat)
theorem hides_l1 (N : List S23) (a : S23) (m v : ByteArray) (pos : Int) (hN : N.length ≤ 200) (ha : ∀ j : Nat, j < N.length → agf (rd_T23 N j) = 0) (ys : List Int) (hy : ys.length ≤ 401) (hp : ys.Pairwise (· < ·)) (d : Nat) : ∀ (k q : Nat), q ≤ ys.length → ys.length - q = d → 1100 + d ≤ k →
    ∃ b, partner_hides.l1 k (ownS a.f2 m) (ownS a.f3 v) N pos ys (ys.length : Int) q a.f0 a.f1 a.f2 a.f3 a.f4 a.f5 a.f6 a.f7 a.f8 = some b ∧ (b = true ↔ ∀ t : Nat, q ≤ t → t < ys.length → rd ys t ≤ a.f5 → ∀ b, Best N (askC a m v (rd ys t)) N.length b → b ≠ pos) := by
  induction d with
  | zero =>
    intro k q h1 hd hk
    obtain ⟨k, rfl⟩ : ∃ m, k = m + 1 := ⟨k - 1, by omega⟩
    have c1 : ¬ ((q : Int) < ys.length) := by omega
    simp only [partner_hides.l1, c1, ↓reduceIte]
    exact ⟨_, rfl, fun _ t h1 h2 => by omega, fun _ => rfl⟩
  | succ d ih =>
    intro k q h1 hd hk
    obtain ⟨k, rfl⟩ : ∃ m, k = m + 1 := ⟨k - 1, by omega⟩
    have hq : q < ys.length := by omega
    have c1 : (q : Int) < ys.length := by omega
    have c0 : (0 : Int) ≤ q := by omega
    have hrd : ∀ t : Nat, (ht : t < ys.length) → rd ys t = ys[t] := fun t ht => by simp [rd, ht]
    simp only [partner_hides.l1, c1, c0, ↓reduceIte]
    by_cases hgt : rd ys q > a.f5
    · rw [if_pos hgt]
      refine ⟨_, rfl, fun _ t h1 h2 h3 => ?_, fun _ => rfl⟩
      exfalso
      by_cases e : t = q
      · subst e; omega
      · have := List.pairwise_iff_getElem.1 hp q t hq h2 (by omega)
        rw [hrd q hq] at hgt; rw [hrd t h2] at h3
        omega
    · rw [if_neg hgt]
      obtain ⟨b, eb, hb⟩ := kit_find N (askC a m v (rd ys q)) hN ha k (by omega)
      have eb' : partner_find.f k N a.f0 a.f1 (ownS a.f2 m) (ownS a.f3 v) (rd ys q) a.f6 = some b := eb
      rw [eb', Option.bind_some]
      by_cases hbp : b = pos
      · rw [if_pos hbp]
        refine ⟨_, rfl, fun h => (by cases h), fun h => ?_⟩
        exact absurd hbp (h q (Nat.le_refl _) hq (by omega) b hb)
      · rw [if_neg hbp]
        obtain ⟨b2, e2, i2⟩ := ih k (q + 1) (by omega) (by omega) (by omega)
        have w1 : wrap64 ((q : Int) + 1) = ((q + 1 : Nat) : Int) := by rw [wr_id (by omega) (by omega)]; omega
        rw [w1]
        refine ⟨b2, e2, fun h t h1 h2 h3 b' hb' => ?_, fun h => i2.2 fun t h1 h2 h3 b' hb' => h t (by omega) h2 h3 b' hb'⟩
        by_cases e : t = q
        · subst e; rw [best_unique hb' hb]; exact hbp
        · exact i2.1 h t (by omega) h2 h3 b' hb'
theorem hides_l0 (l : List S23) (hl : l.length ≤ 200) (i : Nat) (hi : i < l.length) (x2 x3 : ByteArray) (d : Nat) : ∀ (k j : Nat), j ≤ l.length → l.length - j = d → 2 * d < k →
    partner_hides.l0 k i x2 x3 ((l.take j).filter (sameP (rd_T23 l i))) (if i < j then (cnt l (rd_T23 l i) i : Int) else -1) l (l.length : Int) j (rd_T23 l i).f0 (rd_T23 l i).f1 (rd_T23 l i).f2 (rd_T23 l i).f3 (rd_T23 l i).f4 (rd_T23 l i).f5 (rd_T23 l i).f6 (rd_T23 l i).f7 (rd_T23 l i).f8 =
      (partner_changes.f (k - 2 * d - 1) (nearOf l (rd_T23 l i)) (rd_T23 l i).f4).bind fun t => partner_hides.l1 (k - 2 * d - 1) x2 x3 (nearOf l (rd_T23 l i)) (cnt l (rd_T23 l i) i : Int) t (t.length : Int) 0 (rd_T23 l i).f0 (rd_T23 l i).f1 (rd_T23 l i).f2 (rd_T23 l i).f3 (rd_T23 l i).f4 (rd_T23 l i).f5 (rd_T23 l i).f6 (rd_T23 l i).f7 (rd_T23 l i).f8 := by
  induction d with
  | zero =>
    intro k j h1 hd hk
    obtain ⟨k, rfl⟩ : ∃ m, k = m + 1 := ⟨k - 1, by omega⟩
    obtain rfl : j = l.length := by omega
    have c1 : ¬ (((l.length : Nat) : Int) < l.length) := by omega
    rw [if_pos hi, List.take_length]
    simp only [partner_hides.l0, c1, ↓reduceIte]
    rfl
  | succ d ih =>
    intro k j h1 hd hk
    obtain ⟨k, rfl⟩ : ∃ m, k = m + 2 := ⟨k - 2, by omega⟩
    have hj : j < l.length := by omega
    have c1 : (j : Int) < l.length := by omega
    have c0 : (0 : Int) ≤ j := by omega
    have w1 : wrap64 ((j : Int) + 1) = ((j + 1 : Nat) : Int) := by rw [wr_id (by omega) (by omega)]; omega
    have ek : k + 2 - 2 * (d + 1) - 1 = k - 2 * d - 1 := by omega
    have nx := ih k (j + 1) (by omega) (by omega) (by omega)
    rw [take_rd l j hj, List.filter_append, filter_one] at nx
    rw [ek, ← nx]
    have hlen : ((l.take j).filter (sameP (rd_T23 l i))).length ≤ 200 := Nat.le_trans (List.length_filter_le _ _) (by simp; omega)
    have hl2 : ((l.take j).filter (sameP (rd_T23 l i))).length < 1353245080339 := by omega
    have hsp : sameP (rd_T23 l i) (rd_T23 l j) = (decide ((rd_T23 l j).f0.toList = (rd_T23 l i).f0.toList) && (decide ((rd_T23 l j).f1.toList = (rd_T23 l i).f1.toList) && ((rd_T23 l j).f6 == (rd_T23 l i).f6))) := rfl
    have hat : ∀ b : Bool, b = true ∨ j ≠ i → (if i < j + 1 then (cnt l (rd_T23 l i) i : Int) else -1) = if j = i then (cnt l (rd_T23 l i) i : Int) else if i < j then (cnt l (rd_T23 l i) i : Int) else -1 := by
      intro b _
      by_cases e : j = i
      · subst e; simp
      · rw [if_neg e]
        by_cases e2 : i < j
        · rw [if_pos e2, if_pos (by omega)]
        · rw [if_neg e2, if_neg (by omega)]
    simp only [partner_hides.l0, c1, c0, ↓reduceIte]
    by_cases e0 : (rd_T23 l j).f0.toList = (rd_T23 l i).f0.toList
    · by_cases e1 : (rd_T23 l j).f1.toList = (rd_T23 l i).f1.toList
      · rw [if_pos e0, if_pos e1]
        cases e6 : ((rd_T23 l j).f6 == (rd_T23 l i).f6) with
        | true =>
          have hs : sameP (rd_T23 l i) (rd_T23 l j) = true := by rw [hsp]; simp [e0, e1, e6]
          rw [hs]
          simp only [partner_hides.j1, ↓reduceIte, hl2, w1]
          have heta : (⟨(rd_T23 l j).f0, (rd_T23 l j).f1, (rd_T23 l j).f2, (rd_T23 l j).f3, (rd_T23 l j).f4, (rd_T23 l j).f5, (rd_T23 l j).f6, (rd_T23 l j).f7, (rd_T23 l j).f8⟩ : S23) = rd_T23 l j := rfl
          by_cases e : j = i
          · have e' : (j : Int) = i := by omega
            rw [if_pos e', if_pos (show i < j + 1 by omega)]
            subst e
            rfl
          · have e' : ¬ ((j : Int) = i) := by omega
            rw [if_neg e', hat true (.inl rfl), if_neg e]
        | false =>
          have hs : sameP (rd_T23 l i) (rd_T23 l j) = false := by rw [hsp, e6]; simp
          have e : j ≠ i := by rintro rfl; simp at e6
          rw [hs]
          simp only [partner_hides.j1, Bool.false_eq_true, ↓reduceIte, w1, List.append_nil]
          rw [hat true (.inl rfl), if_neg e]
      · have hs : sameP (rd_T23 l i) (rd_T23 l j) = false := by rw [hsp]; simp [e1]
        have e : j ≠ i := by rintro rfl; exact e1 rfl
        rw [if_pos e0, if_neg e1, hs]
        simp only [partner_hides.j1, Bool.false_eq_true, ↓reduceIte, w1, List.append_nil]
        rw [hat true (.inl rfl), if_neg e]
    · have hs : sameP (rd_T23 l i) (rd_T23 l j) = false := by rw [hsp]; simp [e0]
      have e : j ≠ i := by rintro rfl; exact e0 rfl
      rw [if_neg e0, hs]
      simp only [partner_hides.j1, Bool.false_eq_true, ↓reduceIte, w1, List.append_nil]
      rw [hat true (.inl rfl), if_neg e]
theorem near_ag {l : List S23} {a : S23} (ha : ∀ j : Nat, j < l.length → agf (rd_T23 l j) = 0) : ∀ n : Nat, n < (nearOf l a).length → agf (rd_T23 (nearOf l a) n) = 0 := by
  intro n hn
  have hn' := hn
  rw [← cnt_all] at hn'
  obtain ⟨j, h1, h2, h3⟩ := near_of l a n l.length (Nat.le_refl _) hn'
  obtain ⟨_, h4⟩ := near_at l a j h1 h3
  rw [h2] at h4
  rw [h4]; exact ha j h1
theorem kit_hides (l : List S23) (hl : l.length ≤ 200) (ha : ∀ j : Nat, j < l.length → agf (rd_T23 l j) = 0) (i : Nat) (hi : i < l.length) (m v : ByteArray) (k : Nat) (hk : 4000 ≤ k) : ∃ b, partner_hides.f k l i m v = some b ∧ (b = true ↔ Hid l i m v) := by
  unfold partner_hides.f
  have c1 : (i : Int) < l.length := by omega
  have c0 : (0 : Int) ≤ i := by omega
  rw [if_pos c0, if_pos c1, own_eq, own_eq]
  simp only [Option.bind_some]
  have h0 := hides_l0 l hl i hi (ownS (rd_T23 l i).f2 m) (ownS (rd_T23 l i).f3 v) l.length k 0 (by omega) (by omega) (by omega)
  rw [if_neg (by omega)] at h0
  have h0' : partner_hides.l0 k i (ownS (rd_T23 l i).f2 m) (ownS (rd_T23 l i).f3 v) ([] : List S23) (-1) l (l.length : Int) 0 (rd_T23 l i).f0 (rd_T23 l i).f1 (rd_T23 l i).f2 (rd_T23 l i).f3 (rd_T23 l i).f4 (rd_T23 l i).f5 (rd_T23 l i).f6 (rd_T23 l i).f7 (rd_T23 l i).f8 = _ := h0
  rw [h0']
  have hN : (nearOf l (rd_T23 l i)).length ≤ 200 := Nat.le_trans (List.length_filter_le _ _) hl
  have haN := near_ag (a := rd_T23 l i) ha
  obtain ⟨r, er, hr, hpw, hm⟩ := kit_changes (nearOf l (rd_T23 l i)) (rd_T23 l i).f4 hN haN (k - 2 * l.length - 1) (by omega)
  rw [er, Option.bind_some]
  obtain ⟨b, eb, ib⟩ := hides_l1 (nearOf l (rd_T23 l i)) (rd_T23 l i) m v (cnt l (rd_T23 l i) i : Int) hN haN ((rd_T23 l i).f4 :: r) (by simp; omega) hpw ((rd_T23 l i).f4 :: r).length (k - 2 * l.length - 1) 0 (by omega) (by omega) (by simp; omega)
  refine ⟨b, eb, ib.trans ?_⟩
  have hrd : ∀ t : Nat, (ht : t < ((rd_T23 l i).f4 :: r).length) → rd ((rd_T23 l i).f4 :: r) t = ((rd_T23 l i).f4 :: r)[t] := fun t ht => by unfold rd; rw [Int.toNat_natCast, List.getD_eq_getElem?_getD, List.getElem?_eq_getElem ht]; rfl
  constructor
  · intro h d hd hd2
    obtain ⟨t, ht, e⟩ := List.getElem_of_mem ((hm d).2 hd)
    have := h t (by omega) ht
    rw [hrd t ht, e] at this
    exact this hd2
  · intro h t _ ht hle
    refine h _ ((hm _).1 ?_) hle
    rw [hrd t ht]; exact List.getElem_mem ht
/-- A turn that leads to a day. -/
theorem turn_to {N : List S23} {from_ x : Int} (hN : N.length ≤ 200) (ha : ∀ j : Nat, j < N.length → agf (rd_T23 N j) = 0) (h0 : from_ ≤ x) (h1 : x ≤ 3652059) : ∃ d, Turn N from_ d N.length ∧ from_ ≤ d ∧ d ≤ x ∧ SameDays N d x := by
  obtain ⟨r, _, _, hpw, hm⟩ := kit_changes N from_ hN ha 2000 (by omega)
  have key : ∀ (ys : List Int), ys.Pairwise (· < ·) → ∀ y, y ≤ x → ∃ d, (d = y ∨ d ∈ ys) ∧ d ≤ x ∧ y ≤ d ∧ ∀ t ∈ ys, d < t → x < t := by
    intro ys
    induction ys with
    | nil => intro _ y hy; exact ⟨y, .inl rfl, hy, Int.le_refl _, fun t h => by cases h⟩
    | cons z zs ih =>
      intro hp y hy
      obtain ⟨hz, hp2⟩ := List.pairwise_cons.1 hp
      by_cases hzx : z ≤ x ∧ y ≤ z
      · obtain ⟨d, h1, h2, h3, h4⟩ := ih hp2 z hzx.1
        refine ⟨d, .inr ?_, h2, by omega, fun t ht hlt => ?_⟩
        · rcases h1 with rfl | h1
          · simp
          · exact List.mem_cons_of_mem _ h1
        · rcases List.mem_cons.1 ht with rfl | ht
          · omega
          · exact h4 t ht hlt
      · by_cases hyz : y ≤ z
        · refine ⟨y, .inl rfl, hy, Int.le_refl _, fun t ht hlt => ?_⟩
          rcases List.mem_cons.1 ht with rfl | ht
          · omega
          · have := hz t ht; omega
        · obtain ⟨d, h1, h2, h3, h4⟩ := ih hp2 y hy
          refine ⟨d, ?_, h2, h3, fun t ht hlt => ?_⟩
          · rcases h1 with h1 | h1
            · exact .inl h1
            · exact .inr (List.mem_cons_of_mem _ h1)
          · rcases List.mem_cons.1 ht with rfl | ht
            · omega
            · exact h4 t ht hlt
  obtain ⟨d, h2, h3, h4, h5⟩ := key r (List.pairwise_cons.1 hpw).2 from_ h0
  have hd : d ∈ from_ :: r := by rcases h2 with rfl | h2; simp; exact List.mem_cons_of_mem _ h2
  refine ⟨d, (hm d).1 hd, h4, h3, between ha h4 h3 h1 (fun t ht g1 g2 => ?_)⟩
  rcases List.mem_cons.1 ((hm t).2 ht) with rfl | ht
  · omega
  · have := h5 t ht g1; omega
/-- What is hidden is not found by a case that its own says leave open. -/
theorem hid_not {l : List S23} (hl : l.length ≤ 200) (ha : ∀ j : Nat, j < l.length → agf (rd_T23 l j) = 0) {i : Nat} (hi : i < l.length) {m v : ByteArray} (hm : ∀ j : Nat, j < l.length → ¬ (rd_T23 l j).f2.toList = m.toList) (hv : ∀ j : Nat, j < l.length → ¬ (rd_T23 l j).f3.toList = v.toList)
    (hid : Hid l i m v) (c2 c3 : ByteArray) (x : Int) (hx : (rd_T23 l i).f4 ≤ x ∧ x ≤ (rd_T23 l i).f5) : ¬ Best l ⟨(rd_T23 l i).f0, (rd_T23 l i).f1, ownS (rd_T23 l i).f2 c2, ownS (rd_T23 l i).f3 c3, x, (rd_T23 l i).f6⟩ l.length (i : Int) := by
  intro hb
  rcases hb with ⟨e, _⟩ | ⟨n, e, hn, hp, hbest⟩
  · omega
  obtain rfl : i = n := by omega
  obtain ⟨g4, g5⟩ := agf_days (ha i hi)
  have hself : sameP (rd_T23 l i) (rd_T23 l i) = true := by simp [sameP]
  obtain ⟨d, ht, d1, d2, hsame⟩ := turn_to (N := nearOf l (rd_T23 l i)) (from_ := (rd_T23 l i).f4) (x := x) (Nat.le_trans (List.length_filter_le _ _) hl) (near_ag ha) hx.1 (by omega)
  obtain ⟨q1, q2⟩ := near_at l (rd_T23 l i) i hi hself
  refine hid d ht (by omega) (cnt l (rd_T23 l i) i : Nat) (.inr ⟨cnt l (rd_T23 l i) i, rfl, q1, ?_, fun n' hn' hap => ?_⟩) rfl
  · rw [q2]
    unfold app appB askC ownS
    simp only [decide_true, Bool.true_and, beq_self_eq_true, Bool.and_eq_true, Bool.or_eq_true, decide_eq_true_eq]
    refine ⟨?_, ?_, by omega, by omega⟩
    · split
      · exact .inl ‹_›
      · exact .inr rfl
    · split
      · exact .inl ‹_›
      · exact .inr rfl
  · have hn2 := hn'
    rw [← cnt_all] at hn2
    obtain ⟨j, j1, j2, j3⟩ := near_of l (rd_T23 l i) n' l.length (Nat.le_refl _) hn2
    obtain ⟨_, j4⟩ := near_at l (rd_T23 l i) j j1 j3
    rw [j2] at j4
    have hsd := hsame n' hn'
    rw [q2, j4]
    rw [j4] at hap hsd
    have happ : app (rd_T23 l j) ⟨(rd_T23 l i).f0, (rd_T23 l i).f1, ownS (rd_T23 l i).f2 c2, ownS (rd_T23 l i).f3 c3, x, (rd_T23 l i).f6⟩ = true := by
      unfold app appB askC at hap
      unfold app appB
      simp only [Bool.and_eq_true, Bool.or_eq_true, decide_eq_true_eq] at hap ⊢
      obtain ⟨a0, a1, a2, a3, a6, ad⟩ := hap
      refine ⟨a0, a1, ?_, ?_, a6, hsd.1 ad⟩
      · rcases a2 with a2 | a2
        · exact .inl a2
        · unfold ownS at a2 ⊢
          split at a2
          · exact absurd a2 (hm j j1)
          · rename_i hne
            rw [if_neg hne]; exact .inr a2
      · rcases a3 with a3 | a3
        · exact .inl a3
        · unfold ownS at a3 ⊢
          split at a3
          · exact absurd a3 (hv j j1)
          · rename_i hne
            rw [if_neg hne]; exact .inr a3
    obtain ⟨r1, r2⟩ := hbest j j1 happ
    refine ⟨r1, fun hz => ?_⟩
    have hij := r2 hz
    have := cnt_mono l (rd_T23 l i) (j - i) i (by omega)
    rw [show i + (j - i) = j by omega, j2] at this
    exact this
/-- The numbers of what is hidden. -/
theorem never_l (l : List S23) (hl : l.length ≤ 200) (ha : ∀ j : Nat, j < l.length → agf (rd_T23 l j) = 0) (m v : ByteArray) (d : Nat) : ∀ (k i : Nat) (acc : List Int), i ≤ l.length → l.length - i = d → 4001 + d ≤ k → acc.length ≤ i →
    ∃ out, partner_Never.l0 k l acc m v (l.length : Int) i = some (acc ++ out, 0) ∧ out.length ≤ d ∧ (∀ x ∈ out, ∃ j : Nat, x = j ∧ i ≤ j ∧ j < l.length ∧ Hid l j m v) ∧ ∀ j : Nat, i ≤ j → j < l.length → Hid l j m v → (j : Int) ∈ out := by
  induction d with
  | zero =>
    intro k i acc h1 hd hk hacc
    obtain ⟨k, rfl⟩ : ∃ m, k = m + 1 := ⟨k - 1, by omega⟩
    have c1 : ¬ ((i : Int) < l.length) := by omega
    simp only [partner_Never.l0, c1, ↓reduceIte]
    exact ⟨[], by simp, by simp, fun x h => (by cases h), fun j h1 h2 => by omega⟩
  | succ d ih =>
    intro k i acc h1 hd hk hacc
    obtain ⟨k, rfl⟩ : ∃ m, k = m + 1 := ⟨k - 1, by omega⟩
    have hi : i < l.length := by omega
    have c1 : (i : Int) < l.length := by omega
    obtain ⟨b, eb, ib⟩ := kit_hides l hl ha i hi m v k (by omega)
    have hac : acc.length < 17592186044416 := by omega
    have w1 : wrap64 ((i : Int) + 1) = ((i + 1 : Nat) : Int) := by rw [wr_id (by omega) (by omega)]; omega
    simp only [partner_Never.l0, c1, ↓reduceIte, eb, Option.bind_some, hac, w1]
    clear w1
    cases b
    · obtain ⟨out, e, h2, h3, h4⟩ := ih k (i + 1) acc (by omega) (by omega) (by omega) (by omega)
      simp only [Bool.false_eq_true, ↓reduceIte]
      refine ⟨out, e, by omega, fun x hx => ?_, fun j a b c => ?_⟩
      · obtain ⟨j, q1, q2, q3⟩ := h3 x hx
        exact ⟨j, q1, by omega, q3⟩
      · by_cases e : j = i
        · subst e; exact absurd (ib.2 c) (by simp)
        · exact h4 j (by omega) b c
    · obtain ⟨out, e, h2, h3, h4⟩ := ih k (i + 1) (acc ++ [(i : Int)]) (by omega) (by omega) (by omega) (by simp; omega)
      simp only [↓reduceIte]
      refine ⟨(i : Int) :: out, by rw [e]; simp, by simp; omega, fun x hx => ?_, fun j a b c => ?_⟩
      · rcases List.mem_cons.1 hx with rfl | hx
        · exact ⟨i, rfl, Nat.le_refl _, hi, ib.1 rfl⟩
        · obtain ⟨j, q1, q2, q3⟩ := h3 x hx
          exact ⟨j, q1, by omega, q3⟩
      · by_cases e : j = i
        · subst e; simp
        · exact List.mem_cons_of_mem _ (h4 j (by omega) b c)
theorem ag_sizes {l : List S23} (ha : ∀ j : Nat, j < l.length → agf (rd_T23 l j) = 0) : (∀ a ∈ l, a.f2.size ≤ 40) ∧ ∀ a ∈ l, a.f3.size ≤ 40 := by
  constructor <;> intro a h <;> (obtain ⟨j, hj, rfl⟩ := List.getElem_of_mem h; have := agF_zero (ha j hj); rw [rd23_get l j hj] at this)
  · exact any_size this.2.1
  · exact any_size this.2.2.1
theorem mx_eq (a b : Int) : mx a b = if a ≤ b then b else a := by
  first | rfl | (unfold mx; split <;> split <;> omega) | (simp [mx]; omega)
theorem below_ok (pick n : Int) (hn : 1 ≤ n) (hn2 : n ≤ 4000000) : ∃ v, interchangeref8_Below.f pick n = some v ∧ 0 ≤ v ∧ v < n := by
  unfold interchangeref8_Below.f
  rw [if_neg (by omega)]
  have h1 := Int.tmod_lt_of_pos pick (show 0 < n by omega)
  have h2 : -n < Int.tmod pick n := by
    have := Int.tmod_lt_of_pos (-pick) (show 0 < n by omega)
    rw [Int.neg_tmod] at this
    omega
  by_cases h : Int.tmod pick n < 0
  · rw [if_pos h, wr_id (by omega) (by omega)]
    exact ⟨_, rfl, by omega, by omega⟩
  · rw [if_neg h]
    exact ⟨_, rfl, by omega, h1⟩
theorem ref_Case {a : S23} (h : agf a = 0) (m v : ByteArray) (day : Int) : ∃ x, interchangeref8_Case.f a.f0 a.f1 a.f2 a.f3 a.f4 a.f5 a.f6 a.f7 a.f8 m v day = some (a.f0, a.f1, ownS a.f2 m, ownS a.f3 v, x, a.f6) ∧ a.f4 ≤ x ∧ x ≤ a.f5 := by
  have z := agF_zero h
  obtain ⟨g4, g5⟩ := agf_days h
  unfold interchangeref8_Case.f
  have w1 : wrap64 (a.f5 - a.f4) = a.f5 - a.f4 := wr_id (by omega) (by omega)
  have w2 : wrap64 (a.f5 - a.f4 + 1) = a.f5 - a.f4 + 1 := wr_id (by omega) (by omega)
  obtain ⟨t, et, t0, t1⟩ := below_ok day (a.f5 - a.f4 + 1) (by omega) (by omega)
  have w3 : wrap64 (a.f4 + t) = a.f4 + t := wr_id (by omega) (by omega)
  refine ⟨a.f4 + t, ?_, by omega, by omega⟩
  rw [w1, w2, et, Option.bind_some, w3]
  unfold ownS
  by_cases e2 : a.f2.toList = ([] : List UInt8) <;> by_cases e3 : a.f3.toList = ([] : List UInt8) <;> simp [e2, e3]
theorem law_l (p : List S86) (l : List S23) (hp : ∀ x ∈ p, ok86 x) (hx : ∀ x ∈ l, ok23 x) (hl : l.length ≤ 200) (ha : ∀ j : Nat, j < l.length → agf (rd_T23 l j) = 0) (m v : ByteArray) (hm : ∀ j : Nat, j < l.length → ¬ (rd_T23 l j).f2.toList = m.toList) (hv : ∀ j : Nat, j < l.length → ¬ (rd_T23 l j).f3.toList = v.toList)
    (message version : ByteArray) (s1 : message.size ≤ 140737488351232) (s2 : version.size ≤ 140737488351232) (day : Int) (xs : List Int) (hxs : xs.length ≤ 200) (hh : ∀ x ∈ xs, ∃ j : Nat, x = j ∧ j < l.length ∧ Hid l j m v) (d : Nat) :
    ∀ (k q : Nat), q ≤ xs.length → xs.length - q = d → 11000 + 2 * d ≤ k → interchangelaw8_PartnerNeverIsNever.l0 k p l message version day xs (xs.length : Int) q = some true := by
  induction d with
  | zero =>
    intro k q h1 hd hk
    obtain ⟨k, rfl⟩ : ∃ m, k = m + 1 := ⟨k - 1, by omega⟩
    have c1 : ¬ ((q : Int) < xs.length) := by omega
    simp only [interchangelaw8_PartnerNeverIsNever.l0, c1, ↓reduceIte, awake_true, Option.bind_some]
  | succ d ih =>
    intro k q h1 hd hk
    obtain ⟨k, rfl⟩ : ∃ m, k = m + 2 := ⟨k - 2, by omega⟩
    have hq : q < xs.length := by omega
    have c1 : (q : Int) < xs.length := by omega
    have c0 : (0 : Int) ≤ q := by omega
    have hr : rd xs q = xs[q] := by simp [rd, hq]
    obtain ⟨i, ei, hi, hid⟩ := hh _ (List.getElem_mem hq)
    rw [← hr] at ei
    have n1 : ¬ ((i : Int) < 0) := by omega
    have n2 : decide ((i : Int) ≥ (l.length : Int)) = false := by simp; omega
    have n3 : (0 : Int) ≤ i := by omega
    have n4 : (i : Int) < l.length := by omega
    have nx := ih k (q + 1) (by omega) (by omega) (by omega)
    have w1 : wrap64 ((q : Int) + 1) = ((q + 1 : Nat) : Int) := by rw [wr_id (by omega) (by omega)]; omega
    obtain ⟨x, ex, x1, x2⟩ := ref_Case (ha i hi) message version day
    have hoi : ok23 (rd_T23 l i) := by rw [rd23_get l i hi]; exact hx _ (List.getElem_mem hi)
    obtain ⟨g4, g5⟩ := agf_days (ha i hi)
    have hown : ∀ s o : ByteArray, s.size ≤ 140737488351232 → o.size ≤ 140737488351232 → (ownS s o).size ≤ 140737488351232 := fun s o h1 h2 => by unfold ownS; split <;> assumption
    have hc : ok37 ⟨(rd_T23 l i).f0, (rd_T23 l i).f1, ownS (rd_T23 l i).f2 message, ownS (rd_T23 l i).f3 version, x, (rd_T23 l i).f6⟩ :=
      ⟨hoi.1, hoi.2.1, hown _ _ hoi.2.2.1 s1, hown _ _ hoi.2.2.2.1 s2, by simp [Lit.wf, IntKind.min, IntKind.max, IntKind.signed, IntKind.bits]; omega, trivial⟩
    obtain ⟨vv, ev, qv⟩ := kit_asked p l _ hp hx hc k (by omega)
    simp only at ev
    simp only [interchangelaw8_PartnerNeverIsNever.l0, interchangelaw8_PartnerNeverIsNever.j1, c1, c0, ↓reduceIte, ei, n1, n2, n3, n4, Bool.false_eq_true, ex, Option.bind_some, w1]
    unfold partner_Find.f
    rw [ev, Option.bind_some]
    by_cases hvv : vv = 0
    · obtain ⟨b, eb, hb⟩ := kit_find l ⟨(rd_T23 l i).f0, (rd_T23 l i).f1, ownS (rd_T23 l i).f2 message, ownS (rd_T23 l i).f3 version, x, (rd_T23 l i).f6⟩ hl ha k (by omega)
      simp only at eb
      rw [if_pos hvv, eb]
      simp only [Option.bind_some, ↓reduceIte]
      by_cases hb0 : b ≥ 0
      · have hmx : mx b 0 = b := by rw [mx_eq]; split <;> omega
        have hne : ¬ b = i := by
          rintro rfl
          exact hid_not hl ha hi hm hv hid message version x ⟨x1, x2⟩ hb
        simp only [hb0, decide_true, ↓reduceIte, hmx, hne]
        exact nx
      · simp only [hb0, decide_false, Bool.false_eq_true, ↓reduceIte]
        exact nx
    · rw [if_neg hvv]
      simp only [Option.bind_some, hvv, ↓reduceIte]
      exact nx
theorem PartnerNeverIsNever : Pure := by
  rintro p l message version day ⟨_, _, hp⟩ ⟨_, _, hx⟩ s1 s2 _
  refine ⟨20000, ?_⟩
  unfold interchangelaw8_PartnerNeverIsNever.f partner_Never.f
  obtain ⟨v, e, q⟩ := kit_agrees p l hp hx 20000 (by omega)
  rw [e, Option.bind_some]
  by_cases hv : v = 0
  · obtain ⟨_, hl, ha⟩ := q hv
    obtain ⟨z1, z2⟩ := ag_sizes ha
    obtain ⟨m, em, _, hm⟩ := other_m l z1 20000 (by omega)
    obtain ⟨w, ew, _, hw⟩ := other_v l z2 20000 (by omega)
    rw [if_pos hv, em, Option.bind_some, ew, Option.bind_some]
    obtain ⟨out, eo, ho, hin, _⟩ := never_l l hl ha m w l.length 20000 0 [] (by omega) (by omega) (by omega) (by simp)
    simp only [Int.natCast_zero, List.nil_append] at eo
    rw [eo]
    simp only [Option.bind_some, ↓reduceIte]
    have hm' : ∀ j : Nat, j < l.length → ¬ (rd_T23 l j).f2.toList = m.toList := fun j hj => by rw [rd23_get l j hj]; exact hm _ (List.getElem_mem hj)
    have hw' : ∀ j : Nat, j < l.length → ¬ (rd_T23 l j).f3.toList = w.toList := fun j hj => by rw [rd23_get l j hj]; exact hw _ (List.getElem_mem hj)
    have := law_l p l hp hx hl ha m w hm' hw' message version s1 s2 day out (by omega) (fun x hx => by obtain ⟨j, a, b, c, d⟩ := hin x hx; exact ⟨j, a, c, d⟩) out.length 20000 0 (by omega) (by omega) (by omega)
    simpa using this
  · rw [if_neg hv]
    simp [hv, awake_true]
end Go.Proofs.YtdlgohhecicnoaaDoor.XPartnerNeverIsNever.Q
