/- The pure statement of PartnerGapsAreMissing, proved: numbers, strings and lists alone. -/
import Derived.Test.YtdlgohhecicnoaaPPartnerGapsAreMissing
import Derived.Lib.Strings
import Derived.Lib.SlTrimSet
namespace Go.Proofs.Ytdlgohhecicnoaa.XPartnerGapsAreMissing.Q
open Go.RowKit Go.Proofs.Ytdlgohhecicnoaa.XPartnerGapsAreMissing Go.Proofs.YtdlgohhecicnoaaW.PrintWords Go.Proofs.YtdlgohhecicnoaaW.PrintMore
set_option linter.unusedVariables false
set_option linter.unusedSimpArgs false
/-! series: numbers, steps, rows -/
theorem wr {x : Int} (h0 : -9223372036854775808 ≤ x) (h : x ≤ 9223372036854775807) : wrap64 x = x := by unfold wrap64; omega
theorem outside (x a b : Int) : kit_Outside.f x a b = some (decide (x < a ∨ b < x)) := by
  unfold kit_Outside.f
  by_cases h : x < a
  · rw [if_pos h]; simp [h]
  · rw [if_neg h]; simp [h]
theorem wf_i64 {x : Int} (h : (Lit.int .i64 x).wf = true) : -9223372036854775808 ≤ x ∧ x ≤ 9223372036854775807 := by
  simpa [Lit.wf, IntKind.min, IntKind.max, IntKind.signed, IntKind.bits] using h
theorem emod_is {x m r q : Int} (h : x = r + m * q) (h0 : 0 ≤ r) (h1 : r < m) : x % m = r := by rw [h, Int.add_mul_emod_self_left]; exact Int.emod_eq_of_lt h0 h1
theorem tmod_is {x m r q : Int} (hx : 0 ≤ x) (h : x = r + m * q) (h0 : 0 ≤ r) (h1 : r < m) : Int.tmod x m = r := by rw [Int.tmod_eq_emod_of_nonneg hx]; exact emod_is h h0 h1
/-- Is it a series? -/
def serB (F L : Int) : Bool := decide (0 ≤ F ∧ F + 1 ≤ L ∧ L ≤ 999999999999999)
theorem kit_series {F L : Int} (hF : -9223372036854775808 ≤ F ∧ F ≤ 9223372036854775807) : partner_CheckSeries.f F L = some (if serB F L = true then 0 else 1) := by
  unfold partner_CheckSeries.f serB
  simp only [outside, Option.bind_some]
  by_cases g1 : F < 0 ∨ 999999999999999 < F
  · simp only [g1, decide_true, if_true]
    rw [if_neg (by simp; omega)]
  · simp only [g1, decide_false]
    rw [if_neg (by simp), wr (by omega) (by omega)]
    by_cases g2 : L < F + 1 ∨ 999999999999999 < L
    · simp only [g2, decide_true, if_true]
      rw [if_neg (by simp; omega)]
    · simp only [g2, decide_false]
      rw [if_neg (by simp), if_pos (by simp; omega)]
def ofB (F L n : Int) : Bool := decide (F ≤ n ∧ n ≤ L)
theorem kit_of {F L n : Int} : partner_isOf.f F L n = some (ofB F L n) := by
  unfold partner_isOf.f ofB
  simp only [outside, Option.bind_some]
  congr 1
  by_cases g : n < F ∨ L < n
  · simp [g]; omega
  · simp [g]; omega
def szF (F L : Int) : Int := L - F + 1
section
variable {F L : Int} (hS : serB F L = true)
theorem kit_size : serB F L = true → partner_size.f F L = some (szF F L) := fun hS => by
  simp only [serB, decide_eq_true_eq] at hS
  unfold partner_size.f szF
  rw [wr (x := L - F) (by omega) (by omega), wr (by omega) (by omega)]
/-- How many steps lead from a to b. -/
def stp (F L a b : Int) : Int := if a ≤ b then b - a else b - a + szF F L
theorem stp_le {a b : Int} : serB F L = true → ofB F L a = true → ofB F L b = true → 0 ≤ stp F L a b ∧ stp F L a b < szF F L := fun hS ha hb => by
  simp only [serB, ofB, decide_eq_true_eq] at hS ha hb
  unfold stp szF
  split <;> omega
theorem kit_between {a b : Int} : serB F L = true → ofB F L a = true → ofB F L b = true → partner_between.f F L a b = some (stp F L a b) := fun hS ha hb => by
  have h1 := stp_le hS ha hb
  unfold partner_between.f
  simp only [kit_size hS, Option.bind_some]
  simp only [serB, ofB, decide_eq_true_eq] at hS ha hb
  have hz : szF F L = L - F + 1 := rfl
  rw [if_neg (by omega), wr (x := b - a) (by omega) (by omega), wr (by omega) (by omega)]
  congr 1
  by_cases g : a ≤ b
  · exact tmod_is (q := 1) (by omega) (by simp [stp, g]) h1.1 h1.2
  · exact tmod_is (q := 0) (by omega) (by simp [stp, g]) h1.1 h1.2
theorem kit_half : serB F L = true → partner_half.f F L = some (szF F L / 2) := fun hS => by
  unfold partner_half.f
  simp only [kit_size hS, Option.bind_some]
  simp only [serB, decide_eq_true_eq] at hS
  have hz : szF F L = L - F + 1 := rfl
  rw [Int.tdiv_eq_ediv_of_nonneg (by omega), wr (by omega) (by omega)]
theorem kit_number {p : Int} : serB F L = true → 0 ≤ p → p ≤ 9000000000000000 → partner_numberAt.f F L p = some (F + p % szF F L) := fun hS h0 h1 => by
  unfold partner_numberAt.f
  simp only [kit_size hS, Option.bind_some]
  simp only [serB, decide_eq_true_eq] at hS
  have hz : szF F L = L - F + 1 := rfl
  have hm0 := Int.emod_nonneg p (show szF F L ≠ 0 by omega)
  have hm1 := Int.emod_lt_of_pos p (show 0 < szF F L by omega)
  rw [if_neg (by omega), if_neg (by omega), Int.tmod_eq_emod_of_nonneg h0, wr (x := p % szF F L + szF F L) (by omega) (by omega), tmod_is (q := 1) (r := p % szF F L) (by omega) (by omega) hm0 hm1, wr (by omega) (by omega)]
/-- Some numbers in line from a place on, as rows. -/
def seg (F L p n : Int) : List S42 :=
  if n ≤ 0 then [] else if n ≤ L - (F + p % szF F L) + 1 then [⟨F + p % szF F L, F + p % szF F L + n - 1⟩] else [⟨F + p % szF F L, L⟩, ⟨F, F + (n - (L - (F + p % szF F L) + 1)) - 1⟩]
theorem seg_len {p n : Int} : (seg F L p n).length ≤ 2 := by unfold seg; split; simp; split <;> simp
theorem kit_rows {p n : Int} (k : Nat) (hk : 5 ≤ k) : serB F L = true → 0 ≤ p → p ≤ 8000000000000000 → n ≤ szF F L → -8000000000000000 ≤ n → partner_rows.f k F L p (p + n) = some (seg F L p n) := fun hS h0 h1 hn hn0 => by
  obtain ⟨k, rfl⟩ : ∃ m, k = m + 4 := ⟨k - 4, by omega⟩
  have hS' := hS
  simp only [serB, decide_eq_true_eq] at hS
  have hz : szF F L = L - F + 1 := rfl
  unfold partner_rows.f
  have hm0 := Int.emod_nonneg p (show szF F L ≠ 0 by omega)
  have hm1 := Int.emod_lt_of_pos p (show 0 < szF F L by omega)
  have hq := Int.mul_ediv_add_emod p (szF F L)
  unfold seg
  simp only [partner_rows.l0]
  by_cases g0 : n ≤ 0
  · rw [if_neg (by omega), if_pos g0]
  rw [if_pos (by omega), if_neg g0, kit_number hS' h0 (by omega)]
  generalize hr : p % szF F L = r at *
  simp only [Option.bind_some]
  rw [if_pos (by simp), wr (x := p + n - p) (by omega) (by omega), wr (x := L - (F + r)) (by omega) (by omega), wr (x := L - (F + r) + 1) (by omega) (by omega)]
  by_cases g1 : n ≤ L - (F + r) + 1
  · have hmn : mn (p + n - p) (L - (F + r) + 1) = n := by unfold mn; split <;> omega
    rw [hmn, wr (x := p + n) (by omega) (by omega), if_neg (by omega), if_pos g1, wr (x := F + r + n) (by omega) (by omega), wr (by omega) (by omega)]
    simp
  · have hmn : mn (p + n - p) (L - (F + r) + 1) = L - (F + r) + 1 := by unfold mn; split <;> omega
    have hp2 : (p + (L - (F + r) + 1)) % szF F L = 0 := emod_is (q := p / szF F L + 1) (by rw [Int.mul_add, Int.mul_one]; omega) (by omega) (by omega)
    rw [hmn, wr (x := p + (L - (F + r) + 1)) (by omega) (by omega), if_pos (by omega), if_neg g1, kit_number hS' (by omega) (by omega), hp2]
    simp only [Option.bind_some]
    rw [if_pos (by simp), wr (x := F + r + (L - (F + r) + 1)) (by omega) (by omega), wr (x := F + r + (L - (F + r) + 1) - 1) (by omega) (by omega), Int.add_zero, wr (x := p + n - (p + (L - (F + r) + 1))) (by omega) (by omega), wr (x := L - F) (by omega) (by omega), wr (x := L - F + 1) (by omega) (by omega)]
    have hmn2 : mn (p + n - (p + (L - (F + r) + 1))) (L - F + 1) = n - (L - (F + r) + 1) := by unfold mn; split <;> omega
    rw [hmn2, wr (x := p + (L - (F + r) + 1) + (n - (L - (F + r) + 1))) (by omega) (by omega), if_neg (by omega), wr (x := F + (n - (L - (F + r) + 1))) (by omega) (by omega), wr (by omega) (by omega)]
    simp
    omega
end
theorem awake_true : interchangelaw8_awake.f = some true := by
  have w1 : wrap64 2 = 2 := by unfold wrap64; omega
  simp [interchangelaw8_awake.f, partner_NextNumber.f, kit_series, kit_of, serB, ofB]
/-- The steps of some numbers from the first one, in order; or what is wrong. -/
def farF (F L a : Int) : List Int → Int × List Int
  | [] => (0, [])
  | x :: r => if ofB F L x = true then (if stp F L a x > szF F L / 2 then (8, []) else let y := farF F L a r; (y.1, stp F L a x :: y.2)) else (1, [])
theorem rd_cons {ys : List Int} {i : Nat} (h : i < ys.length) : ys.drop i = rd ys i :: ys.drop (i + 1) := by
  rw [List.drop_eq_getElem_cons h]
  congr 1
  simp [rd, h]
theorem rd_zero {a : Int} {l : List Int} : rd (a :: l) 0 = a := by simp [rd]
theorem wup {i : Nat} (h : (i : Int) < 9000000000000000) : wrap64 ((i : Int) + 1) = ((i + 1 : Nat) : Int) := by rw [wr (by omega) (by omega)]; omega
/-- The gaps between numbers in line. -/
def gp (F L b : Int) : Int → List Int → List S42
  | _, [] => []
  | a, c :: r => seg F L (b + a + 1) (c - a - 1) ++ gp F L b c r
theorem gp_len {F L b : Int} : ∀ (l : List Int) (a : Int), (gp F L b a l).length ≤ 2 * l.length
  | [], _ => by simp [gp]
  | c :: r, a => by
    have := gp_len (F := F) (L := L) (b := b) r c
    have h2 := seg_len (F := F) (L := L) (p := b + a + 1) (n := c - a - 1)
    simp only [gp, List.length_append, List.length_cons]
    omega
/-- Equal ones in line go. -/
def dd : List Int → List Int
  | [] => []
  | [a] => [a]
  | a :: b :: r => if a = b then dd (b :: r) else a :: dd (b :: r)
theorem dd_head : ∀ (r : List Int) (a : Int), ∃ r', dd (a :: r) = a :: r' ∧ ∀ F L b, gp F L b a r' = gp F L b a r
  | [], a => ⟨[], rfl, fun _ _ _ => rfl⟩
  | c :: r, a => by
    obtain ⟨r', h1, h2⟩ := dd_head r c
    by_cases e : a = c
    · subst e
      refine ⟨r', by simp only [dd, if_true]; exact h1, fun F L b => ?_⟩
      simp only [gp]
      rw [h2]
      have : seg F L (b + a + 1) (a - a - 1) = [] := by unfold seg; rw [if_pos (by omega)]
      rw [this]; rfl
    · refine ⟨c :: r', by simp only [dd, e, if_false]; rw [h1], fun F L b => ?_⟩
      simp only [gp]
      rw [h2]
theorem dd_snoc (x : Int) : ∀ l : List Int, dd (l ++ [x]) = dd l ++ (if l.getLast? = some x then [] else [x])
  | [] => rfl
  | [a] => by
    by_cases e : a = x
    · subst e; simp [dd]
    · simp [dd, e]
  | a :: b :: r => by
    have ih := dd_snoc x (b :: r)
    simp only [List.cons_append, dd] at *
    have hl : (a :: b :: r).getLast? = (b :: r).getLast? := by simp
    rw [hl]
    by_cases e : a = b
    · rw [if_pos e, if_pos e]; exact ih
    · rw [if_neg e, if_neg e, List.cons_append, ← ih]
open Go.Lib in
theorem compact_snoc (l : List Int) (x : Int) : compact (l ++ [x]) = compact l ++ (if l.getLast? = some x then [] else [x]) := by
  unfold compact
  rw [List.length_append, List.length_singleton, compactUpTo_succ]
  have h1 : compactUpTo (l ++ [x]).toArray l.length = compactUpTo l.toArray l.length := by
    unfold compactUpTo
    have hf : ∀ j, j < l.length → (l ++ [x]).toArray[j]! = l.toArray[j]! := by
      intro j hj
      rw [getElem!_pos _ _ (by simp; omega), getElem!_pos _ _ (by simpa using hj)]
      simp [List.getElem_append_left hj]
    have hk : ∀ j ∈ List.range l.length, keeps (l ++ [x]).toArray j = keeps l.toArray j := by
      intro j hj
      have hj := List.mem_range.1 hj
      unfold keeps
      rw [hf j hj, hf (j - 1) (by omega)]
    rw [List.filter_congr hk]
    refine List.map_congr_left fun j hj => hf j (List.mem_range.1 (List.mem_filter.1 hj).1)
  rw [h1]
  congr 1
  have hx : (l ++ [x]).toArray[l.length]! = x := by rw [getElem!_pos _ _ (by simp)]; simp
  rw [hx]
  rcases l.eq_nil_or_concat with rfl | ⟨l, y, rfl⟩
  · simp [keeps]
  · rw [List.concat_eq_append] at *
    have hy : (l ++ [y] ++ [x]).toArray[(l ++ [y]).length - 1]! = y := by rw [getElem!_pos _ _ (by simp)]; simp
    unfold keeps
    rw [hx, hy]
    by_cases e : y = x
    · simp [e]
    · simp [e, Ne.symm e]
theorem compact_dd' : ∀ (n : Nat) (l : List Int), l.length = n → Go.Lib.compact l = dd l
  | 0, l, h => by
    obtain rfl := List.length_eq_zero_iff.1 h
    rfl
  | n + 1, l, h => by
    rcases l.eq_nil_or_concat with rfl | ⟨l, y, rfl⟩
    · rfl
    · rw [List.concat_eq_append] at *
      rw [compact_snoc, dd_snoc, compact_dd' n l (by simpa using h)]
theorem compact_dd (l : List Int) : Go.Lib.compact l = dd l := compact_dd' _ l rfl
/-- All gaps. -/
def gps (F L b : Int) : List Int → List S42
  | [] => []
  | a :: r => gp F L b a r
theorem gps_compact (F L b : Int) (l : List Int) : gps F L b (Go.Lib.compact l) = gps F L b l := by
  rw [compact_dd]
  cases l with
  | nil => rfl
  | cons a r =>
    obtain ⟨r', h1, h2⟩ := dd_head r a
    rw [h1]
    exact h2 F L b
theorem dd_mem : ∀ (l : List Int) (x : Int), x ∈ dd l → x ∈ l
  | [], x, h => h
  | [a], x, h => h
  | a :: b :: r, x, h => by
    simp only [dd] at h
    split at h
    · exact List.mem_cons_of_mem _ (dd_mem (b :: r) x h)
    · rcases List.mem_cons.1 h with rfl | h
      · simp
      · exact List.mem_cons_of_mem _ (dd_mem (b :: r) x h)
theorem dd_len : ∀ l : List Int, (dd l).length ≤ l.length
  | [] => Nat.le_refl _
  | [a] => Nat.le_refl _
  | a :: b :: r => by
    have := dd_len (b :: r)
    simp only [dd]
    split <;> simp only [List.length_cons] at * <;> omega
theorem far_mem {F L a : Int} (hS : serB F L = true) (ha : ofB F L a = true) : ∀ (l : List Int), ∀ x ∈ (farF F L a l).2, 0 ≤ x ∧ x ≤ szF F L / 2
  | [], x, h => by simp [farF] at h
  | y :: r, x, h => by
    simp only [farF] at h
    split at h
    · rename_i hy
      split at h
      · simp at h
      · rcases List.mem_cons.1 h with rfl | h
        · exact ⟨(stp_le hS ha hy).1, by omega⟩
        · exact far_mem hS ha r x h
    · simp at h
theorem far_len {F L a : Int} : ∀ (l : List Int), (farF F L a l).2.length ≤ l.length
  | [] => Nat.le_refl _
  | y :: r => by
    have := far_len (F := F) (L := L) (a := a) r
    simp only [farF]
    (repeat' split) <;> simp only [List.length_cons, List.length_nil] <;> omega
/-- The gaps among numbers, or what is wrong. -/
def gapsF (F L : Int) (l : List Int) : List S42 × Int :=
  if serB F L = true then (if l.length > 1000 then ([], 2) else
    if (farF F L (rd l 0) l).1 = 0 then (gps F L (rd l 0 - F) ((farF F L (rd l 0) l).2.mergeSort fun x y => decide (x ≤ y)), 0) else ([], (farF F L (rd l 0) l).1)) else ([], 1)
section
variable {F L : Int}
theorem kit_gaps_l1 (hS : serB F L = true) (x1 : List Int) (hx1 : 0 < x1.length) (ha : ofB F L (rd x1 0) = true) (l : List Int) (hl : l.length ≤ 1000) (hm : ∀ x ∈ l, 0 ≤ x ∧ x ≤ szF F L / 2) (d : Nat) :
    ∀ (k i : Nat) (acc : List S42), 1 ≤ i → i ≤ l.length → l.length - i = d → d + 10 < k → acc.length ≤ 2 * i →
      partner_Gaps.l1 k x1 l acc i F L = some (acc ++ gp F L (rd x1 0 - F) (rd l ((i - 1 : Nat) : Int)) (l.drop i), 0) := by
  have hS' := hS
  simp only [serB, decide_eq_true_eq] at hS'
  have ha' := ha
  simp only [ofB, decide_eq_true_eq] at ha'
  have hz : szF F L = L - F + 1 := rfl
  have hm' : ∀ j : Nat, j < l.length → 0 ≤ rd l j ∧ rd l j ≤ szF F L / 2 := fun j hj => by
    have : rd l j = l[j] := by simp [rd, hj]
    rw [this]
    exact hm _ (List.getElem_mem hj)
  induction d with
  | zero =>
    intro k i acc h1 h2 hd hk hacc
    obtain ⟨k, rfl⟩ : ∃ m, k = m + 1 := ⟨k - 1, by omega⟩
    simp only [partner_Gaps.l1]
    rw [if_neg (by omega), List.drop_of_length_le (by omega)]
    simp [gp]
  | succ d ih =>
    intro k i acc h1 h2 hd hk hacc
    obtain ⟨k, rfl⟩ : ∃ m, k = m + 1 := ⟨k - 1, by omega⟩
    have hi : i < l.length := by omega
    have b1 := hm' i hi
    have b0 := hm' (i - 1) (by omega)
    simp only [partner_Gaps.l1]
    rw [wr (x := (i : Int) - 1) (by omega) (by omega), show ((i : Int) - 1) = ((i - 1 : Nat) : Int) by omega]
    rw [if_pos (by omega), if_pos (by omega), if_pos (by omega), if_pos (by omega), if_pos (by omega)]
    rw [wr (x := rd x1 0 - F) (by omega) (by omega)]
    rw [wr (x := rd x1 0 - F + rd l ((i - 1 : Nat) : Int)) (by omega) (by omega), wr (x := rd x1 0 - F + rd l ((i - 1 : Nat) : Int) + 1) (by omega) (by omega), wr (x := rd x1 0 - F + rd l i) (by omega) (by omega)]
    have e : rd x1 0 - F + rd l i = (rd x1 0 - F + rd l ((i - 1 : Nat) : Int) + 1) + (rd l i - rd l ((i - 1 : Nat) : Int) - 1) := by omega
    rw [e, kit_rows k (by omega) hS (by omega) (by omega) (by omega) (by omega)]
    simp only [Option.bind_some]
    have hsl := seg_len (F := F) (L := L) (p := rd x1 0 - F + rd l ((i - 1 : Nat) : Int) + 1) (n := rd l i - rd l ((i - 1 : Nat) : Int) - 1)
    rw [if_pos (by omega), wup (by omega), ih k (i + 1) _ (by omega) (by omega) (by omega) (by omega) (by rw [List.length_append]; omega), rd_cons hi]
    simp only [gp, Nat.add_sub_cancel, List.append_assoc]
theorem kit_gaps_l0 (hS : serB F L = true) (x1 : List Int) (hl : x1.length ≤ 1000) (d : Nat) :
    ∀ (k i : Nat) (acc : List Int), i ≤ x1.length → x1.length - i = d → d + 2000 < k → acc.length = i → (0 < i → ofB F L (rd x1 0) = true) → (∀ x ∈ acc, 0 ≤ x ∧ x ≤ szF F L / 2) →
      partner_Gaps.l0 k x1 acc x1 (x1.length : Int) i F L =
        some (if (farF F L (rd x1 0) (x1.drop i)).1 = 0 then (gps F L (rd x1 0 - F) ((acc ++ (farF F L (rd x1 0) (x1.drop i)).2).mergeSort fun x y => decide (x ≤ y)), 0) else ([], (farF F L (rd x1 0) (x1.drop i)).1)) := by
  have hS' := hS
  simp only [serB, decide_eq_true_eq] at hS'
  have hz : szF F L = L - F + 1 := rfl
  induction d with
  | zero =>
    intro k i acc h1 hd hk hacc ha hm
    obtain ⟨k, rfl⟩ : ∃ m, k = m + 1 := ⟨k - 1, by omega⟩
    simp only [partner_Gaps.l0]
    rw [if_neg (by omega), List.drop_of_length_le (by omega)]
    simp only [farF, if_true, List.append_nil]
    unfold slices_Sort_int_int.f
    rw [if_pos (by omega)]
    simp only [Option.bind_some]
    unfold slices_Compact_int_int.f
    have hsl : (acc.mergeSort fun x y => decide (x ≤ y)).length = acc.length := by simp
    rw [if_pos (by omega)]
    simp only [Option.bind_some]
    rw [← gps_compact]
    have hcl : (Go.Lib.compact (acc.mergeSort fun x y => decide (x ≤ y))).length ≤ acc.length := by rw [compact_dd]; exact Nat.le_trans (dd_len _) (by omega)
    have hcm : ∀ x ∈ Go.Lib.compact (acc.mergeSort fun x y => decide (x ≤ y)), 0 ≤ x ∧ x ≤ szF F L / 2 := fun x hx => by
      rw [compact_dd] at hx
      have := dd_mem _ _ hx
      exact hm x (by simpa using this)
    generalize Go.Lib.compact (acc.mergeSort fun x y => decide (x ≤ y)) = c at *
    cases c with
    | nil =>
      obtain ⟨k, rfl⟩ : ∃ m, k = m + 1 := ⟨k - 1, by omega⟩
      simp [partner_Gaps.l1, gps]
    | cons a r =>
      simp only [List.length_cons] at hcl
      have := kit_gaps_l1 hS x1 (by omega) (ha (by omega)) (a :: r) (by simp only [List.length_cons]; omega) hcm r.length k 1 [] (by omega) (by simp) (by simp) (by omega) (by simp)
      simp only [Int.natCast_one, List.nil_append, Nat.sub_self, Int.natCast_zero, rd_zero, List.drop_succ_cons, List.drop_zero] at this
      rw [this]
      rfl
  | succ d ih =>
    intro k i acc h1 hd hk hacc ha hm
    obtain ⟨k, rfl⟩ : ∃ m, k = m + 1 := ⟨k - 1, by omega⟩
    have hi : i < x1.length := by omega
    simp only [partner_Gaps.l0]
    rw [if_pos (by omega), if_pos (by omega), if_pos (by omega), kit_of, rd_cons hi]
    simp only [Option.bind_some, farF]
    by_cases hb : ofB F L (rd x1 i) = true
    · have ha2 : ofB F L (rd x1 0) = true := by
        by_cases h0 : i = 0
        · subst h0; exact hb
        · exact ha (by omega)
      rw [if_pos hb, if_pos (by omega), kit_between hS ha2 hb, if_pos hb]
      simp only [Option.bind_some, kit_half hS]
      by_cases hg : stp F L (rd x1 0) (rd x1 i) > szF F L / 2
      · rw [if_pos hg, if_pos hg]; simp
      · rw [if_neg hg, if_neg hg, if_pos (by omega), wup (by omega)]
        rw [ih k (i + 1) _ (by omega) (by omega) (by omega) (by simp [hacc]) (fun _ => ha2) (fun x hx => by
          rcases List.mem_append.1 hx with hx | hx
          · exact hm x hx
          · have := stp_le hS ha2 hb
            simp at hx
            omega)]
        simp only [List.append_assoc, List.singleton_append]
    · rw [if_neg hb, if_neg hb]; simp
theorem kit_gaps (hF : -9223372036854775808 ≤ F ∧ F ≤ 9223372036854775807) (l : List Int) (k : Nat) (hk : 4000 ≤ k) : partner_Gaps.f k F L l = some (gapsF F L l) := by
  unfold partner_Gaps.f gapsF
  rw [kit_series hF]
  simp only [Option.bind_some]
  by_cases hS : serB F L = true
  · rw [if_pos hS, if_pos rfl, if_pos hS]
    by_cases hl : l.length > 1000
    · rw [if_pos (by omega), if_pos hl]
    · rw [if_neg (by omega), if_neg hl]
      have := kit_gaps_l0 hS l (by omega) l.length k 0 [] (by omega) (by omega) (by omega) rfl (fun h => by omega) (by simp)
      simp only [Int.natCast_zero, List.drop_zero, List.nil_append] at this
      exact this
  · rw [if_neg hS, if_neg (by omega), if_neg hS]
end
theorem gaps_len {F L : Int} {l : List Int} : (gapsF F L l).1.length ≤ 2000 := by
  unfold gapsF
  split
  · split
    · simp
    · split
      · rename_i h _
        have h1 := far_len (F := F) (L := L) (a := rd l 0) l
        have h2 : ((farF F L (rd l 0) l).2.mergeSort fun x y => decide (x ≤ y)).length = (farF F L (rd l 0) l).2.length := by simp
        generalize ((farF F L (rd l 0) l).2.mergeSort fun x y => decide (x ≤ y)) = c at *
        cases c with
        | nil => simp [gps]
        | cons a r =>
          have := gp_len (F := F) (L := L) (b := rd l 0 - F) r a
          simp only [List.length_cons] at h2
          simp only [gps]
          omega
      · simp
  · simp
theorem ref_size {F L : Int} : serB F L = true → interchangeref8_size.f F L = some (szF F L) := fun hS => by
  simp only [serB, decide_eq_true_eq] at hS
  unfold interchangeref8_size.f szF
  rw [wr (x := L - F) (by omega) (by omega), wr (by omega) (by omega)]
theorem ref_steps {F L a b : Int} : serB F L = true → ofB F L a = true → ofB F L b = true → interchangeref8_steps.f F L a b = some (stp F L a b) := fun hS ha hb => by
  unfold interchangeref8_steps.f stp
  simp only [ref_size hS, Option.bind_some]
  simp only [serB, ofB, decide_eq_true_eq] at hS ha hb
  have hz : szF F L = L - F + 1 := rfl
  rw [wr (x := b - a) (by omega) (by omega)]
  by_cases g : a ≤ b
  · rw [if_pos (by omega), if_pos g]
  · rw [if_neg (by omega), if_neg g, wr (by omega) (by omega)]
/-! sorted lists -/
abbrev srt (l : List Int) : List Int := l.mergeSort fun x y => decide (x ≤ y)
theorem srt_le (l : List Int) : (srt l).Pairwise (· ≤ ·) := by
  have := List.pairwise_mergeSort (le := fun (x y : Int) => decide (x ≤ y)) (fun a b c h1 h2 => by simp at *; omega) (fun a b => by simp; omega) l
  simpa using this
theorem mem_dd : ∀ (l : List Int) (x : Int), x ∈ l → x ∈ dd l
  | [], x, h => h
  | [a], x, h => h
  | a :: b :: r, x, h => by
    have ih := mem_dd (b :: r) x
    simp only [dd]
    by_cases e : a = b
    · rw [if_pos e]
      subst e
      rcases List.mem_cons.1 h with rfl | h
      · exact ih (by simp)
      · exact ih h
    · rw [if_neg e]
      rcases List.mem_cons.1 h with rfl | h
      · simp
      · exact List.mem_cons_of_mem _ (ih h)
theorem dd_lt : ∀ (l : List Int), l.Pairwise (· ≤ ·) → (dd l).Pairwise (· < ·)
  | [], _ => List.Pairwise.nil
  | [a], _ => by simp [dd]
  | a :: b :: r, h => by
    have h2 := (List.pairwise_cons.1 h)
    have ih := dd_lt (b :: r) h2.2
    simp only [dd]
    by_cases e : a = b
    · rw [if_pos e]; exact ih
    · rw [if_neg e]
      refine List.pairwise_cons.2 ⟨fun x hx => ?_, ih⟩
      have hx := dd_mem _ _ hx
      have h3 := h2.1 b (by simp)
      rcases List.mem_cons.1 hx with rfl | hx
      · omega
      · have := (List.pairwise_cons.1 h2.2).1 x hx
        omega
theorem nodup_lt {l : List Int} (h : l.Pairwise (· < ·)) : l.Nodup := h.imp fun h => by omega
theorem len_of_mem {l m : List Int} (h1 : l.Nodup) (h2 : m.Nodup) (h : ∀ x, x ∈ l ↔ x ∈ m) : l.length = m.length := ((List.perm_ext_iff_of_nodup h1 h2).2 h).length_eq
/-! what rows cover -/
def cov : List S42 → Int
  | [] => 0
  | x :: r => (x.f1 - x.f0 + 1) + cov r
theorem cov_append : ∀ (l m : List S42), cov (l ++ m) = cov l + cov m
  | [], m => by simp [cov]
  | x :: r, m => by simp only [List.cons_append, cov, cov_append r m]; omega
theorem cov_seg {F L p n : Int} (hn : 0 ≤ n) : cov (seg F L p n) = n := by
  unfold seg
  by_cases g : n ≤ 0
  · rw [if_pos g]; simp only [cov]; omega
  · rw [if_neg g]
    split <;> simp only [cov] <;> omega
def lastOf : Int → List Int → Int
  | a, [] => a
  | _, c :: r => lastOf c r
theorem cov_gp {F L b : Int} : ∀ (r : List Int) (a : Int), (a :: r).Pairwise (· < ·) → cov (gp F L b a r) = lastOf a r - a - r.length
  | [], a, _ => by simp [gp, cov, lastOf]
  | c :: r, a, h => by
    have h2 := List.pairwise_cons.1 h
    have := h2.1 c (by simp)
    simp only [gp, lastOf, cov_append, List.length_cons]
    rw [cov_gp r c h2.2, cov_seg (by omega)]
    omega
theorem last_mem : ∀ (r : List Int) (a : Int), lastOf a r ∈ a :: r
  | [], a => by simp [lastOf]
  | c :: r, a => List.mem_cons_of_mem _ (last_mem r c)
theorem last_ge : ∀ (r : List Int) (a : Int), (a :: r).Pairwise (· < ·) → ∀ x ∈ a :: r, x ≤ lastOf a r
  | [], a, _, x, hx => by simp at hx; simp [lastOf, hx]
  | c :: r, a, h, x, hx => by
    have h2 := List.pairwise_cons.1 h
    have ih := last_ge r c h2.2
    simp only [lastOf]
    rcases List.mem_cons.1 hx with rfl | hx
    · have := h2.1 c (by simp)
      have := ih c (by simp)
      omega
    · exact ih x hx
/-! what is in rows -/
def inB (l : List S42) (n : Int) : Bool := l.any fun g => decide (g.f0 ≤ n ∧ n ≤ g.f1)
theorem in_seg {F L z a c n : Int} (hS : serB F L = true) (hz : ofB F L z = true) (hn : ofB F L n = true) (ha : 0 ≤ a) (hc : c ≤ szF F L / 2) (hac : a ≤ c) (h : inB (seg F L (z - F + a + 1) (c - a - 1)) n = true) :
    a < stp F L z n ∧ stp F L z n < c := by
  simp only [serB, ofB, decide_eq_true_eq] at *
  have hs : szF F L = L - F + 1 := rfl
  have hr : (z - F + a + 1) % szF F L = z - F + a + 1 ∨ ((z - F + a + 1) % szF F L = z - F + a + 1 - szF F L ∧ szF F L ≤ z - F + a + 1) := by
    by_cases g : z - F + a + 1 < szF F L
    · exact .inl (emod_is (q := 0) (by omega) (by omega) g)
    · exact .inr ⟨emod_is (q := 1) (by omega) (by omega) (by omega), by omega⟩
  have hm0 := Int.emod_nonneg (z - F + a + 1) (show szF F L ≠ 0 by omega)
  have hm1 := Int.emod_lt_of_pos (z - F + a + 1) (show 0 < szF F L by omega)
  unfold seg at h
  generalize (z - F + a + 1) % szF F L = r at *
  unfold stp
  split at h
  · simp [inB] at h
  · split at h
    · simp only [inB, List.any_cons, List.any_nil, Bool.or_false, decide_eq_true_eq] at h
      split <;> omega
    · simp only [inB, List.any_cons, List.any_nil, Bool.or_false, Bool.or_eq_true, decide_eq_true_eq] at h
      split <;> omega
theorem not_in_gp {F L z n : Int} (hS : serB F L = true) (hz : ofB F L z = true) (hn : ofB F L n = true) : ∀ (r : List Int) (a : Int), (a :: r).Pairwise (· ≤ ·) → (∀ x ∈ a :: r, 0 ≤ x ∧ x ≤ szF F L / 2) → (stp F L z n ≤ a ∨ stp F L z n ∈ a :: r) →
    inB (gp F L (z - F) a r) n = false
  | [], a, _, _, _ => by simp [gp, inB]
  | c :: r, a, h, hm, hv => by
    have h2 := List.pairwise_cons.1 h
    have h3 := List.pairwise_cons.1 h2.2
    have hac := h2.1 c (by simp)
    simp only [gp]
    unfold inB
    rw [List.any_append]
    have e1 : inB (seg F L (z - F + a + 1) (c - a - 1)) n = false := by
      cases e : inB (seg F L (z - F + a + 1) (c - a - 1)) n with
      | false => rfl
      | true =>
        have := in_seg hS hz hn (hm a (by simp)).1 (hm c (by simp)).2 hac e
        exfalso
        rcases hv with hv | hv
        · omega
        · rcases List.mem_cons.1 hv with hv | hv
          · omega
          · rcases List.mem_cons.1 hv with hv | hv
            · omega
            · have := h3.1 _ hv
              omega
    have e2 : inB (gp F L (z - F) c r) n = false := not_in_gp hS hz hn r c h2.2 (fun x hx => hm x (List.mem_cons_of_mem _ hx)) (by
      rcases hv with hv | hv
      · left; omega
      · rcases List.mem_cons.1 hv with hv | hv
        · left; omega
        · right; exact hv)
    unfold inB at e1 e2
    rw [e1, e2]; rfl
/-! the loops -/
theorem in_loop (l : List S42) (n : Int) (hl : l.length ≤ 3000) (d : Nat) : ∀ (k i : Nat), i ≤ l.length → l.length - i = d → d < k → interchangeref8_In.l0 k n l (l.length : Int) i = some (inB (l.drop i) n) := by
  induction d with
  | zero =>
    intro k i h1 hd hk
    obtain ⟨k, rfl⟩ : ∃ m, k = m + 1 := ⟨k - 1, by omega⟩
    simp only [interchangeref8_In.l0]
    rw [if_neg (by omega), List.drop_of_length_le (by omega)]
    rfl
  | succ d ih =>
    intro k i h1 hd hk
    obtain ⟨k, rfl⟩ : ∃ m, k = m + 1 := ⟨k - 1, by omega⟩
    have hi : i < l.length := by omega
    simp only [interchangeref8_In.l0]
    have hr : rd_T42 l (i : Int) = l[i] := by simp [rd_T42, hi]
    rw [if_pos (by omega), if_pos (by omega), if_pos (by omega), wup (by omega), ih k (i + 1) (by omega) (by omega) (by omega), hr, List.drop_eq_getElem_cons hi]
    simp only [inB, List.any_cons]
    by_cases g1 : l[i].f0 ≤ n
    · by_cases g2 : n ≤ l[i].f1
      · rw [if_pos g1, if_pos g2]; simp [g1, g2]
      · rw [if_pos g1, if_neg g2]; simp [g1, g2]
    · rw [if_neg g1]; simp [g1]
theorem cover_loop (l : List S42) (hl : l.length ≤ 3000) (hb : ∀ x ∈ l, 0 ≤ x.f0 ∧ x.f0 ≤ 1000000000000000 ∧ -1 ≤ x.f1 ∧ x.f1 ≤ 1000000000000000) (d : Nat) : ∀ (k i : Nat) (m : Int), i ≤ l.length → l.length - i = d → d < k → -2000000000000000 * i ≤ m → m ≤ 2000000000000000 * i →
    interchangeref8_Cover.l0 k m l (l.length : Int) i = some (m + cov (l.drop i)) := by
  induction d with
  | zero =>
    intro k i m h1 hd hk hm0 hm1
    obtain ⟨k, rfl⟩ : ∃ m, k = m + 1 := ⟨k - 1, by omega⟩
    simp only [interchangeref8_Cover.l0]
    rw [if_neg (by omega), List.drop_of_length_le (by omega)]
    simp [cov]
  | succ d ih =>
    intro k i m h1 hd hk hm0 hm1
    obtain ⟨k, rfl⟩ : ∃ m, k = m + 1 := ⟨k - 1, by omega⟩
    have hi : i < l.length := by omega
    have hx := hb l[i] (List.getElem_mem hi)
    simp only [interchangeref8_Cover.l0]
    have hr : rd_T42 l (i : Int) = l[i] := by simp [rd_T42, hi]
    rw [if_pos (by omega), if_pos (by omega), if_pos (by omega), hr, wr (x := l[i].f1 - l[i].f0) (by omega) (by omega), wr (x := l[i].f1 - l[i].f0 + 1) (by omega) (by omega), wr (x := m + (l[i].f1 - l[i].f0 + 1)) (by omega) (by omega), wup (by omega),
      ih k (i + 1) _ (by omega) (by omega) (by omega) (by omega) (by omega), List.drop_eq_getElem_cons hi]
    simp only [cov]
    congr 1
    omega
def mxs (F L z : Int) : Int → List Int → Int
  | m, [] => m
  | m, x :: r => mxs F L z (mx m (stp F L z x)) r
theorem spread_loop {F L : Int} (hS : serB F L = true) (l : List Int) (hl : l.length ≤ 1000) (hm : ∀ x ∈ l, ofB F L x = true) (d : Nat) : ∀ (k i : Nat) (m : Int), i ≤ l.length → l.length - i = d → d < k →
    interchangeref8_Spread.l0 k l m l (l.length : Int) i F L = some (mxs F L (rd l 0) m (l.drop i)) := by
  induction d with
  | zero =>
    intro k i m h1 hd hk
    obtain ⟨k, rfl⟩ : ∃ m, k = m + 1 := ⟨k - 1, by omega⟩
    simp only [interchangeref8_Spread.l0]
    rw [if_neg (by omega), List.drop_of_length_le (by omega)]
    rfl
  | succ d ih =>
    intro k i m h1 hd hk
    obtain ⟨k, rfl⟩ : ∃ m, k = m + 1 := ⟨k - 1, by omega⟩
    have hi : i < l.length := by omega
    have h0 : ofB F L (rd l 0) = true := by
      have : rd l 0 = l[0] := by simp [rd, show 0 < l.length by omega]
      rw [this]; exact hm _ (List.getElem_mem _)
    have hx : ofB F L (rd l i) = true := by
      have : rd l i = l[i] := by simp [rd, hi]
      rw [this]; exact hm _ (List.getElem_mem _)
    simp only [interchangeref8_Spread.l0]
    rw [if_pos (by omega), if_pos (by omega), if_pos (by omega), if_pos (by omega), ref_steps hS h0 hx]
    simp only [Option.bind_some]
    rw [wup (by omega), ih k (i + 1) _ (by omega) (by omega) (by omega), rd_cons hi]
    rfl
theorem mxs_ge {F L z : Int} : ∀ (l : List Int) (m : Int), m ≤ mxs F L z m l ∧ ∀ x ∈ l, stp F L z x ≤ mxs F L z m l
  | [], m => ⟨Int.le_refl _, fun x h => by simp at h⟩
  | y :: r, m => by
    have ih := mxs_ge (F := F) (L := L) (z := z) r (mx m (stp F L z y))
    have h1 : m ≤ mx m (stp F L z y) ∧ stp F L z y ≤ mx m (stp F L z y) := by unfold mx; split <;> omega
    simp only [mxs]
    refine ⟨by omega, fun x hx => ?_⟩
    rcases List.mem_cons.1 hx with rfl | hx
    · omega
    · exact ih.2 x hx
theorem mxs_mem {F L z : Int} : ∀ (l : List Int) (m : Int), mxs F L z m l = m ∨ ∃ x ∈ l, mxs F L z m l = stp F L z x
  | [], m => .inl rfl
  | y :: r, m => by
    simp only [mxs]
    rcases mxs_mem (F := F) (L := L) (z := z) r (mx m (stp F L z y)) with h | ⟨x, hx, h⟩
    · rw [h]
      unfold mx
      split
      · exact .inr ⟨y, by simp, rfl⟩
      · exact .inl rfl
    · exact .inr ⟨x, List.mem_cons_of_mem _ hx, h⟩
theorem far_map {F L z : Int} : ∀ (l : List Int), (farF F L z l).1 = 0 → (farF F L z l).2 = l.map (stp F L z) ∧ (∀ x ∈ l, ofB F L x = true)
  | [], _ => by simp [farF]
  | y :: r, h => by
    simp only [farF] at h ⊢
    split at h
    · rename_i hy
      split at h
      · cases h
      · rename_i hg
        have ih := far_map r h
        rw [if_pos hy, if_neg hg]
        refine ⟨by simp [ih.1], fun x hx => ?_⟩
        rcases List.mem_cons.1 hx with rfl | hx
        · exact hy
        · exact ih.2 x hx
    · cases h
theorem stp_inj {F L z x y : Int} (hS : serB F L = true) (hz : ofB F L z = true) (hx : ofB F L x = true) (hy : ofB F L y = true) (h : stp F L z x = stp F L z y) : x = y := by
  simp only [serB, ofB, decide_eq_true_eq] at *
  have hs : szF F L = L - F + 1 := rfl
  unfold stp at h
  split at h <;> split at h <;> omega
theorem nodup_map {F L z : Int} (hS : serB F L = true) (hz : ofB F L z = true) : ∀ (l : List Int), (∀ x ∈ l, ofB F L x = true) → l.Nodup → (l.map (stp F L z)).Nodup
  | [], _, _ => List.nodup_nil
  | a :: r, hm, h => by
    have h2 := List.nodup_cons.1 h
    rw [List.map_cons]
    refine List.nodup_cons.2 ⟨fun hx => ?_, nodup_map hS hz r (fun x hx => hm x (List.mem_cons_of_mem _ hx)) h2.2⟩
    obtain ⟨y, hy, e⟩ := List.mem_map.1 hx
    have := stp_inj hS hz (hm y (List.mem_cons_of_mem _ hy)) (hm a (by simp)) e
    subst this
    exact h2.1 hy
theorem seg_bound {F L p n : Int} (hS : serB F L = true) (hn : n ≤ szF F L) : ∀ x ∈ seg F L p n, 0 ≤ x.f0 ∧ x.f0 ≤ 1000000000000000 ∧ -1 ≤ x.f1 ∧ x.f1 ≤ 1000000000000000 := by
  simp only [serB, decide_eq_true_eq] at hS
  have hs : szF F L = L - F + 1 := rfl
  have hm0 := Int.emod_nonneg p (show szF F L ≠ 0 by omega)
  have hm1 := Int.emod_lt_of_pos p (show 0 < szF F L by omega)
  unfold seg
  generalize p % szF F L = r at *
  intro x hx
  split at hx
  · simp at hx
  · split at hx
    · simp only [List.mem_singleton] at hx
      subst hx
      simp only
      omega
    · simp only [List.mem_cons, List.mem_nil_iff, or_false] at hx
      rcases hx with rfl | rfl <;> simp only <;> omega
theorem gp_bound {F L b : Int} (hS : serB F L = true) : ∀ (r : List Int) (a : Int), (∀ x ∈ a :: r, 0 ≤ x ∧ x ≤ szF F L / 2) → ∀ x ∈ gp F L b a r, 0 ≤ x.f0 ∧ x.f0 ≤ 1000000000000000 ∧ -1 ≤ x.f1 ∧ x.f1 ≤ 1000000000000000
  | [], a, _, x, hx => by simp [gp] at hx
  | c :: r, a, hm, x, hx => by
    have h1 := hm a (by simp); have h2 := hm c (by simp)
    have hs : szF F L = L - F + 1 := rfl
    have hS2 := hS
    simp only [serB, decide_eq_true_eq] at hS2
    simp only [gp] at hx
    rcases List.mem_append.1 hx with hx | hx
    · exact seg_bound hS (by omega) x hx
    · exact gp_bound hS r c (fun x hx => hm x (List.mem_cons_of_mem _ hx)) x hx
/-- The law's loop over the numbers. -/
theorem law_loop {F L : Int} (l : List Int) (hl : l.length ≤ 1000) (g : List S42) (hg : g.length ≤ 2000) (hin : ∀ x ∈ l, inB g x = false) (res : Option Bool) (hres : ∀ k, 4000 ≤ k → ((slices_Clone_int_int.f l).bind fun t168 => ((slices_Sort_int_int.f t168).bind fun t171 => ((interchangeref8_Cover.f k g).bind fun t172 => ((slices_Compact_int_int.f t171).bind fun t173 => ((interchangeref8_Spread.f k F L l).bind fun t176 => (if (wrap64 (t172 + (t173.length : Int))) = (wrap64 (t176 + 1)) then ((interchangelaw8_awake.f).bind fun t177 => (some t177)) else (some false))))))) = res) (d : Nat) :
    ∀ (k i : Nat), i ≤ l.length → l.length - i = d → d + 4000 < k → interchangelaw8_PartnerGapsAreMissing.l0 k l g l (l.length : Int) i F L = res := by
  induction d with
  | zero =>
    intro k i h1 hd hk
    obtain ⟨k, rfl⟩ : ∃ m, k = m + 1 := ⟨k - 1, by omega⟩
    simp only [interchangelaw8_PartnerGapsAreMissing.l0]
    rw [if_neg (by omega)]
    exact hres k (by omega)
  | succ d ih =>
    intro k i h1 hd hk
    obtain ⟨k, rfl⟩ : ∃ m, k = m + 1 := ⟨k - 1, by omega⟩
    have hi : i < l.length := by omega
    have hr : rd l (i : Int) = l[i] := by simp [rd, hi]
    simp only [interchangelaw8_PartnerGapsAreMissing.l0, interchangeref8_In.f]
    have := in_loop g (rd l i) (by omega) g.length k 0 (by omega) (by omega) (by omega)
    simp only [Int.natCast_zero, List.drop_zero] at this
    rw [if_pos (by omega), if_pos (by omega), if_pos (by omega), this, hr, hin _ (List.getElem_mem hi)]
    simp only [Option.bind_some]
    rw [if_neg (by simp), wup (by omega)]
    exact ih k (i + 1) (by omega) (by omega) (by omega)
theorem PartnerGapsAreMissing : Pure := by
  rintro s l ⟨f0, f1⟩ ⟨_, _, _⟩
  refine ⟨9000, ?_⟩
  have hF := wf_i64 f0
  unfold interchangelaw8_PartnerGapsAreMissing.f
  rw [kit_gaps hF l 9000 (by omega)]
  simp only [Option.bind_some]
  have hgl := @gaps_len s.f0 s.f1 l
  by_cases he : (gapsF s.f0 s.f1 l).2 = 0
  · rw [if_pos he]
    simp only [interchangelaw8_PartnerGapsAreMissing.j0]
    unfold gapsF at *
    by_cases hS : serB s.f0 s.f1 = true
    · rw [if_pos hS] at *
      by_cases hl : l.length > 1000
      · rw [if_pos hl] at he; cases he
      · rw [if_neg hl] at *
        by_cases hf : (farF s.f0 s.f1 (rd l 0) l).1 = 0
        · rw [if_pos hf] at *
          obtain ⟨hfar, hof⟩ := far_map l hf
          by_cases h0 : l = []
          · subst h0
            have : (gps s.f0 s.f1 (rd [] 0 - s.f0) (srt (farF s.f0 s.f1 (rd [] 0) []).2)) = [] := by simp [farF, srt, gps]
            simp only [this]
            simp [awake_true]
          · have hlen : 0 < l.length := by
              rcases Nat.eq_zero_or_pos l.length with h | h
              · exact absurd (List.length_eq_zero_iff.1 h) h0
              · exact h
            rw [if_neg (by simp; omega)]
            generalize hF' : s.f0 = F at *
            generalize hL' : s.f1 = L at *
            have hz0 : rd l 0 = l[0] := by simp [rd, hlen]
            have hz : ofB F L (rd l 0) = true := by rw [hz0]; exact hof _ (List.getElem_mem _)
            have hm := far_mem hS hz l
            have hgl' : (gps F L (rd l 0 - F) (srt (farF F L (rd l 0) l).2)).length ≤ 2000 := hgl
            show interchangelaw8_PartnerGapsAreMissing.l0 8999 l (gps F L (rd l 0 - F) (srt (farF F L (rd l 0) l).2)) l (l.length : Int) 0 F L = some true
            rw [hfar] at hm hgl' ⊢
            have hsm : ∀ x ∈ srt (l.map (stp F L (rd l 0))), 0 ≤ x ∧ x ≤ szF F L / 2 := fun x hx => hm x (by simpa [srt] using hx)
            have hsle := srt_le (l.map (stp F L (rd l 0)))
            have hmem : ∀ x, x ∈ srt (l.map (stp F L (rd l 0))) ↔ x ∈ l.map (stp F L (rd l 0)) := fun x => List.mem_mergeSort
            -- the gaps over what is sorted, and over what is there once
            have hgc := gps_compact F L (rd l 0 - F) (srt (l.map (stp F L (rd l 0))))
            have hdd := compact_dd (srt (l.map (stp F L (rd l 0))))
            rw [hdd] at hgc
            have hnl : (l.map (stp F L (rd l 0))).length = l.length := by simp
            generalize hc : srt (l.map (stp F L (rd l 0))) = c at *
            have hcl : c.length = l.length := by rw [← hc]; simp [srt]
            have hS2 := hS
            simp only [serB, decide_eq_true_eq] at hS2
            have hsz : szF F L = L - F + 1 := rfl
            cases c with
            | nil => simp at hcl; omega
            | cons a r =>
              have hin : ∀ x ∈ l, inB (gps F L (rd l 0 - F) (a :: r)) x = false := fun x hx =>
                not_in_gp hS hz (hof x hx) r a hsle hsm (.inr ((hmem _).2 (List.mem_map_of_mem hx)))
              have hbound : ∀ x ∈ gps F L (rd l 0 - F) (a :: r), 0 ≤ x.f0 ∧ x.f0 ≤ 1000000000000000 ∧ -1 ≤ x.f1 ∧ x.f1 ≤ 1000000000000000 := gp_bound hS r a hsm
              refine law_loop l (by omega) _ hgl' hin (some true) ?_ l.length 8999 0 (by omega) (by omega) (by omega)
              intro k hk
              have e1 : slices_Clone_int_int.f l = some l := by unfold slices_Clone_int_int.f; rw [if_pos (by omega)]
              have e2 : slices_Sort_int_int.f l = some (srt l) := by unfold slices_Sort_int_int.f; rw [if_pos (by omega)]
              have hsl : (srt l).length = l.length := by simp [srt]
              have e3 : slices_Compact_int_int.f (srt l) = some (dd (srt l)) := by unfold slices_Compact_int_int.f; rw [if_pos (by omega), compact_dd]
              have e4 : interchangeref8_Cover.f k (gps F L (rd l 0 - F) (a :: r)) = some (cov (gps F L (rd l 0 - F) (a :: r))) := by
                unfold interchangeref8_Cover.f
                have := cover_loop (gps F L (rd l 0 - F) (a :: r)) (by omega) hbound (gps F L (rd l 0 - F) (a :: r)).length k 0 0 (by omega) (by omega) (by omega) (by omega) (by omega)
                simp only [Int.natCast_zero, List.drop_zero, Int.zero_add] at this
                exact this
              have e5 : interchangeref8_Spread.f k F L l = some (mxs F L (rd l 0) 0 l) := by
                unfold interchangeref8_Spread.f
                have := spread_loop hS l (by omega) hof l.length k 0 0 (by omega) (by omega) (by omega)
                simp only [Int.natCast_zero, List.drop_zero] at this
                exact this
              rw [e1]; simp only [Option.bind_some]
              rw [e2]; simp only [Option.bind_some]
              rw [e4]; simp only [Option.bind_some]
              rw [e3]; simp only [Option.bind_some]
              rw [e5]; simp only [Option.bind_some]
              -- the strictly rising list
              have hlt := dd_lt (a :: r) hsle
              have hdm : ∀ x, x ∈ dd (a :: r) ↔ x ∈ l.map (stp F L (rd l 0)) := fun x => ⟨fun h => (hmem x).1 (dd_mem _ _ h), fun h => mem_dd _ _ ((hmem x).2 h)⟩
              obtain ⟨r', hr', _⟩ := dd_head r a
              rw [← hgc, hr']
              rw [hr'] at hlt hdm
              have hcov : cov (gps F L (rd l 0 - F) (a :: r')) = lastOf a r' - a - r'.length := cov_gp r' a hlt
              rw [hcov]
              have hcount : (dd (srt l)).length = (a :: r').length := by
                have n1 : (dd (srt l)).Nodup := nodup_lt (dd_lt _ (srt_le l))
                have m1 : ∀ x, x ∈ dd (srt l) ↔ x ∈ l := fun x => ⟨fun h => by have := dd_mem _ _ h; simpa [srt] using this, fun h => mem_dd _ _ (by simpa [srt] using h)⟩
                have n2 := nodup_map hS hz (dd (srt l)) (fun x hx => hof x ((m1 x).1 hx)) n1
                have := len_of_mem n2 (nodup_lt hlt) (fun x => by
                  rw [hdm, List.mem_map, List.mem_map]
                  exact ⟨fun ⟨y, hy, e⟩ => ⟨y, (m1 y).1 hy, e⟩, fun ⟨y, hy, e⟩ => ⟨y, (m1 y).2 hy, e⟩⟩)
                simpa using this
              -- the first step is 0, the last one the greatest
              have hzero : stp F L (rd l 0) (rd l 0) = 0 := by unfold stp; rw [if_pos (by omega)]; omega
              have h0m : (0 : Int) ∈ a :: r' := (hdm 0).2 (List.mem_map.2 ⟨rd l 0, by rw [hz0]; exact List.getElem_mem _, hzero⟩)
              have ha0 : a = 0 := by
                have h1 := (hsm a (by simp)).1
                rcases List.mem_cons.1 h0m with h | h
                · exact h.symm
                · have := (List.pairwise_cons.1 hlt).1 0 h
                  omega
              have hlast : lastOf a r' = mxs F L (rd l 0) 0 l := by
                have g1 := last_ge r' a hlt
                have g2 := last_mem r' a
                obtain ⟨y, hy, ey⟩ := List.mem_map.1 ((hdm _).1 g2)
                have g3 := (mxs_ge (F := F) (L := L) (z := rd l 0) l 0).2 y hy
                rcases mxs_mem (F := F) (L := L) (z := rd l 0) l 0 with h | ⟨x, hx, h⟩
                · have := g1 0 h0m
                  omega
                · have := g1 _ ((hdm _).2 (List.mem_map.2 ⟨x, hx, rfl⟩))
                  omega
              have hlb := hsm (lastOf a r') (by
                have := last_mem r' a
                exact (hmem _).2 ((hdm _).1 this))
              have hddl := dd_len (srt l)
              rw [hcount] at hddl ⊢
              simp only [List.length_cons] at *
              rw [← hlast]
              have hw : wrap64 (lastOf a r' - a - (r'.length : Int) + ((r'.length + 1 : Nat) : Int)) = wrap64 (lastOf a r' + 1) := congrArg wrap64 (by omega)
              rw [if_pos hw, awake_true]
              rfl
        · rw [if_neg hf] at he; exact absurd he hf
    · rw [if_neg hS] at he; cases he
  · rw [if_neg he]
    have hg0 : (gapsF s.f0 s.f1 l).1 = [] := by
      unfold gapsF at *
      (repeat' split) <;> first | rfl | (exfalso; simp_all)
    rw [hg0]
    simp [interchangelaw8_PartnerGapsAreMissing.j0, awake_true]
end Go.Proofs.Ytdlgohhecicnoaa.XPartnerGapsAreMissing.Q
