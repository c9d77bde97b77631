/- The pure statement of PartnerSeriesMatchSpec, proved: numbers, strings and lists alone. -/
import Derived.Test.YtdlgohhecicnoaaPPartnerSeriesMatchSpec
import Derived.Lib.Strings
import Derived.Lib.SlTrimSet
namespace Go.Proofs.Ytdlgohhecicnoaa.XPartnerSeriesMatchSpec.Q
open Go.RowKit Go.Proofs.Ytdlgohhecicnoaa.XPartnerSeriesMatchSpec Go.Proofs.YtdlgohhecicnoaaW.PrintWords Go.Proofs.YtdlgohhecicnoaaW.PrintMore
set_option linter.unusedVariables false
set_option linter.unusedSimpArgs false
/-! series: numbers, steps, rows -/
theorem wr {x : Int} (h0 : -9223372036854775808 ≤ x) (h : x ≤ 9223372036854775807) : wrap64 x = x := by unfold wrap64; omega
theorem outside (x a b : Int) : kit_Outside.f x a b = some (decide (x < a ∨ b < x)) := by
  unfold kit_Outside.f
  by_cases h : x < a
  · rw [if_pos h]; simp [h]
  · rw [if_neg h]; simp [h]
theorem wf_i64 {x : Int} (h : (Lit.int .i64 x).wf = true) : -9223372036854775808 ≤ x ∧ x ≤ 9223372036854775807 := by
  simpa [Lit.wf, IntKind.min, IntKind.max, IntKind.signed, IntKind.bits] using h
theorem emod_is {x m r q : Int} (h : x = r + m * q) (h0 : 0 ≤ r) (h1 : r < m) : x % m = r := by rw [h, Int.add_mul_emod_self_left]; exact Int.emod_eq_of_lt h0 h1
theorem tmod_is {x m r q : Int} (hx : 0 ≤ x) (h : x = r + m * q) (h0 : 0 ≤ r) (h1 : r < m) : Int.tmod x m = r := by rw [Int.tmod_eq_emod_of_nonneg hx]; exact emod_is h h0 h1
/-- Is it a series? -/
def serB (F L : Int) : Bool := decide (0 ≤ F ∧ F + 1 ≤ L ∧ L ≤ 999999999999999)
theorem kit_series {F L : Int} (hF : -9223372036854775808 ≤ F ∧ F ≤ 9223372036854775807) : partner_CheckSeries.f F L = some (if serB F L = true then 0 else 1) := by
  unfold partner_CheckSeries.f serB
  simp only [outside, Option.bind_some]
  by_cases g1 : F < 0 ∨ 999999999999999 < F
  · simp only [g1, decide_true, if_true]
    rw [if_neg (by simp; omega)]
  · simp only [g1, decide_false]
    rw [if_neg (by simp), wr (by omega) (by omega)]
    by_cases g2 : L < F + 1 ∨ 999999999999999 < L
    · simp only [g2, decide_true, if_true]
      rw [if_neg (by simp; omega)]
    · simp only [g2, decide_false]
      rw [if_neg (by simp), if_pos (by simp; omega)]
def ofB (F L n : Int) : Bool := decide (F ≤ n ∧ n ≤ L)
theorem kit_of {F L n : Int} : partner_isOf.f F L n = some (ofB F L n) := by
  unfold partner_isOf.f ofB
  simp only [outside, Option.bind_some]
  congr 1
  by_cases g : n < F ∨ L < n
  · simp [g]; omega
  · simp [g]; omega
def szF (F L : Int) : Int := L - F + 1
section
variable {F L : Int} (hS : serB F L = true)
theorem kit_size : serB F L = true → partner_size.f F L = some (szF F L) := fun hS => by
  simp only [serB, decide_eq_true_eq] at hS
  unfold partner_size.f szF
  rw [wr (x := L - F) (by omega) (by omega), wr (by omega) (by omega)]
/-- How many steps lead from a to b. -/
def stp (F L a b : Int) : Int := if a ≤ b then b - a else b - a + szF F L
theorem stp_le {a b : Int} : serB F L = true → ofB F L a = true → ofB F L b = true → 0 ≤ stp F L a b ∧ stp F L a b < szF F L := fun hS ha hb => by
  simp only [serB, ofB, decide_eq_true_eq] at hS ha hb
  unfold stp szF
  split <;> omega
theorem kit_between {a b : Int} : serB F L = true → ofB F L a = true → ofB F L b = true → partner_between.f F L a b = some (stp F L a b) := fun hS ha hb => by
  have h1 := stp_le hS ha hb
  unfold partner_between.f
  simp only [kit_size hS, Option.bind_some]
  simp only [serB, ofB, decide_eq_true_eq] at hS ha hb
  have hz : szF F L = L - F + 1 := rfl
  rw [if_neg (by omega), wr (x := b - a) (by omega) (by omega), wr (by omega) (by omega)]
  congr 1
  by_cases g : a ≤ b
  · exact tmod_is (q := 1) (by omega) (by simp [stp, g]) h1.1 h1.2
  · exact tmod_is (q := 0) (by omega) (by simp [stp, g]) h1.1 h1.2
theorem kit_half : serB F L = true → partner_half.f F L = some (szF F L / 2) := fun hS => by
  unfold partner_half.f
  simp only [kit_size hS, Option.bind_some]
  simp only [serB, decide_eq_true_eq] at hS
  have hz : szF F L = L - F + 1 := rfl
  rw [Int.tdiv_eq_ediv_of_nonneg (by omega), wr (by omega) (by omega)]
theorem kit_number {p : Int} : serB F L = true → 0 ≤ p → p ≤ 9000000000000000 → partner_numberAt.f F L p = some (F + p % szF F L) := fun hS h0 h1 => by
  unfold partner_numberAt.f
  simp only [kit_size hS, Option.bind_some]
  simp only [serB, decide_eq_true_eq] at hS
  have hz : szF F L = L - F + 1 := rfl
  have hm0 := Int.emod_nonneg p (show szF F L ≠ 0 by omega)
  have hm1 := Int.emod_lt_of_pos p (show 0 < szF F L by omega)
  rw [if_neg (by omega), if_neg (by omega), Int.tmod_eq_emod_of_nonneg h0, wr (x := p % szF F L + szF F L) (by omega) (by omega), tmod_is (q := 1) (r := p % szF F L) (by omega) (by omega) hm0 hm1, wr (by omega) (by omega)]
/-- Some numbers in line from a place on, as rows. -/
def seg (F L p n : Int) : List S42 :=
  if n ≤ 0 then [] else if n ≤ L - (F + p % szF F L) + 1 then [⟨F + p % szF F L, F + p % szF F L + n - 1⟩] else [⟨F + p % szF F L, L⟩, ⟨F, F + (n - (L - (F + p % szF F L) + 1)) - 1⟩]
theorem seg_len {p n : Int} : (seg F L p n).length ≤ 2 := by unfold seg; split; simp; split <;> simp
theorem kit_rows {p n : Int} (k : Nat) (hk : 5 ≤ k) : serB F L = true → 0 ≤ p → p ≤ 8000000000000000 → n ≤ szF F L → -8000000000000000 ≤ n → partner_rows.f k F L p (p + n) = some (seg F L p n) := fun hS h0 h1 hn hn0 => by
  obtain ⟨k, rfl⟩ : ∃ m, k = m + 4 := ⟨k - 4, by omega⟩
  have hS' := hS
  simp only [serB, decide_eq_true_eq] at hS
  have hz : szF F L = L - F + 1 := rfl
  unfold partner_rows.f
  have hm0 := Int.emod_nonneg p (show szF F L ≠ 0 by omega)
  have hm1 := Int.emod_lt_of_pos p (show 0 < szF F L by omega)
  have hq := Int.mul_ediv_add_emod p (szF F L)
  unfold seg
  simp only [partner_rows.l0]
  by_cases g0 : n ≤ 0
  · rw [if_neg (by omega), if_pos g0]
  rw [if_pos (by omega), if_neg g0, kit_number hS' h0 (by omega)]
  generalize hr : p % szF F L = r at *
  simp only [Option.bind_some]
  rw [if_pos (by simp), wr (x := p + n - p) (by omega) (by omega), wr (x := L - (F + r)) (by omega) (by omega), wr (x := L - (F + r) + 1) (by omega) (by omega)]
  by_cases g1 : n ≤ L - (F + r) + 1
  · have hmn : mn (p + n - p) (L - (F + r) + 1) = n := by unfold mn; split <;> omega
    rw [hmn, wr (x := p + n) (by omega) (by omega), if_neg (by omega), if_pos g1, wr (x := F + r + n) (by omega) (by omega), wr (by omega) (by omega)]
    simp
  · have hmn : mn (p + n - p) (L - (F + r) + 1) = L - (F + r) + 1 := by unfold mn; split <;> omega
    have hp2 : (p + (L - (F + r) + 1)) % szF F L = 0 := emod_is (q := p / szF F L + 1) (by rw [Int.mul_add, Int.mul_one]; omega) (by omega) (by omega)
    rw [hmn, wr (x := p + (L - (F + r) + 1)) (by omega) (by omega), if_pos (by omega), if_neg g1, kit_number hS' (by omega) (by omega), hp2]
    simp only [Option.bind_some]
    rw [if_pos (by simp), wr (x := F + r + (L - (F + r) + 1)) (by omega) (by omega), wr (x := F + r + (L - (F + r) + 1) - 1) (by omega) (by omega), Int.add_zero, wr (x := p + n - (p + (L - (F + r) + 1))) (by omega) (by omega), wr (x := L - F) (by omega) (by omega), wr (x := L - F + 1) (by omega) (by omega)]
    have hmn2 : mn (p + n - (p + (L - (F + r) + 1))) (L - F + 1) = n - (L - (F + r) + 1) := by unfold mn; split <;> omega
    rw [hmn2, wr (x := p + (L - (F + r) + 1) + (n - (L - (F + r) + 1))) (by omega) (by omega), if_neg (by omega), wr (x := F + (n - (L - (F + r) + 1))) (by omega) (by omega), wr (by omega) (by omega)]
    simp
    omega
end
theorem awake_true : interchangelaw8_awake.f = some true := by
  have w1 : wrap64 2 = 2 := by unfold wrap64; omega
  simp [interchangelaw8_awake.f, partner_NextNumber.f, kit_series, kit_of, serB, ofB]
theorem within8 (x a b : Int) : interchangeref8_within.f x a b = some (decide (a ≤ x ∧ x ≤ b)) := by
  unfold interchangeref8_within.f
  by_cases h : a ≤ x
  · rw [if_pos h]; simp [h]
  · rw [if_neg h]; simp [h]
theorem ref_series {F L : Int} (hF : -9223372036854775808 ≤ F ∧ F ≤ 9223372036854775807) : interchangeref8_CheckSeries.f F L = some (if serB F L = true then 0 else 1) := by
  unfold interchangeref8_CheckSeries.f serB
  simp only [within8, Option.bind_some]
  by_cases g1 : 0 ≤ F ∧ F ≤ 999999999999999
  · simp only [g1, decide_true, if_true, and_self]
    rw [wr (by omega) (by omega)]
    by_cases g2 : F + 1 ≤ L ∧ L ≤ 999999999999999
    · simp only [g2, and_self, decide_true, if_true]
    · simp only [g2, decide_false]
      rw [if_neg (by simp), if_neg (by first | (simp; done) | (simp; omega))]
  · simp only [g1, decide_false]
    rw [if_neg (by simp), if_neg (by simp; omega)]
theorem ref_of {F L n : Int} : interchangeref8_isOf.f F L n = some (ofB F L n) := by
  unfold interchangeref8_isOf.f ofB
  simp only [within8, Option.bind_some]
theorem ref_size {F L : Int} : serB F L = true → interchangeref8_size.f F L = some (szF F L) := fun hS => by
  simp only [serB, decide_eq_true_eq] at hS
  unfold interchangeref8_size.f szF
  rw [wr (x := L - F) (by omega) (by omega), wr (by omega) (by omega)]
theorem ref_steps {F L a b : Int} : serB F L = true → ofB F L a = true → ofB F L b = true → interchangeref8_steps.f F L a b = some (stp F L a b) := fun hS ha hb => by
  unfold interchangeref8_steps.f stp
  simp only [ref_size hS, Option.bind_some]
  simp only [serB, ofB, decide_eq_true_eq] at hS ha hb
  have hz : szF F L = L - F + 1 := rfl
  rw [wr (x := b - a) (by omega) (by omega)]
  by_cases g : a ≤ b
  · rw [if_pos (by omega), if_pos g]
  · rw [if_neg (by omega), if_neg g, wr (by omega) (by omega)]
theorem ref_rows {F L p n : Int} (k : Nat) (hk : 5 ≤ k) : serB F L = true → 0 ≤ n → n ≤ szF F L → interchangeref8_rows.f k F L (F + p % szF F L) n = some (seg F L p n) := fun hS h0 hn => by
  obtain ⟨k, rfl⟩ : ∃ m, k = m + 2 := ⟨k - 2, by omega⟩
  simp only [serB, decide_eq_true_eq] at hS
  have hz : szF F L = L - F + 1 := rfl
  have hm0 := Int.emod_nonneg p (show szF F L ≠ 0 by omega)
  have hm1 := Int.emod_lt_of_pos p (show 0 < szF F L by omega)
  unfold seg
  simp only [interchangeref8_rows.f]
  generalize p % szF F L = r at *
  by_cases g0 : n = 0
  · rw [if_pos g0, if_pos (by omega)]
  rw [if_neg g0, wr (x := L - (F + r)) (by omega) (by omega), wr (x := L - (F + r) + 1) (by omega) (by omega), if_neg (show ¬ n ≤ 0 by omega)]
  by_cases g1 : n ≤ L - (F + r) + 1
  · rw [if_neg (by omega), if_pos g1, wr (x := F + r + n) (by omega) (by omega), wr (by omega) (by omega)]
  · rw [if_pos (by omega), if_neg g1, wr (x := n - (L - (F + r) + 1)) (by omega) (by omega), wr (x := L - F) (by omega) (by omega), wr (x := L - F + 1) (by omega) (by omega), if_neg (by omega), if_neg (by omega), wr (x := F + (n - (L - (F + r) + 1))) (by omega) (by omega), wr (by omega) (by omega)]
    simp
/-- The steps of some numbers from the first one, in order; or what is wrong. -/
def farF (F L a : Int) : List Int → Int × List Int
  | [] => (0, [])
  | x :: r => if ofB F L x = true then (if stp F L a x > szF F L / 2 then (8, []) else let y := farF F L a r; (y.1, stp F L a x :: y.2)) else (1, [])
theorem rd_cons {ys : List Int} {i : Nat} (h : i < ys.length) : ys.drop i = rd ys i :: ys.drop (i + 1) := by
  rw [List.drop_eq_getElem_cons h]
  congr 1
  simp [rd, h]
theorem rd_zero {a : Int} {l : List Int} : rd (a :: l) 0 = a := by simp [rd]
theorem wup {i : Nat} (h : (i : Int) < 9000000000000000) : wrap64 ((i : Int) + 1) = ((i + 1 : Nat) : Int) := by rw [wr (by omega) (by omega)]; omega
/-- The gaps between numbers in line. -/
def gp (F L b : Int) : Int → List Int → List S42
  | _, [] => []
  | a, c :: r => seg F L (b + a + 1) (c - a - 1) ++ gp F L b c r
theorem gp_len {F L b : Int} : ∀ (l : List Int) (a : Int), (gp F L b a l).length ≤ 2 * l.length
  | [], _ => by simp [gp]
  | c :: r, a => by
    have := gp_len (F := F) (L := L) (b := b) r c
    have h2 := seg_len (F := F) (L := L) (p := b + a + 1) (n := c - a - 1)
    simp only [gp, List.length_append, List.length_cons]
    omega
/-- Equal ones in line go. -/
def dd : List Int → List Int
  | [] => []
  | [a] => [a]
  | a :: b :: r => if a = b then dd (b :: r) else a :: dd (b :: r)
theorem dd_head : ∀ (r : List Int) (a : Int), ∃ r', dd (a :: r) = a :: r' ∧ ∀ F L b, gp F L b a r' = gp F L b a r
  | [], a => ⟨[], rfl, fun _ _ _ => rfl⟩
  | c :: r, a => by
    obtain ⟨r', h1, h2⟩ := dd_head r c
    by_cases e : a = c
    · subst e
      refine ⟨r', by simp only [dd, if_true]; exact h1, fun F L b => ?_⟩
      simp only [gp]
      rw [h2]
      have : seg F L (b + a + 1) (a - a - 1) = [] := by unfold seg; rw [if_pos (by omega)]
      rw [this]; rfl
    · refine ⟨c :: r', by simp only [dd, e, if_false]; rw [h1], fun F L b => ?_⟩
      simp only [gp]
      rw [h2]
theorem dd_snoc (x : Int) : ∀ l : List Int, dd (l ++ [x]) = dd l ++ (if l.getLast? = some x then [] else [x])
  | [] => rfl
  | [a] => by
    by_cases e : a = x
    · subst e; simp [dd]
    · simp [dd, e]
  | a :: b :: r => by
    have ih := dd_snoc x (b :: r)
    simp only [List.cons_append, dd] at *
    have hl : (a :: b :: r).getLast? = (b :: r).getLast? := by simp
    rw [hl]
    by_cases e : a = b
    · rw [if_pos e, if_pos e]; exact ih
    · rw [if_neg e, if_neg e, List.cons_append, ← ih]
open Go.Lib in
theorem compact_snoc (l : List Int) (x : Int) : compact (l ++ [x]) = compact l ++ (if l.getLast? = some x then [] else [x]) := by
  unfold compact
  rw [List.length_append, List.length_singleton, compactUpTo_succ]
  have h1 : compactUpTo (l ++ [x]).toArray l.length = compactUpTo l.toArray l.length := by
    unfold compactUpTo
    have hf : ∀ j, j < l.length → (l ++ [x]).toArray[j]! = l.toArray[j]! := by
      intro j hj
      rw [getElem!_pos _ _ (by simp; omega), getElem!_pos _ _ (by simpa using hj)]
      simp [List.getElem_append_left hj]
    have hk : ∀ j ∈ List.range l.length, keeps (l ++ [x]).toArray j = keeps l.toArray j := by
      intro j hj
      have hj := List.mem_range.1 hj
      unfold keeps
      rw [hf j hj, hf (j - 1) (by omega)]
    rw [List.filter_congr hk]
    refine List.map_congr_left fun j hj => hf j (List.mem_range.1 (List.mem_filter.1 hj).1)
  rw [h1]
  congr 1
  have hx : (l ++ [x]).toArray[l.length]! = x := by rw [getElem!_pos _ _ (by simp)]; simp
  rw [hx]
  rcases l.eq_nil_or_concat with rfl | ⟨l, y, rfl⟩
  · simp [keeps]
  · rw [List.concat_eq_append] at *
    have hy : (l ++ [y] ++ [x]).toArray[(l ++ [y]).length - 1]! = y := by rw [getElem!_pos _ _ (by simp)]; simp
    unfold keeps
    rw [hx, hy]
    by_cases e : y = x
    · simp [e]
    · simp [e, Ne.symm e]
theorem compact_dd' : ∀ (n : Nat) (l : List Int), l.length = n → Go.Lib.compact l = dd l
  | 0, l, h => by
    obtain rfl := List.length_eq_zero_iff.1 h
    rfl
  | n + 1, l, h => by
    rcases l.eq_nil_or_concat with rfl | ⟨l, y, rfl⟩
    · rfl
    · rw [List.concat_eq_append] at *
      rw [compact_snoc, dd_snoc, compact_dd' n l (by simpa using h)]
theorem compact_dd (l : List Int) : Go.Lib.compact l = dd l := compact_dd' _ l rfl
/-- All gaps. -/
def gps (F L b : Int) : List Int → List S42
  | [] => []
  | a :: r => gp F L b a r
theorem gps_compact (F L b : Int) (l : List Int) : gps F L b (Go.Lib.compact l) = gps F L b l := by
  rw [compact_dd]
  cases l with
  | nil => rfl
  | cons a r =>
    obtain ⟨r', h1, h2⟩ := dd_head r a
    rw [h1]
    exact h2 F L b
theorem dd_mem : ∀ (l : List Int) (x : Int), x ∈ dd l → x ∈ l
  | [], x, h => h
  | [a], x, h => h
  | a :: b :: r, x, h => by
    simp only [dd] at h
    split at h
    · exact List.mem_cons_of_mem _ (dd_mem (b :: r) x h)
    · rcases List.mem_cons.1 h with rfl | h
      · simp
      · exact List.mem_cons_of_mem _ (dd_mem (b :: r) x h)
theorem dd_len : ∀ l : List Int, (dd l).length ≤ l.length
  | [] => Nat.le_refl _
  | [a] => Nat.le_refl _
  | a :: b :: r => by
    have := dd_len (b :: r)
    simp only [dd]
    split <;> simp only [List.length_cons] at * <;> omega
theorem far_mem {F L a : Int} (hS : serB F L = true) (ha : ofB F L a = true) : ∀ (l : List Int), ∀ x ∈ (farF F L a l).2, 0 ≤ x ∧ x ≤ szF F L / 2
  | [], x, h => by simp [farF] at h
  | y :: r, x, h => by
    simp only [farF] at h
    split at h
    · rename_i hy
      split at h
      · simp at h
      · rcases List.mem_cons.1 h with rfl | h
        · exact ⟨(stp_le hS ha hy).1, by omega⟩
        · exact far_mem hS ha r x h
    · simp at h
theorem far_len {F L a : Int} : ∀ (l : List Int), (farF F L a l).2.length ≤ l.length
  | [] => Nat.le_refl _
  | y :: r => by
    have := far_len (F := F) (L := L) (a := a) r
    simp only [farF]
    (repeat' split) <;> simp only [List.length_cons, List.length_nil] <;> omega
/-- The gaps among numbers, or what is wrong. -/
def gapsF (F L : Int) (l : List Int) : List S42 × Int :=
  if serB F L = true then (if l.length > 1000 then ([], 2) else
    if (farF F L (rd l 0) l).1 = 0 then (gps F L (rd l 0 - F) ((farF F L (rd l 0) l).2.mergeSort fun x y => decide (x ≤ y)), 0) else ([], (farF F L (rd l 0) l).1)) else ([], 1)
section
variable {F L : Int}
theorem kit_gaps_l1 (hS : serB F L = true) (x1 : List Int) (hx1 : 0 < x1.length) (ha : ofB F L (rd x1 0) = true) (l : List Int) (hl : l.length ≤ 1000) (hm : ∀ x ∈ l, 0 ≤ x ∧ x ≤ szF F L / 2) (d : Nat) :
    ∀ (k i : Nat) (acc : List S42), 1 ≤ i → i ≤ l.length → l.length - i = d → d + 10 < k → acc.length ≤ 2 * i →
      partner_Gaps.l1 k x1 l acc i F L = some (acc ++ gp F L (rd x1 0 - F) (rd l ((i - 1 : Nat) : Int)) (l.drop i), 0) := by
  have hS' := hS
  simp only [serB, decide_eq_true_eq] at hS'
  have ha' := ha
  simp only [ofB, decide_eq_true_eq] at ha'
  have hz : szF F L = L - F + 1 := rfl
  have hm' : ∀ j : Nat, j < l.length → 0 ≤ rd l j ∧ rd l j ≤ szF F L / 2 := fun j hj => by
    have : rd l j = l[j] := by simp [rd, hj]
    rw [this]
    exact hm _ (List.getElem_mem hj)
  induction d with
  | zero =>
    intro k i acc h1 h2 hd hk hacc
    obtain ⟨k, rfl⟩ : ∃ m, k = m + 1 := ⟨k - 1, by omega⟩
    simp only [partner_Gaps.l1]
    rw [if_neg (by omega), List.drop_of_length_le (by omega)]
    simp [gp]
  | succ d ih =>
    intro k i acc h1 h2 hd hk hacc
    obtain ⟨k, rfl⟩ : ∃ m, k = m + 1 := ⟨k - 1, by omega⟩
    have hi : i < l.length := by omega
    have b1 := hm' i hi
    have b0 := hm' (i - 1) (by omega)
    simp only [partner_Gaps.l1]
    rw [wr (x := (i : Int) - 1) (by omega) (by omega), show ((i : Int) - 1) = ((i - 1 : Nat) : Int) by omega]
    rw [if_pos (by omega), if_pos (by omega), if_pos (by omega), if_pos (by omega), if_pos (by omega)]
    rw [wr (x := rd x1 0 - F) (by omega) (by omega)]
    rw [wr (x := rd x1 0 - F + rd l ((i - 1 : Nat) : Int)) (by omega) (by omega), wr (x := rd x1 0 - F + rd l ((i - 1 : Nat) : Int) + 1) (by omega) (by omega), wr (x := rd x1 0 - F + rd l i) (by omega) (by omega)]
    have e : rd x1 0 - F + rd l i = (rd x1 0 - F + rd l ((i - 1 : Nat) : Int) + 1) + (rd l i - rd l ((i - 1 : Nat) : Int) - 1) := by omega
    rw [e, kit_rows k (by omega) hS (by omega) (by omega) (by omega) (by omega)]
    simp only [Option.bind_some]
    have hsl := seg_len (F := F) (L := L) (p := rd x1 0 - F + rd l ((i - 1 : Nat) : Int) + 1) (n := rd l i - rd l ((i - 1 : Nat) : Int) - 1)
    rw [if_pos (by omega), wup (by omega), ih k (i + 1) _ (by omega) (by omega) (by omega) (by omega) (by rw [List.length_append]; omega), rd_cons hi]
    simp only [gp, Nat.add_sub_cancel, List.append_assoc]
theorem kit_gaps_l0 (hS : serB F L = true) (x1 : List Int) (hl : x1.length ≤ 1000) (d : Nat) :
    ∀ (k i : Nat) (acc : List Int), i ≤ x1.length → x1.length - i = d → d + 2000 < k → acc.length = i → (0 < i → ofB F L (rd x1 0) = true) → (∀ x ∈ acc, 0 ≤ x ∧ x ≤ szF F L / 2) →
      partner_Gaps.l0 k x1 acc x1 (x1.length : Int) i F L =
        some (if (farF F L (rd x1 0) (x1.drop i)).1 = 0 then (gps F L (rd x1 0 - F) ((acc ++ (farF F L (rd x1 0) (x1.drop i)).2).mergeSort fun x y => decide (x ≤ y)), 0) else ([], (farF F L (rd x1 0) (x1.drop i)).1)) := by
  have hS' := hS
  simp only [serB, decide_eq_true_eq] at hS'
  have hz : szF F L = L - F + 1 := rfl
  induction d with
  | zero =>
    intro k i acc h1 hd hk hacc ha hm
    obtain ⟨k, rfl⟩ : ∃ m, k = m + 1 := ⟨k - 1, by omega⟩
    simp only [partner_Gaps.l0]
    rw [if_neg (by omega), List.drop_of_length_le (by omega)]
    simp only [farF, if_true, List.append_nil]
    unfold slices_Sort_int_int.f
    rw [if_pos (by omega)]
    simp only [Option.bind_some]
    unfold slices_Compact_int_int.f
    have hsl : (acc.mergeSort fun x y => decide (x ≤ y)).length = acc.length := by simp
    rw [if_pos (by omega)]
    simp only [Option.bind_some]
    rw [← gps_compact]
    have hcl : (Go.Lib.compact (acc.mergeSort fun x y => decide (x ≤ y))).length ≤ acc.length := by rw [compact_dd]; exact Nat.le_trans (dd_len _) (by omega)
    have hcm : ∀ x ∈ Go.Lib.compact (acc.mergeSort fun x y => decide (x ≤ y)), 0 ≤ x ∧ x ≤ szF F L / 2 := fun x hx => by
      rw [compact_dd] at hx
      have := dd_mem _ _ hx
      exact hm x (by simpa using this)
    generalize Go.Lib.compact (acc.mergeSort fun x y => decide (x ≤ y)) = c at *
    cases c with
    | nil =>
      obtain ⟨k, rfl⟩ : ∃ m, k = m + 1 := ⟨k - 1, by omega⟩
      simp [partner_Gaps.l1, gps]
    | cons a r =>
      simp only [List.length_cons] at hcl
      have := kit_gaps_l1 hS x1 (by omega) (ha (by omega)) (a :: r) (by simp only [List.length_cons]; omega) hcm r.length k 1 [] (by omega) (by simp) (by simp) (by omega) (by simp)
      simp only [Int.natCast_one, List.nil_append, Nat.sub_self, Int.natCast_zero, rd_zero, List.drop_succ_cons, List.drop_zero] at this
      rw [this]
      rfl
  | succ d ih =>
    intro k i acc h1 hd hk hacc ha hm
    obtain ⟨k, rfl⟩ : ∃ m, k = m + 1 := ⟨k - 1, by omega⟩
    have hi : i < x1.length := by omega
    simp only [partner_Gaps.l0]
    rw [if_pos (by omega), if_pos (by omega), if_pos (by omega), kit_of, rd_cons hi]
    simp only [Option.bind_some, farF]
    by_cases hb : ofB F L (rd x1 i) = true
    · have ha2 : ofB F L (rd x1 0) = true := by
        by_cases h0 : i = 0
        · subst h0; exact hb
        · exact ha (by omega)
      rw [if_pos hb, if_pos (by omega), kit_between hS ha2 hb, if_pos hb]
      simp only [Option.bind_some, kit_half hS]
      by_cases hg : stp F L (rd x1 0) (rd x1 i) > szF F L / 2
      · rw [if_pos hg, if_pos hg]; simp
      · rw [if_neg hg, if_neg hg, if_pos (by omega), wup (by omega)]
        rw [ih k (i + 1) _ (by omega) (by omega) (by omega) (by simp [hacc]) (fun _ => ha2) (fun x hx => by
          rcases List.mem_append.1 hx with hx | hx
          · exact hm x hx
          · have := stp_le hS ha2 hb
            simp at hx
            omega)]
        simp only [List.append_assoc, List.singleton_append]
    · rw [if_neg hb, if_neg hb]; simp
theorem kit_gaps (hF : -9223372036854775808 ≤ F ∧ F ≤ 9223372036854775807) (l : List Int) (k : Nat) (hk : 4000 ≤ k) : partner_Gaps.f k F L l = some (gapsF F L l) := by
  unfold partner_Gaps.f gapsF
  rw [kit_series hF]
  simp only [Option.bind_some]
  by_cases hS : serB F L = true
  · rw [if_pos hS, if_pos rfl, if_pos hS]
    by_cases hl : l.length > 1000
    · rw [if_pos (by omega), if_pos hl]
    · rw [if_neg (by omega), if_neg hl]
      have := kit_gaps_l0 hS l (by omega) l.length k 0 [] (by omega) (by omega) (by omega) rfl (fun h => by omega) (by simp)
      simp only [Int.natCast_zero, List.drop_zero, List.nil_append] at this
      exact this
  · rw [if_neg hS, if_neg (by omega), if_neg hS]
end
section
variable {F L : Int}
theorem ref_gaps_l1 (hS : serB F L = true) (x1 : List Int) (hx1 : 0 < x1.length) (ha : ofB F L (rd x1 0) = true) (l : List Int) (hl : l.length ≤ 1000) (hm : ∀ x ∈ l, 0 ≤ x ∧ x ≤ szF F L / 2) (d : Nat) :
    ∀ (k i : Nat) (acc : List S42), 1 ≤ i → i ≤ l.length → l.length - i = d → 2 * d + 10 < k → acc.length ≤ 2 * i →
      interchangeref8_Gaps.l1 k x1 l acc l (l.length : Int) i F L = some (acc ++ gp F L (rd x1 0 - F) (rd l ((i - 1 : Nat) : Int)) (l.drop i), 0) := by
  have hS' := hS
  simp only [serB, decide_eq_true_eq] at hS'
  have ha' := ha
  simp only [ofB, decide_eq_true_eq] at ha'
  have hz : szF F L = L - F + 1 := rfl
  have hm' : ∀ j : Nat, j < l.length → 0 ≤ rd l j ∧ rd l j ≤ szF F L / 2 := fun j hj => by
    have : rd l j = l[j] := by simp [rd, hj]
    rw [this]
    exact hm _ (List.getElem_mem hj)
  induction d with
  | zero =>
    intro k i acc h1 h2 hd hk hacc
    obtain ⟨k, rfl⟩ : ∃ m, k = m + 1 := ⟨k - 1, by omega⟩
    simp only [interchangeref8_Gaps.l1]
    rw [if_neg (by omega), List.drop_of_length_le (by omega)]
    simp [gp]
  | succ d ih =>
    intro k i acc h1 h2 hd hk hacc
    obtain ⟨k, rfl⟩ : ∃ m, k = m + 2 := ⟨k - 2, by omega⟩
    have hi : i < l.length := by omega
    have b1 := hm' i hi
    have b0 := hm' (i - 1) (by omega)
    simp only [interchangeref8_Gaps.l1]
    rw [wr (x := (i : Int) - 1) (by omega) (by omega), show ((i : Int) - 1) = ((i - 1 : Nat) : Int) by omega]
    rw [if_pos (by omega), if_pos (by omega), if_pos (by omega), if_pos (by omega), if_pos (by omega), if_pos (by omega)]
    rw [wr (x := rd l ((i - 1 : Nat) : Int) + 1) (by omega) (by omega)]
    simp only [interchangeref8_Gaps.j2]
    rw [wr (x := (i : Int) - 1) (by omega) (by omega), show ((i : Int) - 1) = ((i - 1 : Nat) : Int) by omega]
    have hsl := seg_len (F := F) (L := L) (p := rd x1 0 - F + rd l ((i - 1 : Nat) : Int) + 1) (n := rd l i - rd l ((i - 1 : Nat) : Int) - 1)
    rw [rd_cons hi]
    simp only [gp]
    by_cases hg : rd l i > rd l ((i - 1 : Nat) : Int) + 1
    · rw [if_pos (by simp; omega), if_pos (by omega), if_pos (by omega), if_pos (by omega)]
      simp only [ref_size hS, Option.bind_some]
      rw [if_neg (by omega), wr (x := rd x1 0 - F) (by omega) (by omega), wr (x := rd x1 0 - F + rd l ((i - 1 : Nat) : Int)) (by omega) (by omega), wr (x := rd x1 0 - F + rd l ((i - 1 : Nat) : Int) + 1) (by omega) (by omega), Int.tmod_eq_emod_of_nonneg (by omega)]
      have hm0 := Int.emod_nonneg (rd x1 0 - F + rd l ((i - 1 : Nat) : Int) + 1) (show szF F L ≠ 0 by omega)
      have hm1 := Int.emod_lt_of_pos (rd x1 0 - F + rd l ((i - 1 : Nat) : Int) + 1) (show 0 < szF F L by omega)
      rw [wr (x := F + (rd x1 0 - F + rd l ((i - 1 : Nat) : Int) + 1) % szF F L) (by omega) (by omega), wr (x := rd l i - rd l ((i - 1 : Nat) : Int)) (by omega) (by omega), wr (x := rd l i - rd l ((i - 1 : Nat) : Int) - 1) (by omega) (by omega)]
      rw [ref_rows k (by omega) hS (by omega) (by omega)]
      simp only [Option.bind_some]
      rw [if_pos (by omega), wup (by omega), ih k (i + 1) _ (by omega) (by omega) (by omega) (by omega) (by rw [List.length_append]; omega)]
      simp only [Nat.add_sub_cancel, List.append_assoc]
    · rw [if_neg (by simp; omega), wup (by omega), ih k (i + 1) _ (by omega) (by omega) (by omega) (by omega) (by omega)]
      have : seg F L (rd x1 0 - F + rd l ((i - 1 : Nat) : Int) + 1) (rd l i - rd l ((i - 1 : Nat) : Int) - 1) = [] := by unfold seg; rw [if_pos (by omega)]
      rw [this]
      simp only [Nat.add_sub_cancel, List.nil_append]
theorem ref_gaps_l0 (hS : serB F L = true) (x1 : List Int) (hl : x1.length ≤ 1000) (d : Nat) :
    ∀ (k i : Nat) (acc : List Int), i ≤ x1.length → x1.length - i = d → d + 3000 < k → acc.length = i → (0 < i → ofB F L (rd x1 0) = true) → (∀ x ∈ acc, 0 ≤ x ∧ x ≤ szF F L / 2) →
      interchangeref8_Gaps.l0 k x1 acc x1 (x1.length : Int) i F L =
        some (if (farF F L (rd x1 0) (x1.drop i)).1 = 0 then (gps F L (rd x1 0 - F) ((acc ++ (farF F L (rd x1 0) (x1.drop i)).2).mergeSort fun x y => decide (x ≤ y)), 0) else ([], (farF F L (rd x1 0) (x1.drop i)).1)) := by
  have hS' := hS
  simp only [serB, decide_eq_true_eq] at hS'
  have hz : szF F L = L - F + 1 := rfl
  induction d with
  | zero =>
    intro k i acc h1 hd hk hacc ha hm
    obtain ⟨k, rfl⟩ : ∃ m, k = m + 1 := ⟨k - 1, by omega⟩
    simp only [interchangeref8_Gaps.l0]
    rw [if_neg (by omega), List.drop_of_length_le (by omega)]
    simp only [farF, if_true, List.append_nil]
    unfold slices_Sort_int_int.f
    rw [if_pos (by omega)]
    simp only [Option.bind_some]
    have hsl : (acc.mergeSort fun x y => decide (x ≤ y)).length = acc.length := by simp
    have hcm : ∀ x ∈ (acc.mergeSort fun x y => decide (x ≤ y)), 0 ≤ x ∧ x ≤ szF F L / 2 := fun x hx => hm x (by simpa using hx)
    rw [← hsl]
    generalize (acc.mergeSort fun x y => decide (x ≤ y)) = c at *
    cases c with
    | nil =>
      obtain ⟨k, rfl⟩ : ∃ m, k = m + 1 := ⟨k - 1, by omega⟩
      simp [interchangeref8_Gaps.l1, gps]
    | cons a r =>
      simp only [List.length_cons] at hsl
      have := ref_gaps_l1 hS x1 (by omega) (ha (by omega)) (a :: r) (by simp only [List.length_cons]; omega) hcm r.length (k - 2) 1 [] (by omega) (by simp) (by simp) (by omega) (by simp)
      simp only [Int.natCast_one, List.nil_append, Nat.sub_self, Int.natCast_zero, rd_zero, List.drop_succ_cons, List.drop_zero] at this
      obtain ⟨k, rfl⟩ : ∃ m, k = m + 2 := ⟨k - 2, by omega⟩
      have w1 : wrap64 (0 + 1) = 1 := by rw [wr (by omega) (by omega)]; rfl
      simp only [interchangeref8_Gaps.l1, interchangeref8_Gaps.j2]
      rw [if_pos (by simp only [List.length_cons]; omega), if_pos (by omega), if_pos (by simp only [List.length_cons]; omega), if_neg (by omega), if_neg (by simp), w1]
      simp only [Nat.add_sub_cancel] at this
      rw [this]
      rfl
  | succ d ih =>
    intro k i acc h1 hd hk hacc ha hm
    obtain ⟨k, rfl⟩ : ∃ m, k = m + 1 := ⟨k - 1, by omega⟩
    have hi : i < x1.length := by omega
    simp only [interchangeref8_Gaps.l0]
    rw [if_pos (by omega), if_pos (by omega), if_pos (by omega), ref_of, rd_cons hi]
    simp only [Option.bind_some, farF]
    by_cases hb : ofB F L (rd x1 i) = true
    · have ha2 : ofB F L (rd x1 0) = true := by
        by_cases h0 : i = 0
        · subst h0; exact hb
        · exact ha (by omega)
      rw [if_pos hb, if_pos (by omega), ref_steps hS ha2 hb, if_pos hb]
      simp only [Option.bind_some, ref_size hS]
      rw [Int.tdiv_eq_ediv_of_nonneg (by omega), wr (x := szF F L / 2) (by omega) (by omega)]
      by_cases hg : stp F L (rd x1 0) (rd x1 i) > szF F L / 2
      · rw [if_pos hg, if_pos hg]; simp
      · rw [if_neg hg, if_neg hg, if_pos (by omega), wup (by omega)]
        rw [ih k (i + 1) _ (by omega) (by omega) (by omega) (by simp [hacc]) (fun _ => ha2) (fun x hx => by
          rcases List.mem_append.1 hx with hx | hx
          · exact hm x hx
          · have := stp_le hS ha2 hb
            simp at hx
            omega)]
        simp only [List.append_assoc, List.singleton_append]
    · rw [if_neg hb, if_neg hb]; simp
theorem ref_gaps (hF : -9223372036854775808 ≤ F ∧ F ≤ 9223372036854775807) (l : List Int) (k : Nat) (hk : 5000 ≤ k) : interchangeref8_Gaps.f k F L l = some (gapsF F L l) := by
  unfold interchangeref8_Gaps.f gapsF
  rw [ref_series hF]
  simp only [Option.bind_some]
  by_cases hS : serB F L = true
  · rw [if_pos hS, if_pos rfl, if_pos hS]
    by_cases hl : l.length > 1000
    · rw [if_pos (by omega), if_pos hl]
    · rw [if_neg (by omega), if_neg hl]
      have := ref_gaps_l0 hS l (by omega) l.length k 0 [] (by omega) (by omega) (by omega) rfl (fun h => by omega) (by simp)
      simp only [Int.natCast_zero, List.drop_zero, List.nil_append] at this
      exact this
  · rw [if_neg hS, if_neg (by omega), if_neg hS]
end
theorem gap_eq_l (l : List S42) (hn : l.length < 9000000000000000) (d : Nat) : ∀ (k i : Nat), i ≤ l.length → l.length - i = d → d < k → api_Gap.l0 k l l (l.length : Int) i = some true := by
  induction d with
  | zero =>
    intro k i h1 hd hk
    obtain ⟨k, rfl⟩ : ∃ m, k = m + 1 := ⟨k - 1, by omega⟩
    simp only [api_Gap.l0]
    rw [if_neg (by omega)]
  | succ d ih =>
    intro k i h1 hd hk
    obtain ⟨k, rfl⟩ : ∃ m, k = m + 1 := ⟨k - 1, by omega⟩
    simp only [api_Gap.l0]
    rw [if_pos (by omega), if_pos (by omega), if_pos (by omega), if_pos (by omega), if_neg (by simp), wup (by omega)]
    exact ih k (i + 1) (by omega) (by omega) (by omega)
theorem gap_eq (l : List S42) (k : Nat) (hn : l.length < 9000000000000000) (hk : l.length < k) : api_Gap.f k l l = some true := by
  unfold api_Gap.f
  rw [if_pos rfl]
  exact gap_eq_l l hn l.length k 0 (by omega) (by omega) hk
theorem gaps_len {F L : Int} {l : List Int} : (gapsF F L l).1.length ≤ 2000 := by
  unfold gapsF
  split
  · split
    · simp
    · split
      · rename_i h _
        have h1 := far_len (F := F) (L := L) (a := rd l 0) l
        have h2 : ((farF F L (rd l 0) l).2.mergeSort fun x y => decide (x ≤ y)).length = (farF F L (rd l 0) l).2.length := by simp
        generalize ((farF F L (rd l 0) l).2.mergeSort fun x y => decide (x ≤ y)) = c at *
        cases c with
        | nil => simp [gps]
        | cons a r =>
          have := gp_len (F := F) (L := L) (b := rd l 0 - F) r a
          simp only [List.length_cons] at h2
          simp only [gps]
          omega
      · simp
  · simp
theorem kit_next {F L n : Int} (hF : -9223372036854775808 ≤ F ∧ F ≤ 9223372036854775807) (k : Nat) (hk : 5 ≤ k) : interchangeref8_NextNumber.f k F L n = partner_NextNumber.f F L n := by
  obtain ⟨k, rfl⟩ : ∃ m, k = m + 1 := ⟨k - 1, by omega⟩
  unfold interchangeref8_NextNumber.f partner_NextNumber.f
  rw [ref_series hF, kit_series hF]
  simp only [Option.bind_some, ref_of, kit_of]
  by_cases hS : serB F L = true
  · simp only [hS, if_true, interchangeref8_NextNumber.j0]
    cases ofB F L n <;> simp
  · simp [hS, interchangeref8_NextNumber.j0]
theorem next_some {F L n : Int} (hF : -9223372036854775808 ≤ F ∧ F ≤ 9223372036854775807) : ∃ x, partner_NextNumber.f F L n = some x := by
  unfold partner_NextNumber.f
  rw [kit_series hF]
  simp only [Option.bind_some, kit_of]
  (repeat' split) <;> exact ⟨_, rfl⟩
theorem kit_betw {F L a b : Int} (hF : -9223372036854775808 ≤ F ∧ F ≤ 9223372036854775807) : ∃ x, interchangeref8_Between.f F L a b = some x ∧ partner_Between.f F L a b = some x := by
  unfold interchangeref8_Between.f partner_Between.f
  rw [ref_series hF, kit_series hF]
  simp only [Option.bind_some, kit_of, ref_of]
  by_cases hS : serB F L = true
  · by_cases ha : ofB F L a = true
    · by_cases hb : ofB F L b = true
      · simp only [hS, ha, hb, if_true, ref_steps hS ha hb, kit_between hS ha hb, Option.bind_some]
        exact ⟨_, rfl, rfl⟩
      · simp [hS, ha, hb]
    · simp [hS, ha]
  · simp [hS]
theorem PartnerSeriesMatchSpec : Pure := by
  rintro s first last l ⟨f0, f1⟩ w1 w2 ⟨_, _, hl⟩
  refine ⟨6000, ?_⟩
  have hF := wf_i64 f0
  obtain ⟨x, hx⟩ := next_some (F := s.f0) (L := s.f1) (n := last) hF
  obtain ⟨y, hy1, hy2⟩ := kit_betw (F := s.f0) (L := s.f1) (a := first) (b := last) hF
  unfold interchangelaw8_PartnerSeriesMatchSpec.f
  rw [kit_next hF 6000 (by omega), hx, ref_series hF, kit_series hF]
  simp only [Option.bind_some, if_true, bne_self_eq_false, interchangelaw8_PartnerSeriesMatchSpec.j0, interchangelaw8_PartnerSeriesMatchSpec.j1, hy1, hy2, ref_gaps hF l 5998 (by omega), kit_gaps hF l 5998 (by omega), awake_true]
  rw [if_neg (by simp), if_neg (by simp), gap_eq _ _ (by have := @gaps_len s.f0 s.f1 l; omega) (by have := @gaps_len s.f0 s.f1 l; omega)]
  simp
end Go.Proofs.Ytdlgohhecicnoaa.XPartnerSeriesMatchSpec.Q
