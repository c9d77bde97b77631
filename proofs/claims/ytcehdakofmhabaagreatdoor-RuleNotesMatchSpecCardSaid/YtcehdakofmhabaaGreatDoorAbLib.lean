/- Go's library, as the kit's shelf tells it, over values without addresses. -/
import Derived.Test.YtcehdakofmhabaaGreatDoorAbEnc
import Derived.Test.YtcehdakofmhabaaGreatDoorShTrim
import Derived.Test.YtcehdakofmhabaaGreatDoorShStr
import Derived.Shelf.Strings.SlTrimAscii
import Derived.Lib.ItoaLen
import Derived.Lib.SplitLaws
namespace Go.Proofs.YtcehdakofmhabaaGreatDoor.Ab
open Go Go.Ab Go.RowKit
set_option linter.unusedVariables false
set_option linter.unusedSimpArgs false
theorem toArr {xs : Array Value} {l : List Value} (h : xs.toList = l) : xs = l.toArray := by rw [← h]
theorem args1 {E : En} {a : AV} {xs : Array Value} (h : Rs E [a] xs.toList) : ∃ x, xs = #[x] ∧ R E a x := by
  obtain ⟨x, r, e, h1, h2⟩ := h.cons_inv
  rw [h2.nil_inv] at e
  exact ⟨x, toArr e, h1⟩
theorem args2 {E : En} {a b : AV} {xs : Array Value} (h : Rs E [a, b] xs.toList) : ∃ x y, xs = #[x, y] ∧ R E a x ∧ R E b y := by
  obtain ⟨x, r, e, h1, h2⟩ := h.cons_inv
  obtain ⟨y, r2, rfl, h3, h4⟩ := h2.cons_inv
  rw [h4.nil_inv] at e
  exact ⟨x, y, toArr e, h1, h3⟩
theorem bsz (s : List UInt8) : (ByteArray.mk s.toArray).size = s.length := List.size_toArray
theorem trimS_le (s cs : List UInt8) : (Lib.trimS s cs).length ≤ s.length := by
  unfold Lib.trimS Lib.trimLeftS Lib.trimRightS
  have h1 := (List.dropWhile_sublist (cs.contains ·) (l := s.reverse)).length_le
  refine Nat.le_trans (List.dropWhile_sublist _).length_le ?_
  simpa using h1
theorem trim_ret (s cut : List UInt8) (hc : cut.length < 4294967281) (ha : cut.all (fun b => decide (b.toNat < 128)) = true) : Ret Tryz.prog 78 [.str s, .str cut] [] (.str (Lib.trimS s cut)) [] := by
  refine ret_below ⟨Tryz.f78, Tryz.func78, rfl, rfl⟩ fun E w xs hG hz hxs => ?_
  obtain ⟨x, y, rfl, h1, h2⟩ := args2 hxs
  obtain ⟨rfl, hl⟩ := h1.str_inv
  obtain ⟨rfl, hl2⟩ := h2.str_inv
  refine (Go.Proofs.Any.strings_Trim_laid Tryz.lays160 (by kernel_rfl) ⟨s.toArray⟩ ⟨cut.toArray⟩ w (by rw [bsz]; simp only [big] at hl; omega) (by rw [bsz]; exact hc) (Go.Proofs.ascii_of_all (by simpa using ha))).mono fun e w' he => ?_
  obtain ⟨he, hb⟩ := he
  refine ⟨_, he, hb, .ground (.str _ ?_)⟩
  exact Nat.le_trans (trimS_le _ _) hl
theorem indexByte_ret (s : List UInt8) (c : Int) : Ret Tryz.prog 61 [.str s, .int .u8 c] [] (.int .i64 (Lib.indexByte s c.toNat.toUInt8)) [] := by
  refine ret_below ⟨Tryz.f61, Tryz.func61, rfl, rfl⟩ fun E w xs hG hz hxs => ?_
  obtain ⟨x, y, rfl, h1, h2⟩ := args2 hxs
  obtain ⟨rfl, hl⟩ := h1.str_inv
  obtain rfl := h2.int_inv
  refine (Tryz.strings_IndexByte ⟨s.toArray⟩ c w).mono fun e w' he => ?_
  obtain ⟨he, rfl⟩ := he
  exact ⟨_, he, Below.refl _ _, .ground (.int _ _)⟩
theorem index_ret (s t : List UInt8) (hs : s.length < 4294967281) : Ret Tryz.prog 63 [.str s, .str t] [] (.int .i64 (Lib.index s t)) [] := by
  refine ret_below ⟨Tryz.f63, Tryz.func63, rfl, rfl⟩ fun E w xs hG hz hxs => ?_
  obtain ⟨x, y, rfl, h1, h2⟩ := args2 hxs
  obtain ⟨rfl, hl⟩ := h1.str_inv
  obtain ⟨rfl, hl2⟩ := h2.str_inv
  obtain ⟨m, hm⟩ := hG.mx
  refine (Tryz.strings_Index ⟨s.toArray⟩ ⟨t.toArray⟩ m w (by rw [bsz]; exact hs) hm).mono fun e w' he => ?_
  obtain ⟨he, rfl⟩ := he
  exact ⟨_, he, Below.refl _ _, .ground (.int _ _)⟩
theorem itoa_ret (n : Int) (h0 : -9223372036854775808 ≤ n) (h1 : n ≤ 9223372036854775807) : Ret Tryz.prog 24 [.int .i64 n] [] (.str (Lib.itoa n)) [] := by
  refine ret_below ⟨Tryz.f24, Tryz.func24, rfl, rfl⟩ fun E w xs hG hz hxs => ?_
  obtain ⟨x, rfl, hx⟩ := args1 hxs
  obtain rfl := hx.int_inv
  refine (Tryz.strconv_Itoa n h0 h1 w hG.tab).mono fun e w' he => ?_
  obtain ⟨he, k, os, rfl⟩ := he
  refine ⟨_, he, Lib.below_grow _ w (Nat.le_refl _) k os, .ground (.str _ ?_)⟩
  have := Lib.itoa_length_le n h0 h1
  simp only [big]; omega
/-- The strings that are given back on a new row. -/
theorem row_strs {E : En} {w w' : World} {l : List (List UInt8)} {n cap : Nat} {xs : Array Value} {ty : TypeId} (hn : n = l.length) (hc : l.length ≤ cap) (hb : l.length ≤ big) (hs : ∀ s ∈ l, s.length ≤ big) (b : Nat) (hbn : w.heap.size ≤ b) (hh : w'.heap[b]? = some (.cells xs ty (0, 0)))
    (hx : ∀ (i : Nat) (s : List UInt8), l[i]? = some s → xs[i]? = some (.string ⟨s.toArray⟩)) : R (E.since w w') (.row 1 (l.map .str) .no) (.slice (some ⟨b, 0, none⟩) n cap) := by
  subst hn
  have e : (l.map AV.str).length = l.length := by simp
  rw [← e]
  refine .ground (.row 1 (l.map .str) b 0 cap (fun i j => (xs[i + j]?).getD Go.undef) (by simpa using hc) (by simpa using hb) (fun i e he => ?_) (fun i e j c he hc => ?_) (fun i e j c he hc => ?_))
  all_goals (rw [List.getElem?_map] at he; obtain ⟨s, hs', rfl⟩ := Option.map_eq_some_iff.1 he)
  · rfl
  · cases j with
    | zero =>
      rw [since_new hbn, cell_of_row w' b _ xs ty _ hh]
      simp [hx i s hs']
    | succ j => simp [AV.cells] at hc
  · cases j with
    | zero =>
      simp [AV.cells] at hc
      subst hc
      simp only [Nat.add_zero, hx i s hs', Option.getD_some]
      exact .str s (hs s (List.mem_of_getElem? hs'))
    | succ j => simp [AV.cells] at hc
theorem lastIndexByte_ret (s : List UInt8) (c : Int) (hs : s.length < 4611686018427387904) : Ret Tryz.prog 94 [.str s, .int .u8 c] [] (.int .i64 (Lib.lastIndexByte ⟨s.toArray⟩ c)) [] := by
  refine ret_below ⟨Tryz.f94, Tryz.func94, rfl, rfl⟩ fun E w xs hG hz hxs => ?_
  obtain ⟨x, y, rfl, h1, h2⟩ := args2 hxs
  obtain ⟨rfl, hl⟩ := h1.str_inv
  obtain rfl := h2.int_inv
  refine (Tryz.strings_LastIndexByte ⟨s.toArray⟩ c (by rw [bsz]; exact hs) w).mono fun e w' he => ?_
  obtain ⟨he, rfl⟩ := he
  exact ⟨_, he, Below.refl _ _, .ground (.int _ _)⟩
theorem split_ret (s sep : List UInt8) (l : List (List UInt8)) (hs : s.length < 4294967281) (h1 : 1 ≤ sep.length) (hl : (Lib.splitB ⟨sep.toArray⟩ 0 (Lib.countB ⟨s.toArray⟩ ⟨sep.toArray⟩) ⟨s.toArray⟩) = l.map fun x => ⟨x.toArray⟩) (hlen : l.length ≤ big) (hb : ∀ x ∈ l, x.length ≤ big) :
    Ret Tryz.prog 70 [.str s, .str sep] [] (.row 1 (l.map .str) .no) [] := by
  refine ret_new ⟨Tryz.f70, Tryz.func70, rfl, rfl⟩ fun E w xs hG hz hxs => ?_
  obtain ⟨x, y, rfl, g1, g2⟩ := args2 hxs
  obtain ⟨rfl, hl1⟩ := g1.str_inv
  obtain ⟨rfl, hl2⟩ := g2.str_inv
  obtain ⟨m, hm⟩ := hG.mx
  have hn := Lib.splitB_all ⟨sep.toArray⟩ (by rw [bsz]; exact h1) 0 (Lib.countB ⟨s.toArray⟩ ⟨sep.toArray⟩) ⟨s.toArray⟩ rfl
  refine (Tryz.strings_Split ⟨s.toArray⟩ ⟨sep.toArray⟩ m w (by rw [bsz]; exact hs) hm (by rw [bsz]; exact h1)).mono fun e w' he => ?_
  obtain ⟨he, rfl⟩ := he
  rw [hl, List.length_map] at hn
  rw [← hn] at he
  refine ⟨_, he, (Below.refl _ w).alloc (Nat.le_refl _) _, row_strs (l := l) (n := l.length) rfl (Nat.le_refl _) hlen hb w.heap.size (Nat.le_refl _) (heap_alloc_new w _) (fun i s hi => ?_)⟩
  rw [hl]
  simp [hi]
end Go.Proofs.YtcehdakofmhabaaGreatDoor.Ab
