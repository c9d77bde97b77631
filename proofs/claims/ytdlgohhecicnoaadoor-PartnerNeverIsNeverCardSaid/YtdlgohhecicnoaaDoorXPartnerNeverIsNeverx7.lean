-- Walks of PartnerNeverIsNever: written by xprint.py out of the translation (hand-proved functions among them). Lean checks it.
import Derived.Test.YtdlgohhecicnoaaDoorXPartnerNeverIsNeverx0
import Derived.Test.YtdlgohhecicnoaaDoorXPartnerNeverIsNeverx1
import Derived.Test.YtdlgohhecicnoaaDoorXPartnerNeverIsNeverx4
import Derived.Test.YtdlgohhecicnoaaDoorXPartnerNeverIsNeverx6
namespace Go.Proofs.YtdlgohhecicnoaaDoor.XPartnerNeverIsNever
open Go.RowKit Go.Proofs.YtdlgohhecicnoaaDoorW.PrintWords Go.Proofs.YtdlgohhecicnoaaDoorW.PrintLast Go.Proofs.YtdlgohhecicnoaaDoorW.PrintMore
attribute [local go_sem] max2_int min2_int max_two min_two max_three min_three max_four min_four   -- for this text's walks alone
set_option linter.unusedVariables false
set_option linter.unusedSimpArgs false

/-! ### partner_Find: function 29 -/
def partner_Find.f (k : Nat) (l0 : List (S86)) (l1 : List (S23)) (a2_0 : ByteArray) (a2_1 : ByteArray) (a2_2 : ByteArray) (a2_3 : ByteArray) (a2_4 : Int) (a2_5 : Bool) : Option (Int × Bool × Int) := (partner_askedFault.f k l0 l1 a2_0 a2_1 a2_2 a2_3 a2_4 a2_5).bind fun t186 => (if t186 = 0 then ((partner_find.f k l1 a2_0 a2_1 a2_2 a2_3 a2_4 a2_5).bind fun t187 => (some (mx t187 0, decide (t187 ≥ 0), 0))) else (some (0, false, t186)))
theorem partner_Find.mono : ∀ a0 a1 a2 a3 a4 a5 a6 a7 k, LeO (partner_Find.f k a0 a1 a2 a3 a4 a5 a6 a7) (partner_Find.f (k + 1) a0 a1 a2 a3 a4 a5 a6 a7) := by
 intro a0 a1 a2 a3 a4 a5 a6 a7 k
 unfold partner_Find.f
 repeat' first
   | (with_reducible exact partner_askedFault.mono _ _ _ _ _ _ _ _ _)
   | (with_reducible exact partner_find.mono _ _ _ _ _ _ _ _)
   | (with_reducible exact LeO.refl _)
   | (with_reducible exact LeO.none _)
   | (with_reducible refine LeO.ite ?_ ?_)
   | (with_reducible refine LeO.bind ?_ (fun _ => ?_))
   | exact partner_askedFault.mono _ _ _ _ _ _ _ _ _
   | exact partner_find.mono _ _ _ _ _ _ _ _
   | exact LeO.none _
   | refine LeO.ite ?_ ?_
   | refine LeO.bind ?_ (fun _ => ?_)
set_option maxHeartbeats 8000000 in
set_option maxRecDepth 100000 in
theorem partner_Find.calls (k : Nat) (A0 : Option Addr) (c0 : Nat) (l0 : List (S86)) (A1 : Option Addr) (c1 : Nat) (l1 : List (S23)) (a2_0 : ByteArray) (a2_1 : ByteArray) (a2_2 : ByteArray) (a2_3 : ByteArray) (a2_4 : Int) (a2_5 : Bool) (r1 : Int) (r2 : Bool) (r3 : Int) (w : World) (hr0 : Kd.C k86 w A0 l0.length l0) (hc0 : l0.length ≤ c0) (hr1 : Kd.C k23 w A1 l1.length l1) (hc1 : l1.length ≤ c1) (h : partner_Find.f k l0 l1 a2_0 a2_1 a2_2 a2_3 a2_4 a2_5 = some (r1, r2, r3)) :
  Calls Tryd.prog 29 #[.slice A0 l0.length c0, .slice A1 l1.length c1, .agg #[.string a2_0, .string a2_1, .string a2_2, .string a2_3, .int .i64 a2_4, .bool a2_5]] w fun e w' => e = .returned (.tuple #[.int .i64 r1, .bool r2, .int .i64 r3]) ∧ Below w.heap.size w w' := by
 have hu37 := Tryd.underlying37
 have HR0 := Aside0.mk hr0
 have HC0 := Aside0.mk hc0
 clear hr0 hc0
 have HR1 := Aside0.mk hr1
 have HC1 := Aside0.mk hc1
 clear hr1 hc1
 have HB := Aside0.mk (Below.refl w.heap.size w)
 have H : ((partner_askedFault.f k l0 l1 a2_0 a2_1 a2_2 a2_3 a2_4 a2_5).bind fun t186 => (if t186 = 0 then ((partner_find.f k l1 a2_0 a2_1 a2_2 a2_3 a2_4 a2_5).bind fun t187 => (some (mx t187 0, decide (t187 ≥ 0), 0))) else (some (0, false, t186)))) = some (r1, r2, r3) := h
 clear h
 replace H := Option.bind_eq_some_iff.mp H
 obtain ⟨t186, A40, H⟩ := H
 replace H : (if t186 = 0 then ((partner_find.f k l1 a2_0 a2_1 a2_2 a2_3 a2_4 a2_5).bind fun t187 => (some (mx t187 0, decide (t187 ≥ 0), 0))) else (some (0, false, t186))) = some (r1, r2, r3) := H
 have A4 := Aside0.mk A40
 clear A40
 by_cases c5 : t186 = 0
 ·rw [if_pos c5] at H
  have c5b0 : (t186 == 0) = true := beq_iff_eq.mpr c5
  have c5b1 : (t186 != 0) = false := bne_eq_false_iff_eq.mpr c5
  clear c5
  replace H := Option.bind_eq_some_iff.mp H
  obtain ⟨t187, A60, H⟩ := H
  replace H : (some (mx t187 0, decide (t187 ≥ 0), 0)) = some (r1, r2, r3) := H
  have A6 := Aside0.mk A60
  clear A60
  obtain ⟨ji7, hji7⟩ : ∃ j_ : Int, (mx t187 0) = j_ := ⟨_, rfl⟩
  replace H : (some (ji7, decide (t187 ≥ 0), 0)) = some (r1, r2, r3) := by first | (rw [hji7] at H; exact H) | (simp only [hji7] at H ⊢; exact H)
  (try rw [hji7] at A4)
  (try rw [hji7] at A6)
  (try (have hji7l : 0 ≤ ji7 := by (rw [← hji7]; unfold mx; (repeat' split) <;> omega)))
  (try (have hji7m : 0 ≤ ji7 := by omega))
  have hji7_ : (if t187 < 0 then 0 else t187) = ji7 := hji7
  simp only [Option.some.injEq, Prod.mk.injEq] at H
  obtain ⟨rfl, rfl, rfl⟩ := H
  go_enter Tryd.func29, Tryd.ntmps29
  go_wp2_with (first | ((with_reducible refine gate_dst (N := 5) rfl ?_); refine box_event ?hg (N := 5) ?hd (cs := #[.string a2_0, .string a2_1, .string a2_2, .string a2_3, .int .i64 a2_4, .bool a2_5]) (t := 37) ?hr ?_; (case hd => rfl); (case hg => rfl); (case hr => exact Z103); intro gb185 hg w8 hbox hb; have n0_ := Aside0.mk (below_step Z70 hb); have n1_ := Aside0.mk (hbox); have n2_ := Aside0.mk ((Z49 : w.heap.size ≤ gb185)); have n3_ := Aside0.mk ((Z49 : w.heap.size ≤ gb185)); clear HB; have HB := n0_; have BK185 := n1_; have GW185 := n2_; have GE185 := n3_; clear n0_ n1_ n2_ n3_; clear hb hbox hg; obtain ⟨hcz9_0, hcz9_1, hcz9_2, hcz9_3, hcz9_4, hcz9_5, hfz9_0, hfz9_1, hfz9_2, hfz9_3, hfz9_4, hfz9_5⟩ := bf6 BK185.out) | ((with_reducible refine gate_callee (f := 67) rfl ?_); refine goesL_ (some 14) rfl rfl Tryd.func67 (by kernel_rfl) rfl #[.slice A0 l0.length c0, .slice A1 l1.length c1, .agg #[.string a2_0, .string a2_1, .string a2_2, .string a2_3, .int .i64 a2_4, .bool a2_5]] rfl Z45 ?_; (with_reducible refine (partner_askedFault.calls k _ _ l0 _ _ l1 a2_0 a2_1 a2_2 a2_3 a2_4 a2_5 t186 _ ?side1 ?side2 ?side3 ?side4 A4.out).mono ?_); (case side1 => exact Z46); (case side2 => exact Z106); (case side3 => exact Z47); (case side4 => exact HC1.out); rintro e w10 ⟨rfl, hb⟩; refine ⟨_, rfl, ?_⟩; have n0_ := Aside0.mk (blk_below (g := gb185) (o := .cells #[.string a2_0, .string a2_1, .string a2_2, .string a2_3, .int .i64 a2_4, .bool a2_5] 37 (0, 0)) Z86 hb); have n1_ := Aside0.mk (below_step Z62 hb); clear BK185; clear HB; have BK185 := n0_; have HB := n1_; clear n0_ n1_; (try clear hb); (try clear hb2); (try clear hk); (try clear hi); obtain ⟨hcz11_0, hcz11_1, hcz11_2, hcz11_3, hcz11_4, hcz11_5, hfz11_0, hfz11_1, hfz11_2, hfz11_3, hfz11_4, hfz11_5⟩ := bf6 BK185.out) | ((with_reducible refine gate_callee (f := 68) rfl ?_); refine goesL_ (some 20) rfl rfl Tryd.func68 (by kernel_rfl) rfl #[.slice A1 l1.length c1, .agg #[.string a2_0, .string a2_1, .string a2_2, .string a2_3, .int .i64 a2_4, .bool a2_5]] rfl Z45 ?_; (with_reducible refine (partner_find.calls k _ _ l1 a2_0 a2_1 a2_2 a2_3 a2_4 a2_5 t187 _ ?side1 ?side2 A6.out).mono ?_); (case side1 => exact Z47); (case side2 => exact HC1.out); rintro e w12 ⟨rfl, hb⟩; refine ⟨_, rfl, ?_⟩; have n0_ := Aside0.mk (blk_below (g := gb185) (o := .cells #[.string a2_0, .string a2_1, .string a2_2, .string a2_3, .int .i64 a2_4, .bool a2_5] 37 (0, 0)) Z86 hb); have n1_ := Aside0.mk (below_step Z62 hb); clear BK185; clear HB; have BK185 := n0_; have HB := n1_; clear n0_ n1_; (try clear hb); (try clear hb2); (try clear hk); (try clear hi)))
  go_ret3
  exact ⟨by first | rfl | (simp [errW_none, errW_some] <;> rfl) | (simp [errW_none, errW_some, xne_empty, xeq_empty] <;> rfl) | (simp only [← hji7]; first | rfl | (simp [errW_none, errW_some] <;> rfl)) | (simp [*, errW_none, errW_some] <;> rfl), Z62⟩
 ·rw [if_neg c5] at H
  have c5b0 : (t186 == 0) = false := beq_eq_false_iff_ne.mpr c5
  have c5b1 : (t186 != 0) = true := bne_iff_ne.mpr c5
  simp only [Option.some.injEq, Prod.mk.injEq] at H
  obtain ⟨rfl, rfl, rfl⟩ := H
  go_enter Tryd.func29, Tryd.ntmps29
  go_wp2_with (first | ((with_reducible refine gate_dst (N := 5) rfl ?_); refine box_event ?hg (N := 5) ?hd (cs := #[.string a2_0, .string a2_1, .string a2_2, .string a2_3, .int .i64 a2_4, .bool a2_5]) (t := 37) ?hr ?_; (case hd => rfl); (case hg => rfl); (case hr => exact Z103); intro gb185 hg w13 hbox hb; have n0_ := Aside0.mk (below_step Z70 hb); have n1_ := Aside0.mk (hbox); have n2_ := Aside0.mk ((Z49 : w.heap.size ≤ gb185)); have n3_ := Aside0.mk ((Z49 : w.heap.size ≤ gb185)); clear HB; have HB := n0_; have BK185 := n1_; have GW185 := n2_; have GE185 := n3_; clear n0_ n1_ n2_ n3_; clear hb hbox hg; obtain ⟨hcz14_0, hcz14_1, hcz14_2, hcz14_3, hcz14_4, hcz14_5, hfz14_0, hfz14_1, hfz14_2, hfz14_3, hfz14_4, hfz14_5⟩ := bf6 BK185.out) | ((with_reducible refine gate_callee (f := 67) rfl ?_); refine goesL_ (some 14) rfl rfl Tryd.func67 (by kernel_rfl) rfl #[.slice A0 l0.length c0, .slice A1 l1.length c1, .agg #[.string a2_0, .string a2_1, .string a2_2, .string a2_3, .int .i64 a2_4, .bool a2_5]] rfl Z45 ?_; (with_reducible refine (partner_askedFault.calls k _ _ l0 _ _ l1 a2_0 a2_1 a2_2 a2_3 a2_4 a2_5 t186 _ ?side1 ?side2 ?side3 ?side4 A4.out).mono ?_); (case side1 => exact Z46); (case side2 => exact Z106); (case side3 => exact Z47); (case side4 => exact HC1.out); rintro e w15 ⟨rfl, hb⟩; refine ⟨_, rfl, ?_⟩; have n0_ := Aside0.mk (blk_below (g := gb185) (o := .cells #[.string a2_0, .string a2_1, .string a2_2, .string a2_3, .int .i64 a2_4, .bool a2_5] 37 (0, 0)) Z86 hb); have n1_ := Aside0.mk (below_step Z62 hb); clear BK185; clear HB; have BK185 := n0_; have HB := n1_; clear n0_ n1_; (try clear hb); (try clear hb2); (try clear hk); (try clear hi)))
  go_ret3
  exact ⟨Z66, Z62⟩

/-! ### slices_Sort_int_int: function 109 -/
section
open Go.Sort
theorem R_ints {e : Nat} {w : World} {base : Nat} {ok : Nat → Prop} {v : Value} {xs : List Int} : Kd.R (Kd.int .i64) e w base ok v xs ↔ (∀ k, v.ownBlock = some k → ok k) ∧ w.ownsRow base e 1 v xs.length (xs.map (Value.int .i64)) := by
 constructor
 ·rintro ⟨h0, inner, ho, hr⟩
  refine ⟨h0, ?_⟩
  have hi : inner = xs.map (Value.int .i64) := by
   have hl : inner.length = xs.length := by rw [hr.1]; exact Nat.mul_one _
   refine List.ext_getElem? fun j => ?_
   by_cases hj : j < xs.length
   ·have := hr.2 j xs[j] (List.getElem?_eq_getElem hj)
    have e1 : (inner.drop (j * 1)).take 1 = [inner[j]'(by omega)] := by rw [Nat.mul_one, List.drop_eq_getElem_cons (by omega)]; rfl
    have e2 : (inner.drop (j * 1)).take 1 = [Value.int .i64 xs[j]] := this
    rw [e1] at e2
    rw [List.getElem?_eq_getElem (by omega), List.getElem?_map, List.getElem?_eq_getElem hj]
    simpa using e2
   ·rw [List.getElem?_eq_none (by omega), List.getElem?_eq_none (by simp; omega)]
  rw [← hi]
  exact ho
 ·rintro ⟨h0, ho⟩
  refine ⟨h0, _, ho, by simp [Kd.int, Kd.scalar], fun j p hj => ?_⟩
  show (((xs.map (Value.int .i64)).drop (j * 1)).take 1) = [Value.int .i64 p]
  have hj' : j < xs.length := (List.getElem?_eq_some_iff.1 hj).1
  have hp : xs[j] = p := (List.getElem?_eq_some_iff.1 hj).2
  rw [Nat.mul_one, List.drop_eq_getElem_cons (by simpa using hj')]
  simp [hp]
theorem holds_ints {w : World} {g : Nat} {cur : Array Value} {e : TypeId} {ss : List Int} (hb : w.heap[g]? = some (.cells cur e (0, 0))) (ht : cur.toList.take ss.length = ss.map (Value.int .i64)) : Holds (Value.int .i64) w g 0 ss.toArray := by
 intro j hj
 have hj' : j < ss.length := by simpa using hj
 refine ⟨?_, by simp [World.frozen?, hb]⟩
 have h1 : (cur.toList.take ss.length)[j]? = (ss.map (Value.int .i64))[j]? := by rw [ht]
 rw [List.getElem?_take_of_lt hj'] at h1
 simp only [World.cell?, hb, Nat.zero_add]
 simp only [Option.isSome_none, Bool.false_eq_true, if_false]
 rw [← Array.getElem?_toList, h1]
 simp [hj']
theorem heap_put {w : World} {g n : Nat} {os : Array Obj} {cur : Array Value} {e : TypeId} {fr : Nat × Nat} (d : Array Int) (hb : w.heap[g]? = some (.cells cur e fr)) :
  (grow (putRow (Value.int .i64) (Sort.ahead w n) g 0 d) os).heap[g]? = some (.cells (putCells (Value.int .i64) 0 d cur) e fr) := by
 have hg : g < w.heap.size := (Array.getElem?_eq_some_iff.1 hb).1
 rw [heap_grow_old _ _ (by simpa using hg)]
 simp [putRow, mapBlock, Sort.ahead, Array.getElem?_modify, hb, onCells]
theorem grownBy_put {w : World} {g n : Nat} {os : Array Obj} (d : Array Int) : w.grownBy (grow (putRow (Value.int .i64) (Sort.ahead w n) g 0 d) os) (some g) := by
 refine ⟨rfl, rfl, rfl, by simp, fun k hk hne => ?_⟩
 rw [heap_grow_old _ _ (by simpa using hk)]
 have : g ≠ k := fun e => hne (by rw [e])
 simp [putRow, mapBlock, Sort.ahead, Array.getElem?_modify, this]
theorem take_put (cur : Array Value) (ts : List Int) (h : ts.length ≤ cur.size) : (putCells (Value.int .i64) 0 ts.toArray cur).toList.take ts.length = ts.map (Value.int .i64) := by
 apply List.ext_getElem?
 intro j
 by_cases hj : j < ts.length
 ·rw [List.getElem?_take_of_lt hj, Array.getElem?_toList]
  simp [putCells, hj, show j < cur.size by omega]
 ·rw [List.getElem?_take_eq_none (by omega), List.getElem?_eq_none (by simp; omega)]
end

def slices_Sort_int_int.f (l0 : List Int) : Option (List Int) := if l0.length < 4611686018427387904 then some (l0.mergeSort fun x y => decide (x ≤ y)) else none
theorem slices_Sort_int_int.calls (P0_ : Nat → Prop) (u9000_ : Value) (l0 : List Int) (r : List Int) (w0 w : World) (hB : Below w0.heap.size w0 w) (ho0 : Kd.R (Kd.int .i64) 3 w w0.heap.size P0_ u9000_ l0) (h : slices_Sort_int_int.f l0 = some r) :
  Calls Tryd.prog 109 #[u9000_] w fun e w' => e = .returned (.tuple #[]) ∧ Kd.R (Kd.int .i64) 3 w' w0.heap.size (fun k_ => (P0_ k_ ∨ w.heap.size ≤ k_)) u9000_ r ∧ Below w0.heap.size w0 w' ∧ Kept w w' (fun k_ => P0_ k_) := by
 unfold slices_Sort_int_int.f at h
 split at h
 ·rename_i hlen
  obtain rfl := Option.some.inj h
  obtain ⟨hok, ho⟩ := R_ints.1 ho0
  rcases ho.2 with ⟨rfl, hn⟩ | ⟨g, cap, cur, rfl, hbase, hb, h1, h2, h3, h4⟩
  ·have hn' : l0 = [] := List.length_eq_zero_iff.1 hn
   subst hn'
   refine (Tryd.slices_Sort_int_none none 0 w).mono ?_
   rintro e w' ⟨rfl, rfl⟩
   exact ⟨rfl, R_ints.2 ⟨fun k hk => .inl (hok k hk), by simpa using ho⟩, hB, Kept.refl _ _⟩
  ·refine (Tryd.slices_Sort_int g 0 cap l0 w (holds_ints hb (by rw [Nat.mul_one] at h4; exact h4)) (Array.getElem?_eq_some_iff.1 hb).1 hlen).mono ?_
   rintro e w' ⟨rfl, n, os, rfl⟩
   have hl : (l0.mergeSort fun x y => decide (x ≤ y)).length = l0.length := by simp
   have hg := grownBy_put (w := w) (g := g) (n := n) (os := os) (l0.mergeSort fun x y => decide (x ≤ y)).toArray
   refine ⟨rfl, R_ints.2 ⟨fun k hk => .inl (hok k hk), ?_⟩, Below.grown hB hg hB.size (fun k hk => by cases hk; exact hbase), Kept.of_grown hg (Kept.refl _ _) (fun k hk => .inl (hok k (by simpa [Value.ownBlock] using hk)))⟩
   refine ⟨by simp, .inr ⟨g, cap, _, by rw [hl], hbase, heap_put _ hb, by omega, h2, by simp [Sort.putCells, h3], ?_⟩⟩
   rw [Nat.mul_one]
   exact take_put cur _ (by omega)
 ·cases h

/-! ### slices_Compact_int_int: function 110 -/
def slices_Compact_int_int.f (l0 : List Int) : Option (List Int) := if l0.length ≤ 9223372036854775807 then some (Lib.compact l0) else none
theorem slices_Compact_int_int.calls (P0_ : Nat → Prop) (u9000_ : Value) (l0 : List Int) (r : List Int) (w0 w : World) (hB : Below w0.heap.size w0 w) (ho0 : Kd.R (Kd.int .i64) 3 w w0.heap.size P0_ u9000_ l0) (h : slices_Compact_int_int.f l0 = some r) :
  Calls Tryd.prog 110 #[u9000_] w fun e w' => ∃ v0_ : Value, e = .returned (v0_) ∧ Kd.R (Kd.int .i64) 3 w' w0.heap.size (fun k_ => (P0_ k_ ∨ w.heap.size ≤ k_)) v0_ r ∧ Below w0.heap.size w0 w' ∧ Kept w w' (fun k_ => P0_ k_) := by
 unfold slices_Compact_int_int.f at h
 split at h
 ·rename_i hlen
  obtain rfl := Option.some.inj h
  obtain ⟨hok, ho⟩ := R_ints.1 ho0
  rcases ho.2 with ⟨rfl, hn⟩ | ⟨g, cap, cur, rfl, hbase, hb, h1, h2, h3, h4⟩
  ·have hn' : l0 = [] := List.length_eq_zero_iff.1 hn
   subst hn'
   refine (Tryd.slices_Compact_int_empty none 0 w).mono ?_
   rintro e w' ⟨rfl, rfl⟩
   exact ⟨_, rfl, R_ints.2 ⟨fun k hk => .inl (hok k hk), by rw [show Lib.compact ([] : List Int) = [] from rfl]; simpa using ho⟩, hB, Kept.refl _ _⟩
  ·refine (Tryd.slices_Compact_int g 0 cap l0 w (holds_ints hb (by rw [Nat.mul_one] at h4; exact h4)) hlen h1).mono ?_
   rintro e w' ⟨rfl, n, rfl⟩
   have hle : (Lib.compact l0).length ≤ l0.length := Lib.compact_length_le l0
   have hg := grownBy_put (w := w) (g := g) (n := n) (os := #[]) (Lib.compact l0 ++ List.replicate (l0.length - (Lib.compact l0).length) 0).toArray
   rw [Sort.grow_empty] at hg
   have hh := heap_put (n := n) (os := #[]) (Lib.compact l0 ++ List.replicate (l0.length - (Lib.compact l0).length) 0).toArray hb
   rw [Sort.grow_empty] at hh
   refine ⟨_, rfl, R_ints.2 ⟨fun k hk => .inl (hok k hk), ?_⟩, Below.grown hB hg hB.size (fun k hk => by cases hk; exact hbase), Kept.of_grown hg (Kept.refl _ _) (fun k hk => .inl (hok k (by simpa [Value.ownBlock] using hk)))⟩
   refine ⟨by simp, .inr ⟨g, cap, _, rfl, hbase, hh, by omega, h2, by simp [Sort.putCells, h3], ?_⟩⟩
   rw [Nat.mul_one]
   have ht := take_put cur (Lib.compact l0 ++ List.replicate (l0.length - (Lib.compact l0).length) 0) (by simp; omega)
   have := congrArg (List.take (Lib.compact l0).length) ht
   rw [List.take_take, Nat.min_eq_left (by simp)] at this
   rw [this]
   simp
 ·cases h

/-! ### partner_changes: function 80 -/
mutual
def partner_changes.l0 : Nat → Int → List Int → List (S23) → Int → Int → Option (List Int)
 | 0, _, _, _, _, _ => none
 | k + 1, x1, x5, x12, x13, x14 => if x14 < x13 then (if 0 ≤ x14 then (if x14 < (x12.length : Int) then ((some (([(rd_T23 x12 x14).f4, wrap64 (((rd_T23 x12 x14).f5) + 1)] : List Int) : List Int)).bind fun y197 => (partner_changes.l1 k x1 x5 x12 x13 x14 y197 (y197.length : Int) 0)) else (none)) else (none)) else ((slices_Sort_int_int.f x5).bind fun t191 => ((slices_Compact_int_int.f t191).bind fun t192 => (some t192)))
def partner_changes.l1 : Nat → Int → List Int → List (S23) → Int → Int → List Int → Int → Int → Option (List Int)
 | 0, _, _, _, _, _, _, _, _ => none
 | k + 1, x1, x5, x12, x13, x14, x23, x24, x25 => if x25 < x24 then (if 0 ≤ x25 then (if x25 < (x23.length : Int) then (if (rd x23 x25) > x1 then (if (rd x23 x25) ≤ 3652059 then (if x5.length < 17592186044416 then (partner_changes.l1 k x1 (x5 ++ [rd x23 x25]) x12 x13 x14 x23 x24 (wrap64 (x25 + 1))) else (none)) else (partner_changes.l1 k x1 x5 x12 x13 x14 x23 x24 (wrap64 (x25 + 1)))) else (partner_changes.l1 k x1 x5 x12 x13 x14 x23 x24 (wrap64 (x25 + 1)))) else (none)) else (none)) else (partner_changes.l0 k x1 x5 x12 x13 (wrap64 (x14 + 1)))
end
def partner_changes.f (k : Nat) (l0 : List (S23)) (a1 : Int) : Option (List Int) := partner_changes.l0 k a1 (([a1] : List Int)) l0 (l0.length : Int) 0
theorem partner_changes.mono_l : ∀ k, (∀ y0 y1 y2 y3 y4, LeO (partner_changes.l0 k y0 y1 y2 y3 y4) (partner_changes.l0 (k + 1) y0 y1 y2 y3 y4)) ∧ (∀ y0 y1 y2 y3 y4 y5 y6 y7, LeO (partner_changes.l1 k y0 y1 y2 y3 y4 y5 y6 y7) (partner_changes.l1 (k + 1) y0 y1 y2 y3 y4 y5 y6 y7))
 | 0 => ⟨fun _ _ _ _ _ r h => by simp [partner_changes.l0] at h, fun _ _ _ _ _ _ _ _ r h => by simp [partner_changes.l1] at h⟩
 | k + 1 => by
  obtain ⟨ih0, ih1⟩ := partner_changes.mono_l k
  refine ⟨?_, ?_⟩
  ·intro y0 y1 y2 y3 y4
   unfold partner_changes.l0
   repeat' first
   | (with_reducible exact ih0 _ _ _ _ _)
   | (with_reducible exact ih1 _ _ _ _ _ _ _ _)
   | (with_reducible exact LeO.refl _)
   | (with_reducible exact LeO.none _)
   | (with_reducible refine LeO.ite ?_ ?_)
   | (with_reducible refine LeO.bind ?_ (fun _ => ?_))
   | exact ih0 _ _ _ _ _
   | exact ih1 _ _ _ _ _ _ _ _
   | exact LeO.none _
   | refine LeO.ite ?_ ?_
   | refine LeO.bind ?_ (fun _ => ?_)
  ·intro y0 y1 y2 y3 y4 y5 y6 y7
   unfold partner_changes.l1
   repeat' first
   | (with_reducible exact ih0 _ _ _ _ _)
   | (with_reducible exact ih1 _ _ _ _ _ _ _ _)
   | (with_reducible exact LeO.refl _)
   | (with_reducible exact LeO.none _)
   | (with_reducible refine LeO.ite ?_ ?_)
   | (with_reducible refine LeO.bind ?_ (fun _ => ?_))
   | exact ih0 _ _ _ _ _
   | exact ih1 _ _ _ _ _ _ _ _
   | exact LeO.none _
   | refine LeO.ite ?_ ?_
   | refine LeO.bind ?_ (fun _ => ?_)
theorem partner_changes.mono : ∀ a0 a1 k, LeO (partner_changes.f k a0 a1) (partner_changes.f (k + 1) a0 a1) := by
 intro a0 a1 k
 obtain ⟨ih0, ih1⟩ := partner_changes.mono_l k
 unfold partner_changes.f
 repeat' first
   | (with_reducible exact ih0 _ _ _ _ _)
   | (with_reducible exact ih1 _ _ _ _ _ _ _ _)
   | (with_reducible exact LeO.refl _)
   | (with_reducible exact LeO.none _)
   | (with_reducible refine LeO.ite ?_ ?_)
   | (with_reducible refine LeO.bind ?_ (fun _ => ?_))
   | exact ih0 _ _ _ _ _
   | exact ih1 _ _ _ _ _ _ _ _
   | exact LeO.none _
   | refine LeO.ite ?_ ?_
   | refine LeO.bind ?_ (fun _ => ?_)
set_option maxHeartbeats 8000000 in
set_option maxRecDepth 100000 in
theorem partner_changes.calls (k : Nat) (A0 : Option Addr) (c0 : Nat) (l0 : List (S23)) (a1 : Int) (r : List Int) (w : World) (hr0 : Kd.C k23 w A0 l0.length l0) (hc0 : l0.length ≤ c0) (h : partner_changes.f k l0 a1 = some r) :
  Calls Tryd.prog 80 #[.slice A0 l0.length c0, .int .i64 a1] w fun e w' => ∃ v0_ : Value, e = .returned (v0_) ∧ Kd.R (Kd.int .i64) 3 w' w.heap.size (fun _ => True) v0_ r ∧ Below w.heap.size w w' := by
 have hu23 := Tryd.underlying23
 have HR0 := Aside0.mk hr0
 have HC0 := Aside0.mk hc0
 clear hr0 hc0
 have HB := Aside0.mk (Below.refl w.heap.size w)
 have H : (partner_changes.l0 k a1 (([a1] : List Int)) l0 (l0.length : Int) 0) = some r := h
 clear h
 obtain ⟨y188, hy188⟩ : ∃ y_ : List Int, y_ = (([a1] : List Int)) := ⟨_, rfl⟩
 replace H : (partner_changes.l0 k a1 y188 l0 (l0.length : Int) 0) = some r := by first | (rw [hy188]; with_reducible exact H) | (have H2_ := (Option.bind_some _ _).symm.trans H; rw [hy188]; with_reducible exact H2_) | (have H2_ := (Option.bind_some _ _).symm.trans H; with_reducible exact H2_) | with_reducible exact H | (rw [hy188]; exact H) | exact H
 have Ny188 := Aside0.mk hy188
 clear hy188
 have H' := Aside0.mk H
 clear H
 go_enter Tryd.func80, Tryd.ntmps80
 go_wp2_with (first | ((with_reducible refine gate_dst (N := 11) rfl ?_); refine Kd.R_lit (Kd.int .i64) _ 3 ?hg (N := 11) ?hd (xs := ([a1] : List Int)) (inner := [.int .i64 a1]) (ok := fun _ => True) (okp := fun _ => True) ?hr ?hp (fun _ hk => hk) trivial (Below.refl _ _) (Nat.le_refl _) (by simp) ?_; (case hd => rfl); (case hg => rfl); (case hr => exact Z103); (case hp => exact (Reps.one (show Kd.M (Kd.int .i64) _ _ _ a1 [.int .i64 a1] from rfl) (Reps.none _ _))); intro v189 w3 ho4 hb hg_ hnew_; clear hg_ hnew_; (first | rw [← Ny188.out] at ho4 | (simp only [Int.reduceToNat] at ho4; rw [← Ny188.out] at ho4)); have n0_ := Aside0.mk (Kd.R_lower ho4 (below_size Z70)); have n1_ := Aside0.mk (below_step Z70 hb); clear HB; have HO190 := n0_; have HB := n1_; clear n0_ n1_; clear hb ho4))
 go_loopg [5, 14] k (fun kq v5 v14 w' => ∃ (x5_1 : List Int) (x14_1 : Int), v14 = .int .i64 x14_1 ∧ Aside0 (partner_changes.l0 kq a1 x5_1 l0 (l0.length : Int) x14_1 = some r) ∧ Aside0 (kq ≤ k) ∧ Aside0 (Kd.R (Kd.int .i64) 3 w' w.heap.size (fun _ => True) v5 x5_1) ∧ Aside0 (Below w.heap.size w w'))
 case atStart => exact ⟨(y188), (0), Z98, H', ⟨Nat.le_refl _⟩, ⟨by (with_reducible repeat (first | apply Kd.R_alloc | apply Kd.R_drewN | apply Kd.R_drew)); exact HO190.out⟩, ⟨Z70⟩⟩
 case round =>
  clear H'
  try clear p2
  obtain ⟨x5_1, x14_1, rfl, HA, HK1, HO_5, HB⟩ := hrel
  cases gk with
  | zero => exact absurd HA.out (by simp [partner_changes.l0])
  | succ k1 =>
   have H := HA.out
   clear HA
   simp only [partner_changes.l0] at H
   by_cases c5 : x14_1 < (l0.length : Int)
   ·rw [if_pos c5] at H
    have c5b0 : decide (x14_1 < (l0.length : Int)) = true := decide_eq_true c5
    clear c5
    by_cases c6 : 0 ≤ x14_1
    ·rw [if_pos c6] at H
     have c6b0 : decide (0 ≤ x14_1) = true := decide_eq_true c6
     clear c6
     by_cases c7 : x14_1 < (l0.length : Int)
     ·rw [if_pos c7] at H
      have c7b0 : decide (x14_1 < (l0.length : Int)) = true := decide_eq_true c7
      clear c7
      obtain ⟨y197, hy197⟩ : ∃ y_ : List Int, y_ = (([(rd_T23 l0 x14_1).f4, wrap64 (((rd_T23 l0 x14_1).f5) + 1)] : List Int)) := ⟨_, rfl⟩
      replace H : (partner_changes.l1 k1 a1 x5_1 l0 (l0.length : Int) x14_1 y197 (y197.length : Int) 0) = some r := by first | (rw [hy197]; with_reducible exact H) | (have H2_ := (Option.bind_some _ _).symm.trans H; rw [hy197]; with_reducible exact H2_) | (have H2_ := (Option.bind_some _ _).symm.trans H; with_reducible exact H2_) | with_reducible exact H | (rw [hy197]; exact H) | exact H
      have Ny197 := Aside0.mk hy197
      clear hy197
      have H' := Aside0.mk H
      clear H
      have p195 : 0 ≤ (x14_1 : Int) := of_decide_eq_true Z101
      have q195 : x14_1 < (l0.length : Int) := of_decide_eq_true Z101
      obtain ⟨ad195, e195, hx195_0, hx195_1, hx195_2, hx195_3, hx195_4, hx195_5, hx195_6, hx195_7, hx195_8⟩ := at_T23 HR0.out x14_1 p195 q195
      cases e195
      replace hx195_0 := (HB.out.cell (World.block_lt_of_cell? w _ hx195_0)).trans hx195_0
      replace hx195_1 := (HB.out.cell (World.block_lt_of_cell? w _ hx195_1)).trans hx195_1
      replace hx195_2 := (HB.out.cell (World.block_lt_of_cell? w _ hx195_2)).trans hx195_2
      replace hx195_3 := (HB.out.cell (World.block_lt_of_cell? w _ hx195_3)).trans hx195_3
      replace hx195_4 := (HB.out.cell (World.block_lt_of_cell? w _ hx195_4)).trans hx195_4
      replace hx195_5 := (HB.out.cell (World.block_lt_of_cell? w _ hx195_5)).trans hx195_5
      replace hx195_6 := (HB.out.cell (World.block_lt_of_cell? w _ hx195_6)).trans hx195_6
      replace hx195_7 := (HB.out.cell (World.block_lt_of_cell? w _ hx195_7)).trans hx195_7
      replace hx195_8 := (HB.out.cell (World.block_lt_of_cell? w _ hx195_8)).trans hx195_8
      replace p195 := eq_true p195
      replace q195 := eq_true q195
      go_wp2_with (first | ((with_reducible refine gate_dst (N := 7) rfl ?_); refine box_event ?hg (N := 7) ?hd (cs := #[.string (⟨#[]⟩ : ByteArray), .string (⟨#[]⟩ : ByteArray), .string (⟨#[]⟩ : ByteArray), .string (⟨#[]⟩ : ByteArray), .int .i64 0, .int .i64 0, .bool false, .int .i64 0, .bool false]) (t := 23) ?hr ?_; (case hd => rfl); (case hg => rfl); (case hr => exact Z103); intro gb196 hg w8 hbox hb; have n0_ := Aside0.mk (Kd.R_below Z96 hb); have n1_ := Aside0.mk (below_step Z70 hb); have n2_ := Aside0.mk (hbox); have n3_ := Aside0.mk ((Z49 : w.heap.size ≤ gb196)); have n4_ := Aside0.mk ((Z49 : w.heap.size ≤ gb196)); clear HO_5; clear HB; have HO_5 := n0_; have HB := n1_; have BK196 := n2_; have GW196 := n3_; have GE196 := n4_; clear n0_ n1_ n2_ n3_ n4_; clear hb hbox hg; obtain ⟨hcz9_0, hcz9_1, hcz9_2, hcz9_3, hcz9_4, hcz9_5, hcz9_6, hcz9_7, hcz9_8, hfz9_0, hfz9_1, hfz9_2, hfz9_3, hfz9_4, hfz9_5, hfz9_6, hfz9_7, hfz9_8⟩ := bf9 BK196.out) | ((with_reducible refine gate_dst (N := 23) rfl ?_); refine Kd.R_lit (Kd.int .i64) _ 3 ?hg (N := 23) ?hd (xs := ([(rd_T23 l0 x14_1).f4, wrap64 (((rd_T23 l0 x14_1).f5) + 1)] : List Int)) (inner := [.int .i64 ((rd_T23 l0 x14_1).f4), .int .i64 (wrap64 (((rd_T23 l0 x14_1).f5) + 1))]) (ok := fun _ => True) (okp := fun _ => True) ?hr ?hp (fun _ hk => hk) trivial (Below.refl _ _) (Nat.le_refl _) (by simp) ?_; (case hd => rfl); (case hg => rfl); (case hr => exact Z103); (case hp => exact (Reps.one (show Kd.M (Kd.int .i64) _ _ _ ((rd_T23 l0 x14_1).f4) [.int .i64 ((rd_T23 l0 x14_1).f4)] from rfl) (Reps.one (show Kd.M (Kd.int .i64) _ _ _ (wrap64 (((rd_T23 l0 x14_1).f5) + 1)) [.int .i64 (wrap64 (((rd_T23 l0 x14_1).f5) + 1))] from rfl) (Reps.none _ _)))); intro v198 w10 ho11 hb hg_ hnew_; clear hg_ hnew_; (first | rw [← Ny197.out] at ho11 | (simp only [Int.reduceToNat] at ho11; rw [← Ny197.out] at ho11)); have n0_ := Aside0.mk (Kd.R_elder' Z7 (Kd.R_base ho11) hb); have n1_ := Aside0.mk (Kd.R_lower (Kd.R_new' ho11 (Kd.R_lt Z7)) (below_size Z63)); have n2_ := Aside0.mk (blk_below (g := gb196) (o := .cells #[.string ((rd_T23 l0 x14_1).f0), .string ((rd_T23 l0 x14_1).f1), .string ((rd_T23 l0 x14_1).f2), .string ((rd_T23 l0 x14_1).f3), .int .i64 ((rd_T23 l0 x14_1).f4), .int .i64 ((rd_T23 l0 x14_1).f5), .bool ((rd_T23 l0 x14_1).f6), .int .i64 ((rd_T23 l0 x14_1).f7), .bool ((rd_T23 l0 x14_1).f8)] 23 (0, 0)) (by (with_reducible repeat (first | refine blk_drewN ?_ _ | refine blk_drew ?_ | refine blk_alloc ?_ _)); refine blk_put (cs := #[.string ((rd_T23 l0 x14_1).f0), .string ((rd_T23 l0 x14_1).f1), .string ((rd_T23 l0 x14_1).f2), .string ((rd_T23 l0 x14_1).f3), .int .i64 ((rd_T23 l0 x14_1).f4), .int .i64 ((rd_T23 l0 x14_1).f5), .bool ((rd_T23 l0 x14_1).f6), .int .i64 ((rd_T23 l0 x14_1).f7), .bool false]) ?_ 8 _ rfl; (with_reducible repeat (first | refine blk_drewN ?_ _ | refine blk_drew ?_ | refine blk_alloc ?_ _)); refine blk_put (cs := #[.string ((rd_T23 l0 x14_1).f0), .string ((rd_T23 l0 x14_1).f1), .string ((rd_T23 l0 x14_1).f2), .string ((rd_T23 l0 x14_1).f3), .int .i64 ((rd_T23 l0 x14_1).f4), .int .i64 ((rd_T23 l0 x14_1).f5), .bool ((rd_T23 l0 x14_1).f6), .int .i64 0, .bool false]) ?_ 7 _ rfl; (with_reducible repeat (first | refine blk_drewN ?_ _ | refine blk_drew ?_ | refine blk_alloc ?_ _)); refine blk_put (cs := #[.string ((rd_T23 l0 x14_1).f0), .string ((rd_T23 l0 x14_1).f1), .string ((rd_T23 l0 x14_1).f2), .string ((rd_T23 l0 x14_1).f3), .int .i64 ((rd_T23 l0 x14_1).f4), .int .i64 ((rd_T23 l0 x14_1).f5), .bool false, .int .i64 0, .bool false]) ?_ 6 _ rfl; (with_reducible repeat (first | refine blk_drewN ?_ _ | refine blk_drew ?_ | refine blk_alloc ?_ _)); refine blk_put (cs := #[.string ((rd_T23 l0 x14_1).f0), .string ((rd_T23 l0 x14_1).f1), .string ((rd_T23 l0 x14_1).f2), .string ((rd_T23 l0 x14_1).f3), .int .i64 ((rd_T23 l0 x14_1).f4), .int .i64 0, .bool false, .int .i64 0, .bool false]) ?_ 5 _ rfl; (with_reducible repeat (first | refine blk_drewN ?_ _ | refine blk_drew ?_ | refine blk_alloc ?_ _)); refine blk_put (cs := #[.string ((rd_T23 l0 x14_1).f0), .string ((rd_T23 l0 x14_1).f1), .string ((rd_T23 l0 x14_1).f2), .string ((rd_T23 l0 x14_1).f3), .int .i64 0, .int .i64 0, .bool false, .int .i64 0, .bool false]) ?_ 4 _ rfl; (with_reducible repeat (first | refine blk_drewN ?_ _ | refine blk_drew ?_ | refine blk_alloc ?_ _)); refine blk_put (cs := #[.string ((rd_T23 l0 x14_1).f0), .string ((rd_T23 l0 x14_1).f1), .string ((rd_T23 l0 x14_1).f2), .string (⟨#[]⟩ : ByteArray), .int .i64 0, .int .i64 0, .bool false, .int .i64 0, .bool false]) ?_ 3 _ rfl; (with_reducible repeat (first | refine blk_drewN ?_ _ | refine blk_drew ?_ | refine blk_alloc ?_ _)); refine blk_put (cs := #[.string ((rd_T23 l0 x14_1).f0), .string ((rd_T23 l0 x14_1).f1), .string (⟨#[]⟩ : ByteArray), .string (⟨#[]⟩ : ByteArray), .int .i64 0, .int .i64 0, .bool false, .int .i64 0, .bool false]) ?_ 2 _ rfl; (with_reducible repeat (first | refine blk_drewN ?_ _ | refine blk_drew ?_ | refine blk_alloc ?_ _)); refine blk_put (cs := #[.string ((rd_T23 l0 x14_1).f0), .string (⟨#[]⟩ : ByteArray), .string (⟨#[]⟩ : ByteArray), .string (⟨#[]⟩ : ByteArray), .int .i64 0, .int .i64 0, .bool false, .int .i64 0, .bool false]) ?_ 1 _ rfl; (with_reducible repeat (first | refine blk_drewN ?_ _ | refine blk_drew ?_ | refine blk_alloc ?_ _)); refine blk_put (cs := #[.string (⟨#[]⟩ : ByteArray), .string (⟨#[]⟩ : ByteArray), .string (⟨#[]⟩ : ByteArray), .string (⟨#[]⟩ : ByteArray), .int .i64 0, .int .i64 0, .bool false, .int .i64 0, .bool false]) ?_ 0 _ rfl; (with_reducible repeat (first | refine blk_drewN ?_ _ | refine blk_drew ?_ | refine blk_alloc ?_ _)); exact BK196.out) hb); have n3_ := Aside0.mk (below_step Z63 hb); clear HO_5; clear BK196; clear HB; have HO_5 := n0_; have HO199 := n1_; have BK196 := n2_; have HB := n3_; clear n0_ n1_ n2_ n3_; clear hb ho11; obtain ⟨Ao12, co12, eo12⟩ := Kd.R_slice HO199.out; subst eo12))
      go_loopg [5, 25] k1 (fun kq v5 v25 w' => ∃ (x5_2 : List Int) (x25_2 : Int), v25 = .int .i64 x25_2 ∧ Aside0 (partner_changes.l1 kq a1 x5_2 l0 (l0.length : Int) x14_1 y197 (y197.length : Int) x25_2 = some r) ∧ Aside0 (kq ≤ k1) ∧ Aside0 (Kd.R (Kd.int .i64) 3 w' w.heap.size (fun k_ => some k_ ≠ ((.slice Ao12 y197.length co12) : Value).ownBlock) v5 x5_2) ∧ Aside0 (Kd.R (Kd.int .i64) 3 w' w.heap.size (fun k_ => some k_ ≠ (v5 : Value).ownBlock) (.slice Ao12 y197.length co12) y197) ∧ Aside0 (w'.heap[gb196]? = some (.cells #[.string ((rd_T23 l0 x14_1).f0), .string ((rd_T23 l0 x14_1).f1), .string ((rd_T23 l0 x14_1).f2), .string ((rd_T23 l0 x14_1).f3), .int .i64 ((rd_T23 l0 x14_1).f4), .int .i64 ((rd_T23 l0 x14_1).f5), .bool ((rd_T23 l0 x14_1).f6), .int .i64 ((rd_T23 l0 x14_1).f7), .bool ((rd_T23 l0 x14_1).f8)] 23 (0, 0))) ∧ Aside0 (Below w.heap.size w w'))
      case atStart => exact ⟨(x5_1), (0), Z98, H', ⟨Nat.le_refl _⟩, ⟨by (with_reducible repeat (first | apply Kd.R_alloc | apply Kd.R_drewN | apply Kd.R_drew)); exact Kd.R_mono HO_5.out (fun _ hk => hk.2)⟩, ⟨by (with_reducible repeat (first | apply Kd.R_alloc | apply Kd.R_drewN | apply Kd.R_drew)); exact Kd.R_mono HO199.out (fun _ hk => hk.2)⟩, ⟨Z87⟩, ⟨Z63⟩⟩
      case round =>
       clear H'
       try clear p1
       try clear q1
       try clear hx1
       try clear p2
       try clear c5
       try clear c5b0
       try clear c6
       try clear c6b0
       try clear p6
       try clear c7
       try clear c7b0
       try clear c8
       try clear hcz9_0
       try clear hcz9_1
       try clear hcz9_2
       try clear hcz9_3
       try clear hcz9_4
       try clear hcz9_5
       try clear hcz9_6
       try clear hcz9_7
       try clear hcz9_8
       try clear hfz9_0
       try clear hfz9_1
       try clear hfz9_2
       try clear hfz9_3
       try clear hfz9_4
       try clear hfz9_5
       try clear hfz9_6
       try clear hfz9_7
       try clear hfz9_8
       try clear hx195_0
       try clear hx195_1
       try clear hx195_2
       try clear hx195_3
       try clear hx195_4
       try clear hx195_5
       try clear hx195_6
       try clear hx195_7
       try clear hx195_8
       try clear p195
       try clear p2
       try clear q195
       obtain ⟨x5_2, x25_2, rfl, HA, HK2, HO_5, HO_23, BK196, HB⟩ := hrel
       cases gk with
       | zero => exact absurd HA.out (by simp [partner_changes.l1])
       | succ k2 =>
        have H := HA.out
        clear HA
        simp only [partner_changes.l1] at H
        by_cases c13 : x25_2 < (y197.length : Int)
        ·rw [if_pos c13] at H
         have c13b0 : decide (x25_2 < (y197.length : Int)) = true := decide_eq_true c13
         clear c13
         by_cases c14 : 0 ≤ x25_2
         ·rw [if_pos c14] at H
          have c14b0 : decide (0 ≤ x25_2) = true := decide_eq_true c14
          clear c14
          by_cases c15 : x25_2 < (y197.length : Int)
          ·rw [if_pos c15] at H
           have c15b0 : decide (x25_2 < (y197.length : Int)) = true := decide_eq_true c15
           clear c15
           by_cases c16 : (rd y197 x25_2) > a1
           ·rw [if_pos c16] at H
            have c16b0 : decide (a1 < (rd y197 x25_2)) = true := decide_eq_true c16
            clear c16
            by_cases c17 : (rd y197 x25_2) ≤ 3652059
            ·rw [if_pos c17] at H
             have c17b0 : decide ((rd y197 x25_2) ≤ 3652059) = true := decide_eq_true c17
             clear c17
             by_cases c18 : x5_2.length < 17592186044416
             ·rw [if_pos c18] at H
              have LMc18 := Aside0.mk c18
              clear c18
              obtain ⟨y201, hy201⟩ : ∃ y_ : List Int, y_ = (x5_2 ++ [rd y197 x25_2]) := ⟨_, rfl⟩
              replace H : (partner_changes.l1 k2 a1 y201 l0 (l0.length : Int) x14_1 y197 (y197.length : Int) (wrap64 (x25_2 + 1))) = some r := by first | (rw [hy201]; with_reducible exact H) | (have H2_ := (Option.bind_some _ _).symm.trans H; rw [hy201]; with_reducible exact H2_) | (have H2_ := (Option.bind_some _ _).symm.trans H; with_reducible exact H2_) | with_reducible exact H | (rw [hy201]; exact H) | exact H
              have Ny201 := Aside0.mk hy201
              clear hy201
              have H' := Aside0.mk H
              clear H
              have p200 : 0 ≤ (x25_2 : Int) := of_decide_eq_true Z101
              have q200 : x25_2 < (y197.length : Int) := of_decide_eq_true Z101
              obtain ⟨ad200, e200, hx200_0⟩ := Kd.at_int (Kd.R_reads' HO_23.out).2.2 x25_2 p200 q200
              cases e200
              replace p200 := eq_true p200
              replace q200 := eq_true q200
              go_wp2_with (first | ((with_reducible refine gate_builtin (b := .append) (xs := #[.tmp 36, .tmp 38]) rfl ?_); at_builtin; refine Kd.R_append (Kd.int .i64) (w0 := w) w.heap.size rfl (.tmp 36) (.tmp 38) 51 3 (.int .i64 0) 8 rfl Tryd.underlying51 info3 rfl (by decide) (by omega) u5 x5_2 (rd y197 x25_2) [.int .i64 (rd y197 x25_2)] (fun k_ => some k_ ≠ (.slice (some ad200) y197.length co12 : Value).ownBlock) (fun _ => False) rfl rfl ?aP (fun _ hk => hk.elim) ?aF ?aO ?aB ?aS ?aL ?_; (case aP => exact rfl); (case aB => exact Z63); (case aF => exact (fun k_ hk => Kd.fresh' (Kd.R_lt (by (with_reducible repeat (first | apply Kd.R_alloc | apply Kd.R_drewN | apply Kd.R_drew)); exact HO_23.out)) k_ hk)); (case aO => exact Z96); (case aS => exact (below_size Z63)); (case aL => have := LMc18.out; omega); intro v202 w19 ho hb hg hat; rw [← Ny201.out] at ho; have n0_ := Aside0.mk (Kd.R_after (ok := (fun _ => True)) (by (with_reducible repeat (first | apply Kd.R_alloc | apply Kd.R_drewN | apply Kd.R_drew)); exact Kd.R_mono HO_23.out (fun _ hk => ⟨trivial, hk⟩)) hg hat); have n1_ := Aside0.mk (blk_grown (g := gb196) (o := .cells #[.string ((rd_T23 l0 x14_1).f0), .string ((rd_T23 l0 x14_1).f1), .string ((rd_T23 l0 x14_1).f2), .string ((rd_T23 l0 x14_1).f3), .int .i64 ((rd_T23 l0 x14_1).f4), .int .i64 ((rd_T23 l0 x14_1).f5), .bool ((rd_T23 l0 x14_1).f6), .int .i64 ((rd_T23 l0 x14_1).f7), .bool ((rd_T23 l0 x14_1).f8)] 23 (0, 0)) Z87 hg (Kd.R_ne HO_5.out BK196.out (by decide))); have n2_ := Aside0.mk (hb); have n3_ := Aside0.mk (ho); clear HO_23; clear BK196; clear HB; clear HO_5; have HO_23 := n0_; have BK196 := n1_; have HB := n2_; have HO203 := n3_; clear n0_ n1_ n2_ n3_; clear ho hb hg hat))
              go_roundg k2
              case measure => have := HK1.out; have := HK2.out; omega
              case rel => exact ⟨(y201), (wrap64 (x25_2 + 1)), Z98, H', ⟨by have := HK1.out; have := HK2.out; omega⟩, ⟨by (with_reducible repeat (first | apply Kd.R_alloc | apply Kd.R_drewN | apply Kd.R_drew)); exact HO203.out⟩, ⟨by (with_reducible repeat (first | apply Kd.R_alloc | apply Kd.R_drewN | apply Kd.R_drew)); exact Kd.R_mono HO_23.out (fun _ hk => hk.2)⟩, ⟨Z87⟩, ⟨Z63⟩⟩
             ·rw [if_neg c18] at H
              exact absurd H (by simp)
            ·rw [if_neg c17] at H
             have c17b0 : decide ((rd y197 x25_2) ≤ 3652059) = false := decide_eq_false c17
             clear c17
             have H' := Aside0.mk H
             clear H
             have p200 : 0 ≤ (x25_2 : Int) := of_decide_eq_true Z101
             have q200 : x25_2 < (y197.length : Int) := of_decide_eq_true Z101
             obtain ⟨ad200, e200, hx200_0⟩ := Kd.at_int (Kd.R_reads' HO_23.out).2.2 x25_2 p200 q200
             cases e200
             replace p200 := eq_true p200
             replace q200 := eq_true q200
             go_wp2
             go_roundg k2
             case measure => have := HK1.out; have := HK2.out; omega
             case rel => exact ⟨(x5_2), (wrap64 (x25_2 + 1)), Z98, H', ⟨by have := HK1.out; have := HK2.out; omega⟩, ⟨Z96⟩, ⟨by (with_reducible repeat (first | apply Kd.R_alloc | apply Kd.R_drewN | apply Kd.R_drew)); exact HO_23.out⟩, ⟨Z87⟩, ⟨Z63⟩⟩
           ·rw [if_neg c16] at H
            have c16b0 : decide (a1 < (rd y197 x25_2)) = false := decide_eq_false c16
            clear c16
            have H' := Aside0.mk H
            clear H
            have p200 : 0 ≤ (x25_2 : Int) := of_decide_eq_true Z101
            have q200 : x25_2 < (y197.length : Int) := of_decide_eq_true Z101
            obtain ⟨ad200, e200, hx200_0⟩ := Kd.at_int (Kd.R_reads' HO_23.out).2.2 x25_2 p200 q200
            cases e200
            replace p200 := eq_true p200
            replace q200 := eq_true q200
            go_wp2
            go_roundg k2
            case measure => have := HK1.out; have := HK2.out; omega
            case rel => exact ⟨(x5_2), (wrap64 (x25_2 + 1)), Z98, H', ⟨by have := HK1.out; have := HK2.out; omega⟩, ⟨Z96⟩, ⟨by (with_reducible repeat (first | apply Kd.R_alloc | apply Kd.R_drewN | apply Kd.R_drew)); exact HO_23.out⟩, ⟨Z87⟩, ⟨Z63⟩⟩
          ·rw [if_neg c15] at H
           exact absurd H (by simp)
         ·rw [if_neg c14] at H
          exact absurd H (by simp)
        ·rw [if_neg c13] at H
         have c13b0 : decide (x25_2 < (y197.length : Int)) = false := decide_eq_false c13
         clear c13
         have H' := Aside0.mk H
         clear H
         go_wp2
         go_roundg k2
         case measure => have := HK1.out; have := HK2.out; omega
         case rel => exact ⟨(x5_2), (wrap64 (x14_1 + 1)), Z98, H', ⟨by have := HK1.out; have := HK2.out; omega⟩, ⟨by (with_reducible repeat (first | apply Kd.R_alloc | apply Kd.R_drewN | apply Kd.R_drew)); exact Kd.R_mono HO_5.out (fun _ hk => trivial)⟩, ⟨Z63⟩⟩
     ·rw [if_neg c7] at H
      exact absurd H (by simp)
    ·rw [if_neg c6] at H
     exact absurd H (by simp)
   ·rw [if_neg c5] at H
    have c5b0 : decide (x14_1 < (l0.length : Int)) = false := decide_eq_false c5
    clear c5
    replace H := Option.bind_eq_some_iff.mp H
    obtain ⟨t191, A200, H⟩ := H
    replace H : ((slices_Compact_int_int.f t191).bind fun t192 => (some t192)) = some r := H
    have A20 := Aside0.mk A200
    clear A200
    replace H := Option.bind_eq_some_iff.mp H
    obtain ⟨t192, A210, H⟩ := H
    replace H : (some t192) = some r := H
    have A21 := Aside0.mk A210
    clear A210
    obtain rfl := Option.some.inj H
    obtain ⟨Ao22, co22, eo22⟩ := Kd.R_slice HO_5.out
    subst eo22
    go_wp2_with (first | ((with_reducible refine gate_callee (f := 109) rfl ?_); refine goesL_ (some 43) rfl rfl Tryd.func109 (by kernel_rfl) rfl #[.slice Ao22 x5_1.length co22] rfl Z45 ?_; (with_reducible refine (slices_Sort_int_int.calls (fun k_ => some k_ = (.slice Ao22 x5_1.length co22 : Value).ownBlock) (.slice Ao22 x5_1.length co22) x5_1 t191 w _ ?side1 ?side2 A20.out).mono ?_); (case side1 => exact Z70); (case side2 => exact Kd.R_tight rfl HO_5.out); rintro e w23 ⟨rfl, hy0, hb, hkp⟩; refine ⟨_, rfl, ?_⟩; have n0_ := Aside0.mk (Kd.R_reok rfl hy0 (fun k_ e_ => HO_5.out.1 k_ e_)); have n1_ := Aside0.mk (hb); clear HO_5; clear HB; have HO_5 := n0_; have HB := n1_; clear n0_ n1_; (try clear hb); (try clear hkp); (try clear hy0)) | ((with_reducible refine gate_callee (f := 110) rfl ?_); refine goesL_ (some 45) rfl rfl Tryd.func110 (by kernel_rfl) rfl #[.slice Ao22 x5_1.length co22] rfl Z45 ?_; (with_reducible refine (slices_Compact_int_int.calls (fun k_ => some k_ = (.slice Ao22 x5_1.length co22 : Value).ownBlock) (.slice Ao22 x5_1.length co22) t191 t192 w _ ?side1 ?side2 A21.out).mono ?_); (case side1 => exact Z70); (case side2 => exact Kd.R_tight rfl HO_5.out); rintro e w24 ⟨v193, rfl, ho0, hb, hkp⟩; refine ⟨_, rfl, ?_⟩; have n0_ := Aside0.mk (Kd.R_mono (ok' := fun k_ => True) ho0 (fun k_ hk_ => trivial)); have n1_ := Aside0.mk (hb); clear HB; clear HO_5; have HO194 := n0_; have HB := n1_; clear n0_ n1_; (try clear hb); (try clear hkp); (try clear ho0)))
    go_ret
    exact ⟨_, Z66, by (with_reducible repeat (first | apply Kd.R_alloc | apply Kd.R_drewN | apply Kd.R_drew)); exact HO194.out, Z70⟩

/-! ### partner_withOwn: function 113 -/
def partner_withOwn.f (a0 : ByteArray) (a1 : ByteArray) : Option (ByteArray) := if a0.toList = ([] : List UInt8) then (some a1) else (some a0)
set_option maxHeartbeats 8000000 in
set_option maxRecDepth 100000 in
theorem partner_withOwn.calls (a0 : ByteArray) (a1 : ByteArray) (r : ByteArray) (w : World) (h : partner_withOwn.f a0 a1 = some r) :
  Calls Tryd.prog 113 #[.string a0, .string a1] w fun e w' => e = .returned (.string r) ∧ Drawn0 w w' := by
 have H : (if a0.toList = ([] : List UInt8) then (some a1) else (some a0)) = some r := h
 clear h
 by_cases c3 : a0.toList = ([] : List UInt8)
 ·rw [if_pos c3] at H
  have c3b0 : (a0.toList == ([] : List UInt8)) = true := beq_iff_eq.mpr c3
  have c3b1 : (a0.toList != ([] : List UInt8)) = false := bne_eq_false_iff_eq.mpr c3
  clear c3
  obtain rfl := Option.some.inj H
  go_enter Tryd.func113, Tryd.ntmps113
  go_wp2
  go_ret
  exact ⟨Z102, Z99⟩
 ·rw [if_neg c3] at H
  have c3b0 : (a0.toList == ([] : List UInt8)) = false := beq_eq_false_iff_ne.mpr c3
  have c3b1 : (a0.toList != ([] : List UInt8)) = true := bne_iff_ne.mpr c3
  obtain rfl := Option.some.inj H
  go_enter Tryd.func113, Tryd.ntmps113
  go_wp2
  go_ret
  exact ⟨Z102, Z99⟩

end Go.Proofs.YtdlgohhecicnoaaDoor.XPartnerNeverIsNever
