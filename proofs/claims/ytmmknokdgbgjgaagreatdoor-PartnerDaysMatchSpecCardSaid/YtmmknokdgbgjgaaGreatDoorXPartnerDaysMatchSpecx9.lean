-- Walks of PartnerDaysMatchSpec: written by xprint.py out of the translation (hand-proved functions among them). Lean checks it.
import Derived.Test.YtmmknokdgbgjgaaGreatDoorXPartnerDaysMatchSpecx0
import Derived.Test.YtmmknokdgbgjgaaGreatDoorXPartnerDaysMatchSpecx2
import Derived.Test.YtmmknokdgbgjgaaGreatDoorXPartnerDaysMatchSpecx6
import Derived.Test.YtmmknokdgbgjgaaGreatDoorXPartnerDaysMatchSpecx8
namespace Go.Proofs.YtmmknokdgbgjgaaGreatDoor.XPartnerDaysMatchSpec
open Go.RowKit Go.Proofs.YtmmknokdgbgjgaaGreatDoorW.PrintWords Go.Proofs.YtmmknokdgbgjgaaGreatDoorW.PrintLast Go.Proofs.YtmmknokdgbgjgaaGreatDoorW.PrintMore
attribute [local go_sem] max2_int min2_int max_two min_two max_three min_three max_four min_four   -- for this text's walks alone
set_option linter.unusedVariables false
set_option linter.unusedSimpArgs false

/-! ### slices_Sort_int_int: function 52 -/
section
open Go.Sort
theorem R_ints {e : Nat} {w : World} {base : Nat} {ok : Nat → Prop} {v : Value} {xs : List Int} : Kd.R (Kd.int .i64) e w base ok v xs ↔ (∀ k, v.ownBlock = some k → ok k) ∧ w.ownsRow base e 1 v xs.length (xs.map (Value.int .i64)) := by
 constructor
 ·rintro ⟨h0, inner, ho, hr⟩
  refine ⟨h0, ?_⟩
  have hi : inner = xs.map (Value.int .i64) := by
   have hl : inner.length = xs.length := by rw [hr.1]; exact Nat.mul_one _
   refine List.ext_getElem? fun j => ?_
   by_cases hj : j < xs.length
   case neg =>
    rw [List.getElem?_eq_none (by omega), List.getElem?_eq_none (by simp; omega)]
   have := hr.2 j xs[j] (List.getElem?_eq_getElem hj)
   have e1 : (inner.drop (j * 1)).take 1 = [inner[j]'(by omega)] := by rw [Nat.mul_one, List.drop_eq_getElem_cons (by omega)]; rfl
   have e2 : (inner.drop (j * 1)).take 1 = [Value.int .i64 xs[j]] := this
   rw [e1] at e2
   rw [List.getElem?_eq_getElem (by omega), List.getElem?_map, List.getElem?_eq_getElem hj]
   simpa using e2
  rw [← hi]
  exact ho
 ·rintro ⟨h0, ho⟩
  refine ⟨h0, _, ho, by simp [Kd.int, Kd.scalar], fun j p hj => ?_⟩
  show (((xs.map (Value.int .i64)).drop (j * 1)).take 1) = [Value.int .i64 p]
  have hj' : j < xs.length := (List.getElem?_eq_some_iff.1 hj).1
  have hp : xs[j] = p := (List.getElem?_eq_some_iff.1 hj).2
  rw [Nat.mul_one, List.drop_eq_getElem_cons (by simpa using hj')]
  simp [hp]
theorem holds_ints {w : World} {g : Nat} {cur : Array Value} {e : TypeId} {ss : List Int} (hb : w.heap[g]? = some (.cells cur e (0, 0))) (ht : cur.toList.take ss.length = ss.map (Value.int .i64)) : Holds (Value.int .i64) w g 0 ss.toArray := by
 intro j hj
 have hj' : j < ss.length := by simpa using hj
 refine ⟨?_, by simp [World.frozen?, hb]⟩
 have h1 : (cur.toList.take ss.length)[j]? = (ss.map (Value.int .i64))[j]? := by rw [ht]
 rw [List.getElem?_take_of_lt hj'] at h1
 simp only [World.cell?, hb, Nat.zero_add]
 simp only [Option.isSome_none, Bool.false_eq_true, if_false]
 rw [← Array.getElem?_toList, h1]
 simp [hj']
theorem heap_put {w : World} {g n : Nat} {os : Array Obj} {cur : Array Value} {e : TypeId} {fr : Nat × Nat} (d : Array Int) (hb : w.heap[g]? = some (.cells cur e fr)) :
  (grow (putRow (Value.int .i64) (Sort.ahead w n) g 0 d) os).heap[g]? = some (.cells (putCells (Value.int .i64) 0 d cur) e fr) := by
 have hg : g < w.heap.size := (Array.getElem?_eq_some_iff.1 hb).1
 rw [heap_grow_old _ _ (by simpa using hg)]
 simp [putRow, mapBlock, Sort.ahead, Array.getElem?_modify, hb, onCells]
theorem grownBy_put {w : World} {g n : Nat} {os : Array Obj} (d : Array Int) : w.grownBy (grow (putRow (Value.int .i64) (Sort.ahead w n) g 0 d) os) (some g) := by
 refine ⟨rfl, rfl, rfl, by simp, fun k hk hne => ?_⟩
 rw [heap_grow_old _ _ (by simpa using hk)]
 have : g ≠ k := fun e => hne (by rw [e])
 simp [putRow, mapBlock, Sort.ahead, Array.getElem?_modify, this]
theorem take_put (cur : Array Value) (ts : List Int) (h : ts.length ≤ cur.size) : (putCells (Value.int .i64) 0 ts.toArray cur).toList.take ts.length = ts.map (Value.int .i64) := by
 apply List.ext_getElem?
 intro j
 by_cases hj : j < ts.length
 case neg =>
  rw [List.getElem?_take_eq_none (by omega), List.getElem?_eq_none (by simp; omega)]
 rw [List.getElem?_take_of_lt hj, Array.getElem?_toList]
 simp [putCells, hj, show j < cur.size by omega]
end

def slices_Sort_int_int.f (l0 : List Int) : Option (List Int) := if l0.length < 4611686018427387904 then some (l0.mergeSort fun x y => decide (x ≤ y)) else none
theorem slices_Sort_int_int.calls (P0_ : Nat → Prop) (u9000_ : Value) (l0 : List Int) (r : List Int) (w0 w : World) (hB : Below w0.heap.size w0 w) (ho0 : Kd.R (Kd.int .i64) 3 w w0.heap.size P0_ u9000_ l0) (h : slices_Sort_int_int.f l0 = some r) :
  Calls Tryz.prog 52 #[u9000_] w fun e w' => e = .returned (.tuple #[]) ∧ Kd.R (Kd.int .i64) 3 w' w0.heap.size (fun k_ => (P0_ k_ ∨ w.heap.size ≤ k_)) u9000_ r ∧ Below w0.heap.size w0 w' ∧ Kept w w' (fun k_ => P0_ k_) := by
 unfold slices_Sort_int_int.f at h
 split at h
 ·rename_i hlen
  obtain rfl := Option.some.inj h
  obtain ⟨hok, ho⟩ := R_ints.1 ho0
  rcases ho.2 with ⟨rfl, hn⟩ | ⟨g, cap, cur, rfl, hbase, hb, h1, h2, h3, h4⟩
  ·have hn' : l0 = [] := List.length_eq_zero_iff.1 hn
   subst hn'
   refine (Tryz.slices_Sort_int_none none 0 w).mono ?_
   rintro e w' ⟨rfl, rfl⟩
   exact ⟨rfl, R_ints.2 ⟨fun k hk => .inl (hok k hk), by simpa using ho⟩, hB, Kept.refl _ _⟩
  ·refine (Tryz.slices_Sort_int g 0 cap l0 w (holds_ints hb (by rw [Nat.mul_one] at h4; exact h4)) (Array.getElem?_eq_some_iff.1 hb).1 hlen).mono ?_
   rintro e w' ⟨rfl, n, os, rfl⟩
   have hl : (l0.mergeSort fun x y => decide (x ≤ y)).length = l0.length := by simp
   have hg := grownBy_put (w := w) (g := g) (n := n) (os := os) (l0.mergeSort fun x y => decide (x ≤ y)).toArray
   refine ⟨rfl, R_ints.2 ⟨fun k hk => .inl (hok k hk), ?_⟩, Below.grown hB hg hB.size (fun k hk => by cases hk; exact hbase), Kept.of_grown hg (Kept.refl _ _) (fun k hk => .inl (hok k (by simpa [Value.ownBlock] using hk)))⟩
   refine ⟨by simp, .inr ⟨g, cap, _, by rw [hl], hbase, heap_put _ hb, by omega, h2, by simp [Sort.putCells, h3], ?_⟩⟩
   rw [Nat.mul_one]
   exact take_put cur _ (by omega)
 ·cases h

/-! ### slices_Compact_int_int: function 53 -/
def slices_Compact_int_int.f (l0 : List Int) : Option (List Int) := if l0.length ≤ 9223372036854775807 then some (Lib.compact l0) else none
theorem slices_Compact_int_int.calls (P0_ : Nat → Prop) (u9000_ : Value) (l0 : List Int) (r : List Int) (w0 w : World) (hB : Below w0.heap.size w0 w) (ho0 : Kd.R (Kd.int .i64) 3 w w0.heap.size P0_ u9000_ l0) (h : slices_Compact_int_int.f l0 = some r) :
  Calls Tryz.prog 53 #[u9000_] w fun e w' => ∃ v0_ : Value, e = .returned (v0_) ∧ Kd.R (Kd.int .i64) 3 w' w0.heap.size (fun k_ => (P0_ k_ ∨ w.heap.size ≤ k_)) v0_ r ∧ Below w0.heap.size w0 w' ∧ Kept w w' (fun k_ => P0_ k_) := by
 unfold slices_Compact_int_int.f at h
 split at h
 ·rename_i hlen
  obtain rfl := Option.some.inj h
  obtain ⟨hok, ho⟩ := R_ints.1 ho0
  rcases ho.2 with ⟨rfl, hn⟩ | ⟨g, cap, cur, rfl, hbase, hb, h1, h2, h3, h4⟩
  ·have hn' : l0 = [] := List.length_eq_zero_iff.1 hn
   subst hn'
   refine (Tryz.slices_Compact_int_empty none 0 w).mono ?_
   rintro e w' ⟨rfl, rfl⟩
   exact ⟨_, rfl, R_ints.2 ⟨fun k hk => .inl (hok k hk), by rw [show Lib.compact ([] : List Int) = [] from rfl]; simpa using ho⟩, hB, Kept.refl _ _⟩
  ·refine (Tryz.slices_Compact_int g 0 cap l0 w (holds_ints hb (by rw [Nat.mul_one] at h4; exact h4)) hlen h1).mono ?_
   rintro e w' ⟨rfl, n, rfl⟩
   have hle : (Lib.compact l0).length ≤ l0.length := Lib.compact_length_le l0
   have hg := grownBy_put (w := w) (g := g) (n := n) (os := #[]) (Lib.compact l0 ++ List.replicate (l0.length - (Lib.compact l0).length) 0).toArray
   rw [Sort.grow_empty] at hg
   have hh := heap_put (n := n) (os := #[]) (Lib.compact l0 ++ List.replicate (l0.length - (Lib.compact l0).length) 0).toArray hb
   rw [Sort.grow_empty] at hh
   refine ⟨_, rfl, R_ints.2 ⟨fun k hk => .inl (hok k hk), ?_⟩, Below.grown hB hg hB.size (fun k hk => by cases hk; exact hbase), Kept.of_grown hg (Kept.refl _ _) (fun k hk => .inl (hok k (by simpa [Value.ownBlock] using hk)))⟩
   refine ⟨by simp, .inr ⟨g, cap, _, rfl, hbase, hh, by omega, h2, by simp [Sort.putCells, h3], ?_⟩⟩
   rw [Nat.mul_one]
   have ht := take_put cur (Lib.compact l0 ++ List.replicate (l0.length - (Lib.compact l0).length) 0) (by simp; omega)
   have := congrArg (List.take (Lib.compact l0).length) ht
   rw [List.take_take, Nat.min_eq_left (by simp)] at this
   rw [this]
   simp
 ·cases h

/-! ### r8turns: function 21 -/
def r8turns.l0 : Nat → List Int → List (S53) → Int → Int → Option (List Int)
 | 0, _, _, _, _ => none
 | k + 1, x3, x6, x7, x8 => if x8 < x7 then (if 0 ≤ x8 then (if x8 < (x6.length : Int) then ((some (([(qa x6 x8).f4, wrap64 (((qa x6 x8).f5) + 1)] : List Int) : List Int)).bind fun y173 => (if x3.length + y173.length < 17592186044416 then (r8turns.l0 k (x3 ++ y173) x6 x7 (wrap64 (x8 + 1))) else (none))) else (none)) else (none)) else ((slices_Sort_int_int.f x3).bind fun t179 => ((slices_Compact_int_int.f t179).bind fun t180 => (some t180)))
def r8turns.f (k : Nat) (l0 : List (S53)) : Option (List Int) := r8turns.l0 k ([] : List Int) l0 (l0.length : Int) 0
theorem r8turns.mono_l : ∀ k, (∀ y0 y1 y2 y3, qv (r8turns.l0 k y0 y1 y2 y3) (r8turns.l0 (k + 1) y0 y1 y2 y3))
 | 0 => fun _ _ _ _ r h => by simp [r8turns.l0] at h
 | k + 1 => by
  have ih0 := r8turns.mono_l k
  ·intro y0 y1 y2 y3
   unfold r8turns.l0
   repeat' first
   | (with_reducible apply ih0)
   | (with_reducible exact qv.refl _)
   | (with_reducible exact qv.none _)
   | (with_reducible refine qv.ite ?_ ?_)
   | (with_reducible refine qv.bind ?_ (fun _ => ?_))
   | apply ih0
   | exact qv.none _
   | refine qv.ite ?_ ?_
   | refine qv.bind ?_ (fun _ => ?_)
theorem r8turns.mono : ∀ a0 k, qv (r8turns.f k a0) (r8turns.f (k + 1) a0) := by
 intro a0 k
 have ih0 := r8turns.mono_l k
 unfold r8turns.f
 repeat' first
   | (with_reducible apply ih0)
   | (with_reducible exact qv.refl _)
   | (with_reducible exact qv.none _)
   | (with_reducible refine qv.ite ?_ ?_)
   | (with_reducible refine qv.bind ?_ (fun _ => ?_))
   | apply ih0
   | exact qv.none _
   | refine qv.ite ?_ ?_
   | refine qv.bind ?_ (fun _ => ?_)
set_option maxHeartbeats 8000000 in
set_option maxRecDepth 100000 in
theorem r8turns.calls (k : Nat) (A0 : Option Addr) (c0 : Nat) (l0 : List (S53)) (r : List Int) (w : World) (hr0 : Kd.C k53 w A0 l0.length l0) (hc0 : l0.length ≤ c0) (h : r8turns.f k l0 = some r) :
  Calls Tryz.prog 21 #[.slice A0 l0.length c0] w fun e w' => ∃ v0_ : Value, e = .returned (v0_) ∧ Kd.R (Kd.int .i64) 3 w' w.heap.size (fun _ => True) v0_ r ∧ Below w.heap.size w w' := by
 have hu53 := Tryz.underlying53
 have HR0 := qb.mk hr0
 have HC0 := qb.mk hc0
 clear hr0 hc0
 have HB := qb.mk (Below.refl w.heap.size w)
 have H : (r8turns.l0 k ([] : List Int) l0 (l0.length : Int) 0) = some r := h
 clear h
 have H' := qb.mk H
 clear H
 go_enter Tryz.func21, Tryz.ntmps21
 go_wp2
 go_loopg [3, 8] k (fun kq v3 v8 w' => ∃ (x3_1 : List Int) (x8_1 : Int), v8 = .int .i64 x8_1 ∧ qb (r8turns.l0 kq x3_1 l0 (l0.length : Int) x8_1 = some r) ∧ qb (kq ≤ k) ∧ qb (Kd.R (Kd.int .i64) 3 w' w.heap.size (fun _ => True) v3 x3_1) ∧ qb (Below w.heap.size w w'))
 case atStart => exact ⟨(([] : List Int)), (0), qD, H', ⟨Nat.le_refl _⟩, ⟨Z102⟩, ⟨qz⟩⟩
 case round =>
  clear H'
  obtain ⟨x3_1, x8_1, rfl, HA, HK1, HO_3, HB⟩ := hrel
  cases gk with
  | zero => exact absurd HA.out (by simp [r8turns.l0])
  | succ k1 =>
   have H := HA.out
   clear HA
   simp only [r8turns.l0] at H
   by_cases c2 : x8_1 < (l0.length : Int)
   case neg =>
    rw [if_neg c2] at H
    have c2b0 : decide (x8_1 < (l0.length : Int)) = false := decide_eq_false c2
    clear c2
    replace H := Option.bind_eq_some_iff.mp H
    obtain ⟨t179, A120, H⟩ := H
    replace H : ((slices_Compact_int_int.f t179).bind fun t180 => (some t180)) = some r := H
    have A12 := qb.mk A120
    clear A120
    replace H := Option.bind_eq_some_iff.mp H
    obtain ⟨t180, A130, H⟩ := H
    replace H : (some t180) = some r := H
    have A13 := qb.mk A130
    clear A130
    obtain rfl := Option.some.inj H
    obtain ⟨Ao14, co14, eo14⟩ := Kd.R_slice HO_3.out
    subst eo14
    go_wp2_with (first | ((with_reducible refine qg (f := 52) rfl ?_); refine goesL_ (some 22) rfl rfl Tryz.func52 (by kernel_rfl) rfl #[.slice Ao14 x3_1.length co14] rfl Z61 ?_; (with_reducible refine (slices_Sort_int_int.calls (fun k_ => some k_ = (.slice Ao14 x3_1.length co14 : Value).ownBlock) (.slice Ao14 x3_1.length co14) x3_1 t179 w _ ?side1 ?side2 A12.out).mono ?_); (case side1 => exact qz); (case side2 => exact Kd.R_tight rfl HO_3.out); rintro e w15 ⟨rfl, hy0, hb, hkp⟩; refine ⟨_, rfl, ?_⟩; have n0_ := qb.mk (Kd.R_reok rfl hy0 (fun k_ e_ => HO_3.out.1 k_ e_)); have n1_ := qb.mk (hb); clear HO_3 HB; have HO_3 := n0_; have HB := n1_; clear n0_ n1_; (try clear hb); (try clear hkp); (try clear hy0)) | ((with_reducible refine qg (f := 53) rfl ?_); refine goesL_ (some 24) rfl rfl Tryz.func53 (by kernel_rfl) rfl #[.slice Ao14 x3_1.length co14] rfl Z61 ?_; (with_reducible refine (slices_Compact_int_int.calls (fun k_ => some k_ = (.slice Ao14 x3_1.length co14 : Value).ownBlock) (.slice Ao14 x3_1.length co14) t179 t180 w _ ?side1 ?side2 A13.out).mono ?_); (case side1 => exact qz); (case side2 => exact Kd.R_tight rfl HO_3.out); rintro e w16 ⟨v181, rfl, ho0, hb, hkp⟩; refine ⟨_, rfl, ?_⟩; have n0_ := qb.mk (Kd.R_mono (ok' := fun k_ => True) ho0 (fun k_ hk_ => trivial)); have n1_ := qb.mk (hb); clear HB HO_3; have HO182 := n0_; have HB := n1_; clear n0_ n1_; (try clear hb); (try clear hkp); (try clear ho0)))
    go_ret
    exact ⟨_, Z97, by (with_reducible repeat (first | apply Kd.R_alloc | apply Kd.R_drewN | apply Kd.R_drew)); exact HO182.out, qz⟩

   rw [if_pos c2] at H
   have c2b0 : decide (x8_1 < (l0.length : Int)) = true := decide_eq_true c2
   clear c2
   by_cases c3 : 0 ≤ x8_1
   case neg =>
    rw [if_neg c3] at H
    exact absurd H (by simp)
   rw [if_pos c3] at H
   have c3b0 : decide (0 ≤ x8_1) = true := decide_eq_true c3
   clear c3
   by_cases c4 : x8_1 < (l0.length : Int)
   case neg =>
    rw [if_neg c4] at H
    exact absurd H (by simp)
   rw [if_pos c4] at H
   have c4b0 : decide (x8_1 < (l0.length : Int)) = true := decide_eq_true c4
   clear c4
   obtain ⟨y173, hy173⟩ : ∃ y_ : List Int, y_ = (([(qa l0 x8_1).f4, wrap64 (((qa l0 x8_1).f5) + 1)] : List Int)) := ⟨_, rfl⟩
   replace H : (if x3_1.length + y173.length < 17592186044416 then (r8turns.l0 k1 (x3_1 ++ y173) l0 (l0.length : Int) (wrap64 (x8_1 + 1))) else (none)) = some r := by first | (rw [hy173]; with_reducible exact H) | (have H2_ := (Option.bind_some _ _).symm.trans H; rw [hy173]; with_reducible exact H2_) | (have H2_ := (Option.bind_some _ _).symm.trans H; with_reducible exact H2_) | with_reducible exact H | (rw [hy173]; exact H) | exact H
   have Ny173 := qb.mk hy173
   clear hy173
   by_cases c5 : x3_1.length + y173.length < 17592186044416
   case neg =>
    rw [if_neg c5] at H
    exact absurd H (by simp)
   rw [if_pos c5] at H
   have LMc5 := qb.mk c5
   clear c5
   obtain ⟨y176, hy176⟩ : ∃ y_ : List Int, y_ = (x3_1 ++ y173) := ⟨_, rfl⟩
   replace H : (r8turns.l0 k1 y176 l0 (l0.length : Int) (wrap64 (x8_1 + 1))) = some r := by first | (rw [hy176]; with_reducible exact H) | (have H2_ := (Option.bind_some _ _).symm.trans H; rw [hy176]; with_reducible exact H2_) | (have H2_ := (Option.bind_some _ _).symm.trans H; with_reducible exact H2_) | with_reducible exact H | (rw [hy176]; exact H) | exact H
   have Ny176 := qb.mk hy176
   clear hy176
   have H' := qb.mk H
   clear H
   have p171 : 0 ≤ (x8_1 : Int) := of_decide_eq_true qB
   have q171 : x8_1 < (l0.length : Int) := of_decide_eq_true qB
   obtain ⟨ad171, e171, hx171_0, hx171_1, hx171_2, hx171_3, hx171_4, hx171_5, hx171_6, hx171_7, hx171_8⟩ := at_T53 HR0.out x8_1 p171 q171
   cases e171
   replace hx171_0 := bx HB hx171_0
   replace hx171_1 := bx HB hx171_1
   replace hx171_2 := bx HB hx171_2
   replace hx171_3 := bx HB hx171_3
   replace hx171_4 := bx HB hx171_4
   replace hx171_5 := bx HB hx171_5
   replace hx171_6 := bx HB hx171_6
   replace hx171_7 := bx HB hx171_7
   replace hx171_8 := bx HB hx171_8
   replace p171 := eq_true p171
   replace q171 := eq_true q171
   go_wp2_with (first | ((with_reducible refine qi (N := 5) rfl ?_); refine qh ?hg (N := 5) ?hd (cs := #[.string (⟨#[]⟩ : ByteArray), .string (⟨#[]⟩ : ByteArray), .string (⟨#[]⟩ : ByteArray), .string (⟨#[]⟩ : ByteArray), .int .i64 0, .int .i64 0, .bool false, .int .i64 0, .bool false]) (t := 53) ?hr ?_; (case hd => rfl); (case hg => rfl); (case hr => exact qC); intro gb172 hg w6 hbox hb; have n0_ := qb.mk (Kd.R_below Z131 hb); have n1_ := qb.mk (qd qz hb); have n2_ := qb.mk (hbox); have n3_ := qb.mk ((Z66 : w.heap.size ≤ gb172)); have n4_ := n3_; clear HO_3 HB; have HO_3 := n0_; have HB := n1_; have BK172 := n2_; have GW172 := n3_; have GE172 := n4_; clear n0_ n1_ n2_ n3_ n4_; clear hb hbox hg; obtain ⟨yc7_0, yc7_1, yc7_2, yc7_3, yc7_4, yc7_5, yc7_6, yc7_7, yc7_8, yf7_0, yf7_1, yf7_2, yf7_3, yf7_4, yf7_5, yf7_6, yf7_7, yf7_8⟩ := bf9 BK172.out) | ((with_reducible refine qi (N := 18) rfl ?_); refine Kd.R_lit (Kd.int .i64) _ 3 ?hg (N := 18) ?hd (xs := ([(qa l0 x8_1).f4, wrap64 (((qa l0 x8_1).f5) + 1)] : List Int)) (inner := [.int .i64 ((qa l0 x8_1).f4), .int .i64 (wrap64 (((qa l0 x8_1).f5) + 1))]) (ok := fun _ => True) (okp := fun _ => True) ?hr ?hp (fun _ hk => hk) trivial (Below.refl _ _) (Nat.le_refl _) (by simp) ?_; (case hd => rfl); (case hg => rfl); (case hr => exact qC); (case hp => exact (Reps.one (show Kd.M (Kd.int .i64) _ _ _ ((qa l0 x8_1).f4) [.int .i64 ((qa l0 x8_1).f4)] from rfl) (Reps.one (show Kd.M (Kd.int .i64) _ _ _ (wrap64 (((qa l0 x8_1).f5) + 1)) [.int .i64 (wrap64 (((qa l0 x8_1).f5) + 1))] from rfl) (Reps.none _ _)))); intro v174 w8 ho9 hb hg_ hnew_; clear hg_ hnew_; (first | rw [← Ny173.out] at ho9 | (simp only [Int.reduceToNat] at ho9; rw [← Ny173.out] at ho9)); have n0_ := qb.mk (Kd.R_elder' Z36 (Kd.R_base ho9) hb); have n1_ := qb.mk (Kd.R_lower (Kd.R_new' ho9 (Kd.R_lt Z36)) (qx Z78)); have n2_ := qb.mk (qw (g := gb172) (o := .cells #[.string ((qa l0 x8_1).f0), .string ((qa l0 x8_1).f1), .string ((qa l0 x8_1).f2), .string ((qa l0 x8_1).f3), .int .i64 ((qa l0 x8_1).f4), .int .i64 ((qa l0 x8_1).f5), .bool ((qa l0 x8_1).f6), .int .i64 ((qa l0 x8_1).f7), .bool ((qa l0 x8_1).f8)] 53 (0, 0)) (by (with_reducible repeat (first | refine qn ?_ _ | refine qm ?_ | refine ql ?_ _)); apply put9; (with_reducible repeat (first | refine qn ?_ _ | refine qm ?_ | refine ql ?_ _)); exact BK172.out) hb); have n3_ := qb.mk (qd Z78 hb); clear HO_3 BK172 HB; have HO_3 := n0_; have HO175 := n1_; have BK172 := n2_; have HB := n3_; clear n0_ n1_ n2_ n3_; clear hb ho9; obtain ⟨Ao11, co11, eo11⟩ := Kd.R_slice HO175.out; subst eo11) | ((with_reducible refine gate_builtin (b := .append) (xs := #[.tmp 12, .tmp 18]) rfl ?_); at_builtin; refine Kd.R_append_rows (Kd.int .i64) (w0 := w) w.heap.size rfl (.tmp 12) (.tmp 18) 29 3 (.int .i64 0) 8 rfl Tryz.underlying29 info3 rfl (by decide) (by omega) u3 x3_1 y173 _ _ _ (fun k_ => some k_ ≠ (.slice Ao11 y173.length co11 : Value).ownBlock) (fun _ => False) rfl rfl ?aO ?aR (fun _ _ h => h) (fun _ h => h.elim) ?aF ?aB ?aS ?aL ?_; (case aR => repeat (first | exact (Kd.R_reads' HO175.out).2.2 | (with_reducible refine Kd.C_alloc ?_ _) | (with_reducible refine Kd.C_drewN ?_ _) | (with_reducible refine Kd.C_drew ?_))); (case aB => exact Z78); (case aF => exact (fun k_ hk => Kd.fresh' (Kd.R_lt (by (with_reducible repeat (first | apply Kd.R_alloc | apply Kd.R_drewN | apply Kd.R_drew)); exact HO175.out)) k_ hk)); (case aO => exact Z104); (case aS => exact (qx Z78)); (case aL => have := LMc5.out; omega); intro v177 w10 ho hb hg hat; rw [← Ny176.out] at ho; have n0_ := qb.mk (blk_grown (g := gb172) (o := .cells #[.string ((qa l0 x8_1).f0), .string ((qa l0 x8_1).f1), .string ((qa l0 x8_1).f2), .string ((qa l0 x8_1).f3), .int .i64 ((qa l0 x8_1).f4), .int .i64 ((qa l0 x8_1).f5), .bool ((qa l0 x8_1).f6), .int .i64 ((qa l0 x8_1).f7), .bool ((qa l0 x8_1).f8)] 53 (0, 0)) (by (with_reducible repeat (first | refine qn ?_ _ | refine qm ?_ | refine ql ?_ _)); exact BK172.out) hg (Kd.R_ne HO_3.out BK172.out (by decide))); have n1_ := qb.mk (Kd.R_after (ok := (fun _ => True)) (by (with_reducible repeat (first | apply Kd.R_alloc | apply Kd.R_drewN | apply Kd.R_drew)); exact HO175.out) hg hat); have n2_ := qb.mk (hb); have n3_ := qb.mk (ho); clear BK172 HO175 HB HO_3; have BK172 := n0_; have HO175 := n1_; have HB := n2_; have HO178 := n3_; clear n0_ n1_ n2_ n3_; clear ho hb hg hat))
   go_roundg k1
   case measure => have := HK1.out; omega
   case rel => exact ⟨(y176), (wrap64 (x8_1 + 1)), qD, H', ⟨Z157⟩, ⟨by (with_reducible repeat (first | apply Kd.R_alloc | apply Kd.R_drewN | apply Kd.R_drew)); exact Kd.R_mono HO178.out (fun _ hk => trivial)⟩, ⟨Z78⟩⟩
/-! ### r8Until: function 5 -/
mutual
def r8Until.l0 : Nat → List (S53) → Int → List Int → Int → Int → ByteArray → ByteArray → ByteArray → ByteArray → Int → Bool → Option (Int × Int)
 | 0, _, _, _, _, _, _, _, _, _, _, _ => none
 | k + 1, x1, x9, x26, x27, x28, x184000, x184001, x184002, x184003, x184004, x184005 => if x28 < x27 then (if 0 ≤ x28 then (if x28 < (x26.length : Int) then (if (rd x26 x28) ≤ x184004 then (r8Until.j1 k x1 x9 (rd x26 x28) x26 x27 x28 true x184000 x184001 x184002 x184003 x184004 x184005) else (r8Until.j1 k x1 x9 (rd x26 x28) x26 x27 x28 (decide ((rd x26 x28) > 3652059)) x184000 x184001 x184002 x184003 x184004 x184005)) else (none)) else (none)) else (some (3652059, 0))
def r8Until.j1 : Nat → List (S53) → Int → Int → List Int → Int → Int → Bool → ByteArray → ByteArray → ByteArray → ByteArray → Int → Bool → Option (Int × Int)
 | 0, _, _, _, _, _, _, _, _, _, _, _, _, _ => none
 | k + 1, x1, x9, x11, x26, x27, x28, x39, x184000, x184001, x184002, x184003, x184004, x184005 => if x39 = true then (r8Until.l0 k x1 x9 x26 x27 (wrap64 (x28 + 1)) x184000 x184001 x184002 x184003 x184004 x184005) else ((r8find.f k x1 x184000 x184001 x184002 x184003 x11 x184005).bind fun t191 => (if t191 = x9 then (r8Until.l0 k x1 x9 x26 x27 (wrap64 (x28 + 1)) x184000 x184001 x184002 x184003 x184004 x184005) else (some (wrap64 (x11 - 1), 0))))
end
def r8Until.f (k : Nat) (l0 : List (S110)) (l1 : List (S53)) (a2_0 : ByteArray) (a2_1 : ByteArray) (a2_2 : ByteArray) (a2_3 : ByteArray) (a2_4 : Int) (a2_5 : Bool) : Option (Int × Int) := (r8askCase.f k l0 l1 a2_0 a2_1 a2_2 a2_3 a2_4 a2_5).bind fun t184 => (if t184 = 0 then ((r8find.f k l1 a2_0 a2_1 a2_2 a2_3 a2_4 a2_5).bind fun t185 => (if t185 < 0 then (some (0, 0)) else ((r8turns.f k l1).bind fun t186 => (r8Until.l0 k l1 t185 t186 (t186.length : Int) 0 a2_0 a2_1 a2_2 a2_3 a2_4 a2_5)))) else (some (0, t184)))
theorem r8Until.mono_l : ∀ k, (∀ y0 y1 y2 y3 y4 y5 y6 y7 y8 y9 y10, qv (r8Until.l0 k y0 y1 y2 y3 y4 y5 y6 y7 y8 y9 y10) (r8Until.l0 (k + 1) y0 y1 y2 y3 y4 y5 y6 y7 y8 y9 y10)) ∧ (∀ y0 y1 y2 y3 y4 y5 y6 y7 y8 y9 y10 y11 y12, qv (r8Until.j1 k y0 y1 y2 y3 y4 y5 y6 y7 y8 y9 y10 y11 y12) (r8Until.j1 (k + 1) y0 y1 y2 y3 y4 y5 y6 y7 y8 y9 y10 y11 y12))
 | 0 => ⟨fun _ _ _ _ _ _ _ _ _ _ _ r h => by simp [r8Until.l0] at h, fun _ _ _ _ _ _ _ _ _ _ _ _ _ r h => by simp [r8Until.j1] at h⟩
 | k + 1 => by
  obtain ⟨ih0, ih1⟩ := r8Until.mono_l k
  refine ⟨?_, ?_⟩
  all_goals
   intros
   first | unfold r8Until.l0 | unfold r8Until.j1
   repeat' first
   | (with_reducible apply ih0)
   | (with_reducible apply ih1)
   | (with_reducible apply r8askCase.mono)
   | (with_reducible apply r8find.mono)
   | (with_reducible apply r8turns.mono)
   | (with_reducible exact qv.refl _)
   | (with_reducible exact qv.none _)
   | (with_reducible refine qv.ite ?_ ?_)
   | (with_reducible refine qv.bind ?_ (fun _ => ?_))
   | apply ih0
   | apply ih1
   | apply r8askCase.mono
   | apply r8find.mono
   | apply r8turns.mono
   | exact qv.none _
   | refine qv.ite ?_ ?_
   | refine qv.bind ?_ (fun _ => ?_)
theorem r8Until.mono : ∀ a0 a1 a2 a3 a4 a5 a6 a7 k, qv (r8Until.f k a0 a1 a2 a3 a4 a5 a6 a7) (r8Until.f (k + 1) a0 a1 a2 a3 a4 a5 a6 a7) := by
 intro a0 a1 a2 a3 a4 a5 a6 a7 k
 obtain ⟨ih0, ih1⟩ := r8Until.mono_l k
 unfold r8Until.f
 repeat' first
   | (with_reducible apply ih0)
   | (with_reducible apply ih1)
   | (with_reducible apply r8askCase.mono)
   | (with_reducible apply r8find.mono)
   | (with_reducible apply r8turns.mono)
   | (with_reducible exact qv.refl _)
   | (with_reducible exact qv.none _)
   | (with_reducible refine qv.ite ?_ ?_)
   | (with_reducible refine qv.bind ?_ (fun _ => ?_))
   | apply ih0
   | apply ih1
   | apply r8askCase.mono
   | apply r8find.mono
   | apply r8turns.mono
   | exact qv.none _
   | refine qv.ite ?_ ?_
   | refine qv.bind ?_ (fun _ => ?_)
set_option maxHeartbeats 8000000 in
set_option maxRecDepth 100000 in
theorem r8Until.calls (k : Nat) (A0 : Option Addr) (c0 : Nat) (l0 : List (S110)) (A1 : Option Addr) (c1 : Nat) (l1 : List (S53)) (a2_0 : ByteArray) (a2_1 : ByteArray) (a2_2 : ByteArray) (a2_3 : ByteArray) (a2_4 : Int) (a2_5 : Bool) (r1 : Int) (r2 : Int) (w : World) (hr0 : Kd.C k110 w A0 l0.length l0) (hc0 : l0.length ≤ c0) (hr1 : Kd.C k53 w A1 l1.length l1) (hc1 : l1.length ≤ c1) (h : r8Until.f k l0 l1 a2_0 a2_1 a2_2 a2_3 a2_4 a2_5 = some (r1, r2)) :
  Calls Tryz.prog 5 #[.slice A0 l0.length c0, .slice A1 l1.length c1, .agg #[.string a2_0, .string a2_1, .string a2_2, .string a2_3, .int .i64 a2_4, .bool a2_5]] w fun e w' => e = .returned (.tuple #[.int .i64 r1, .int .i64 r2]) ∧ Below w.heap.size w w' := by
 have hu25 := Tryz.underlying25
 have HR0 := qb.mk hr0
 have HC0 := qb.mk hc0
 clear hr0 hc0
 have HR1 := qb.mk hr1
 have HC1 := qb.mk hc1
 clear hr1 hc1
 have HB := qb.mk (Below.refl w.heap.size w)
 have H : ((r8askCase.f k l0 l1 a2_0 a2_1 a2_2 a2_3 a2_4 a2_5).bind fun t184 => (if t184 = 0 then ((r8find.f k l1 a2_0 a2_1 a2_2 a2_3 a2_4 a2_5).bind fun t185 => (if t185 < 0 then (some (0, 0)) else ((r8turns.f k l1).bind fun t186 => (r8Until.l0 k l1 t185 t186 (t186.length : Int) 0 a2_0 a2_1 a2_2 a2_3 a2_4 a2_5)))) else (some (0, t184)))) = some (r1, r2) := h
 clear h
 replace H := Option.bind_eq_some_iff.mp H
 obtain ⟨t184, A40, H⟩ := H
 replace H : (if t184 = 0 then ((r8find.f k l1 a2_0 a2_1 a2_2 a2_3 a2_4 a2_5).bind fun t185 => (if t185 < 0 then (some (0, 0)) else ((r8turns.f k l1).bind fun t186 => (r8Until.l0 k l1 t185 t186 (t186.length : Int) 0 a2_0 a2_1 a2_2 a2_3 a2_4 a2_5)))) else (some (0, t184))) = some (r1, r2) := H
 have A4 := qb.mk A40
 clear A40
 by_cases c5 : t184 = 0
 case neg =>
  rw [if_neg c5] at H
  have c5b0 : (t184 == 0) = false := beq_eq_false_iff_ne.mpr c5
  have c5b1 : (t184 != 0) = true := bne_iff_ne.mpr c5
  simp only [Option.some.injEq, Prod.mk.injEq] at H
  obtain ⟨rfl, rfl⟩ := H
  go_enter Tryz.func5, Tryz.ntmps5
  go_wp2_with (first | ((with_reducible refine qi (N := 5) rfl ?_); refine qh ?hg (N := 5) ?hd (cs := #[.string a2_0, .string a2_1, .string a2_2, .string a2_3, .int .i64 a2_4, .bool a2_5]) (t := 25) ?hr ?_; (case hd => rfl); (case hg => rfl); (case hr => exact qC); intro gb183 hg w41 hbox hb; have n0_ := qb.mk (qd qz hb); have n1_ := qb.mk (hbox); have n2_ := qb.mk ((Z66 : w.heap.size ≤ gb183)); have n3_ := n2_; clear HB; have HB := n0_; have BK183 := n1_; have GW183 := n2_; have GE183 := n3_; clear n0_ n1_ n2_ n3_; clear hb hbox hg; obtain ⟨yc42_0, yc42_1, yc42_2, yc42_3, yc42_4, yc42_5, yf42_0, yf42_1, yf42_2, yf42_3, yf42_4, yf42_5⟩ := bf6 BK183.out) | ((with_reducible refine qi (N := 15) rfl ?_); refine wpList_load_row rfl 25 (.tmp 5) rfl gb183 rfl 25 #[.string a2_0, .string a2_1, .string a2_2, .string a2_3, .int .i64 a2_4, .bool a2_5] (0, 0) _ Z110 Tryz.underlying25 rfl (by kernel_rfl) ?_) | ((with_reducible refine qi (N := 21) rfl ?_); refine wpList_load_row rfl 25 (.tmp 5) rfl gb183 rfl 25 #[.string a2_0, .string a2_1, .string a2_2, .string a2_3, .int .i64 a2_4, .bool a2_5] (0, 0) _ Z110 Tryz.underlying25 rfl (by kernel_rfl) ?_) | ((with_reducible refine qi (N := 40) rfl ?_); refine wpList_load_row rfl 25 (.tmp 5) rfl gb183 rfl 25 #[.string a2_0, .string a2_1, .string a2_2, .string a2_3, .int .i64 a2_4, .bool a2_5] (0, 0) _ Z110 Tryz.underlying25 rfl (by kernel_rfl) ?_) | ((with_reducible refine qg (f := 19) rfl ?_); refine goesL_ (some 16) rfl rfl Tryz.func19 (by kernel_rfl) rfl #[.slice A0 l0.length c0, .slice A1 l1.length c1, .agg #[.string a2_0, .string a2_1, .string a2_2, .string a2_3, .int .i64 a2_4, .bool a2_5]] rfl Z61 ?_; (with_reducible refine (r8askCase.calls k _ _ l0 _ _ l1 a2_0 a2_1 a2_2 a2_3 a2_4 a2_5 t184 _ ?side1 ?side2 ?side3 ?side4 A4.out).mono ?_); (case side1 => exact Z62); (case side2 => exact Z158); (case side3 => exact Z63); (case side4 => exact Z159); rintro e w43 ⟨rfl, hb⟩; refine ⟨_, rfl, ?_⟩; have n0_ := bb BK183 hb; have n1_ := qb.mk (qd Z79 hb); clear BK183 HB; have BK183 := n0_; have HB := n1_; clear n0_ n1_; (try clear hb); (try clear hb2); (try clear hk); (try clear hi)))
  go_ret2
  exact ⟨Z97, Z79⟩

 rw [if_pos c5] at H
 have c5b0 : (t184 == 0) = true := beq_iff_eq.mpr c5
 have c5b1 : (t184 != 0) = false := bne_eq_false_iff_eq.mpr c5
 clear c5
 replace H := Option.bind_eq_some_iff.mp H
 obtain ⟨t185, A60, H⟩ := H
 replace H : (if t185 < 0 then (some (0, 0)) else ((r8turns.f k l1).bind fun t186 => (r8Until.l0 k l1 t185 t186 (t186.length : Int) 0 a2_0 a2_1 a2_2 a2_3 a2_4 a2_5))) = some (r1, r2) := H
 have A6 := qb.mk A60
 clear A60
 by_cases c7 : t185 < 0
 case pos =>
  rw [if_pos c7] at H
  have c7b0 : decide (t185 < 0) = true := decide_eq_true c7
  clear c7
  simp only [Option.some.injEq, Prod.mk.injEq] at H
  obtain ⟨rfl, rfl⟩ := H
  go_enter Tryz.func5, Tryz.ntmps5
  go_wp2_with (first | ((with_reducible refine qi (N := 5) rfl ?_); refine qh ?hg (N := 5) ?hd (cs := #[.string a2_0, .string a2_1, .string a2_2, .string a2_3, .int .i64 a2_4, .bool a2_5]) (t := 25) ?hr ?_; (case hd => rfl); (case hg => rfl); (case hr => exact qC); intro gb183 hg w8 hbox hb; have n0_ := qb.mk (qd qz hb); have n1_ := qb.mk (hbox); have n2_ := qb.mk ((Z66 : w.heap.size ≤ gb183)); have n3_ := n2_; clear HB; have HB := n0_; have BK183 := n1_; have GW183 := n2_; have GE183 := n3_; clear n0_ n1_ n2_ n3_; clear hb hbox hg; obtain ⟨yc9_0, yc9_1, yc9_2, yc9_3, yc9_4, yc9_5, yf9_0, yf9_1, yf9_2, yf9_3, yf9_4, yf9_5⟩ := bf6 BK183.out) | ((with_reducible refine qi (N := 15) rfl ?_); refine wpList_load_row rfl 25 (.tmp 5) rfl gb183 rfl 25 #[.string a2_0, .string a2_1, .string a2_2, .string a2_3, .int .i64 a2_4, .bool a2_5] (0, 0) _ Z110 Tryz.underlying25 rfl (by kernel_rfl) ?_) | ((with_reducible refine qi (N := 21) rfl ?_); refine wpList_load_row rfl 25 (.tmp 5) rfl gb183 rfl 25 #[.string a2_0, .string a2_1, .string a2_2, .string a2_3, .int .i64 a2_4, .bool a2_5] (0, 0) _ Z110 Tryz.underlying25 rfl (by kernel_rfl) ?_) | ((with_reducible refine qi (N := 40) rfl ?_); refine wpList_load_row rfl 25 (.tmp 5) rfl gb183 rfl 25 #[.string a2_0, .string a2_1, .string a2_2, .string a2_3, .int .i64 a2_4, .bool a2_5] (0, 0) _ Z110 Tryz.underlying25 rfl (by kernel_rfl) ?_) | ((with_reducible refine qg (f := 19) rfl ?_); refine goesL_ (some 16) rfl rfl Tryz.func19 (by kernel_rfl) rfl #[.slice A0 l0.length c0, .slice A1 l1.length c1, .agg #[.string a2_0, .string a2_1, .string a2_2, .string a2_3, .int .i64 a2_4, .bool a2_5]] rfl Z61 ?_; (with_reducible refine (r8askCase.calls k _ _ l0 _ _ l1 a2_0 a2_1 a2_2 a2_3 a2_4 a2_5 t184 _ ?side1 ?side2 ?side3 ?side4 A4.out).mono ?_); (case side1 => exact Z62); (case side2 => exact Z158); (case side3 => exact Z63); (case side4 => exact Z159); rintro e w10 ⟨rfl, hb⟩; refine ⟨_, rfl, ?_⟩; have n0_ := bb BK183 hb; have n1_ := qb.mk (qd Z79 hb); clear BK183 HB; have BK183 := n0_; have HB := n1_; clear n0_ n1_; (try clear hb); (try clear hb2); (try clear hk); (try clear hi); obtain ⟨yc11_0, yc11_1, yc11_2, yc11_3, yc11_4, yc11_5, yf11_0, yf11_1, yf11_2, yf11_3, yf11_4, yf11_5⟩ := bf6 BK183.out) | ((with_reducible refine qg (f := 20) rfl ?_); refine goesL_ (some 22) rfl rfl Tryz.func20 (by kernel_rfl) rfl #[.slice A1 l1.length c1, .agg #[.string a2_0, .string a2_1, .string a2_2, .string a2_3, .int .i64 a2_4, .bool a2_5]] rfl Z61 ?_; (with_reducible refine (r8find.calls k _ _ l1 a2_0 a2_1 a2_2 a2_3 a2_4 a2_5 t185 _ ?side1 ?side2 A6.out).mono ?_); (case side1 => exact Z63); (case side2 => exact Z159); rintro e w12 ⟨rfl, hb⟩; refine ⟨_, rfl, ?_⟩; have n0_ := bb BK183 hb; have n1_ := qb.mk (qd Z79 hb); clear BK183 HB; have BK183 := n0_; have HB := n1_; clear n0_ n1_; (try clear hb); (try clear hb2); (try clear hk); (try clear hi)))
  go_ret2
  exact ⟨Z97, Z79⟩
 rw [if_neg c7] at H
 have c7b0 : decide (t185 < 0) = false := decide_eq_false c7
 clear c7
 replace H := Option.bind_eq_some_iff.mp H
 obtain ⟨t186, A130, H⟩ := H
 replace H : (r8Until.l0 k l1 t185 t186 (t186.length : Int) 0 a2_0 a2_1 a2_2 a2_3 a2_4 a2_5) = some (r1, r2) := H
 have A13 := qb.mk A130
 clear A130
 have H' := qb.mk H
 clear H
 go_enter Tryz.func5, Tryz.ntmps5
 go_wp2_with (first | ((with_reducible refine qi (N := 5) rfl ?_); refine qh ?hg (N := 5) ?hd (cs := #[.string a2_0, .string a2_1, .string a2_2, .string a2_3, .int .i64 a2_4, .bool a2_5]) (t := 25) ?hr ?_; (case hd => rfl); (case hg => rfl); (case hr => exact qC); intro gb183 hg w14 hbox hb; have n0_ := qb.mk (qd qz hb); have n1_ := qb.mk (hbox); have n2_ := qb.mk ((Z66 : w.heap.size ≤ gb183)); have n3_ := n2_; clear HB; have HB := n0_; have BK183 := n1_; have GW183 := n2_; have GE183 := n3_; clear n0_ n1_ n2_ n3_; clear hb hbox hg; obtain ⟨yc15_0, yc15_1, yc15_2, yc15_3, yc15_4, yc15_5, yf15_0, yf15_1, yf15_2, yf15_3, yf15_4, yf15_5⟩ := bf6 BK183.out) | ((with_reducible refine qi (N := 15) rfl ?_); refine wpList_load_row rfl 25 (.tmp 5) rfl gb183 rfl 25 #[.string a2_0, .string a2_1, .string a2_2, .string a2_3, .int .i64 a2_4, .bool a2_5] (0, 0) _ Z110 Tryz.underlying25 rfl (by kernel_rfl) ?_) | ((with_reducible refine qi (N := 21) rfl ?_); refine wpList_load_row rfl 25 (.tmp 5) rfl gb183 rfl 25 #[.string a2_0, .string a2_1, .string a2_2, .string a2_3, .int .i64 a2_4, .bool a2_5] (0, 0) _ Z110 Tryz.underlying25 rfl (by kernel_rfl) ?_) | ((with_reducible refine qi (N := 40) rfl ?_); refine wpList_load_row rfl 25 (.tmp 5) rfl gb183 rfl 25 #[.string a2_0, .string a2_1, .string a2_2, .string a2_3, .int .i64 a2_4, .bool a2_5] (0, 0) _ Z110 Tryz.underlying25 rfl (by kernel_rfl) ?_) | ((with_reducible refine qg (f := 19) rfl ?_); refine goesL_ (some 16) rfl rfl Tryz.func19 (by kernel_rfl) rfl #[.slice A0 l0.length c0, .slice A1 l1.length c1, .agg #[.string a2_0, .string a2_1, .string a2_2, .string a2_3, .int .i64 a2_4, .bool a2_5]] rfl Z61 ?_; (with_reducible refine (r8askCase.calls k _ _ l0 _ _ l1 a2_0 a2_1 a2_2 a2_3 a2_4 a2_5 t184 _ ?side1 ?side2 ?side3 ?side4 A4.out).mono ?_); (case side1 => exact Z62); (case side2 => exact Z158); (case side3 => exact Z63); (case side4 => exact Z159); rintro e w16 ⟨rfl, hb⟩; refine ⟨_, rfl, ?_⟩; have n0_ := bb BK183 hb; have n1_ := qb.mk (qd Z79 hb); clear BK183 HB; have BK183 := n0_; have HB := n1_; clear n0_ n1_; (try clear hb); (try clear hb2); (try clear hk); (try clear hi); obtain ⟨yc17_0, yc17_1, yc17_2, yc17_3, yc17_4, yc17_5, yf17_0, yf17_1, yf17_2, yf17_3, yf17_4, yf17_5⟩ := bf6 BK183.out) | ((with_reducible refine qg (f := 20) rfl ?_); refine goesL_ (some 22) rfl rfl Tryz.func20 (by kernel_rfl) rfl #[.slice A1 l1.length c1, .agg #[.string a2_0, .string a2_1, .string a2_2, .string a2_3, .int .i64 a2_4, .bool a2_5]] rfl Z61 ?_; (with_reducible refine (r8find.calls k _ _ l1 a2_0 a2_1 a2_2 a2_3 a2_4 a2_5 t185 _ ?side1 ?side2 A6.out).mono ?_); (case side1 => exact Z63); (case side2 => exact Z159); rintro e w18 ⟨rfl, hb⟩; refine ⟨_, rfl, ?_⟩; have n0_ := bb BK183 hb; have n1_ := qb.mk (qd Z79 hb); clear BK183 HB; have BK183 := n0_; have HB := n1_; clear n0_ n1_; (try clear hb); (try clear hb2); (try clear hk); (try clear hi)) | ((with_reducible refine qg (f := 21) rfl ?_); refine goesL_ (some 26) rfl rfl Tryz.func21 (by kernel_rfl) rfl #[.slice A1 l1.length c1] rfl Z61 ?_; (with_reducible refine (r8turns.calls k _ _ l1 t186 _ ?side1 ?side2 A13.out).mono ?_); (case side1 => exact Z63); (case side2 => exact Z159); rintro e w19 ⟨v187, rfl, ho0, hb⟩; refine ⟨_, rfl, ?_⟩; have n0_ := qb.mk (Kd.R_lower ho0 (qx Z79)); have n1_ := bb BK183 hb; have n2_ := qb.mk (qd Z79 hb); clear BK183 HB; have HO188 := n0_; have BK183 := n1_; have HB := n2_; clear n0_ n1_ n2_; (try clear hb); (try clear hb2); (try clear hk); (try clear hi); (try clear ho0); obtain ⟨Ao20, co20, eo20⟩ := Kd.R_slice HO188.out; subst eo20))
 go_loopg [28] k (fun kq v28 w' => ∃ (x28_1 : Int), v28 = .int .i64 x28_1 ∧ qb (r8Until.l0 kq l1 t185 t186 (t186.length : Int) x28_1 a2_0 a2_1 a2_2 a2_3 a2_4 a2_5 = some (r1, r2)) ∧ qb (kq ≤ k) ∧ qb (Kd.R (Kd.int .i64) 3 w' w.heap.size (fun _ => True) (.slice Ao20 t186.length co20) t186) ∧ qb (w'.heap[gb183]? = some (.cells #[.string a2_0, .string a2_1, .string a2_2, .string a2_3, .int .i64 a2_4, .bool a2_5] 25 (0, 0))) ∧ qb (Below w.heap.size w w'))
 case atStart => exact ⟨(0), qD, H', ⟨Nat.le_refl _⟩, ⟨by (with_reducible repeat (first | apply Kd.R_alloc | apply Kd.R_drewN | apply Kd.R_drew)); exact HO188.out⟩, ⟨Z110⟩, ⟨Z79⟩⟩
 case round =>
  clear H'
  try clear c1; try clear c2; try clear p2; try clear c5; try clear c5b0; try clear c5b1; try clear c7; try clear c7b0; try clear c19; try clear c20; try clear yc11_0 yc11_1 yc11_2 yc11_3 yc11_4 yc11_5 yf11_0 yf11_1 yf11_2 yf11_3 yf11_4 yf11_5; try clear yc15_0 yc15_1 yc15_2 yc15_3 yc15_4 yc15_5 yf15_0 yf15_1 yf15_2 yf15_3 yf15_4 yf15_5; try clear yc17_0 yc17_1 yc17_2 yc17_3 yc17_4 yc17_5 yf17_0 yf17_1 yf17_2 yf17_3 yf17_4 yf17_5; try clear yc9_0 yc9_1 yc9_2 yc9_3 yc9_4 yc9_5 yf9_0 yf9_1 yf9_2 yf9_3 yf9_4 yf9_5
  obtain ⟨x28_1, rfl, HA, HK1, HO_26, BK183, HB⟩ := hrel
  cases gk with
  | zero => exact absurd HA.out (by simp [r8Until.l0])
  | succ k1 =>
   have H := HA.out
   clear HA
   simp only [r8Until.l0] at H
   by_cases c21 : x28_1 < (t186.length : Int)
   case neg =>
    rw [if_neg c21] at H
    have c21b0 : decide (x28_1 < (t186.length : Int)) = false := decide_eq_false c21
    clear c21
    simp only [Option.some.injEq, Prod.mk.injEq] at H
    obtain ⟨rfl, rfl⟩ := H
    go_wp2
    go_ret2
    exact ⟨Z97, Z79⟩
   rw [if_pos c21] at H
   have c21b0 : decide (x28_1 < (t186.length : Int)) = true := decide_eq_true c21
   clear c21
   by_cases c22 : 0 ≤ x28_1
   case neg =>
    rw [if_neg c22] at H
    exact absurd H (by simp)
   rw [if_pos c22] at H
   have c22b0 : decide (0 ≤ x28_1) = true := decide_eq_true c22
   clear c22
   by_cases c23 : x28_1 < (t186.length : Int)
   case neg =>
    rw [if_neg c23] at H
    exact absurd H (by simp)
   rw [if_pos c23] at H
   have c23b0 : decide (x28_1 < (t186.length : Int)) = true := decide_eq_true c23
   clear c23
   have HC24 := qb.mk H
   clear H
   have p189 : 0 ≤ (x28_1 : Int) := of_decide_eq_true qB
   have q189 : x28_1 < (t186.length : Int) := of_decide_eq_true qB
   obtain ⟨ad189, e189, hx189_0⟩ := Kd.at_int (Kd.R_reads' HO_26.out).2.2 x28_1 p189 q189
   cases e189
   replace p189 := eq_true p189
   replace q189 := eq_true q189
   go_upto_region 10 with (fail)
   go_cut [39] (fun v39 wc => ∃ (kq : Nat) (x39_23 : Bool), v39 = .bool x39_23 ∧ qb (r8Until.j1 kq l1 t185 (rd t186 x28_1) t186 (t186.length : Int) x28_1 x39_23 a2_0 a2_1 a2_2 a2_3 a2_4 a2_5 = some (r1, r2)) ∧ qb (kq ≤ k1) ∧ qb (Kd.R (Kd.int .i64) 3 wc w.heap.size (fun _ => True) (.slice (some ad189) t186.length co20) t186) ∧ qb (wc.heap[gb183]? = some (.cells #[.string a2_0, .string a2_1, .string a2_2, .string a2_3, .int .i64 a2_4, .bool a2_5] 25 (0, 0))) ∧ qb (Below w.heap.size w wc))
   case first =>
    have H := HC24.out
    clear HC24
    by_cases c25 : (rd t186 x28_1) ≤ a2_4
    case pos =>
     rw [if_pos c25] at H
     have c25b0 : decide ((rd t186 x28_1) ≤ a2_4) = true := decide_eq_true c25
     clear c25
     (first | rw [c25b0] | (simp only [qr, qt]; rw [c25b0]) | skip)
     have H' := qb.mk H
     clear H
     have yc26_0 : wr.cell? ⟨gb183, 0, none⟩ = some (.string a2_0) := (qc BK183.out 0).trans rfl
     have yc26_1 : wr.cell? ⟨gb183, 1, none⟩ = some (.string a2_1) := (qc BK183.out 1).trans rfl
     have yc26_2 : wr.cell? ⟨gb183, 2, none⟩ = some (.string a2_2) := (qc BK183.out 2).trans rfl
     have yc26_3 : wr.cell? ⟨gb183, 3, none⟩ = some (.string a2_3) := (qc BK183.out 3).trans rfl
     have yc26_4 : wr.cell? ⟨gb183, 4, none⟩ = some (.int .i64 a2_4) := (qc BK183.out 4).trans rfl
     have yc26_5 : wr.cell? ⟨gb183, 5, none⟩ = some (.bool a2_5) := (qc BK183.out 5).trans rfl
     have yf26_0 := qe BK183.out 0
     have yf26_1 := qe BK183.out 1
     have yf26_2 := qe BK183.out 2
     have yf26_3 := qe BK183.out 3
     have yf26_4 := qe BK183.out 4
     have yf26_5 := qe BK183.out 5
     go_wp2
     go_meet
     case rel => exact ⟨_, (true), qD, H', ⟨Z139⟩, ⟨Z121⟩, ⟨Z110⟩, ⟨Z79⟩⟩
    rw [if_neg c25] at H
    have c25b0 : decide ((rd t186 x28_1) ≤ a2_4) = false := decide_eq_false c25
    clear c25
    (first | rw [c25b0] | (simp only [qr, qt]; rw [c25b0]) | skip)
    have H' := qb.mk H
    clear H
    have yc27_0 : wr.cell? ⟨gb183, 0, none⟩ = some (.string a2_0) := (qc BK183.out 0).trans rfl
    have yc27_1 : wr.cell? ⟨gb183, 1, none⟩ = some (.string a2_1) := (qc BK183.out 1).trans rfl
    have yc27_2 : wr.cell? ⟨gb183, 2, none⟩ = some (.string a2_2) := (qc BK183.out 2).trans rfl
    have yc27_3 : wr.cell? ⟨gb183, 3, none⟩ = some (.string a2_3) := (qc BK183.out 3).trans rfl
    have yc27_4 : wr.cell? ⟨gb183, 4, none⟩ = some (.int .i64 a2_4) := (qc BK183.out 4).trans rfl
    have yc27_5 : wr.cell? ⟨gb183, 5, none⟩ = some (.bool a2_5) := (qc BK183.out 5).trans rfl
    have yf27_0 := qe BK183.out 0
    have yf27_1 := qe BK183.out 1
    have yf27_2 := qe BK183.out 2
    have yf27_3 := qe BK183.out 3
    have yf27_4 := qe BK183.out 4
    have yf27_5 := qe BK183.out 5
    go_wp2
    go_meet
    case rel => exact ⟨_, (decide ((rd t186 x28_1) > 3652059)), qD, H', ⟨Z139⟩, ⟨Z121⟩, ⟨Z110⟩, ⟨Z79⟩⟩
   case rest =>
    clear HC24
    try clear c1; try clear p1; try clear q1; try clear hx1; try clear c2; try clear p2 p2; try clear c5; try clear c5b0; try clear c5b1; try clear c7; try clear c7b0; try clear p18; try clear q18; try clear hx18; try clear c19; try clear c20; try clear c21; try clear c21b0; try clear c22; try clear c22b0; try clear c23; try clear c23b0; try clear c25; try clear c25b0; try clear yc11_0 yc11_1 yc11_2 yc11_3 yc11_4 yc11_5 yf11_0 yf11_1 yf11_2 yf11_3 yf11_4 yf11_5; try clear yc15_0 yc15_1 yc15_2 yc15_3 yc15_4 yc15_5 yf15_0 yf15_1 yf15_2 yf15_3 yf15_4 yf15_5; try clear yc17_0 yc17_1 yc17_2 yc17_3 yc17_4 yc17_5 yf17_0 yf17_1 yf17_2 yf17_3 yf17_4 yf17_5; try clear yc26_0 yc26_1 yc26_2 yc26_3 yc26_4 yc26_5 yf26_0 yf26_1 yf26_2 yf26_3 yf26_4 yf26_5; try clear yc27_0 yc27_1 yc27_2 yc27_3 yc27_4 yc27_5 yf27_0 yf27_1 yf27_2 yf27_3 yf27_4 yf27_5; try clear yc9_0 yc9_1 yc9_2 yc9_3 yc9_4 yc9_5 yf9_0 yf9_1 yf9_2 yf9_3 yf9_4 yf9_5; try clear hx189_0; try clear p189; try clear q189
    obtain ⟨kq, x39_23, rfl, HA, HJ23, HO_26, BK183, HB⟩ := hcut
    cases kq with
    | zero => exact absurd HA.out (by simp [r8Until.j1])
    | succ kj23 =>
     have H := HA.out
     clear HA
     simp only [r8Until.j1] at H
     by_cases c28 : x39_23 = true
     case pos =>
      subst c28
      have H1 : (r8Until.l0 kj23 l1 t185 t186 (t186.length : Int) (wrap64 (x28_1 + 1)) a2_0 a2_1 a2_2 a2_3 a2_4 a2_5) = some (r1, r2) := by rw [if_pos rfl] at H; exact H
      clear H
      have H := H1
      clear H1
      have H' := qb.mk H
      clear H
      go_wp2
      go_roundg kj23
      case measure => have := HK1.out; have := HJ23.out; omega
      case rel => exact ⟨(wrap64 (x28_1 + 1)), qD, H', ⟨by have := HK1.out; have := HJ23.out; omega⟩, ⟨Z121⟩, ⟨Z110⟩, ⟨Z79⟩⟩
     replace c28 := Bool.eq_false_iff.mpr c28
     subst c28
     have H1 : ((r8find.f kj23 l1 a2_0 a2_1 a2_2 a2_3 (rd t186 x28_1) a2_5).bind fun t191 => (if t191 = t185 then (r8Until.l0 kj23 l1 t185 t186 (t186.length : Int) (wrap64 (x28_1 + 1)) a2_0 a2_1 a2_2 a2_3 a2_4 a2_5) else (some (wrap64 ((rd t186 x28_1) - 1), 0)))) = some (r1, r2) := by rw [if_neg (show ¬ (false = true) by decide)] at H; exact H
     clear H
     have H := H1
     clear H1
     replace H := Option.bind_eq_some_iff.mp H
     obtain ⟨t191, A290, H⟩ := H
     replace H : (if t191 = t185 then (r8Until.l0 kj23 l1 t185 t186 (t186.length : Int) (wrap64 (x28_1 + 1)) a2_0 a2_1 a2_2 a2_3 a2_4 a2_5) else (some (wrap64 ((rd t186 x28_1) - 1), 0))) = some (r1, r2) := H
     have A29 := qb.mk A290
     clear A290
     by_cases c30 : t191 = t185
     case neg =>
      rw [if_neg c30] at H
      have c30b0 : (t191 == t185) = false := beq_eq_false_iff_ne.mpr c30
      have c30b1 : (t191 != t185) = true := bne_iff_ne.mpr c30
      simp only [Option.some.injEq, Prod.mk.injEq] at H
      obtain ⟨rfl, rfl⟩ := H
      have yc36_0 : wc.cell? ⟨gb183, 0, none⟩ = some (.string a2_0) := (qc BK183.out 0).trans rfl
      have yc36_1 : wc.cell? ⟨gb183, 1, none⟩ = some (.string a2_1) := (qc BK183.out 1).trans rfl
      have yc36_2 : wc.cell? ⟨gb183, 2, none⟩ = some (.string a2_2) := (qc BK183.out 2).trans rfl
      have yc36_3 : wc.cell? ⟨gb183, 3, none⟩ = some (.string a2_3) := (qc BK183.out 3).trans rfl
      have yc36_4 : wc.cell? ⟨gb183, 4, none⟩ = some (.int .i64 a2_4) := (qc BK183.out 4).trans rfl
      have yc36_5 : wc.cell? ⟨gb183, 5, none⟩ = some (.bool a2_5) := (qc BK183.out 5).trans rfl
      have yf36_0 := qe BK183.out 0
      have yf36_1 := qe BK183.out 1
      have yf36_2 := qe BK183.out 2
      have yf36_3 := qe BK183.out 3
      have yf36_4 := qe BK183.out 4
      have yf36_5 := qe BK183.out 5
      go_wp2_with (first | ((with_reducible refine qi (N := 12) rfl ?_); refine qh ?hg (N := 12) ?hd (cs := #[.string (⟨#[]⟩ : ByteArray), .string (⟨#[]⟩ : ByteArray), .string (⟨#[]⟩ : ByteArray), .string (⟨#[]⟩ : ByteArray), .int .i64 0, .bool false]) (t := 25) ?hr ?_; (case hd => rfl); (case hg => rfl); (case hr => exact qC); intro gb190 hg w37 hbox hb; have n0_ := qb.mk (Kd.R_below Z121 hb); have n1_ := bb BK183 hb; have n2_ := qb.mk (qd Z79 hb); have n3_ := qb.mk (hbox); have n4_ := qb.mk ((by rw [hg]; exact (qx Z79) : w.heap.size ≤ gb190)); have n5_ := n4_; have n6_ := qb.mk ((by rw [hg]; exact Nat.ne_of_lt (bt_ BK183) : gb183 ≠ gb190)); have n7_ := qb.mk ((by rw [hg]; exact Nat.ne_of_gt (bt_ BK183) : gb190 ≠ gb183)); clear HO_26 BK183 HB; have HO_26 := n0_; have BK183 := n1_; have HB := n2_; have BK190 := n3_; have GW190 := n4_; have GE190 := n5_; have NB183_190 := n6_; have NB190_183 := n7_; clear n0_ n1_ n2_ n3_ n4_ n5_ n6_ n7_; clear hb hbox hg; have hnb38 := NB190_183.out; have hnc38 := NB183_190.out; obtain ⟨yc39_0, yc39_1, yc39_2, yc39_3, yc39_4, yc39_5, yf39_0, yf39_1, yf39_2, yf39_3, yf39_4, yf39_5⟩ := bf6 BK190.out) | ((with_reducible refine qi (N := 15) rfl ?_); refine wpList_load_row rfl 25 (.tmp 5) rfl gb183 rfl 25 #[.string a2_0, .string a2_1, .string a2_2, .string a2_3, .int .i64 a2_4, .bool a2_5] (0, 0) _ Z9 Tryz.underlying25 rfl (by kernel_rfl) ?_) | ((with_reducible refine qi (N := 21) rfl ?_); refine wpList_load_row rfl 25 (.tmp 5) rfl gb183 rfl 25 #[.string a2_0, .string a2_1, .string a2_2, .string a2_3, .int .i64 a2_4, .bool a2_5] (0, 0) _ Z9 Tryz.underlying25 rfl (by kernel_rfl) ?_) | ((with_reducible refine qi (N := 40) rfl ?_); refine wpList_load_row rfl 25 (.tmp 5) rfl gb183 rfl 25 #[.string a2_0, .string a2_1, .string a2_2, .string a2_3, .int .i64 a2_4, .bool a2_5] (0, 0) _ Z9 Tryz.underlying25 rfl (by kernel_rfl) ?_) | ((with_reducible refine qi (N := 44) rfl ?_); refine wpList_load_row rfl 25 (.tmp 12) rfl gb190 rfl 25 #[.string a2_0, .string a2_1, .string a2_2, .string a2_3, .int .i64 (rd t186 x28_1), .bool a2_5] (0, 0) _ Z4 Tryz.underlying25 rfl (by kernel_rfl) ?_) | ((with_reducible refine qg (f := 20) rfl ?_); refine goesL_ (some 45) rfl rfl Tryz.func20 (by kernel_rfl) rfl #[.slice A1 l1.length c1, .agg #[.string a2_0, .string a2_1, .string a2_2, .string a2_3, .int .i64 (rd t186 x28_1), .bool a2_5]] rfl Z61 ?_; (with_reducible refine (r8find.calls kj23 _ _ l1 a2_0 a2_1 a2_2 a2_3 (rd t186 x28_1) a2_5 t191 _ ?side1 ?side2 A29.out).mono ?_); (case side1 => exact Z25); (case side2 => exact Z159); rintro e w40 ⟨rfl, hb⟩; refine ⟨_, rfl, ?_⟩; have n0_ := qb.mk (Kd.R_below Z14 hb); have n1_ := qb.mk (qw (g := gb183) (o := .cells #[.string a2_0, .string a2_1, .string a2_2, .string a2_3, .int .i64 a2_4, .bool a2_5] 25 (0, 0)) Z9 hb); have n2_ := qb.mk (qw (g := gb190) (o := .cells #[.string a2_0, .string a2_1, .string a2_2, .string a2_3, .int .i64 (rd t186 x28_1), .bool a2_5] 25 (0, 0)) Z4 hb); have n3_ := qb.mk (qd Z51 hb); clear HO_26 BK183 BK190 HB; have HO_26 := n0_; have BK183 := n1_; have BK190 := n2_; have HB := n3_; clear n0_ n1_ n2_ n3_; (try clear hb); (try clear hb2); (try clear hk); (try clear hi)))
      go_ret2
      exact ⟨Z97, Z51⟩
     rw [if_pos c30] at H
     have c30b0 : (t191 == t185) = true := beq_iff_eq.mpr c30
     have c30b1 : (t191 != t185) = false := bne_eq_false_iff_eq.mpr c30
     clear c30
     have H' := qb.mk H
     clear H
     have yc31_0 : wc.cell? ⟨gb183, 0, none⟩ = some (.string a2_0) := (qc BK183.out 0).trans rfl
     have yc31_1 : wc.cell? ⟨gb183, 1, none⟩ = some (.string a2_1) := (qc BK183.out 1).trans rfl
     have yc31_2 : wc.cell? ⟨gb183, 2, none⟩ = some (.string a2_2) := (qc BK183.out 2).trans rfl
     have yc31_3 : wc.cell? ⟨gb183, 3, none⟩ = some (.string a2_3) := (qc BK183.out 3).trans rfl
     have yc31_4 : wc.cell? ⟨gb183, 4, none⟩ = some (.int .i64 a2_4) := (qc BK183.out 4).trans rfl
     have yc31_5 : wc.cell? ⟨gb183, 5, none⟩ = some (.bool a2_5) := (qc BK183.out 5).trans rfl
     have yf31_0 := qe BK183.out 0
     have yf31_1 := qe BK183.out 1
     have yf31_2 := qe BK183.out 2
     have yf31_3 := qe BK183.out 3
     have yf31_4 := qe BK183.out 4
     have yf31_5 := qe BK183.out 5
     go_wp2_with (first | ((with_reducible refine qi (N := 12) rfl ?_); refine qh ?hg (N := 12) ?hd (cs := #[.string (⟨#[]⟩ : ByteArray), .string (⟨#[]⟩ : ByteArray), .string (⟨#[]⟩ : ByteArray), .string (⟨#[]⟩ : ByteArray), .int .i64 0, .bool false]) (t := 25) ?hr ?_; (case hd => rfl); (case hg => rfl); (case hr => exact qC); intro gb190 hg w32 hbox hb; have n0_ := qb.mk (Kd.R_below Z121 hb); have n1_ := bb BK183 hb; have n2_ := qb.mk (qd Z79 hb); have n3_ := qb.mk (hbox); have n4_ := qb.mk ((by rw [hg]; exact (qx Z79) : w.heap.size ≤ gb190)); have n5_ := n4_; have n6_ := qb.mk ((by rw [hg]; exact Nat.ne_of_lt (bt_ BK183) : gb183 ≠ gb190)); have n7_ := qb.mk ((by rw [hg]; exact Nat.ne_of_gt (bt_ BK183) : gb190 ≠ gb183)); clear HO_26 BK183 HB; have HO_26 := n0_; have BK183 := n1_; have HB := n2_; have BK190 := n3_; have GW190 := n4_; have GE190 := n5_; have NB183_190 := n6_; have NB190_183 := n7_; clear n0_ n1_ n2_ n3_ n4_ n5_ n6_ n7_; clear hb hbox hg; have hnb33 := NB190_183.out; have hnc33 := NB183_190.out; obtain ⟨yc34_0, yc34_1, yc34_2, yc34_3, yc34_4, yc34_5, yf34_0, yf34_1, yf34_2, yf34_3, yf34_4, yf34_5⟩ := bf6 BK190.out) | ((with_reducible refine qi (N := 15) rfl ?_); refine wpList_load_row rfl 25 (.tmp 5) rfl gb183 rfl 25 #[.string a2_0, .string a2_1, .string a2_2, .string a2_3, .int .i64 a2_4, .bool a2_5] (0, 0) _ Z9 Tryz.underlying25 rfl (by kernel_rfl) ?_) | ((with_reducible refine qi (N := 21) rfl ?_); refine wpList_load_row rfl 25 (.tmp 5) rfl gb183 rfl 25 #[.string a2_0, .string a2_1, .string a2_2, .string a2_3, .int .i64 a2_4, .bool a2_5] (0, 0) _ Z9 Tryz.underlying25 rfl (by kernel_rfl) ?_) | ((with_reducible refine qi (N := 40) rfl ?_); refine wpList_load_row rfl 25 (.tmp 5) rfl gb183 rfl 25 #[.string a2_0, .string a2_1, .string a2_2, .string a2_3, .int .i64 a2_4, .bool a2_5] (0, 0) _ Z9 Tryz.underlying25 rfl (by kernel_rfl) ?_) | ((with_reducible refine qi (N := 44) rfl ?_); refine wpList_load_row rfl 25 (.tmp 12) rfl gb190 rfl 25 #[.string a2_0, .string a2_1, .string a2_2, .string a2_3, .int .i64 (rd t186 x28_1), .bool a2_5] (0, 0) _ Z4 Tryz.underlying25 rfl (by kernel_rfl) ?_) | ((with_reducible refine qg (f := 20) rfl ?_); refine goesL_ (some 45) rfl rfl Tryz.func20 (by kernel_rfl) rfl #[.slice A1 l1.length c1, .agg #[.string a2_0, .string a2_1, .string a2_2, .string a2_3, .int .i64 (rd t186 x28_1), .bool a2_5]] rfl Z61 ?_; (with_reducible refine (r8find.calls kj23 _ _ l1 a2_0 a2_1 a2_2 a2_3 (rd t186 x28_1) a2_5 t191 _ ?side1 ?side2 A29.out).mono ?_); (case side1 => exact Z25); (case side2 => exact Z159); rintro e w35 ⟨rfl, hb⟩; refine ⟨_, rfl, ?_⟩; have n0_ := qb.mk (Kd.R_below Z14 hb); have n1_ := qb.mk (qw (g := gb183) (o := .cells #[.string a2_0, .string a2_1, .string a2_2, .string a2_3, .int .i64 a2_4, .bool a2_5] 25 (0, 0)) Z9 hb); have n2_ := qb.mk (qw (g := gb190) (o := .cells #[.string a2_0, .string a2_1, .string a2_2, .string a2_3, .int .i64 (rd t186 x28_1), .bool a2_5] 25 (0, 0)) Z4 hb); have n3_ := qb.mk (qd Z51 hb); clear HO_26 BK183 BK190 HB; have HO_26 := n0_; have BK183 := n1_; have BK190 := n2_; have HB := n3_; clear n0_ n1_ n2_ n3_; (try clear hb); (try clear hb2); (try clear hk); (try clear hi)))
     go_roundg kj23
     case measure => have := HK1.out; have := HJ23.out; omega
     case rel => exact ⟨(wrap64 (x28_1 + 1)), qD, H', ⟨by have := HK1.out; have := HJ23.out; omega⟩, ⟨Z121⟩, ⟨Z110⟩, ⟨Z51⟩⟩
/-! ### strings_Compare: function 92 -/
def strings_Compare.f (a0 : ByteArray) (a1 : ByteArray) : Option (Int) := some (Lib.compareBytes a0.data.toList a1.data.toList)
theorem strings_Compare.calls (a0 : ByteArray) (a1 : ByteArray) (r : Int) (w : World) (h : strings_Compare.f a0 a1 = some r) :
  Calls Tryz.prog 92 #[.string a0, .string a1] w fun e w' => e = .returned (.int .i64 r) ∧ Below w.heap.size w w' := by
 obtain rfl := Option.some.inj h
 exact (Tryz.strings_Compare a0 a1 w).mono fun e w' he => ⟨he.1, by rw [he.2]; exact Below.refl _ _⟩

/-! ### partner_isPartner_1: function 91 -/
def partner_isPartner_1.f (a0_0 : ByteArray) (l0_1 : List (S119)) (a1 : ByteArray) : Option (Int) := (strings_Compare.f a0_0 a1).bind fun t193 => (some t193)
set_option maxHeartbeats 8000000 in
set_option maxRecDepth 100000 in
theorem partner_isPartner_1.calls (a0_0 : ByteArray) (A0_1 : Option Addr) (c0_1 : Nat) (l0_1 : List (S119)) (a1 : ByteArray) (r : Int) (w : World) (hr0_1 : Kd.C k119 w A0_1 l0_1.length l0_1) (hc0_1 : l0_1.length ≤ c0_1) (h : partner_isPartner_1.f a0_0 l0_1 a1 = some r) :
  Calls Tryz.prog 91 #[.agg #[.string a0_0, .slice A0_1 l0_1.length c0_1], .string a1] w fun e w' => e = .returned (.int .i64 r) ∧ Below w.heap.size w w' := by
 have hu110 := Tryz.underlying110
 have HR0_1 := qb.mk hr0_1
 have HC0_1 := qb.mk hc0_1
 clear hr0_1 hc0_1
 have HB := qb.mk (Below.refl w.heap.size w)
 have H : ((strings_Compare.f a0_0 a1).bind fun t193 => (some t193)) = some r := h
 clear h
 replace H := Option.bind_eq_some_iff.mp H
 obtain ⟨t193, A30, H⟩ := H
 replace H : (some t193) = some r := H
 have A3 := qb.mk A30
 clear A30
 obtain rfl := Option.some.inj H
 go_enter Tryz.func91, Tryz.ntmps91
 go_wp2_with (first | ((with_reducible refine qi (N := 2) rfl ?_); refine qh ?hg (N := 2) ?hd (cs := #[.string a0_0, .slice A0_1 l0_1.length c0_1]) (t := 110) ?hr ?_; (case hd => rfl); (case hg => rfl); (case hr => exact qC); intro gb192 hg w4 hbox hb; have n0_ := qb.mk (qd qz hb); have n1_ := qb.mk (hbox); have n2_ := qb.mk ((Z66 : w.heap.size ≤ gb192)); have n3_ := n2_; clear HB; have HB := n0_; have BK192 := n1_; have GW192 := n2_; have GE192 := n3_; clear n0_ n1_ n2_ n3_; clear hb hbox hg; obtain ⟨yc5_0, yc5_1, yf5_0, yf5_1⟩ := bf2 BK192.out) | ((with_reducible refine qg (f := 92) rfl ?_); refine goesL_ (some 8) rfl rfl Tryz.func92 (by kernel_rfl) rfl #[.string a0_0, .string a1] rfl Z61 ?_; (with_reducible refine (strings_Compare.calls a0_0 a1 t193 _ A3.out).mono ?_); rintro e w6 ⟨rfl, hb⟩; refine ⟨_, rfl, ?_⟩; have n0_ := bb BK192 hb; have n1_ := qb.mk (qd (by repeat (first | (with_reducible first | exact HB.out | apply qp | apply qj | apply qo | refine qq ?_ GE192.out) | exact HB.out)) hb); clear BK192 HB; have BK192 := n0_; have HB := n1_; clear n0_ n1_; (try clear hb); (try clear hb2); (try clear hk); (try clear hi)))
 go_ret
 exact ⟨Z97, by repeat (first | (with_reducible first | exact HB.out | apply qp | apply qj | apply qo | refine qq ?_ GE192.out) | exact HB.out)⟩

end Go.Proofs.YtmmknokdgbgjgaaGreatDoor.XPartnerDaysMatchSpec
