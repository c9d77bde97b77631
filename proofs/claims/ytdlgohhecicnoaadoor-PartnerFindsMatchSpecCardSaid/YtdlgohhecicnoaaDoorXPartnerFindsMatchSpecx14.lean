-- Walks of PartnerFindsMatchSpec: written by xprint.py out of the translation (hand-proved functions among them). Lean checks it.
import Derived.Test.YtdlgohhecicnoaaDoorXPartnerFindsMatchSpecx0
import Derived.Test.YtdlgohhecicnoaaDoorXPartnerFindsMatchSpecx2
import Derived.Test.YtdlgohhecicnoaaDoorXPartnerFindsMatchSpecx9
import Derived.Test.YtdlgohhecicnoaaDoorXPartnerFindsMatchSpecx11
import Derived.Test.YtdlgohhecicnoaaDoorXPartnerFindsMatchSpecx13
namespace Go.Proofs.YtdlgohhecicnoaaDoor.XPartnerFindsMatchSpec
open Go.RowKit Go.Proofs.YtdlgohhecicnoaaDoorW.PrintWords Go.Proofs.YtdlgohhecicnoaaDoorW.PrintLast Go.Proofs.YtdlgohhecicnoaaDoorW.PrintMore
attribute [local go_sem] max2_int min2_int max_two min_two max_three min_three max_four min_four   -- for this text's walks alone
set_option linter.unusedVariables false
set_option linter.unusedSimpArgs false

/-! ### interchangeref8_Find: function 34 -/
def interchangeref8_Find.f (k : Nat) (l0 : List (S86)) (l1 : List (S23)) (a2_0 : ByteArray) (a2_1 : ByteArray) (a2_2 : ByteArray) (a2_3 : ByteArray) (a2_4 : Int) (a2_5 : Bool) : Option (Int × Bool × Int) := (interchangeref8_askCase.f k l0 l1 a2_0 a2_1 a2_2 a2_3 a2_4 a2_5).bind fun t259 => (if t259 = 0 then ((interchangeref8_find.f k l1 a2_0 a2_1 a2_2 a2_3 a2_4 a2_5).bind fun t260 => (some (mx t260 0, decide (t260 ≥ 0), 0))) else (some (0, false, t259)))
theorem interchangeref8_Find.mono : ∀ a0 a1 a2 a3 a4 a5 a6 a7 k, LeO (interchangeref8_Find.f k a0 a1 a2 a3 a4 a5 a6 a7) (interchangeref8_Find.f (k + 1) a0 a1 a2 a3 a4 a5 a6 a7) := by
 intro a0 a1 a2 a3 a4 a5 a6 a7 k
 unfold interchangeref8_Find.f
 repeat' first
   | (with_reducible exact interchangeref8_askCase.mono _ _ _ _ _ _ _ _ _)
   | (with_reducible exact interchangeref8_find.mono _ _ _ _ _ _ _ _)
   | (with_reducible exact LeO.refl _)
   | (with_reducible exact LeO.none _)
   | (with_reducible refine LeO.ite ?_ ?_)
   | (with_reducible refine LeO.bind ?_ (fun _ => ?_))
   | exact interchangeref8_askCase.mono _ _ _ _ _ _ _ _ _
   | exact interchangeref8_find.mono _ _ _ _ _ _ _ _
   | exact LeO.none _
   | refine LeO.ite ?_ ?_
   | refine LeO.bind ?_ (fun _ => ?_)
set_option maxHeartbeats 8000000 in
set_option maxRecDepth 100000 in
theorem interchangeref8_Find.calls (k : Nat) (A0 : Option Addr) (c0 : Nat) (l0 : List (S86)) (A1 : Option Addr) (c1 : Nat) (l1 : List (S23)) (a2_0 : ByteArray) (a2_1 : ByteArray) (a2_2 : ByteArray) (a2_3 : ByteArray) (a2_4 : Int) (a2_5 : Bool) (r1 : Int) (r2 : Bool) (r3 : Int) (w : World) (hr0 : Kd.C k86 w A0 l0.length l0) (hc0 : l0.length ≤ c0) (hr1 : Kd.C k23 w A1 l1.length l1) (hc1 : l1.length ≤ c1) (h : interchangeref8_Find.f k l0 l1 a2_0 a2_1 a2_2 a2_3 a2_4 a2_5 = some (r1, r2, r3)) :
  Calls Tryd.prog 34 #[.slice A0 l0.length c0, .slice A1 l1.length c1, .agg #[.string a2_0, .string a2_1, .string a2_2, .string a2_3, .int .i64 a2_4, .bool a2_5]] w fun e w' => e = .returned (.tuple #[.int .i64 r1, .bool r2, .int .i64 r3]) ∧ Below w.heap.size w w' := by
 have hu37 := Tryd.underlying37
 have HR0 := Aside0.mk hr0
 have HC0 := Aside0.mk hc0
 clear hr0 hc0
 have HR1 := Aside0.mk hr1
 have HC1 := Aside0.mk hc1
 clear hr1 hc1
 have HB := Aside0.mk (Below.refl w.heap.size w)
 have H : ((interchangeref8_askCase.f k l0 l1 a2_0 a2_1 a2_2 a2_3 a2_4 a2_5).bind fun t259 => (if t259 = 0 then ((interchangeref8_find.f k l1 a2_0 a2_1 a2_2 a2_3 a2_4 a2_5).bind fun t260 => (some (mx t260 0, decide (t260 ≥ 0), 0))) else (some (0, false, t259)))) = some (r1, r2, r3) := h
 clear h
 replace H := Option.bind_eq_some_iff.mp H
 obtain ⟨t259, A40, H⟩ := H
 replace H : (if t259 = 0 then ((interchangeref8_find.f k l1 a2_0 a2_1 a2_2 a2_3 a2_4 a2_5).bind fun t260 => (some (mx t260 0, decide (t260 ≥ 0), 0))) else (some (0, false, t259))) = some (r1, r2, r3) := H
 have A4 := Aside0.mk A40
 clear A40
 by_cases c5 : t259 = 0
 ·rw [if_pos c5] at H
  have c5b0 : (t259 == 0) = true := beq_iff_eq.mpr c5
  have c5b1 : (t259 != 0) = false := bne_eq_false_iff_eq.mpr c5
  clear c5
  replace H := Option.bind_eq_some_iff.mp H
  obtain ⟨t260, A60, H⟩ := H
  replace H : (some (mx t260 0, decide (t260 ≥ 0), 0)) = some (r1, r2, r3) := H
  have A6 := Aside0.mk A60
  clear A60
  obtain ⟨ji7, hji7⟩ : ∃ j_ : Int, (mx t260 0) = j_ := ⟨_, rfl⟩
  replace H : (some (ji7, decide (t260 ≥ 0), 0)) = some (r1, r2, r3) := by first | (rw [hji7] at H; exact H) | (simp only [hji7] at H ⊢; exact H)
  (try rw [hji7] at A4)
  (try rw [hji7] at A6)
  (try (have hji7l : 0 ≤ ji7 := by (rw [← hji7]; unfold mx; (repeat' split) <;> omega)))
  (try (have hji7m : 0 ≤ ji7 := by omega))
  have hji7_ : (if t260 < 0 then 0 else t260) = ji7 := hji7
  simp only [Option.some.injEq, Prod.mk.injEq] at H
  obtain ⟨rfl, rfl, rfl⟩ := H
  go_enter Tryd.func34, Tryd.ntmps34
  go_wp2_with (first | ((with_reducible refine gate_dst (N := 5) rfl ?_); refine box_event ?hg (N := 5) ?hd (cs := #[.string a2_0, .string a2_1, .string a2_2, .string a2_3, .int .i64 a2_4, .bool a2_5]) (t := 37) ?hr ?_; (case hd => rfl); (case hg => rfl); (case hr => exact Z188); intro gb258 hg w8 hbox hb; have n0_ := Aside0.mk (below_step Z140 hb); have n1_ := Aside0.mk (hbox); have n2_ := Aside0.mk ((Z108 : w.heap.size ≤ gb258)); have n3_ := Aside0.mk ((Z108 : w.heap.size ≤ gb258)); clear HB; have HB := n0_; have BK258 := n1_; have GW258 := n2_; have GE258 := n3_; clear n0_ n1_ n2_ n3_; clear hb hbox hg; obtain ⟨hcz9_0, hcz9_1, hcz9_2, hcz9_3, hcz9_4, hcz9_5, hfz9_0, hfz9_1, hfz9_2, hfz9_3, hfz9_4, hfz9_5⟩ := bf6 BK258.out) | ((with_reducible refine gate_callee (f := 74) rfl ?_); refine goesL_ (some 14) rfl rfl Tryd.func74 (by kernel_rfl) rfl #[.slice A0 l0.length c0, .slice A1 l1.length c1, .agg #[.string a2_0, .string a2_1, .string a2_2, .string a2_3, .int .i64 a2_4, .bool a2_5]] rfl Z104 ?_; (with_reducible refine (interchangeref8_askCase.calls k _ _ l0 _ _ l1 a2_0 a2_1 a2_2 a2_3 a2_4 a2_5 t259 _ ?side1 ?side2 ?side3 ?side4 A4.out).mono ?_); (case side1 => exact Z105); (case side2 => exact Z193); (case side3 => exact Z106); (case side4 => exact Z194); rintro e w10 ⟨rfl, hb⟩; refine ⟨_, rfl, ?_⟩; have n0_ := Aside0.mk (blk_below (g := gb258) (o := .cells #[.string a2_0, .string a2_1, .string a2_2, .string a2_3, .int .i64 a2_4, .bool a2_5] 37 (0, 0)) Z168 hb); have n1_ := Aside0.mk (below_step Z134 hb); clear BK258; clear HB; have BK258 := n0_; have HB := n1_; clear n0_ n1_; (try clear hb); (try clear hb2); (try clear hk); (try clear hi); obtain ⟨hcz11_0, hcz11_1, hcz11_2, hcz11_3, hcz11_4, hcz11_5, hfz11_0, hfz11_1, hfz11_2, hfz11_3, hfz11_4, hfz11_5⟩ := bf6 BK258.out) | ((with_reducible refine gate_callee (f := 75) rfl ?_); refine goesL_ (some 20) rfl rfl Tryd.func75 (by kernel_rfl) rfl #[.slice A1 l1.length c1, .agg #[.string a2_0, .string a2_1, .string a2_2, .string a2_3, .int .i64 a2_4, .bool a2_5]] rfl Z104 ?_; (with_reducible refine (interchangeref8_find.calls k _ _ l1 a2_0 a2_1 a2_2 a2_3 a2_4 a2_5 t260 _ ?side1 ?side2 A6.out).mono ?_); (case side1 => exact Z106); (case side2 => exact Z194); rintro e w12 ⟨rfl, hb⟩; refine ⟨_, rfl, ?_⟩; have n0_ := Aside0.mk (blk_below (g := gb258) (o := .cells #[.string a2_0, .string a2_1, .string a2_2, .string a2_3, .int .i64 a2_4, .bool a2_5] 37 (0, 0)) Z168 hb); have n1_ := Aside0.mk (below_step Z134 hb); clear BK258; clear HB; have BK258 := n0_; have HB := n1_; clear n0_ n1_; (try clear hb); (try clear hb2); (try clear hk); (try clear hi)))
  go_ret3
  exact ⟨Z59, Z134⟩
 ·rw [if_neg c5] at H
  have c5b0 : (t259 == 0) = false := beq_eq_false_iff_ne.mpr c5
  have c5b1 : (t259 != 0) = true := bne_iff_ne.mpr c5
  simp only [Option.some.injEq, Prod.mk.injEq] at H
  obtain ⟨rfl, rfl, rfl⟩ := H
  go_enter Tryd.func34, Tryd.ntmps34
  go_wp2_with (first | ((with_reducible refine gate_dst (N := 5) rfl ?_); refine box_event ?hg (N := 5) ?hd (cs := #[.string a2_0, .string a2_1, .string a2_2, .string a2_3, .int .i64 a2_4, .bool a2_5]) (t := 37) ?hr ?_; (case hd => rfl); (case hg => rfl); (case hr => exact Z188); intro gb258 hg w13 hbox hb; have n0_ := Aside0.mk (below_step Z140 hb); have n1_ := Aside0.mk (hbox); have n2_ := Aside0.mk ((Z108 : w.heap.size ≤ gb258)); have n3_ := Aside0.mk ((Z108 : w.heap.size ≤ gb258)); clear HB; have HB := n0_; have BK258 := n1_; have GW258 := n2_; have GE258 := n3_; clear n0_ n1_ n2_ n3_; clear hb hbox hg; obtain ⟨hcz14_0, hcz14_1, hcz14_2, hcz14_3, hcz14_4, hcz14_5, hfz14_0, hfz14_1, hfz14_2, hfz14_3, hfz14_4, hfz14_5⟩ := bf6 BK258.out) | ((with_reducible refine gate_callee (f := 74) rfl ?_); refine goesL_ (some 14) rfl rfl Tryd.func74 (by kernel_rfl) rfl #[.slice A0 l0.length c0, .slice A1 l1.length c1, .agg #[.string a2_0, .string a2_1, .string a2_2, .string a2_3, .int .i64 a2_4, .bool a2_5]] rfl Z104 ?_; (with_reducible refine (interchangeref8_askCase.calls k _ _ l0 _ _ l1 a2_0 a2_1 a2_2 a2_3 a2_4 a2_5 t259 _ ?side1 ?side2 ?side3 ?side4 A4.out).mono ?_); (case side1 => exact Z105); (case side2 => exact Z193); (case side3 => exact Z106); (case side4 => exact Z194); rintro e w15 ⟨rfl, hb⟩; refine ⟨_, rfl, ?_⟩; have n0_ := Aside0.mk (blk_below (g := gb258) (o := .cells #[.string a2_0, .string a2_1, .string a2_2, .string a2_3, .int .i64 a2_4, .bool a2_5] 37 (0, 0)) Z168 hb); have n1_ := Aside0.mk (below_step Z134 hb); clear BK258; clear HB; have BK258 := n0_; have HB := n1_; clear n0_ n1_; (try clear hb); (try clear hb2); (try clear hk); (try clear hi)))
  go_ret3
  exact ⟨Z138, Z134⟩

/-! ### interchangeref8_partnerOf: function 47 -/
def interchangeref8_partnerOf.l0 : Nat → List (S86) → Int → Int → ByteArray → ByteArray → Option (ByteArray)
 | 0, _, _, _, _, _ => none
 | k + 1, x7, x8, x9, x262000, x262001 => if x9 < x8 then (if 0 ≤ x9 then (if x9 < (x7.length : Int) then ((api_Address_51.f k ((rd_T86 x7 x9).f1) x262000 x262001).bind fun t264 => (if t264 = true then (some ((rd_T86 x7 x9).f0)) else (interchangeref8_partnerOf.l0 k x7 x8 (wrap64 (x9 + 1)) x262000 x262001))) else (none)) else (none)) else (some (⟨#[]⟩ : ByteArray))
def interchangeref8_partnerOf.f (k : Nat) (l0 : List (S86)) (a1_0 : ByteArray) (a1_1 : ByteArray) : Option (ByteArray) := interchangeref8_partnerOf.l0 k l0 (l0.length : Int) 0 a1_0 a1_1
theorem interchangeref8_partnerOf.mono_l : ∀ k, (∀ y0 y1 y2 y3 y4, LeO (interchangeref8_partnerOf.l0 k y0 y1 y2 y3 y4) (interchangeref8_partnerOf.l0 (k + 1) y0 y1 y2 y3 y4))
 | 0 => fun _ _ _ _ _ r h => by simp [interchangeref8_partnerOf.l0] at h
 | k + 1 => by
  have ih0 := interchangeref8_partnerOf.mono_l k
  ·intro y0 y1 y2 y3 y4
   unfold interchangeref8_partnerOf.l0
   repeat' first
   | (with_reducible exact ih0 _ _ _ _ _)
   | (with_reducible exact api_Address_51.mono _ _ _ _)
   | (with_reducible exact LeO.refl _)
   | (with_reducible exact LeO.none _)
   | (with_reducible refine LeO.ite ?_ ?_)
   | (with_reducible refine LeO.bind ?_ (fun _ => ?_))
   | exact ih0 _ _ _ _ _
   | exact api_Address_51.mono _ _ _ _
   | exact LeO.none _
   | refine LeO.ite ?_ ?_
   | refine LeO.bind ?_ (fun _ => ?_)
theorem interchangeref8_partnerOf.mono : ∀ a0 a1 a2 k, LeO (interchangeref8_partnerOf.f k a0 a1 a2) (interchangeref8_partnerOf.f (k + 1) a0 a1 a2) := by
 intro a0 a1 a2 k
 have ih0 := interchangeref8_partnerOf.mono_l k
 unfold interchangeref8_partnerOf.f
 repeat' first
   | (with_reducible exact ih0 _ _ _ _ _)
   | (with_reducible exact api_Address_51.mono _ _ _ _)
   | (with_reducible exact LeO.refl _)
   | (with_reducible exact LeO.none _)
   | (with_reducible refine LeO.ite ?_ ?_)
   | (with_reducible refine LeO.bind ?_ (fun _ => ?_))
   | exact ih0 _ _ _ _ _
   | exact api_Address_51.mono _ _ _ _
   | exact LeO.none _
   | refine LeO.ite ?_ ?_
   | refine LeO.bind ?_ (fun _ => ?_)
set_option maxHeartbeats 8000000 in
set_option maxRecDepth 100000 in
theorem interchangeref8_partnerOf.calls (k : Nat) (A0 : Option Addr) (c0 : Nat) (l0 : List (S86)) (a1_0 : ByteArray) (a1_1 : ByteArray) (r : ByteArray) (w : World) (hr0 : Kd.C k86 w A0 l0.length l0) (hc0 : l0.length ≤ c0) (h : interchangeref8_partnerOf.f k l0 a1_0 a1_1 = some r) :
  Calls Tryd.prog 47 #[.slice A0 l0.length c0, .agg #[.string a1_0, .string a1_1]] w fun e w' => e = .returned (.string r) ∧ Below w.heap.size w w' := by
 have hu31 := Tryd.underlying31
 have hu86 := Tryd.underlying86
 have HR0 := Aside0.mk hr0
 have HC0 := Aside0.mk hc0
 clear hr0 hc0
 have HB := Aside0.mk (Below.refl w.heap.size w)
 have H : (interchangeref8_partnerOf.l0 k l0 (l0.length : Int) 0 a1_0 a1_1) = some r := h
 clear h
 have H' := Aside0.mk H
 clear H
 go_enter Tryd.func47, Tryd.ntmps47
 go_wp2_with (first | ((with_reducible refine gate_dst (N := 3) rfl ?_); refine box_event ?hg (N := 3) ?hd (cs := #[.string a1_0, .string a1_1]) (t := 31) ?hr ?_; (case hd => rfl); (case hg => rfl); (case hr => exact Z188); intro gb261 hg w3 hbox hb; have n0_ := Aside0.mk (below_step Z140 hb); have n1_ := Aside0.mk (hbox); have n2_ := Aside0.mk ((Z108 : w.heap.size ≤ gb261)); have n3_ := Aside0.mk ((Z108 : w.heap.size ≤ gb261)); clear HB; have HB := n0_; have BK261 := n1_; have GW261 := n2_; have GE261 := n3_; clear n0_ n1_ n2_ n3_; clear hb hbox hg))
 go_loopg [9] k (fun kq v9 w' => ∃ (x9_1 : Int), v9 = .int .i64 x9_1 ∧ Aside0 (interchangeref8_partnerOf.l0 kq l0 (l0.length : Int) x9_1 a1_0 a1_1 = some r) ∧ Aside0 (kq ≤ k) ∧ Aside0 (w'.heap[gb261]? = some (.cells #[.string a1_0, .string a1_1] 31 (0, 0))) ∧ Aside0 (Below w.heap.size w w'))
 case atStart => exact ⟨(0), Z183, H', ⟨Nat.le_refl _⟩, ⟨Z169⟩, ⟨Z135⟩⟩
 case round =>
  clear H'
  try clear p2
  obtain ⟨x9_1, rfl, HA, HK1, BK261, HB⟩ := hrel
  cases gk with
  | zero => exact absurd HA.out (by simp [interchangeref8_partnerOf.l0])
  | succ k1 =>
   have H := HA.out
   clear HA
   simp only [interchangeref8_partnerOf.l0] at H
   by_cases c4 : x9_1 < (l0.length : Int)
   ·rw [if_pos c4] at H
    have c4b0 : decide (x9_1 < (l0.length : Int)) = true := decide_eq_true c4
    clear c4
    by_cases c5 : 0 ≤ x9_1
    ·rw [if_pos c5] at H
     have c5b0 : decide (0 ≤ x9_1) = true := decide_eq_true c5
     clear c5
     by_cases c6 : x9_1 < (l0.length : Int)
     ·rw [if_pos c6] at H
      have c6b0 : decide (x9_1 < (l0.length : Int)) = true := decide_eq_true c6
      clear c6
      replace H := Option.bind_eq_some_iff.mp H
      obtain ⟨t264, A70, H⟩ := H
      replace H : (if t264 = true then (some ((rd_T86 l0 x9_1).f0)) else (interchangeref8_partnerOf.l0 k1 l0 (l0.length : Int) (wrap64 (x9_1 + 1)) a1_0 a1_1)) = some r := H
      have A7 := Aside0.mk A70
      clear A70
      by_cases c8 : t264 = true
      ·subst c8
       have H1 : (some ((rd_T86 l0 x9_1).f0)) = some r := by rw [if_pos rfl] at H; exact H
       clear H
       have H := H1
       clear H1
       obtain rfl := Option.some.inj H
       have p262 : 0 ≤ (x9_1 : Int) := of_decide_eq_true Z186
       have q262 : x9_1 < (l0.length : Int) := of_decide_eq_true Z186
       obtain ⟨ad262, A262_1, c262_1, e262, hx262_0, hx262_1, hl262_1, hi262_1⟩ := at_T86 HR0.out x9_1 p262 q262
       cases e262
       replace hx262_0 := (HB.out.cell (World.block_lt_of_cell? w _ hx262_0)).trans hx262_0
       replace hx262_1 := (HB.out.cell (World.block_lt_of_cell? w _ hx262_1)).trans hx262_1
       have HR262_1 := Aside0.mk hi262_1
       have HC262_1 := Aside0.mk hl262_1
       clear hi262_1 hl262_1
       replace p262 := eq_true p262
       replace q262 := eq_true q262
       go_wp2_with (first | ((with_reducible refine gate_dst (N := 6) rfl ?_); refine box_event ?hg (N := 6) ?hd (cs := #[.string (⟨#[]⟩ : ByteArray), .slice none 0 0]) (t := 86) ?hr ?_; (case hd => rfl); (case hg => rfl); (case hr => exact Z188); intro gb263 hg w9 hbox hb; have n0_ := Aside0.mk (blk_below (g := gb261) (o := .cells #[.string a1_0, .string a1_1] 31 (0, 0)) Z169 hb); have n1_ := Aside0.mk (below_step Z135 hb); have n2_ := Aside0.mk (hbox); have n3_ := Aside0.mk ((Z89 : w.heap.size ≤ gb263)); have n4_ := Aside0.mk ((Z89 : w.heap.size ≤ gb263)); have n5_ := Aside0.mk ((Z68 : gb261 ≠ gb263)); have n6_ := Aside0.mk ((Z69 : gb263 ≠ gb261)); clear BK261; clear HB; have BK261 := n0_; have HB := n1_; have BK263 := n2_; have GW263 := n3_; have GE263 := n4_; have NB261_263 := n5_; have NB263_261 := n6_; clear n0_ n1_ n2_ n3_ n4_ n5_ n6_; clear hb hbox hg; have hnb10 := NB263_261.out; have hnc10 := NB261_263.out; obtain ⟨hcz11_0, hcz11_1, hfz11_0, hfz11_1⟩ := bf2 BK263.out; obtain ⟨hcz12_0, hcz12_1, hfz12_0, hfz12_1⟩ := bf2 BK261.out) | ((with_reducible refine gate_callee (f := 51) rfl ?_); refine goesL_ (some 16) rfl rfl Tryd.func51 (by kernel_rfl) rfl #[.slice A262_1 ((rd_T86 l0 x9_1).f1).length c262_1, .agg #[.string a1_0, .string a1_1]] rfl Z104 ?_; (with_reducible refine (api_Address_51.calls k1 _ _ ((rd_T86 l0 x9_1).f1) a1_0 a1_1 true _ ?side1 ?side2 A7.out).mono ?_); (case side1 => exact Z60); (case side2 => exact HC262_1.out); rintro e w13 ⟨rfl, hb⟩; refine ⟨_, rfl, ?_⟩; have n0_ := Aside0.mk (blk_below (g := gb261) (o := .cells #[.string a1_0, .string a1_1] 31 (0, 0)) Z19 hb); have n1_ := Aside0.mk (blk_below (g := gb263) (o := .cells #[.string ((rd_T86 l0 x9_1).f0), .slice A262_1 ((rd_T86 l0 x9_1).f1).length c262_1] 86 (0, 0)) Z13 hb); have n2_ := Aside0.mk (below_step Z102 hb); clear BK261; clear BK263; clear HB; have BK261 := n0_; have BK263 := n1_; have HB := n2_; clear n0_ n1_ n2_; (try clear hb); (try clear hb2); (try clear hk); (try clear hi); obtain ⟨hcz14_0, hcz14_1, hfz14_0, hfz14_1⟩ := bf2 BK263.out))
       go_ret
       exact ⟨Z138, Z102⟩
      ·replace c8 := Bool.eq_false_iff.mpr c8
       subst c8
       have H1 : (interchangeref8_partnerOf.l0 k1 l0 (l0.length : Int) (wrap64 (x9_1 + 1)) a1_0 a1_1) = some r := by rw [if_neg (show ¬ (false = true) by decide)] at H; exact H
       clear H
       have H := H1
       clear H1
       have H' := Aside0.mk H
       clear H
       have p262 : 0 ≤ (x9_1 : Int) := of_decide_eq_true Z186
       have q262 : x9_1 < (l0.length : Int) := of_decide_eq_true Z186
       obtain ⟨ad262, A262_1, c262_1, e262, hx262_0, hx262_1, hl262_1, hi262_1⟩ := at_T86 HR0.out x9_1 p262 q262
       cases e262
       replace hx262_0 := (HB.out.cell (World.block_lt_of_cell? w _ hx262_0)).trans hx262_0
       replace hx262_1 := (HB.out.cell (World.block_lt_of_cell? w _ hx262_1)).trans hx262_1
       have HR262_1 := Aside0.mk hi262_1
       have HC262_1 := Aside0.mk hl262_1
       clear hi262_1 hl262_1
       replace p262 := eq_true p262
       replace q262 := eq_true q262
       go_wp2_with (first | ((with_reducible refine gate_dst (N := 6) rfl ?_); refine box_event ?hg (N := 6) ?hd (cs := #[.string (⟨#[]⟩ : ByteArray), .slice none 0 0]) (t := 86) ?hr ?_; (case hd => rfl); (case hg => rfl); (case hr => exact Z188); intro gb263 hg w15 hbox hb; have n0_ := Aside0.mk (blk_below (g := gb261) (o := .cells #[.string a1_0, .string a1_1] 31 (0, 0)) Z169 hb); have n1_ := Aside0.mk (below_step Z135 hb); have n2_ := Aside0.mk (hbox); have n3_ := Aside0.mk ((Z89 : w.heap.size ≤ gb263)); have n4_ := Aside0.mk ((Z89 : w.heap.size ≤ gb263)); have n5_ := Aside0.mk ((Z68 : gb261 ≠ gb263)); have n6_ := Aside0.mk ((Z69 : gb263 ≠ gb261)); clear BK261; clear HB; have BK261 := n0_; have HB := n1_; have BK263 := n2_; have GW263 := n3_; have GE263 := n4_; have NB261_263 := n5_; have NB263_261 := n6_; clear n0_ n1_ n2_ n3_ n4_ n5_ n6_; clear hb hbox hg; have hnb16 := NB263_261.out; have hnc16 := NB261_263.out; obtain ⟨hcz17_0, hcz17_1, hfz17_0, hfz17_1⟩ := bf2 BK263.out; obtain ⟨hcz18_0, hcz18_1, hfz18_0, hfz18_1⟩ := bf2 BK261.out) | ((with_reducible refine gate_callee (f := 51) rfl ?_); refine goesL_ (some 16) rfl rfl Tryd.func51 (by kernel_rfl) rfl #[.slice A262_1 ((rd_T86 l0 x9_1).f1).length c262_1, .agg #[.string a1_0, .string a1_1]] rfl Z104 ?_; (with_reducible refine (api_Address_51.calls k1 _ _ ((rd_T86 l0 x9_1).f1) a1_0 a1_1 false _ ?side1 ?side2 A7.out).mono ?_); (case side1 => exact Z60); (case side2 => exact HC262_1.out); rintro e w19 ⟨rfl, hb⟩; refine ⟨_, rfl, ?_⟩; have n0_ := Aside0.mk (blk_below (g := gb261) (o := .cells #[.string a1_0, .string a1_1] 31 (0, 0)) Z19 hb); have n1_ := Aside0.mk (blk_below (g := gb263) (o := .cells #[.string ((rd_T86 l0 x9_1).f0), .slice A262_1 ((rd_T86 l0 x9_1).f1).length c262_1] 86 (0, 0)) Z13 hb); have n2_ := Aside0.mk (below_step Z102 hb); clear BK261; clear BK263; clear HB; have BK261 := n0_; have BK263 := n1_; have HB := n2_; clear n0_ n1_ n2_; (try clear hb); (try clear hb2); (try clear hk); (try clear hi)))
       go_roundg k1
       case measure => have := HK1.out; omega
       case rel => exact ⟨(wrap64 (x9_1 + 1)), Z183, H', ⟨Z192⟩, ⟨Z169⟩, ⟨Z102⟩⟩
     ·rw [if_neg c6] at H
      exact absurd H (by simp)
    ·rw [if_neg c5] at H
     exact absurd H (by simp)
   ·rw [if_neg c4] at H
    have c4b0 : decide (x9_1 < (l0.length : Int)) = false := decide_eq_false c4
    clear c4
    obtain rfl := Option.some.inj H
    go_wp2
    go_ret
    exact ⟨Z138, Z135⟩

end Go.Proofs.YtdlgohhecicnoaaDoor.XPartnerFindsMatchSpec
