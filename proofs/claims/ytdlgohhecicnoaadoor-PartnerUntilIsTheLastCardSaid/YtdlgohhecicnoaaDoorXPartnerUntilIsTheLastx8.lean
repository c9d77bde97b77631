-- Walks of PartnerUntilIsTheLast: written by xprint.py out of the translation (hand-proved functions among them). Lean checks it.
import Derived.Test.YtdlgohhecicnoaaDoorXPartnerUntilIsTheLastx0
import Derived.Test.YtdlgohhecicnoaaDoorXPartnerUntilIsTheLastx1
import Derived.Test.YtdlgohhecicnoaaDoorXPartnerUntilIsTheLastx7
namespace Go.Proofs.YtdlgohhecicnoaaDoor.XPartnerUntilIsTheLast
open Go.RowKit Go.Proofs.YtdlgohhecicnoaaDoorW.PrintWords Go.Proofs.YtdlgohhecicnoaaDoorW.PrintLast Go.Proofs.YtdlgohhecicnoaaDoorW.PrintMore
attribute [local go_sem] max2_int min2_int max_two min_two max_three min_three max_four min_four   -- for this text's walks alone
set_option linter.unusedVariables false
set_option linter.unusedSimpArgs false

/-! ### interchangelaw8_PartnerUntilIsTheLast: function 11 -/
mutual
def interchangelaw8_PartnerUntilIsTheLast.j0 : Nat → List (S86) → List (S23) → Int → Int → Int → Bool → Bool → ByteArray → ByteArray → ByteArray → ByteArray → Int → Bool → Option (Bool)
 | 0, _, _, _, _, _, _, _, _, _, _, _, _, _ => none
 | k + 1, x0, x1, x3, x9, x11, x12, x51, x216000, x216001, x216002, x216003, x216004, x216005 => if x51 = true then (some false) else (if x12 = true then (if x9 < x216004 then (some false) else ((interchangeref8_Below.f x3 (wrap64 ((wrap64 (x9 - x216004)) + 1))).bind fun t224 => ((partner_Find.f k x0 x1 x216000 x216001 x216002 x216003 (wrap64 (x216004 + t224)) x216005).bind fun bt225 => (if bt225.2.2 = 0 then (if bt225.2.1 = true then (interchangelaw8_PartnerUntilIsTheLast.j1 k x0 x1 x9 x11 (bt225.1 != x11) x216000 x216001 x216002 x216003 (wrap64 (x216004 + t224)) x216005) else (interchangelaw8_PartnerUntilIsTheLast.j1 k x0 x1 x9 x11 true x216000 x216001 x216002 x216003 (wrap64 (x216004 + t224)) x216005)) else (interchangelaw8_PartnerUntilIsTheLast.j1 k x0 x1 x9 x11 true x216000 x216001 x216002 x216003 (wrap64 (x216004 + t224)) x216005))))) else (some true))
def interchangelaw8_PartnerUntilIsTheLast.j1 : Nat → List (S86) → List (S23) → Int → Int → Bool → ByteArray → ByteArray → ByteArray → ByteArray → Int → Bool → Option (Bool)
 | 0, _, _, _, _, _, _, _, _, _, _, _ => none
 | k + 1, x0, x1, x9, x11, x88, x224000, x224001, x224002, x224003, x224004, x224005 => if x88 = true then (some false) else (if x9 = 3652059 then (some true) else ((partner_Find.f k x0 x1 x224000 x224001 x224002 x224003 (wrap64 (x9 + 1)) x224005).bind fun bt228 => (if bt228.2.2 = 0 then (if bt228.2.1 = true then (some (bt228.1 != x11)) else (some true)) else (some false))))
end
def interchangelaw8_PartnerUntilIsTheLast.f (k : Nat) (l0 : List (S86)) (l1 : List (S23)) (a2_0 : ByteArray) (a2_1 : ByteArray) (a2_2 : ByteArray) (a2_3 : ByteArray) (a2_4 : Int) (a2_5 : Bool) (a3 : Int) : Option (Bool) := (partner_Until.f k l0 l1 a2_0 a2_1 a2_2 a2_3 a2_4 a2_5).bind fun bt216 => (if bt216.2 = 0 then ((partner_Find.f k l0 l1 a2_0 a2_1 a2_2 a2_3 a2_4 a2_5).bind fun bt219 => (if bt219.2.2 = 0 then (if (bt219.2.1 != (decide (bt216.1 > 0))) = true then (interchangelaw8_PartnerUntilIsTheLast.j0 k l0 l1 a3 bt216.1 bt219.1 bt219.2.1 true a2_0 a2_1 a2_2 a2_3 a2_4 a2_5) else ((interchangelaw8_awake.f).bind fun t222 => (interchangelaw8_PartnerUntilIsTheLast.j0 k l0 l1 a3 bt216.1 bt219.1 bt219.2.1 (!t222) a2_0 a2_1 a2_2 a2_3 a2_4 a2_5))) else (interchangelaw8_PartnerUntilIsTheLast.j0 k l0 l1 a3 bt216.1 bt219.1 bt219.2.1 true a2_0 a2_1 a2_2 a2_3 a2_4 a2_5))) else (if bt216.1 = 0 then ((interchangelaw8_awake.f).bind fun t218 => (some t218)) else (some false)))
theorem interchangelaw8_PartnerUntilIsTheLast.mono_l : ∀ k, (∀ y0 y1 y2 y3 y4 y5 y6 y7 y8 y9 y10 y11 y12, LeO (interchangelaw8_PartnerUntilIsTheLast.j0 k y0 y1 y2 y3 y4 y5 y6 y7 y8 y9 y10 y11 y12) (interchangelaw8_PartnerUntilIsTheLast.j0 (k + 1) y0 y1 y2 y3 y4 y5 y6 y7 y8 y9 y10 y11 y12)) ∧ (∀ y0 y1 y2 y3 y4 y5 y6 y7 y8 y9 y10, LeO (interchangelaw8_PartnerUntilIsTheLast.j1 k y0 y1 y2 y3 y4 y5 y6 y7 y8 y9 y10) (interchangelaw8_PartnerUntilIsTheLast.j1 (k + 1) y0 y1 y2 y3 y4 y5 y6 y7 y8 y9 y10))
 | 0 => ⟨fun _ _ _ _ _ _ _ _ _ _ _ _ _ r h => by simp [interchangelaw8_PartnerUntilIsTheLast.j0] at h, fun _ _ _ _ _ _ _ _ _ _ _ r h => by simp [interchangelaw8_PartnerUntilIsTheLast.j1] at h⟩
 | k + 1 => by
  obtain ⟨ih0, ih1⟩ := interchangelaw8_PartnerUntilIsTheLast.mono_l k
  refine ⟨?_, ?_⟩
  ·intro y0 y1 y2 y3 y4 y5 y6 y7 y8 y9 y10 y11 y12
   unfold interchangelaw8_PartnerUntilIsTheLast.j0
   repeat' first
   | (with_reducible exact ih0 _ _ _ _ _ _ _ _ _ _ _ _ _)
   | (with_reducible exact ih1 _ _ _ _ _ _ _ _ _ _ _)
   | (with_reducible exact partner_Find.mono _ _ _ _ _ _ _ _ _)
   | (with_reducible exact partner_Until.mono _ _ _ _ _ _ _ _ _)
   | (with_reducible exact LeO.refl _)
   | (with_reducible exact LeO.none _)
   | (with_reducible refine LeO.ite ?_ ?_)
   | (with_reducible refine LeO.bind ?_ (fun _ => ?_))
   | exact ih0 _ _ _ _ _ _ _ _ _ _ _ _ _
   | exact ih1 _ _ _ _ _ _ _ _ _ _ _
   | exact partner_Find.mono _ _ _ _ _ _ _ _ _
   | exact partner_Until.mono _ _ _ _ _ _ _ _ _
   | exact LeO.none _
   | refine LeO.ite ?_ ?_
   | refine LeO.bind ?_ (fun _ => ?_)
  ·intro y0 y1 y2 y3 y4 y5 y6 y7 y8 y9 y10
   unfold interchangelaw8_PartnerUntilIsTheLast.j1
   repeat' first
   | (with_reducible exact ih0 _ _ _ _ _ _ _ _ _ _ _ _ _)
   | (with_reducible exact ih1 _ _ _ _ _ _ _ _ _ _ _)
   | (with_reducible exact partner_Find.mono _ _ _ _ _ _ _ _ _)
   | (with_reducible exact partner_Until.mono _ _ _ _ _ _ _ _ _)
   | (with_reducible exact LeO.refl _)
   | (with_reducible exact LeO.none _)
   | (with_reducible refine LeO.ite ?_ ?_)
   | (with_reducible refine LeO.bind ?_ (fun _ => ?_))
   | exact ih0 _ _ _ _ _ _ _ _ _ _ _ _ _
   | exact ih1 _ _ _ _ _ _ _ _ _ _ _
   | exact partner_Find.mono _ _ _ _ _ _ _ _ _
   | exact partner_Until.mono _ _ _ _ _ _ _ _ _
   | exact LeO.none _
   | refine LeO.ite ?_ ?_
   | refine LeO.bind ?_ (fun _ => ?_)
theorem interchangelaw8_PartnerUntilIsTheLast.mono : ∀ a0 a1 a2 a3 a4 a5 a6 a7 a8 k, LeO (interchangelaw8_PartnerUntilIsTheLast.f k a0 a1 a2 a3 a4 a5 a6 a7 a8) (interchangelaw8_PartnerUntilIsTheLast.f (k + 1) a0 a1 a2 a3 a4 a5 a6 a7 a8) := by
 intro a0 a1 a2 a3 a4 a5 a6 a7 a8 k
 obtain ⟨ih0, ih1⟩ := interchangelaw8_PartnerUntilIsTheLast.mono_l k
 unfold interchangelaw8_PartnerUntilIsTheLast.f
 repeat' first
   | (with_reducible exact ih0 _ _ _ _ _ _ _ _ _ _ _ _ _)
   | (with_reducible exact ih1 _ _ _ _ _ _ _ _ _ _ _)
   | (with_reducible exact partner_Find.mono _ _ _ _ _ _ _ _ _)
   | (with_reducible exact partner_Until.mono _ _ _ _ _ _ _ _ _)
   | (with_reducible exact LeO.refl _)
   | (with_reducible exact LeO.none _)
   | (with_reducible refine LeO.ite ?_ ?_)
   | (with_reducible refine LeO.bind ?_ (fun _ => ?_))
   | exact ih0 _ _ _ _ _ _ _ _ _ _ _ _ _
   | exact ih1 _ _ _ _ _ _ _ _ _ _ _
   | exact partner_Find.mono _ _ _ _ _ _ _ _ _
   | exact partner_Until.mono _ _ _ _ _ _ _ _ _
   | exact LeO.none _
   | refine LeO.ite ?_ ?_
   | refine LeO.bind ?_ (fun _ => ?_)
def interchangelaw8_PartnerUntilIsTheLast.T12 : Bool × List (List Nat × List Nat) := (true, [([], []), ([0], [0]), ([], []), ([], []), ([], []), ([4], [4]), ([3, 5], [3, 5]), ([6], [6]), ([2, 7], [2, 7]), ([1, 8], [1, 8]), ([0, 1, 2, 3, 4, 5, 6, 7, 8, 9], []), ([10, 9, 8, 0, 1, 2, 3, 4, 5, 6, 7, 8, 9], [9, 10])])
def interchangelaw8_PartnerUntilIsTheLast.B12 : List Nat := [0, 1, 0, 0, 0, 16, 56, 120, 252, 511, 1023, 2047]
theorem interchangelaw8_PartnerUntilIsTheLast.tab12 : rtab .any (opsOf Tryd.f11 12) = interchangelaw8_PartnerUntilIsTheLast.T12 := by kernel_rfl
theorem interchangelaw8_PartnerUntilIsTheLast.bits12 : waitsOk interchangelaw8_PartnerUntilIsTheLast.T12.2 interchangelaw8_PartnerUntilIsTheLast.B12 = true := by kernel_rfl
set_option maxHeartbeats 8000000 in
set_option maxRecDepth 100000 in
theorem interchangelaw8_PartnerUntilIsTheLast.calls (k : Nat) (A0 : Option Addr) (c0 : Nat) (l0 : List (S86)) (A1 : Option Addr) (c1 : Nat) (l1 : List (S23)) (a2_0 : ByteArray) (a2_1 : ByteArray) (a2_2 : ByteArray) (a2_3 : ByteArray) (a2_4 : Int) (a2_5 : Bool) (a3 : Int) (r : Bool) (w : World) (hr0 : Kd.C k86 w A0 l0.length l0) (hc0 : l0.length ≤ c0) (hr1 : Kd.C k23 w A1 l1.length l1) (hc1 : l1.length ≤ c1) (h : interchangelaw8_PartnerUntilIsTheLast.f k l0 l1 a2_0 a2_1 a2_2 a2_3 a2_4 a2_5 a3 = some r) :
  Calls Tryd.prog 11 #[.slice A0 l0.length c0, .slice A1 l1.length c1, .agg #[.string a2_0, .string a2_1, .string a2_2, .string a2_3, .int .i64 a2_4, .bool a2_5], .int .i64 a3] w fun e w' => e = .returned (.bool r) ∧ Below w.heap.size w w' := by
 have hu37 := Tryd.underlying37
 have HR0 := Aside0.mk hr0
 have HC0 := Aside0.mk hc0
 clear hr0 hc0
 have HR1 := Aside0.mk hr1
 have HC1 := Aside0.mk hc1
 clear hr1 hc1
 have HB := Aside0.mk (Below.refl w.heap.size w)
 have H : ((partner_Until.f k l0 l1 a2_0 a2_1 a2_2 a2_3 a2_4 a2_5).bind fun bt216 => (if bt216.2 = 0 then ((partner_Find.f k l0 l1 a2_0 a2_1 a2_2 a2_3 a2_4 a2_5).bind fun bt219 => (if bt219.2.2 = 0 then (if (bt219.2.1 != (decide (bt216.1 > 0))) = true then (interchangelaw8_PartnerUntilIsTheLast.j0 k l0 l1 a3 bt216.1 bt219.1 bt219.2.1 true a2_0 a2_1 a2_2 a2_3 a2_4 a2_5) else ((interchangelaw8_awake.f).bind fun t222 => (interchangelaw8_PartnerUntilIsTheLast.j0 k l0 l1 a3 bt216.1 bt219.1 bt219.2.1 (!t222) a2_0 a2_1 a2_2 a2_3 a2_4 a2_5))) else (interchangelaw8_PartnerUntilIsTheLast.j0 k l0 l1 a3 bt216.1 bt219.1 bt219.2.1 true a2_0 a2_1 a2_2 a2_3 a2_4 a2_5))) else (if bt216.1 = 0 then ((interchangelaw8_awake.f).bind fun t218 => (some t218)) else (some false)))) = some r := h
 clear h
 replace H := Option.bind_eq_some_iff.mp H
 obtain ⟨⟨t216, t217⟩, A50, H⟩ := H
 replace H : (if t217 = 0 then ((partner_Find.f k l0 l1 a2_0 a2_1 a2_2 a2_3 a2_4 a2_5).bind fun bt219 => (if bt219.2.2 = 0 then (if (bt219.2.1 != (decide (t216 > 0))) = true then (interchangelaw8_PartnerUntilIsTheLast.j0 k l0 l1 a3 t216 bt219.1 bt219.2.1 true a2_0 a2_1 a2_2 a2_3 a2_4 a2_5) else ((interchangelaw8_awake.f).bind fun t222 => (interchangelaw8_PartnerUntilIsTheLast.j0 k l0 l1 a3 t216 bt219.1 bt219.2.1 (!t222) a2_0 a2_1 a2_2 a2_3 a2_4 a2_5))) else (interchangelaw8_PartnerUntilIsTheLast.j0 k l0 l1 a3 t216 bt219.1 bt219.2.1 true a2_0 a2_1 a2_2 a2_3 a2_4 a2_5))) else (if t216 = 0 then ((interchangelaw8_awake.f).bind fun t218 => (some t218)) else (some false))) = some r := H
 have A5 := Aside0.mk A50
 clear A50
 by_cases c6 : t217 = 0
 ·rw [if_pos c6] at H
  have c6b0 : (t217 == 0) = true := beq_iff_eq.mpr c6
  have c6b1 : (t217 != 0) = false := bne_eq_false_iff_eq.mpr c6
  clear c6
  replace H := Option.bind_eq_some_iff.mp H
  obtain ⟨⟨t219, t220, t221⟩, A70, H⟩ := H
  replace H : (if t221 = 0 then (if (t220 != (decide (t216 > 0))) = true then (interchangelaw8_PartnerUntilIsTheLast.j0 k l0 l1 a3 t216 t219 t220 true a2_0 a2_1 a2_2 a2_3 a2_4 a2_5) else ((interchangelaw8_awake.f).bind fun t222 => (interchangelaw8_PartnerUntilIsTheLast.j0 k l0 l1 a3 t216 t219 t220 (!t222) a2_0 a2_1 a2_2 a2_3 a2_4 a2_5))) else (interchangelaw8_PartnerUntilIsTheLast.j0 k l0 l1 a3 t216 t219 t220 true a2_0 a2_1 a2_2 a2_3 a2_4 a2_5)) = some r := H
  have A7 := Aside0.mk A70
  clear A70
  have HC8 := Aside0.mk H
  clear H
  go_enter Tryd.func11, Tryd.ntmps11
  go_upto_region 5 with (first | ((with_reducible refine gate_dst (N := 6) rfl ?_); refine box_event ?hg (N := 6) ?hd (cs := #[.string a2_0, .string a2_1, .string a2_2, .string a2_3, .int .i64 a2_4, .bool a2_5]) (t := 37) ?hr ?_; (case hd => rfl); (case hg => rfl); (case hr => exact Z82); intro gb215 hg w9 hbox hb; have n0_ := Aside0.mk (below_step Z55 hb); have n1_ := Aside0.mk (hbox); have n2_ := Aside0.mk ((Z36 : w.heap.size ≤ gb215)); have n3_ := Aside0.mk ((Z36 : w.heap.size ≤ gb215)); clear HB; have HB := n0_; have BK215 := n1_; have GW215 := n2_; have GE215 := n3_; clear n0_ n1_ n2_ n3_; clear hb hbox hg; obtain ⟨hcz10_0, hcz10_1, hcz10_2, hcz10_3, hcz10_4, hcz10_5, hfz10_0, hfz10_1, hfz10_2, hfz10_3, hfz10_4, hfz10_5⟩ := bf6 BK215.out) | ((with_reducible refine gate_callee (f := 39) rfl ?_); refine goesL_ (some 22) rfl rfl Tryd.func39 (by kernel_rfl) rfl #[.slice A0 l0.length c0, .slice A1 l1.length c1, .agg #[.string a2_0, .string a2_1, .string a2_2, .string a2_3, .int .i64 a2_4, .bool a2_5]] rfl Z33 ?_; (with_reducible refine (partner_Until.calls k _ _ l0 _ _ l1 a2_0 a2_1 a2_2 a2_3 a2_4 a2_5 t216 t217 _ ?side1 ?side2 ?side3 ?side4 A5.out).mono ?_); (case side1 => exact Z34); (case side2 => exact Z84); (case side3 => exact Z35); (case side4 => exact Z85); rintro e w11 ⟨rfl, hb⟩; refine ⟨_, rfl, ?_⟩; have n0_ := Aside0.mk (blk_below (g := gb215) (o := .cells #[.string a2_0, .string a2_1, .string a2_2, .string a2_3, .int .i64 a2_4, .bool a2_5] 37 (0, 0)) Z74 hb); have n1_ := Aside0.mk (below_step Z52 hb); clear BK215; clear HB; have BK215 := n0_; have HB := n1_; clear n0_ n1_; (try clear hb); (try clear hb2); (try clear hk); (try clear hi); obtain ⟨hcz12_0, hcz12_1, hcz12_2, hcz12_3, hcz12_4, hcz12_5, hfz12_0, hfz12_1, hfz12_2, hfz12_3, hfz12_4, hfz12_5⟩ := bf6 BK215.out) | ((with_reducible refine gate_callee (f := 29) rfl ?_); refine goesL_ (some 36) rfl rfl Tryd.func29 (by kernel_rfl) rfl #[.slice A0 l0.length c0, .slice A1 l1.length c1, .agg #[.string a2_0, .string a2_1, .string a2_2, .string a2_3, .int .i64 a2_4, .bool a2_5]] rfl Z33 ?_; (with_reducible refine (partner_Find.calls k _ _ l0 _ _ l1 a2_0 a2_1 a2_2 a2_3 a2_4 a2_5 t219 t220 t221 _ ?side1 ?side2 ?side3 ?side4 A7.out).mono ?_); (case side1 => exact Z34); (case side2 => exact Z84); (case side3 => exact Z35); (case side4 => exact Z85); rintro e w13 ⟨rfl, hb⟩; refine ⟨_, rfl, ?_⟩; have n0_ := Aside0.mk (blk_below (g := gb215) (o := .cells #[.string a2_0, .string a2_1, .string a2_2, .string a2_3, .int .i64 a2_4, .bool a2_5] 37 (0, 0)) Z74 hb); have n1_ := Aside0.mk (below_step Z52 hb); clear BK215; clear HB; have BK215 := n0_; have HB := n1_; clear n0_ n1_; (try clear hb); (try clear hb2); (try clear hk); (try clear hi)))
  (try simp only [Act.put, List.setIfInBounds_toArray, List.set_cons_zero, List.set_cons_succ])
  go_cut [51] (fun v51 wc => ∃ (kq : Nat) (x51_7 : Bool), v51 = .bool x51_7 ∧ Aside0 (interchangelaw8_PartnerUntilIsTheLast.j0 kq l0 l1 a3 t216 t219 t220 x51_7 a2_0 a2_1 a2_2 a2_3 a2_4 a2_5 = some r) ∧ Aside0 (kq ≤ k) ∧ Aside0 (wc.heap[gb215]? = some (.cells #[.string a2_0, .string a2_1, .string a2_2, .string a2_3, .int .i64 a2_4, .bool a2_5] 37 (0, 0))) ∧ Aside0 (Below w.heap.size w wc))
  case first =>
   have H := HC8.out
   clear HC8
   by_cases c14 : t221 = 0
   ·rw [if_pos c14] at H
    have c14b0 : (t221 == 0) = true := beq_iff_eq.mpr c14
    have c14b1 : (t221 != 0) = false := bne_eq_false_iff_eq.mpr c14
    clear c14
    (first | rw [c14b0] | (simp only [i64_w, i32_w]; rw [c14b0]) | skip)
    by_cases c15 : (t220 != (decide (t216 > 0))) = true
    ·rw [if_pos c15] at H
     have c15b0 : (t220 != (decide (t216 > 0))) = true := c15
     (try (have c15b1 : decide (t220 = (decide (t216 > 0))) = false := by simpa using c15))
     (try (have c15b2 : (t220 == (decide (t216 > 0))) = false := by simpa using c15))
     (try (have c15b3 : ¬ (t220 = (decide (t216 > 0))) := by simpa using c15))
     clear c15
     have H' := Aside0.mk H
     clear H
     go_wp2
     go_meet
     case rel => exact ⟨_, (true), Z78, H', ⟨by first | omega | exact Nat.le_refl _⟩, ⟨Z74⟩, ⟨Z52⟩⟩
    ·rw [if_neg c15] at H
     have c15b0 : (t220 != (decide (t216 > 0))) = false := by simpa using c15
     (try (have c15b1 : decide (t220 = (decide (t216 > 0))) = true := by simpa using c15))
     (try (have c15b2 : (t220 == (decide (t216 > 0))) = true := by simpa using c15))
     clear c15
     replace H := Option.bind_eq_some_iff.mp H
     obtain ⟨t222, A160, H⟩ := H
     replace H : (interchangelaw8_PartnerUntilIsTheLast.j0 k l0 l1 a3 t216 t219 t220 (!t222) a2_0 a2_1 a2_2 a2_3 a2_4 a2_5) = some r := H
     have A16 := Aside0.mk A160
     clear A160
     have H' := Aside0.mk H
     clear H
     go_wp2_with (first | (go_at_call 14; (with_reducible refine (interchangelaw8_awake.calls  t222 _ A16.out).mono ?_); rintro e w17 ⟨rfl, hb⟩; have n0_ := Aside0.mk (blk_below (g := gb215) (o := .cells #[.string a2_0, .string a2_1, .string a2_2, .string a2_3, .int .i64 a2_4, .bool a2_5] 37 (0, 0)) Z74 hb); have n1_ := Aside0.mk (below_step Z52 hb); clear BK215; clear HB; have BK215 := n0_; have HB := n1_; clear n0_ n1_; (try clear hb); (try clear hb2); (try clear hk); (try clear hi)))
     go_meet
     case rel => exact ⟨_, (!t222), Z78, H', ⟨by first | omega | exact Nat.le_refl _⟩, ⟨Z74⟩, ⟨Z52⟩⟩
   ·rw [if_neg c14] at H
    have c14b0 : (t221 == 0) = false := beq_eq_false_iff_ne.mpr c14
    have c14b1 : (t221 != 0) = true := bne_iff_ne.mpr c14
    (first | rw [c14b0] | (simp only [i64_w, i32_w]; rw [c14b0]) | skip)
    have H' := Aside0.mk H
    clear H
    go_wp2
    go_meet
    case rel => exact ⟨_, (true), Z78, H', ⟨by first | omega | exact Nat.le_refl _⟩, ⟨Z74⟩, ⟨Z52⟩⟩
  case rest =>
   clear HC8
   try clear c1
   try clear c2
   try clear p2
   try clear c3
   try clear c6
   try clear c6b0
   try clear c6b1
   try clear c11
   try clear c14
   try clear c14b0
   try clear c14b1
   try clear c15
   try clear c15b0
   try clear c15b1
   try clear c15b2
   try clear hcz10_0
   try clear hcz10_1
   try clear hcz10_2
   try clear hcz10_3
   try clear hcz10_4
   try clear hcz10_5
   try clear hcz12_0
   try clear hcz12_1
   try clear hcz12_2
   try clear hcz12_3
   try clear hcz12_4
   try clear hcz12_5
   try clear hfz10_0
   try clear hfz10_1
   try clear hfz10_2
   try clear hfz10_3
   try clear hfz10_4
   try clear hfz10_5
   try clear hfz12_0
   try clear hfz12_1
   try clear hfz12_2
   try clear hfz12_3
   try clear hfz12_4
   try clear hfz12_5
   obtain ⟨kq, x51_7, rfl, HA, HJ7, BK215, HB⟩ := hcut
   cases kq with
   | zero => exact absurd HA.out (by simp [interchangelaw8_PartnerUntilIsTheLast.j0])
   | succ kj7 =>
    have H := HA.out
    clear HA
    simp only [interchangelaw8_PartnerUntilIsTheLast.j0] at H
    by_cases c18 : x51_7 = true
    ·subst c18
     have H1 : (some false) = some r := by rw [if_pos rfl] at H; exact H
     clear H
     have H := H1
     clear H1
     obtain rfl := Option.some.inj H
     go_wp2
     go_ret
     exact ⟨Z53, Z52⟩
    ·replace c18 := Bool.eq_false_iff.mpr c18
     subst c18
     have H1 : (if t220 = true then (if t216 < a2_4 then (some false) else ((interchangeref8_Below.f a3 (wrap64 ((wrap64 (t216 - a2_4)) + 1))).bind fun t224 => ((partner_Find.f kj7 l0 l1 a2_0 a2_1 a2_2 a2_3 (wrap64 (a2_4 + t224)) a2_5).bind fun bt225 => (if bt225.2.2 = 0 then (if bt225.2.1 = true then (interchangelaw8_PartnerUntilIsTheLast.j1 kj7 l0 l1 t216 t219 (bt225.1 != t219) a2_0 a2_1 a2_2 a2_3 (wrap64 (a2_4 + t224)) a2_5) else (interchangelaw8_PartnerUntilIsTheLast.j1 kj7 l0 l1 t216 t219 true a2_0 a2_1 a2_2 a2_3 (wrap64 (a2_4 + t224)) a2_5)) else (interchangelaw8_PartnerUntilIsTheLast.j1 kj7 l0 l1 t216 t219 true a2_0 a2_1 a2_2 a2_3 (wrap64 (a2_4 + t224)) a2_5))))) else (some true)) = some r := by rw [if_neg (show ¬ (false = true) by decide)] at H; exact H
     clear H
     have H := H1
     clear H1
     by_cases c19 : t220 = true
     ·subst c19
      have H1 : (if t216 < a2_4 then (some false) else ((interchangeref8_Below.f a3 (wrap64 ((wrap64 (t216 - a2_4)) + 1))).bind fun t224 => ((partner_Find.f kj7 l0 l1 a2_0 a2_1 a2_2 a2_3 (wrap64 (a2_4 + t224)) a2_5).bind fun bt225 => (if bt225.2.2 = 0 then (if bt225.2.1 = true then (interchangelaw8_PartnerUntilIsTheLast.j1 kj7 l0 l1 t216 t219 (bt225.1 != t219) a2_0 a2_1 a2_2 a2_3 (wrap64 (a2_4 + t224)) a2_5) else (interchangelaw8_PartnerUntilIsTheLast.j1 kj7 l0 l1 t216 t219 true a2_0 a2_1 a2_2 a2_3 (wrap64 (a2_4 + t224)) a2_5)) else (interchangelaw8_PartnerUntilIsTheLast.j1 kj7 l0 l1 t216 t219 true a2_0 a2_1 a2_2 a2_3 (wrap64 (a2_4 + t224)) a2_5))))) = some r := by rw [if_pos rfl] at H; exact H
      clear H
      have H := H1
      clear H1
      by_cases c20 : t216 < a2_4
      ·rw [if_pos c20] at H
       have c20b0 : decide (t216 < a2_4) = true := decide_eq_true c20
       clear c20
       obtain rfl := Option.some.inj H
       have hcz21_0 : wc.cell? ⟨gb215, 0, none⟩ = some (.string a2_0) := (blk_cell BK215.out 0).trans rfl
       have hcz21_1 : wc.cell? ⟨gb215, 1, none⟩ = some (.string a2_1) := (blk_cell BK215.out 1).trans rfl
       have hcz21_2 : wc.cell? ⟨gb215, 2, none⟩ = some (.string a2_2) := (blk_cell BK215.out 2).trans rfl
       have hcz21_3 : wc.cell? ⟨gb215, 3, none⟩ = some (.string a2_3) := (blk_cell BK215.out 3).trans rfl
       have hcz21_4 : wc.cell? ⟨gb215, 4, none⟩ = some (.int .i64 a2_4) := (blk_cell BK215.out 4).trans rfl
       have hcz21_5 : wc.cell? ⟨gb215, 5, none⟩ = some (.bool a2_5) := (blk_cell BK215.out 5).trans rfl
       have hfz21_0 := blk_frozen BK215.out 0
       have hfz21_1 := blk_frozen BK215.out 1
       have hfz21_2 := blk_frozen BK215.out 2
       have hfz21_3 := blk_frozen BK215.out 3
       have hfz21_4 := blk_frozen BK215.out 4
       have hfz21_5 := blk_frozen BK215.out 5
       go_wp2
       go_ret
       exact ⟨Z53, Z52⟩
      ·rw [if_neg c20] at H
       have c20b0 : decide (t216 < a2_4) = false := decide_eq_false c20
       clear c20
       replace H := Option.bind_eq_some_iff.mp H
       obtain ⟨t224, A220, H⟩ := H
       replace H : ((partner_Find.f kj7 l0 l1 a2_0 a2_1 a2_2 a2_3 (wrap64 (a2_4 + t224)) a2_5).bind fun bt225 => (if bt225.2.2 = 0 then (if bt225.2.1 = true then (interchangelaw8_PartnerUntilIsTheLast.j1 kj7 l0 l1 t216 t219 (bt225.1 != t219) a2_0 a2_1 a2_2 a2_3 (wrap64 (a2_4 + t224)) a2_5) else (interchangelaw8_PartnerUntilIsTheLast.j1 kj7 l0 l1 t216 t219 true a2_0 a2_1 a2_2 a2_3 (wrap64 (a2_4 + t224)) a2_5)) else (interchangelaw8_PartnerUntilIsTheLast.j1 kj7 l0 l1 t216 t219 true a2_0 a2_1 a2_2 a2_3 (wrap64 (a2_4 + t224)) a2_5))) = some r := H
       have A22 := Aside0.mk A220
       clear A220
       replace H := Option.bind_eq_some_iff.mp H
       obtain ⟨⟨t225, t226, t227⟩, A230, H⟩ := H
       replace H : (if t227 = 0 then (if t226 = true then (interchangelaw8_PartnerUntilIsTheLast.j1 kj7 l0 l1 t216 t219 (t225 != t219) a2_0 a2_1 a2_2 a2_3 (wrap64 (a2_4 + t224)) a2_5) else (interchangelaw8_PartnerUntilIsTheLast.j1 kj7 l0 l1 t216 t219 true a2_0 a2_1 a2_2 a2_3 (wrap64 (a2_4 + t224)) a2_5)) else (interchangelaw8_PartnerUntilIsTheLast.j1 kj7 l0 l1 t216 t219 true a2_0 a2_1 a2_2 a2_3 (wrap64 (a2_4 + t224)) a2_5)) = some r := H
       have A23 := Aside0.mk A230
       clear A230
       have HC24 := Aside0.mk H
       clear H
       have hcz25_0 : wc.cell? ⟨gb215, 0, none⟩ = some (.string a2_0) := (blk_cell BK215.out 0).trans rfl
       have hcz25_1 : wc.cell? ⟨gb215, 1, none⟩ = some (.string a2_1) := (blk_cell BK215.out 1).trans rfl
       have hcz25_2 : wc.cell? ⟨gb215, 2, none⟩ = some (.string a2_2) := (blk_cell BK215.out 2).trans rfl
       have hcz25_3 : wc.cell? ⟨gb215, 3, none⟩ = some (.string a2_3) := (blk_cell BK215.out 3).trans rfl
       have hcz25_4 : wc.cell? ⟨gb215, 4, none⟩ = some (.int .i64 a2_4) := (blk_cell BK215.out 4).trans rfl
       have hcz25_5 : wc.cell? ⟨gb215, 5, none⟩ = some (.bool a2_5) := (blk_cell BK215.out 5).trans rfl
       have hfz25_0 := blk_frozen BK215.out 0
       have hfz25_1 := blk_frozen BK215.out 1
       have hfz25_2 := blk_frozen BK215.out 2
       have hfz25_3 := blk_frozen BK215.out 3
       have hfz25_4 := blk_frozen BK215.out 4
       have hfz25_5 := blk_frozen BK215.out 5
       try go_wp2_with (first | ((with_reducible refine gate_dst (N := 13) rfl ?_); refine box_event ?hg (N := 13) ?hd (cs := #[.string (⟨#[]⟩ : ByteArray), .string (⟨#[]⟩ : ByteArray), .string (⟨#[]⟩ : ByteArray), .string (⟨#[]⟩ : ByteArray), .int .i64 0, .bool false]) (t := 37) ?hr ?_; (case hd => rfl); (case hg => rfl); (case hr => exact Z82); intro gb223 hg w26 hbox hb; have n0_ := Aside0.mk (blk_below (g := gb215) (o := .cells #[.string a2_0, .string a2_1, .string a2_2, .string a2_3, .int .i64 a2_4, .bool a2_5] 37 (0, 0)) Z74 hb); have n1_ := Aside0.mk (below_step Z52 hb); have n2_ := Aside0.mk (hbox); have n3_ := Aside0.mk ((by rw [hg]; exact (below_size Z52) : w.heap.size ≤ gb223)); have n4_ := Aside0.mk ((by rw [hg]; exact (below_size Z52) : w.heap.size ≤ gb223)); have n5_ := Aside0.mk ((by rw [hg]; exact Nat.ne_of_lt (blk_lt (g := gb215) (o := .cells #[.string a2_0, .string a2_1, .string a2_2, .string a2_3, .int .i64 a2_4, .bool a2_5] 37 (0, 0)) Z74) : gb215 ≠ gb223)); have n6_ := Aside0.mk ((by rw [hg]; exact Nat.ne_of_gt (blk_lt (g := gb215) (o := .cells #[.string a2_0, .string a2_1, .string a2_2, .string a2_3, .int .i64 a2_4, .bool a2_5] 37 (0, 0)) Z74) : gb223 ≠ gb215)); clear BK215; clear HB; have BK215 := n0_; have HB := n1_; have BK223 := n2_; have GW223 := n3_; have GE223 := n4_; have NB215_223 := n5_; have NB223_215 := n6_; clear n0_ n1_ n2_ n3_ n4_ n5_ n6_; clear hb hbox hg; have hnb27 := NB223_215.out; have hnc27 := NB215_223.out; obtain ⟨hcz28_0, hcz28_1, hcz28_2, hcz28_3, hcz28_4, hcz28_5, hfz28_0, hfz28_1, hfz28_2, hfz28_3, hfz28_4, hfz28_5⟩ := bf6 BK223.out))
       have n0_ : Aside0 (((((((w26.setCell ⟨gb223, 0, none⟩ (.string a2_0)).setCell ⟨gb223, 1, none⟩ (.string a2_1)).setCell ⟨gb223, 2, none⟩ (.string a2_2)).setCell ⟨gb223, 3, none⟩ (.string a2_3)).setCell ⟨gb223, 4, none⟩ (.int .i64 a2_4)).setCell ⟨gb223, 5, none⟩ (.bool a2_5)).heap[gb215]? = some (.cells #[.string a2_0, .string a2_1, .string a2_2, .string a2_3, .int .i64 a2_4, .bool a2_5] 37 (0, 0))) := ⟨by (with_reducible repeat (first | refine blk_drewN ?_ _ | refine blk_drew ?_ | refine blk_alloc ?_ _)); refine blk_far ?_ NB215_223.out _; (with_reducible repeat (first | refine blk_drewN ?_ _ | refine blk_drew ?_ | refine blk_alloc ?_ _)); refine blk_far ?_ NB215_223.out _; (with_reducible repeat (first | refine blk_drewN ?_ _ | refine blk_drew ?_ | refine blk_alloc ?_ _)); refine blk_far ?_ NB215_223.out _; (with_reducible repeat (first | refine blk_drewN ?_ _ | refine blk_drew ?_ | refine blk_alloc ?_ _)); refine blk_far ?_ NB215_223.out _; (with_reducible repeat (first | refine blk_drewN ?_ _ | refine blk_drew ?_ | refine blk_alloc ?_ _)); refine blk_far ?_ NB215_223.out _; (with_reducible repeat (first | refine blk_drewN ?_ _ | refine blk_drew ?_ | refine blk_alloc ?_ _)); refine blk_far ?_ NB215_223.out _; (with_reducible repeat (first | refine blk_drewN ?_ _ | refine blk_drew ?_ | refine blk_alloc ?_ _)); exact BK215.out⟩
       have n1_ : Aside0 (((((((w26.setCell ⟨gb223, 0, none⟩ (.string a2_0)).setCell ⟨gb223, 1, none⟩ (.string a2_1)).setCell ⟨gb223, 2, none⟩ (.string a2_2)).setCell ⟨gb223, 3, none⟩ (.string a2_3)).setCell ⟨gb223, 4, none⟩ (.int .i64 a2_4)).setCell ⟨gb223, 5, none⟩ (.bool a2_5)).heap[gb223]? = some (.cells #[.string a2_0, .string a2_1, .string a2_2, .string a2_3, .int .i64 a2_4, .bool a2_5] 37 (0, 0))) := ⟨by (with_reducible repeat (first | refine blk_drewN ?_ _ | refine blk_drew ?_ | refine blk_alloc ?_ _)); refine blk_put (cs := #[.string a2_0, .string a2_1, .string a2_2, .string a2_3, .int .i64 a2_4, .bool false]) ?_ 5 _ rfl; (with_reducible repeat (first | refine blk_drewN ?_ _ | refine blk_drew ?_ | refine blk_alloc ?_ _)); refine blk_put (cs := #[.string a2_0, .string a2_1, .string a2_2, .string a2_3, .int .i64 0, .bool false]) ?_ 4 _ rfl; (with_reducible repeat (first | refine blk_drewN ?_ _ | refine blk_drew ?_ | refine blk_alloc ?_ _)); refine blk_put (cs := #[.string a2_0, .string a2_1, .string a2_2, .string (⟨#[]⟩ : ByteArray), .int .i64 0, .bool false]) ?_ 3 _ rfl; (with_reducible repeat (first | refine blk_drewN ?_ _ | refine blk_drew ?_ | refine blk_alloc ?_ _)); refine blk_put (cs := #[.string a2_0, .string a2_1, .string (⟨#[]⟩ : ByteArray), .string (⟨#[]⟩ : ByteArray), .int .i64 0, .bool false]) ?_ 2 _ rfl; (with_reducible repeat (first | refine blk_drewN ?_ _ | refine blk_drew ?_ | refine blk_alloc ?_ _)); refine blk_put (cs := #[.string a2_0, .string (⟨#[]⟩ : ByteArray), .string (⟨#[]⟩ : ByteArray), .string (⟨#[]⟩ : ByteArray), .int .i64 0, .bool false]) ?_ 1 _ rfl; (with_reducible repeat (first | refine blk_drewN ?_ _ | refine blk_drew ?_ | refine blk_alloc ?_ _)); refine blk_put (cs := #[.string (⟨#[]⟩ : ByteArray), .string (⟨#[]⟩ : ByteArray), .string (⟨#[]⟩ : ByteArray), .string (⟨#[]⟩ : ByteArray), .int .i64 0, .bool false]) ?_ 0 _ rfl; (with_reducible repeat (first | refine blk_drewN ?_ _ | refine blk_drew ?_ | refine blk_alloc ?_ _)); exact BK223.out⟩
       have n2_ : Aside0 (Below w.heap.size w ((((((w26.setCell ⟨gb223, 0, none⟩ (.string a2_0)).setCell ⟨gb223, 1, none⟩ (.string a2_1)).setCell ⟨gb223, 2, none⟩ (.string a2_2)).setCell ⟨gb223, 3, none⟩ (.string a2_3)).setCell ⟨gb223, 4, none⟩ (.int .i64 a2_4)).setCell ⟨gb223, 5, none⟩ (.bool a2_5))) := ⟨Z32⟩
       (try clear BK215)
       (try clear BK223)
       (try clear HB)
       generalize ((((((w26.setCell ⟨gb223, 0, none⟩ (.string a2_0)).setCell ⟨gb223, 1, none⟩ (.string a2_1)).setCell ⟨gb223, 2, none⟩ (.string a2_2)).setCell ⟨gb223, 3, none⟩ (.string a2_3)).setCell ⟨gb223, 4, none⟩ (.int .i64 a2_4)).setCell ⟨gb223, 5, none⟩ (.bool a2_5)) = w29 at n0_ n1_ n2_ ⊢
       have BK215 := n0_
       have BK223 := n1_
       have HB := n2_
       clear n0_ n1_ n2_
       have n0_ := Aside0.mk (blk_drew BK215.out)
       have n1_ := Aside0.mk (blk_drew BK223.out)
       have n2_ := Aside0.mk (below_drew1 HB.out)
       clear BK215
       clear BK223
       clear HB
       have BK215 := n0_
       have BK223 := n1_
       have HB := n2_
       clear n0_ n1_ n2_
       refine start_ (n := 12) (S := fun w' => w'.cell? ⟨gb215, 0, none⟩ = some (.string a2_0) ∧ w'.cell? ⟨gb215, 1, none⟩ = some (.string a2_1) ∧ w'.cell? ⟨gb215, 2, none⟩ = some (.string a2_2) ∧ w'.cell? ⟨gb215, 3, none⟩ = some (.string a2_3) ∧ w'.cell? ⟨gb215, 4, none⟩ = some (.int .i64 a2_4) ∧ w'.cell? ⟨gb215, 5, none⟩ = some (.bool a2_5)) (ds := []) #[false, false, false, false, false, false, false, false, false, false, false, false] (by kernel_rfl) rfl rfl ⟨(blk_cell BK215.out 0).trans rfl, (blk_cell BK215.out 1).trans rfl, (blk_cell BK215.out 2).trans rfl, (blk_cell BK215.out 3).trans rfl, (blk_cell BK215.out 4).trans rfl, (blk_cell BK215.out 5).trans rfl⟩ (fun hHeld => ?_); refine with_tabW interchangelaw8_PartnerUntilIsTheLast.tab12 interchangelaw8_PartnerUntilIsTheLast.bits12 (fun HT_ HW_ => ?_)
       generalize w29.drew = w30 at BK215 BK223 HB hHeld ⊢
       refine pure_ (i := 0) (N := some 59) (v := ?_) (a' := ?_) #[true, false, false, false, false, false, false, false, false, false, false, false] rfl rfl (any_of HT_.out (by kernel_rfl)) (fun _ _ _ h => h) (Or.inl ⟨by rfl, ?_⟩) ?_ ?_
       rotate_left
       ·intro w'
        go_simp
        with_reducible rfl
       rotate_left
       ·simp only [Act.put, List.setIfInBounds_toArray, List.set_cons_zero, List.set_cons_succ, i64_w, i32_w]
        rfl
       refine pure_ (i := 2) (N := some 61) (v := ?_) (a' := ?_) #[true, false, true, false, false, false, false, false, false, false, false, false] rfl rfl (any_of HT_.out (by kernel_rfl)) (fun _ _ _ h => h) (Or.inl ⟨by rfl, ?_⟩) ?_ ?_
       rotate_left
       ·intro w'
        go_simp
        with_reducible rfl
       rotate_left
       ·simp only [Act.put, List.setIfInBounds_toArray, List.set_cons_zero, List.set_cons_succ, i64_w, i32_w]
        rfl
       refine pure_ (i := 3) (N := some 62) (v := ?_) (a' := ?_) #[true, false, true, true, false, false, false, false, false, false, false, false] rfl rfl (any_of HT_.out (by kernel_rfl)) (fun _ _ _ h => h) (Or.inl ⟨by rfl, ?_⟩) ?_ ?_
       rotate_left
       ·intro w'
        go_simp
        with_reducible rfl
       rotate_left
       ·simp only [Act.put, List.setIfInBounds_toArray, List.set_cons_zero, List.set_cons_succ, i64_w, i32_w]
        rfl
       refine pure_ (i := 4) (N := some 63) (v := ?_) (a' := ?_) #[true, false, true, true, true, false, false, false, false, false, false, false] rfl rfl (any_of HT_.out (by kernel_rfl)) (fun _ _ _ h => h) (Or.inl ⟨by rfl, ?_⟩) ?_ ?_
       rotate_left
       ·intro w'
        go_simp
        with_reducible rfl
       rotate_left
       ·simp only [Act.put, List.setIfInBounds_toArray, List.set_cons_zero, List.set_cons_succ, i64_w, i32_w]
        rfl
       refine take_ (i := 1) (N := some 60) (v := ?_) (a' := ?_) #[true, true, true, true, true, false, false, false, false, false, false, false] rfl rfl (take_ofW HT_.out HW_.out (by kernel_rfl)) (fun _ _ _ h => h) (Or.inl ⟨by rfl, ?_⟩) hHeld ?_ ?_
       rotate_left
       ·rintro w' ⟨s0, s1, s2, s3, s4, s5⟩
        go_simp
        with_reducible rfl
       rotate_left
       ·simp only [Act.put, List.setIfInBounds_toArray, List.set_cons_zero, List.set_cons_succ, i64_w, i32_w]
        rfl
       refine take_ (i := 5) (N := some 64) (v := ?_) (a' := ?_) #[true, true, true, true, true, true, false, false, false, false, false, false] rfl rfl (take_ofW HT_.out HW_.out (by kernel_rfl)) (fun _ _ _ h => h) (Or.inl ⟨by rfl, ?_⟩) hHeld ?_ ?_
       rotate_left
       ·rintro w' ⟨s0, s1, s2, s3, s4, s5⟩
        go_simp
        with_reducible rfl
       rotate_left
       ·simp only [Act.put, List.setIfInBounds_toArray, List.set_cons_zero, List.set_cons_succ, i64_w, i32_w]
        rfl
       refine pure_ (i := 6) (N := some 65) (v := ?_) (a' := ?_) #[true, true, true, true, true, true, true, false, false, false, false, false] rfl rfl (any_of HT_.out (by kernel_rfl)) (fun _ _ _ h => h) (Or.inl ⟨by rfl, ?_⟩) ?_ ?_
       rotate_left
       ·intro w'
        go_simp
        with_reducible rfl
       rotate_left
       ·simp only [Act.put, List.setIfInBounds_toArray, List.set_cons_zero, List.set_cons_succ, i64_w, i32_w]
        rfl
       refine pure_ (i := 7) (N := some 66) (v := ?_) (a' := ?_) #[true, true, true, true, true, true, true, true, false, false, false, false] rfl rfl (any_of HT_.out (by kernel_rfl)) (fun _ _ _ h => h) (Or.inl ⟨by rfl, ?_⟩) ?_ ?_
       rotate_left
       ·intro w'
        go_simp
        with_reducible rfl
       rotate_left
       ·simp only [Act.put, List.setIfInBounds_toArray, List.set_cons_zero, List.set_cons_succ, i64_w, i32_w]
        rfl
       refine one_ (i := 8) (N := some 67) #[true, true, true, true, true, true, true, true, true, false, false, false] rfl rfl (one_of HT_.out (by kernel_rfl)) (by decide) (fun K hK => ?_)
       refine goes_ Tryd.func40 (by kernel_rfl) rfl #[.int .i64 a3, .int .i64 (wrap64 ((wrap64 (t216 - a2_4)) + 1))] (by rfl) rfl rfl Z33 ?_
       with_reducible refine (interchangeref8_Below.calls a3 (wrap64 ((wrap64 (t216 - a2_4)) + 1)) t224 _ A22.out).mono ?_
       rintro e w' ⟨rfl, ⟨nd, rfl⟩⟩
       refine ⟨_, rfl, ?_⟩
       refine hK.out _ _ ⟨(blk_cell BK215.out 0).trans rfl, (blk_cell BK215.out 1).trans rfl, (blk_cell BK215.out 2).trans rfl, (blk_cell BK215.out 3).trans rfl, (blk_cell BK215.out 4).trans rfl, (blk_cell BK215.out 5).trans rfl⟩ (fun hHeld => ?_)
       clear hK K
       refine norm_ (a' := ?_) ?_ ?_
       rotate_left
       ·show Act.put _ (some 67) _ = _
        simp only [Act.put, List.setIfInBounds_toArray, List.set_cons_zero, List.set_cons_succ, i64_w, i32_w]
        rfl
       refine pure_ (i := 9) (N := some 68) (v := ?_) (a' := ?_) #[true, true, true, true, true, true, true, true, true, true, false, false] rfl rfl (any_of HT_.out (by kernel_rfl)) (fun _ _ _ h => h) (Or.inl ⟨by rfl, ?_⟩) ?_ ?_
       rotate_left
       ·intro w'
        go_simp
        with_reducible rfl
       rotate_left
       ·simp only [Act.put, List.setIfInBounds_toArray, List.set_cons_zero, List.set_cons_succ, i64_w, i32_w]
        rfl
       refine pure_ (i := 10) (N := some 69) (v := ?_) (a' := ?_) #[true, true, true, true, true, true, true, true, true, true, true, false] rfl rfl (any_of HT_.out (by kernel_rfl)) (fun _ _ _ h => h) (Or.inl ⟨by rfl, ?_⟩) ?_ ?_
       rotate_left
       ·intro w'
        go_simp
        with_reducible rfl
       rotate_left
       ·simp only [Act.put, List.setIfInBounds_toArray, List.set_cons_zero, List.set_cons_succ, i64_w, i32_w]
        rfl
       refine one_ (i := 11) (N := none) #[true, true, true, true, true, true, true, true, true, true, true, true] rfl rfl (one_of HT_.out (by kernel_rfl)) (by decide) (fun K hK => ?_)
       have hs31 : w30.cell? ⟨gb223, 4, none⟩ = some (.int .i64 a2_4) := (blk_cell BK223.out 4).trans rfl
       have hfs31 := blk_frozen BK223.out 4
       have hns31_0 := NB215_223.out
       have hms31_0 := NB223_215.out
       refine skip_ (w1 := ?_) (by rfl) rfl ?_ ?_
       rotate_left
       ·go_simp
        rfl
       refine hK.out _ _ ⟨((cell_far (p := ⟨gb223, _, none⟩) NB215_223.out _).trans (hHeld.1)), ((cell_far (p := ⟨gb223, _, none⟩) NB215_223.out _).trans (hHeld.2.1)), ((cell_far (p := ⟨gb223, _, none⟩) NB215_223.out _).trans (hHeld.2.2.1)), ((cell_far (p := ⟨gb223, _, none⟩) NB215_223.out _).trans (hHeld.2.2.2.1)), ((cell_far (p := ⟨gb223, _, none⟩) NB215_223.out _).trans (hHeld.2.2.2.2.1)), ((cell_far (p := ⟨gb223, _, none⟩) NB215_223.out _).trans (hHeld.2.2.2.2.2))⟩ (fun hHeld => ?_)
       clear hK K
       refine done_ (done_of HT_.out (by kernel_rfl)) ?_
       obtain ⟨hcz32_0, hcz32_1, hcz32_2, hcz32_3, hcz32_4, hcz32_5, hfz32_0, hfz32_1, hfz32_2, hfz32_3, hfz32_4, hfz32_5⟩ := bf6 BK223.out
       go_upto_region 14 with (first | ((with_reducible refine gate_callee (f := 29) rfl ?_); refine goesL_ (some 74) rfl rfl Tryd.func29 (by kernel_rfl) rfl #[.slice A0 l0.length c0, .slice A1 l1.length c1, .agg #[.string a2_0, .string a2_1, .string a2_2, .string a2_3, .int .i64 (wrap64 (a2_4 + t224)), .bool a2_5]] rfl Z33 ?_; (with_reducible refine (partner_Find.calls kj7 _ _ l0 _ _ l1 a2_0 a2_1 a2_2 a2_3 (wrap64 (a2_4 + t224)) a2_5 t225 t226 t227 _ ?side1 ?side2 ?side3 ?side4 A23.out).mono ?_); (case side1 => exact Z21); (case side2 => exact Z84); (case side3 => exact Z22); (case side4 => exact Z85); rintro e w33 ⟨rfl, hb⟩; refine ⟨_, rfl, ?_⟩; have n0_ := Aside0.mk (blk_below (g := gb215) (o := .cells #[.string a2_0, .string a2_1, .string a2_2, .string a2_3, .int .i64 a2_4, .bool a2_5] 37 (0, 0)) Z19 hb); have n1_ := Aside0.mk (blk_below (g := gb223) (o := .cells #[.string a2_0, .string a2_1, .string a2_2, .string a2_3, .int .i64 (wrap64 (a2_4 + t224)), .bool a2_5] 37 (0, 0)) (by (with_reducible repeat (first | refine blk_drewN ?_ _ | refine blk_drew ?_ | refine blk_alloc ?_ _)); refine blk_put (cs := #[.string a2_0, .string a2_1, .string a2_2, .string a2_3, .int .i64 a2_4, .bool a2_5]) ?_ 4 _ rfl; (with_reducible repeat (first | refine blk_drewN ?_ _ | refine blk_drew ?_ | refine blk_alloc ?_ _)); exact BK223.out) hb); have n2_ := Aside0.mk (below_step Z32 hb); clear BK215; clear BK223; clear HB; have BK215 := n0_; have BK223 := n1_; have HB := n2_; clear n0_ n1_ n2_; (try clear hb); (try clear hb2); (try clear hk); (try clear hi)))
       (try simp only [Act.put, List.setIfInBounds_toArray, List.set_cons_zero, List.set_cons_succ])
       go_cut [88] (fun v88 wc => ∃ (kq : Nat) (x88_23 : Bool), v88 = .bool x88_23 ∧ Aside0 (interchangelaw8_PartnerUntilIsTheLast.j1 kq l0 l1 t216 t219 x88_23 a2_0 a2_1 a2_2 a2_3 (wrap64 (a2_4 + t224)) a2_5 = some r) ∧ Aside0 (kq ≤ kj7) ∧ Aside0 (wc.heap[gb215]? = some (.cells #[.string a2_0, .string a2_1, .string a2_2, .string a2_3, .int .i64 a2_4, .bool a2_5] 37 (0, 0))) ∧ Aside0 (wc.heap[gb223]? = some (.cells #[.string a2_0, .string a2_1, .string a2_2, .string a2_3, .int .i64 (wrap64 (a2_4 + t224)), .bool a2_5] 37 (0, 0))) ∧ Aside0 (Below w.heap.size w wc))
       case first =>
        have H := HC24.out
        clear HC24
        by_cases c34 : t227 = 0
        ·rw [if_pos c34] at H
         have c34b0 : (t227 == 0) = true := beq_iff_eq.mpr c34
         have c34b1 : (t227 != 0) = false := bne_eq_false_iff_eq.mpr c34
         clear c34
         (first | rw [c34b0] | (simp only [i64_w, i32_w]; rw [c34b0]) | skip)
         by_cases c35 : t226 = true
         ·subst c35
          have H1 : (interchangelaw8_PartnerUntilIsTheLast.j1 kj7 l0 l1 t216 t219 (t225 != t219) a2_0 a2_1 a2_2 a2_3 (wrap64 (a2_4 + t224)) a2_5) = some r := by rw [if_pos rfl] at H; exact H
          clear H
          have H := H1
          clear H1
          have H' := Aside0.mk H
          clear H
          go_wp2
          go_meet
          case rel => exact ⟨_, ((t225 != t219)), Z78, H', ⟨by have := HJ7.out; first | omega | exact Nat.le_refl _⟩, ⟨Z74⟩, ⟨Z75⟩, ⟨Z32⟩⟩
         ·replace c35 := Bool.eq_false_iff.mpr c35
          subst c35
          have H1 : (interchangelaw8_PartnerUntilIsTheLast.j1 kj7 l0 l1 t216 t219 true a2_0 a2_1 a2_2 a2_3 (wrap64 (a2_4 + t224)) a2_5) = some r := by rw [if_neg (show ¬ (false = true) by decide)] at H; exact H
          clear H
          have H := H1
          clear H1
          have H' := Aside0.mk H
          clear H
          go_wp2
          go_meet
          case rel => exact ⟨_, (true), Z78, H', ⟨by have := HJ7.out; first | omega | exact Nat.le_refl _⟩, ⟨Z74⟩, ⟨Z75⟩, ⟨Z32⟩⟩
        ·rw [if_neg c34] at H
         have c34b0 : (t227 == 0) = false := beq_eq_false_iff_ne.mpr c34
         have c34b1 : (t227 != 0) = true := bne_iff_ne.mpr c34
         (first | rw [c34b0] | (simp only [i64_w, i32_w]; rw [c34b0]) | skip)
         have H' := Aside0.mk H
         clear H
         go_wp2
         go_meet
         case rel => exact ⟨_, (true), Z78, H', ⟨by have := HJ7.out; first | omega | exact Nat.le_refl _⟩, ⟨Z74⟩, ⟨Z75⟩, ⟨Z32⟩⟩
       case rest =>
        clear HC24
        try clear c1
        try clear c2
        try clear p2
        try clear c3
        try clear c4
        try clear c6
        try clear c6b0
        try clear c6b1
        try clear p6
        try clear c11
        try clear c14
        try clear c14b0
        try clear c14b1
        try clear c15
        try clear c15b0
        try clear c15b1
        try clear c15b2
        try clear c18
        try clear c19
        try clear c20
        try clear c20b0
        try clear c27
        try clear c29
        try clear c34
        try clear c34b0
        try clear c34b1
        try clear c35
        try clear hcz10_0
        try clear hcz10_1
        try clear hcz10_2
        try clear hcz10_3
        try clear hcz10_4
        try clear hcz10_5
        try clear hcz12_0
        try clear hcz12_1
        try clear hcz12_2
        try clear hcz12_3
        try clear hcz12_4
        try clear hcz12_5
        try clear hcz21_0
        try clear hcz21_1
        try clear hcz21_2
        try clear hcz21_3
        try clear hcz21_4
        try clear hcz21_5
        try clear hcz25_0
        try clear hcz25_1
        try clear hcz25_2
        try clear hcz25_3
        try clear hcz25_4
        try clear hcz25_5
        try clear hcz28_0
        try clear hcz28_1
        try clear hcz28_2
        try clear hcz28_3
        try clear hcz28_4
        try clear hcz28_5
        try clear hcz32_0
        try clear hcz32_1
        try clear hcz32_2
        try clear hcz32_3
        try clear hcz32_4
        try clear hcz32_5
        try clear hfz10_0
        try clear hfz10_1
        try clear hfz10_2
        try clear hfz10_3
        try clear hfz10_4
        try clear hfz10_5
        try clear hfz12_0
        try clear hfz12_1
        try clear hfz12_2
        try clear hfz12_3
        try clear hfz12_4
        try clear hfz12_5
        try clear hfz21_0
        try clear hfz21_1
        try clear hfz21_2
        try clear hfz21_3
        try clear hfz21_4
        try clear hfz21_5
        try clear hfz25_0
        try clear hfz25_1
        try clear hfz25_2
        try clear hfz25_3
        try clear hfz25_4
        try clear hfz25_5
        try clear hfz28_0
        try clear hfz28_1
        try clear hfz28_2
        try clear hfz28_3
        try clear hfz28_4
        try clear hfz28_5
        try clear hfz32_0
        try clear hfz32_1
        try clear hfz32_2
        try clear hfz32_3
        try clear hfz32_4
        try clear hfz32_5
        try clear p2
        obtain ⟨kq, x88_23, rfl, HA, HJ23, BK215, BK223, HB⟩ := hcut
        cases kq with
        | zero => exact absurd HA.out (by simp [interchangelaw8_PartnerUntilIsTheLast.j1])
        | succ kj23 =>
         have H := HA.out
         clear HA
         simp only [interchangelaw8_PartnerUntilIsTheLast.j1] at H
         by_cases c36 : x88_23 = true
         ·subst c36
          have H1 : (some false) = some r := by rw [if_pos rfl] at H; exact H
          clear H
          have H := H1
          clear H1
          obtain rfl := Option.some.inj H
          go_wp2
          go_ret
          exact ⟨Z53, Z32⟩
         ·replace c36 := Bool.eq_false_iff.mpr c36
          subst c36
          have H1 : (if t216 = 3652059 then (some true) else ((partner_Find.f kj23 l0 l1 a2_0 a2_1 a2_2 a2_3 (wrap64 (t216 + 1)) a2_5).bind fun bt228 => (if bt228.2.2 = 0 then (if bt228.2.1 = true then (some (bt228.1 != t219)) else (some true)) else (some false)))) = some r := by rw [if_neg (show ¬ (false = true) by decide)] at H; exact H
          clear H
          have H := H1
          clear H1
          by_cases c37 : t216 = 3652059
          ·rw [if_pos c37] at H
           have c37b0 : (t216 == 3652059) = true := beq_iff_eq.mpr c37
           have c37b1 : (t216 != 3652059) = false := bne_eq_false_iff_eq.mpr c37
           clear c37
           obtain rfl := Option.some.inj H
           go_wp2
           go_ret
           exact ⟨Z53, Z32⟩
          ·rw [if_neg c37] at H
           have c37b0 : (t216 == 3652059) = false := beq_eq_false_iff_ne.mpr c37
           have c37b1 : (t216 != 3652059) = true := bne_iff_ne.mpr c37
           replace H := Option.bind_eq_some_iff.mp H
           obtain ⟨⟨t228, t229, t230⟩, A380, H⟩ := H
           replace H : (if t230 = 0 then (if t229 = true then (some (t228 != t219)) else (some true)) else (some false)) = some r := H
           have A38 := Aside0.mk A380
           clear A380
           by_cases c39 : t230 = 0
           ·rw [if_pos c39] at H
            have c39b0 : (t230 == 0) = true := beq_iff_eq.mpr c39
            have c39b1 : (t230 != 0) = false := bne_eq_false_iff_eq.mpr c39
            clear c39
            by_cases c40 : t229 = true
            ·subst c40
             have H1 : (some (t228 != t219)) = some r := by rw [if_pos rfl] at H; exact H
             clear H
             have H := H1
             clear H1
             obtain rfl := Option.some.inj H
             have hnb41 := NB223_215.out
             have hnc41 := NB215_223.out
             have hcz42_0 : wc.cell? ⟨gb223, 0, none⟩ = some (.string a2_0) := (blk_cell BK223.out 0).trans rfl
             have hcz42_1 : wc.cell? ⟨gb223, 1, none⟩ = some (.string a2_1) := (blk_cell BK223.out 1).trans rfl
             have hcz42_2 : wc.cell? ⟨gb223, 2, none⟩ = some (.string a2_2) := (blk_cell BK223.out 2).trans rfl
             have hcz42_3 : wc.cell? ⟨gb223, 3, none⟩ = some (.string a2_3) := (blk_cell BK223.out 3).trans rfl
             have hcz42_4 : wc.cell? ⟨gb223, 4, none⟩ = some (.int .i64 (wrap64 (a2_4 + t224))) := (blk_cell BK223.out 4).trans rfl
             have hcz42_5 : wc.cell? ⟨gb223, 5, none⟩ = some (.bool a2_5) := (blk_cell BK223.out 5).trans rfl
             have hfz42_0 := blk_frozen BK223.out 0
             have hfz42_1 := blk_frozen BK223.out 1
             have hfz42_2 := blk_frozen BK223.out 2
             have hfz42_3 := blk_frozen BK223.out 3
             have hfz42_4 := blk_frozen BK223.out 4
             have hfz42_5 := blk_frozen BK223.out 5
             go_wp2_with (first | ((with_reducible refine gate_callee (f := 29) rfl ?_); refine goesL_ (some 98) rfl rfl Tryd.func29 (by kernel_rfl) rfl #[.slice A0 l0.length c0, .slice A1 l1.length c1, .agg #[.string a2_0, .string a2_1, .string a2_2, .string a2_3, .int .i64 (wrap64 (t216 + 1)), .bool a2_5]] rfl Z33 ?_; (with_reducible refine (partner_Find.calls kj23 _ _ l0 _ _ l1 a2_0 a2_1 a2_2 a2_3 (wrap64 (t216 + 1)) a2_5 t228 true t230 _ ?side1 ?side2 ?side3 ?side4 A38.out).mono ?_); (case side1 => exact Z21); (case side2 => exact Z84); (case side3 => exact Z22); (case side4 => exact Z85); rintro e w43 ⟨rfl, hb⟩; refine ⟨_, rfl, ?_⟩; have n0_ := Aside0.mk (blk_below (g := gb215) (o := .cells #[.string a2_0, .string a2_1, .string a2_2, .string a2_3, .int .i64 a2_4, .bool a2_5] 37 (0, 0)) Z19 hb); have n1_ := Aside0.mk (blk_below (g := gb223) (o := .cells #[.string a2_0, .string a2_1, .string a2_2, .string a2_3, .int .i64 (wrap64 (t216 + 1)), .bool a2_5] 37 (0, 0)) Z9 hb); have n2_ := Aside0.mk (below_step Z32 hb); clear BK215; clear BK223; clear HB; have BK215 := n0_; have BK223 := n1_; have HB := n2_; clear n0_ n1_ n2_; (try clear hb); (try clear hb2); (try clear hk); (try clear hi)))
             go_ret
             exact ⟨Z53, Z32⟩
            ·replace c40 := Bool.eq_false_iff.mpr c40
             subst c40
             have H1 : (some true) = some r := by rw [if_neg (show ¬ (false = true) by decide)] at H; exact H
             clear H
             have H := H1
             clear H1
             obtain rfl := Option.some.inj H
             have hnb44 := NB223_215.out
             have hnc44 := NB215_223.out
             have hcz45_0 : wc.cell? ⟨gb223, 0, none⟩ = some (.string a2_0) := (blk_cell BK223.out 0).trans rfl
             have hcz45_1 : wc.cell? ⟨gb223, 1, none⟩ = some (.string a2_1) := (blk_cell BK223.out 1).trans rfl
             have hcz45_2 : wc.cell? ⟨gb223, 2, none⟩ = some (.string a2_2) := (blk_cell BK223.out 2).trans rfl
             have hcz45_3 : wc.cell? ⟨gb223, 3, none⟩ = some (.string a2_3) := (blk_cell BK223.out 3).trans rfl
             have hcz45_4 : wc.cell? ⟨gb223, 4, none⟩ = some (.int .i64 (wrap64 (a2_4 + t224))) := (blk_cell BK223.out 4).trans rfl
             have hcz45_5 : wc.cell? ⟨gb223, 5, none⟩ = some (.bool a2_5) := (blk_cell BK223.out 5).trans rfl
             have hfz45_0 := blk_frozen BK223.out 0
             have hfz45_1 := blk_frozen BK223.out 1
             have hfz45_2 := blk_frozen BK223.out 2
             have hfz45_3 := blk_frozen BK223.out 3
             have hfz45_4 := blk_frozen BK223.out 4
             have hfz45_5 := blk_frozen BK223.out 5
             go_wp2_with (first | ((with_reducible refine gate_callee (f := 29) rfl ?_); refine goesL_ (some 98) rfl rfl Tryd.func29 (by kernel_rfl) rfl #[.slice A0 l0.length c0, .slice A1 l1.length c1, .agg #[.string a2_0, .string a2_1, .string a2_2, .string a2_3, .int .i64 (wrap64 (t216 + 1)), .bool a2_5]] rfl Z33 ?_; (with_reducible refine (partner_Find.calls kj23 _ _ l0 _ _ l1 a2_0 a2_1 a2_2 a2_3 (wrap64 (t216 + 1)) a2_5 t228 false t230 _ ?side1 ?side2 ?side3 ?side4 A38.out).mono ?_); (case side1 => exact Z21); (case side2 => exact Z84); (case side3 => exact Z22); (case side4 => exact Z85); rintro e w46 ⟨rfl, hb⟩; refine ⟨_, rfl, ?_⟩; have n0_ := Aside0.mk (blk_below (g := gb215) (o := .cells #[.string a2_0, .string a2_1, .string a2_2, .string a2_3, .int .i64 a2_4, .bool a2_5] 37 (0, 0)) Z19 hb); have n1_ := Aside0.mk (blk_below (g := gb223) (o := .cells #[.string a2_0, .string a2_1, .string a2_2, .string a2_3, .int .i64 (wrap64 (t216 + 1)), .bool a2_5] 37 (0, 0)) Z9 hb); have n2_ := Aside0.mk (below_step Z32 hb); clear BK215; clear BK223; clear HB; have BK215 := n0_; have BK223 := n1_; have HB := n2_; clear n0_ n1_ n2_; (try clear hb); (try clear hb2); (try clear hk); (try clear hi)))
             go_ret
             exact ⟨Z53, Z32⟩
           ·rw [if_neg c39] at H
            have c39b0 : (t230 == 0) = false := beq_eq_false_iff_ne.mpr c39
            have c39b1 : (t230 != 0) = true := bne_iff_ne.mpr c39
            obtain rfl := Option.some.inj H
            have hnb47 := NB223_215.out
            have hnc47 := NB215_223.out
            have hcz48_0 : wc.cell? ⟨gb223, 0, none⟩ = some (.string a2_0) := (blk_cell BK223.out 0).trans rfl
            have hcz48_1 : wc.cell? ⟨gb223, 1, none⟩ = some (.string a2_1) := (blk_cell BK223.out 1).trans rfl
            have hcz48_2 : wc.cell? ⟨gb223, 2, none⟩ = some (.string a2_2) := (blk_cell BK223.out 2).trans rfl
            have hcz48_3 : wc.cell? ⟨gb223, 3, none⟩ = some (.string a2_3) := (blk_cell BK223.out 3).trans rfl
            have hcz48_4 : wc.cell? ⟨gb223, 4, none⟩ = some (.int .i64 (wrap64 (a2_4 + t224))) := (blk_cell BK223.out 4).trans rfl
            have hcz48_5 : wc.cell? ⟨gb223, 5, none⟩ = some (.bool a2_5) := (blk_cell BK223.out 5).trans rfl
            have hfz48_0 := blk_frozen BK223.out 0
            have hfz48_1 := blk_frozen BK223.out 1
            have hfz48_2 := blk_frozen BK223.out 2
            have hfz48_3 := blk_frozen BK223.out 3
            have hfz48_4 := blk_frozen BK223.out 4
            have hfz48_5 := blk_frozen BK223.out 5
            go_wp2_with (first | ((with_reducible refine gate_callee (f := 29) rfl ?_); refine goesL_ (some 98) rfl rfl Tryd.func29 (by kernel_rfl) rfl #[.slice A0 l0.length c0, .slice A1 l1.length c1, .agg #[.string a2_0, .string a2_1, .string a2_2, .string a2_3, .int .i64 (wrap64 (t216 + 1)), .bool a2_5]] rfl Z33 ?_; (with_reducible refine (partner_Find.calls kj23 _ _ l0 _ _ l1 a2_0 a2_1 a2_2 a2_3 (wrap64 (t216 + 1)) a2_5 t228 t229 t230 _ ?side1 ?side2 ?side3 ?side4 A38.out).mono ?_); (case side1 => exact Z21); (case side2 => exact Z84); (case side3 => exact Z22); (case side4 => exact Z85); rintro e w49 ⟨rfl, hb⟩; refine ⟨_, rfl, ?_⟩; have n0_ := Aside0.mk (blk_below (g := gb215) (o := .cells #[.string a2_0, .string a2_1, .string a2_2, .string a2_3, .int .i64 a2_4, .bool a2_5] 37 (0, 0)) Z19 hb); have n1_ := Aside0.mk (blk_below (g := gb223) (o := .cells #[.string a2_0, .string a2_1, .string a2_2, .string a2_3, .int .i64 (wrap64 (t216 + 1)), .bool a2_5] 37 (0, 0)) Z9 hb); have n2_ := Aside0.mk (below_step Z32 hb); clear BK215; clear BK223; clear HB; have BK215 := n0_; have BK223 := n1_; have HB := n2_; clear n0_ n1_ n2_; (try clear hb); (try clear hb2); (try clear hk); (try clear hi)))
            go_ret
            exact ⟨Z53, Z32⟩
     ·replace c19 := Bool.eq_false_iff.mpr c19
      subst c19
      have H1 : (some true) = some r := by rw [if_neg (show ¬ (false = true) by decide)] at H; exact H
      clear H
      have H := H1
      clear H1
      obtain rfl := Option.some.inj H
      go_wp2
      go_ret
      exact ⟨Z53, Z52⟩
 ·rw [if_neg c6] at H
  have c6b0 : (t217 == 0) = false := beq_eq_false_iff_ne.mpr c6
  have c6b1 : (t217 != 0) = true := bne_iff_ne.mpr c6
  by_cases c50 : t216 = 0
  ·rw [if_pos c50] at H
   have c50b0 : (t216 == 0) = true := beq_iff_eq.mpr c50
   have c50b1 : (t216 != 0) = false := bne_eq_false_iff_eq.mpr c50
   clear c50
   replace H := Option.bind_eq_some_iff.mp H
   obtain ⟨t218, A510, H⟩ := H
   replace H : (some t218) = some r := H
   have A51 := Aside0.mk A510
   clear A510
   obtain rfl := Option.some.inj H
   go_enter Tryd.func11, Tryd.ntmps11
   go_wp2_with (first | ((with_reducible refine gate_dst (N := 6) rfl ?_); refine box_event ?hg (N := 6) ?hd (cs := #[.string a2_0, .string a2_1, .string a2_2, .string a2_3, .int .i64 a2_4, .bool a2_5]) (t := 37) ?hr ?_; (case hd => rfl); (case hg => rfl); (case hr => exact Z82); intro gb215 hg w52 hbox hb; have n0_ := Aside0.mk (below_step Z55 hb); have n1_ := Aside0.mk (hbox); have n2_ := Aside0.mk ((Z36 : w.heap.size ≤ gb215)); have n3_ := Aside0.mk ((Z36 : w.heap.size ≤ gb215)); clear HB; have HB := n0_; have BK215 := n1_; have GW215 := n2_; have GE215 := n3_; clear n0_ n1_ n2_ n3_; clear hb hbox hg; obtain ⟨hcz53_0, hcz53_1, hcz53_2, hcz53_3, hcz53_4, hcz53_5, hfz53_0, hfz53_1, hfz53_2, hfz53_3, hfz53_4, hfz53_5⟩ := bf6 BK215.out) | ((with_reducible refine gate_callee (f := 39) rfl ?_); refine goesL_ (some 22) rfl rfl Tryd.func39 (by kernel_rfl) rfl #[.slice A0 l0.length c0, .slice A1 l1.length c1, .agg #[.string a2_0, .string a2_1, .string a2_2, .string a2_3, .int .i64 a2_4, .bool a2_5]] rfl Z33 ?_; (with_reducible refine (partner_Until.calls k _ _ l0 _ _ l1 a2_0 a2_1 a2_2 a2_3 a2_4 a2_5 t216 t217 _ ?side1 ?side2 ?side3 ?side4 A5.out).mono ?_); (case side1 => exact Z34); (case side2 => exact Z84); (case side3 => exact Z35); (case side4 => exact Z85); rintro e w54 ⟨rfl, hb⟩; refine ⟨_, rfl, ?_⟩; have n0_ := Aside0.mk (blk_below (g := gb215) (o := .cells #[.string a2_0, .string a2_1, .string a2_2, .string a2_3, .int .i64 a2_4, .bool a2_5] 37 (0, 0)) Z74 hb); have n1_ := Aside0.mk (below_step Z52 hb); clear BK215; clear HB; have BK215 := n0_; have HB := n1_; clear n0_ n1_; (try clear hb); (try clear hb2); (try clear hk); (try clear hi)) | (go_at_call 14; (with_reducible refine (interchangelaw8_awake.calls  t218 _ A51.out).mono ?_); rintro e w55 ⟨rfl, hb⟩; have n0_ := Aside0.mk (blk_below (g := gb215) (o := .cells #[.string a2_0, .string a2_1, .string a2_2, .string a2_3, .int .i64 a2_4, .bool a2_5] 37 (0, 0)) Z74 hb); have n1_ := Aside0.mk (below_step Z52 hb); clear BK215; clear HB; have BK215 := n0_; have HB := n1_; clear n0_ n1_; (try clear hb); (try clear hb2); (try clear hk); (try clear hi)))
   go_ret
   exact ⟨Z53, Z52⟩
  ·rw [if_neg c50] at H
   have c50b0 : (t216 == 0) = false := beq_eq_false_iff_ne.mpr c50
   have c50b1 : (t216 != 0) = true := bne_iff_ne.mpr c50
   obtain rfl := Option.some.inj H
   go_enter Tryd.func11, Tryd.ntmps11
   go_wp2_with (first | ((with_reducible refine gate_dst (N := 6) rfl ?_); refine box_event ?hg (N := 6) ?hd (cs := #[.string a2_0, .string a2_1, .string a2_2, .string a2_3, .int .i64 a2_4, .bool a2_5]) (t := 37) ?hr ?_; (case hd => rfl); (case hg => rfl); (case hr => exact Z82); intro gb215 hg w56 hbox hb; have n0_ := Aside0.mk (below_step Z55 hb); have n1_ := Aside0.mk (hbox); have n2_ := Aside0.mk ((Z36 : w.heap.size ≤ gb215)); have n3_ := Aside0.mk ((Z36 : w.heap.size ≤ gb215)); clear HB; have HB := n0_; have BK215 := n1_; have GW215 := n2_; have GE215 := n3_; clear n0_ n1_ n2_ n3_; clear hb hbox hg; obtain ⟨hcz57_0, hcz57_1, hcz57_2, hcz57_3, hcz57_4, hcz57_5, hfz57_0, hfz57_1, hfz57_2, hfz57_3, hfz57_4, hfz57_5⟩ := bf6 BK215.out) | ((with_reducible refine gate_callee (f := 39) rfl ?_); refine goesL_ (some 22) rfl rfl Tryd.func39 (by kernel_rfl) rfl #[.slice A0 l0.length c0, .slice A1 l1.length c1, .agg #[.string a2_0, .string a2_1, .string a2_2, .string a2_3, .int .i64 a2_4, .bool a2_5]] rfl Z33 ?_; (with_reducible refine (partner_Until.calls k _ _ l0 _ _ l1 a2_0 a2_1 a2_2 a2_3 a2_4 a2_5 t216 t217 _ ?side1 ?side2 ?side3 ?side4 A5.out).mono ?_); (case side1 => exact Z34); (case side2 => exact Z84); (case side3 => exact Z35); (case side4 => exact Z85); rintro e w58 ⟨rfl, hb⟩; refine ⟨_, rfl, ?_⟩; have n0_ := Aside0.mk (blk_below (g := gb215) (o := .cells #[.string a2_0, .string a2_1, .string a2_2, .string a2_3, .int .i64 a2_4, .bool a2_5] 37 (0, 0)) Z74 hb); have n1_ := Aside0.mk (below_step Z52 hb); clear BK215; clear HB; have BK215 := n0_; have HB := n1_; clear n0_ n1_; (try clear hb); (try clear hb2); (try clear hk); (try clear hi)))
   go_ret
   exact ⟨Z53, Z52⟩

end Go.Proofs.YtdlgohhecicnoaaDoor.XPartnerUntilIsTheLast
