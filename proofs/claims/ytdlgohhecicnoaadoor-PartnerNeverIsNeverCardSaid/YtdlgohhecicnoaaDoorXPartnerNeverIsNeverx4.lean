-- Walks of PartnerNeverIsNever: written by xprint.py out of the translation (hand-proved functions among them). Lean checks it.
import Derived.Test.YtdlgohhecicnoaaDoorXPartnerNeverIsNeverx0
import Derived.Test.YtdlgohhecicnoaaDoorXPartnerNeverIsNeverx1
import Derived.Test.YtdlgohhecicnoaaDoorXPartnerNeverIsNeverx2
import Derived.Test.YtdlgohhecicnoaaDoorXPartnerNeverIsNeverx3
namespace Go.Proofs.YtdlgohhecicnoaaDoor.XPartnerNeverIsNever
open Go.RowKit Go.Proofs.YtdlgohhecicnoaaDoorW.PrintWords Go.Proofs.YtdlgohhecicnoaaDoorW.PrintLast Go.Proofs.YtdlgohhecicnoaaDoorW.PrintMore
attribute [local go_sem] max2_int min2_int max_two min_two max_three min_three max_four min_four   -- for this text's walks alone
set_option linter.unusedVariables false
set_option linter.unusedSimpArgs false

/-! ### partner_CheckAgreements: function 36 -/
mutual
def partner_CheckAgreements.l0 : Nat → List (S86) → List (S23) → Int → Int → Option (Int)
 | 0, _, _, _, _ => none
 | k + 1, x0, x17, x18, x19 => if x19 < x18 then (if 0 ≤ x19 then (if x19 < (x17.length : Int) then ((partner_isPartner.f k x0 ((rd_T23 x17 x19).f0)).bind fun t146 => (if t146 = true then ((partner_isPartner.f k x0 ((rd_T23 x17 x19).f1)).bind fun t147 => (partner_CheckAgreements.j1 k x0 x17 x18 x19 (!t147) ((rd_T23 x17 x19).f0) ((rd_T23 x17 x19).f1) ((rd_T23 x17 x19).f2) ((rd_T23 x17 x19).f3) ((rd_T23 x17 x19).f4) ((rd_T23 x17 x19).f5) ((rd_T23 x17 x19).f6) ((rd_T23 x17 x19).f7) ((rd_T23 x17 x19).f8))) else (partner_CheckAgreements.j1 k x0 x17 x18 x19 true ((rd_T23 x17 x19).f0) ((rd_T23 x17 x19).f1) ((rd_T23 x17 x19).f2) ((rd_T23 x17 x19).f3) ((rd_T23 x17 x19).f4) ((rd_T23 x17 x19).f5) ((rd_T23 x17 x19).f6) ((rd_T23 x17 x19).f7) ((rd_T23 x17 x19).f8)))) else (none)) else (none)) else (some 0)
def partner_CheckAgreements.j1 : Nat → List (S86) → List (S23) → Int → Int → Bool → ByteArray → ByteArray → ByteArray → ByteArray → Int → Int → Bool → Int → Bool → Option (Int)
 | 0, _, _, _, _, _, _, _, _, _, _, _, _, _, _ => none
 | k + 1, x0, x17, x18, x19, x34, x146000, x146001, x146002, x146003, x146004, x146005, x146006, x146007, x146008 => if x34 = true then (some 5) else ((partner_ownFault.f k x146000 x146001 x146002 x146003 x146004 x146005 x146006 x146007 x146008).bind fun t148 => (if t148 = 0 then (partner_CheckAgreements.l0 k x0 x17 x18 (wrap64 (x19 + 1))) else (some t148)))
end
def partner_CheckAgreements.f (k : Nat) (l0 : List (S86)) (l1 : List (S23)) : Option (Int) := (partner_CheckPartners.f k l0).bind fun t143 => (if t143 = 0 then (if (l1.length : Int) > 200 then (some 2) else (partner_CheckAgreements.l0 k l0 l1 (l1.length : Int) 0)) else (some t143))
theorem partner_CheckAgreements.mono_l : ∀ k, (∀ y0 y1 y2 y3, LeO (partner_CheckAgreements.l0 k y0 y1 y2 y3) (partner_CheckAgreements.l0 (k + 1) y0 y1 y2 y3)) ∧ (∀ y0 y1 y2 y3 y4 y5 y6 y7 y8 y9 y10 y11 y12 y13, LeO (partner_CheckAgreements.j1 k y0 y1 y2 y3 y4 y5 y6 y7 y8 y9 y10 y11 y12 y13) (partner_CheckAgreements.j1 (k + 1) y0 y1 y2 y3 y4 y5 y6 y7 y8 y9 y10 y11 y12 y13))
 | 0 => ⟨fun _ _ _ _ r h => by simp [partner_CheckAgreements.l0] at h, fun _ _ _ _ _ _ _ _ _ _ _ _ _ _ r h => by simp [partner_CheckAgreements.j1] at h⟩
 | k + 1 => by
  obtain ⟨ih0, ih1⟩ := partner_CheckAgreements.mono_l k
  refine ⟨?_, ?_⟩
  ·intro y0 y1 y2 y3
   unfold partner_CheckAgreements.l0
   repeat' first
   | (with_reducible exact ih0 _ _ _ _)
   | (with_reducible exact ih1 _ _ _ _ _ _ _ _ _ _ _ _ _ _)
   | (with_reducible exact partner_CheckPartners.mono _ _)
   | (with_reducible exact partner_isPartner.mono _ _ _)
   | (with_reducible exact partner_ownFault.mono _ _ _ _ _ _ _ _ _ _)
   | (with_reducible exact LeO.refl _)
   | (with_reducible exact LeO.none _)
   | (with_reducible refine LeO.ite ?_ ?_)
   | (with_reducible refine LeO.bind ?_ (fun _ => ?_))
   | exact ih0 _ _ _ _
   | exact ih1 _ _ _ _ _ _ _ _ _ _ _ _ _ _
   | exact partner_CheckPartners.mono _ _
   | exact partner_isPartner.mono _ _ _
   | exact partner_ownFault.mono _ _ _ _ _ _ _ _ _ _
   | exact LeO.none _
   | refine LeO.ite ?_ ?_
   | refine LeO.bind ?_ (fun _ => ?_)
  ·intro y0 y1 y2 y3 y4 y5 y6 y7 y8 y9 y10 y11 y12 y13
   unfold partner_CheckAgreements.j1
   repeat' first
   | (with_reducible exact ih0 _ _ _ _)
   | (with_reducible exact ih1 _ _ _ _ _ _ _ _ _ _ _ _ _ _)
   | (with_reducible exact partner_CheckPartners.mono _ _)
   | (with_reducible exact partner_isPartner.mono _ _ _)
   | (with_reducible exact partner_ownFault.mono _ _ _ _ _ _ _ _ _ _)
   | (with_reducible exact LeO.refl _)
   | (with_reducible exact LeO.none _)
   | (with_reducible refine LeO.ite ?_ ?_)
   | (with_reducible refine LeO.bind ?_ (fun _ => ?_))
   | exact ih0 _ _ _ _
   | exact ih1 _ _ _ _ _ _ _ _ _ _ _ _ _ _
   | exact partner_CheckPartners.mono _ _
   | exact partner_isPartner.mono _ _ _
   | exact partner_ownFault.mono _ _ _ _ _ _ _ _ _ _
   | exact LeO.none _
   | refine LeO.ite ?_ ?_
   | refine LeO.bind ?_ (fun _ => ?_)
theorem partner_CheckAgreements.mono : ∀ a0 a1 k, LeO (partner_CheckAgreements.f k a0 a1) (partner_CheckAgreements.f (k + 1) a0 a1) := by
 intro a0 a1 k
 obtain ⟨ih0, ih1⟩ := partner_CheckAgreements.mono_l k
 unfold partner_CheckAgreements.f
 repeat' first
   | (with_reducible exact ih0 _ _ _ _)
   | (with_reducible exact ih1 _ _ _ _ _ _ _ _ _ _ _ _ _ _)
   | (with_reducible exact partner_CheckPartners.mono _ _)
   | (with_reducible exact partner_isPartner.mono _ _ _)
   | (with_reducible exact partner_ownFault.mono _ _ _ _ _ _ _ _ _ _)
   | (with_reducible exact LeO.refl _)
   | (with_reducible exact LeO.none _)
   | (with_reducible refine LeO.ite ?_ ?_)
   | (with_reducible refine LeO.bind ?_ (fun _ => ?_))
   | exact ih0 _ _ _ _
   | exact ih1 _ _ _ _ _ _ _ _ _ _ _ _ _ _
   | exact partner_CheckPartners.mono _ _
   | exact partner_isPartner.mono _ _ _
   | exact partner_ownFault.mono _ _ _ _ _ _ _ _ _ _
   | exact LeO.none _
   | refine LeO.ite ?_ ?_
   | refine LeO.bind ?_ (fun _ => ?_)
set_option maxHeartbeats 8000000 in
set_option maxRecDepth 100000 in
theorem partner_CheckAgreements.calls (k : Nat) (A0 : Option Addr) (c0 : Nat) (l0 : List (S86)) (A1 : Option Addr) (c1 : Nat) (l1 : List (S23)) (r : Int) (w : World) (hr0 : Kd.C k86 w A0 l0.length l0) (hc0 : l0.length ≤ c0) (hr1 : Kd.C k23 w A1 l1.length l1) (hc1 : l1.length ≤ c1) (h : partner_CheckAgreements.f k l0 l1 = some r) :
  Calls Tryd.prog 36 #[.slice A0 l0.length c0, .slice A1 l1.length c1] w fun e w' => e = .returned (.int .i64 r) ∧ Below w.heap.size w w' := by
 have hu23 := Tryd.underlying23
 have HR0 := Aside0.mk hr0
 have HC0 := Aside0.mk hc0
 clear hr0 hc0
 have HR1 := Aside0.mk hr1
 have HC1 := Aside0.mk hc1
 clear hr1 hc1
 have HB := Aside0.mk (Below.refl w.heap.size w)
 have H : ((partner_CheckPartners.f k l0).bind fun t143 => (if t143 = 0 then (if (l1.length : Int) > 200 then (some 2) else (partner_CheckAgreements.l0 k l0 l1 (l1.length : Int) 0)) else (some t143))) = some r := h
 clear h
 replace H := Option.bind_eq_some_iff.mp H
 obtain ⟨t143, A30, H⟩ := H
 replace H : (if t143 = 0 then (if (l1.length : Int) > 200 then (some 2) else (partner_CheckAgreements.l0 k l0 l1 (l1.length : Int) 0)) else (some t143)) = some r := H
 have A3 := Aside0.mk A30
 clear A30
 by_cases c4 : t143 = 0
 ·rw [if_pos c4] at H
  have c4b0 : (t143 == 0) = true := beq_iff_eq.mpr c4
  have c4b1 : (t143 != 0) = false := bne_eq_false_iff_eq.mpr c4
  clear c4
  by_cases c5 : (l1.length : Int) > 200
  ·rw [if_pos c5] at H
   have c5b0 : decide (200 < (l1.length : Int)) = true := decide_eq_true c5
   have c5b1 : decide (200 < l1.length) = true := decide_eq_true (by omega)
   clear c5
   obtain rfl := Option.some.inj H
   go_enter Tryd.func36, Tryd.ntmps36
   go_wp2_with (first | ((with_reducible refine gate_callee (f := 18) rfl ?_); refine goesL_ (some 10) rfl rfl Tryd.func18 (by kernel_rfl) rfl #[.slice A0 l0.length c0] rfl Z45 ?_; (with_reducible refine (partner_CheckPartners.calls k _ _ l0 t143 _ ?side1 ?side2 A3.out).mono ?_); (case side1 => exact Z67); (case side2 => exact Z106); rintro e w6 ⟨rfl, hb⟩; refine ⟨_, rfl, ?_⟩; have n0_ := Aside0.mk (below_step Z70 hb); clear HB; have HB := n0_; clear n0_; (try clear hb); (try clear hb2); (try clear hk); (try clear hi)))
   go_ret
   exact ⟨Z66, Z70⟩
  ·rw [if_neg c5] at H
   have c5b0 : decide (200 < (l1.length : Int)) = false := decide_eq_false c5
   have c5b1 : decide (200 < l1.length) = false := decide_eq_false (by omega)
   clear c5
   have H' := Aside0.mk H
   clear H
   go_enter Tryd.func36, Tryd.ntmps36
   go_wp2_with (first | ((with_reducible refine gate_callee (f := 18) rfl ?_); refine goesL_ (some 10) rfl rfl Tryd.func18 (by kernel_rfl) rfl #[.slice A0 l0.length c0] rfl Z45 ?_; (with_reducible refine (partner_CheckPartners.calls k _ _ l0 t143 _ ?side1 ?side2 A3.out).mono ?_); (case side1 => exact Z67); (case side2 => exact Z106); rintro e w7 ⟨rfl, hb⟩; refine ⟨_, rfl, ?_⟩; have n0_ := Aside0.mk (below_step Z70 hb); clear HB; have HB := n0_; clear n0_; (try clear hb); (try clear hb2); (try clear hk); (try clear hi)))
   go_loopg [19] k (fun kq v19 w' => ∃ (x19_1 : Int), v19 = .int .i64 x19_1 ∧ Aside0 (partner_CheckAgreements.l0 kq l0 l1 (l1.length : Int) x19_1 = some r) ∧ Aside0 (kq ≤ k) ∧ Aside0 (Below w.heap.size w w'))
   case atStart => exact ⟨(0), Z98, H', ⟨Nat.le_refl _⟩, ⟨Z70⟩⟩
   case round =>
    clear H'
    try clear c1
    try clear p2
    try clear c3
    try clear c4
    try clear c4b0
    try clear c4b1
    try clear c5
    try clear c5b0
    try clear c5b1
    obtain ⟨x19_1, rfl, HA, HK1, HB⟩ := hrel
    cases gk with
    | zero => exact absurd HA.out (by simp [partner_CheckAgreements.l0])
    | succ k1 =>
     have H := HA.out
     clear HA
     simp only [partner_CheckAgreements.l0] at H
     by_cases c8 : x19_1 < (l1.length : Int)
     ·rw [if_pos c8] at H
      have c8b0 : decide (x19_1 < (l1.length : Int)) = true := decide_eq_true c8
      clear c8
      by_cases c9 : 0 ≤ x19_1
      ·rw [if_pos c9] at H
       have c9b0 : decide (0 ≤ x19_1) = true := decide_eq_true c9
       clear c9
       by_cases c10 : x19_1 < (l1.length : Int)
       ·rw [if_pos c10] at H
        have c10b0 : decide (x19_1 < (l1.length : Int)) = true := decide_eq_true c10
        clear c10
        have HC11 := Aside0.mk H
        clear H
        have p144 : 0 ≤ (x19_1 : Int) := of_decide_eq_true Z101
        have q144 : x19_1 < (l1.length : Int) := of_decide_eq_true Z101
        obtain ⟨ad144, e144, hx144_0, hx144_1, hx144_2, hx144_3, hx144_4, hx144_5, hx144_6, hx144_7, hx144_8⟩ := at_T23 HR1.out x19_1 p144 q144
        cases e144
        replace hx144_0 := (HB.out.cell (World.block_lt_of_cell? w _ hx144_0)).trans hx144_0
        replace hx144_1 := (HB.out.cell (World.block_lt_of_cell? w _ hx144_1)).trans hx144_1
        replace hx144_2 := (HB.out.cell (World.block_lt_of_cell? w _ hx144_2)).trans hx144_2
        replace hx144_3 := (HB.out.cell (World.block_lt_of_cell? w _ hx144_3)).trans hx144_3
        replace hx144_4 := (HB.out.cell (World.block_lt_of_cell? w _ hx144_4)).trans hx144_4
        replace hx144_5 := (HB.out.cell (World.block_lt_of_cell? w _ hx144_5)).trans hx144_5
        replace hx144_6 := (HB.out.cell (World.block_lt_of_cell? w _ hx144_6)).trans hx144_6
        replace hx144_7 := (HB.out.cell (World.block_lt_of_cell? w _ hx144_7)).trans hx144_7
        replace hx144_8 := (HB.out.cell (World.block_lt_of_cell? w _ hx144_8)).trans hx144_8
        replace p144 := eq_true p144
        replace q144 := eq_true q144
        go_upto_region 9 with (first | ((with_reducible refine gate_dst (N := 7) rfl ?_); refine box_event ?hg (N := 7) ?hd (cs := #[.string (⟨#[]⟩ : ByteArray), .string (⟨#[]⟩ : ByteArray), .string (⟨#[]⟩ : ByteArray), .string (⟨#[]⟩ : ByteArray), .int .i64 0, .int .i64 0, .bool false, .int .i64 0, .bool false]) (t := 23) ?hr ?_; (case hd => rfl); (case hg => rfl); (case hr => exact Z103); intro gb145 hg w12 hbox hb; have n0_ := Aside0.mk (below_step Z70 hb); have n1_ := Aside0.mk (hbox); have n2_ := Aside0.mk ((Z49 : w.heap.size ≤ gb145)); have n3_ := Aside0.mk ((Z49 : w.heap.size ≤ gb145)); clear HB; have HB := n0_; have BK145 := n1_; have GW145 := n2_; have GE145 := n3_; clear n0_ n1_ n2_ n3_; clear hb hbox hg; obtain ⟨hcz13_0, hcz13_1, hcz13_2, hcz13_3, hcz13_4, hcz13_5, hcz13_6, hcz13_7, hcz13_8, hfz13_0, hfz13_1, hfz13_2, hfz13_3, hfz13_4, hfz13_5, hfz13_6, hfz13_7, hfz13_8⟩ := bf9 BK145.out))
        (try simp only [Act.put, List.setIfInBounds_toArray, List.set_cons_zero, List.set_cons_succ])
        go_cut [34] (fun v34 wc => ∃ (kq : Nat) (x34_10 : Bool), v34 = .bool x34_10 ∧ Aside0 (partner_CheckAgreements.j1 kq l0 l1 (l1.length : Int) x19_1 x34_10 ((rd_T23 l1 x19_1).f0) ((rd_T23 l1 x19_1).f1) ((rd_T23 l1 x19_1).f2) ((rd_T23 l1 x19_1).f3) ((rd_T23 l1 x19_1).f4) ((rd_T23 l1 x19_1).f5) ((rd_T23 l1 x19_1).f6) ((rd_T23 l1 x19_1).f7) ((rd_T23 l1 x19_1).f8) = some r) ∧ Aside0 (kq ≤ k1) ∧ Aside0 (wc.heap[gb145]? = some (.cells #[.string ((rd_T23 l1 x19_1).f0), .string ((rd_T23 l1 x19_1).f1), .string ((rd_T23 l1 x19_1).f2), .string ((rd_T23 l1 x19_1).f3), .int .i64 ((rd_T23 l1 x19_1).f4), .int .i64 ((rd_T23 l1 x19_1).f5), .bool ((rd_T23 l1 x19_1).f6), .int .i64 ((rd_T23 l1 x19_1).f7), .bool ((rd_T23 l1 x19_1).f8)] 23 (0, 0))) ∧ Aside0 (Below w.heap.size w wc))
        case first =>
         have H := HC11.out
         clear HC11
         replace H := Option.bind_eq_some_iff.mp H
         obtain ⟨t146, A140, H⟩ := H
         replace H : (if t146 = true then ((partner_isPartner.f k1 l0 ((rd_T23 l1 x19_1).f1)).bind fun t147 => (partner_CheckAgreements.j1 k1 l0 l1 (l1.length : Int) x19_1 (!t147) ((rd_T23 l1 x19_1).f0) ((rd_T23 l1 x19_1).f1) ((rd_T23 l1 x19_1).f2) ((rd_T23 l1 x19_1).f3) ((rd_T23 l1 x19_1).f4) ((rd_T23 l1 x19_1).f5) ((rd_T23 l1 x19_1).f6) ((rd_T23 l1 x19_1).f7) ((rd_T23 l1 x19_1).f8))) else (partner_CheckAgreements.j1 k1 l0 l1 (l1.length : Int) x19_1 true ((rd_T23 l1 x19_1).f0) ((rd_T23 l1 x19_1).f1) ((rd_T23 l1 x19_1).f2) ((rd_T23 l1 x19_1).f3) ((rd_T23 l1 x19_1).f4) ((rd_T23 l1 x19_1).f5) ((rd_T23 l1 x19_1).f6) ((rd_T23 l1 x19_1).f7) ((rd_T23 l1 x19_1).f8))) = some r := H
         have A14 := Aside0.mk A140
         clear A140
         by_cases c15 : t146 = true
         ·subst c15
          have H1 : ((partner_isPartner.f k1 l0 ((rd_T23 l1 x19_1).f1)).bind fun t147 => (partner_CheckAgreements.j1 k1 l0 l1 (l1.length : Int) x19_1 (!t147) ((rd_T23 l1 x19_1).f0) ((rd_T23 l1 x19_1).f1) ((rd_T23 l1 x19_1).f2) ((rd_T23 l1 x19_1).f3) ((rd_T23 l1 x19_1).f4) ((rd_T23 l1 x19_1).f5) ((rd_T23 l1 x19_1).f6) ((rd_T23 l1 x19_1).f7) ((rd_T23 l1 x19_1).f8))) = some r := by rw [if_pos rfl] at H; exact H
          clear H
          have H := H1
          clear H1
          replace H := Option.bind_eq_some_iff.mp H
          obtain ⟨t147, A160, H⟩ := H
          replace H : (partner_CheckAgreements.j1 k1 l0 l1 (l1.length : Int) x19_1 (!t147) ((rd_T23 l1 x19_1).f0) ((rd_T23 l1 x19_1).f1) ((rd_T23 l1 x19_1).f2) ((rd_T23 l1 x19_1).f3) ((rd_T23 l1 x19_1).f4) ((rd_T23 l1 x19_1).f5) ((rd_T23 l1 x19_1).f6) ((rd_T23 l1 x19_1).f7) ((rd_T23 l1 x19_1).f8)) = some r := H
          have A16 := Aside0.mk A160
          clear A160
          have H' := Aside0.mk H
          clear H
          obtain ⟨hcz17_0, hcz17_1, hcz17_2, hcz17_3, hcz17_4, hcz17_5, hcz17_6, hcz17_7, hcz17_8, hfz17_0, hfz17_1, hfz17_2, hfz17_3, hfz17_4, hfz17_5, hfz17_6, hfz17_7, hfz17_8⟩ := bf9 BK145.out
          go_wp2_with (first | ((with_reducible refine gate_callee (f := 77) rfl ?_); refine goesL_ (some 26) rfl rfl Tryd.func77 (by kernel_rfl) rfl #[.slice A0 l0.length c0, .string ((rd_T23 l1 x19_1).f0)] rfl Z45 ?_; (with_reducible refine (partner_isPartner.calls k1 _ _ l0 ((rd_T23 l1 x19_1).f0) true _ ?side1 ?side2 A14.out).mono ?_); (case side1 => exact Kd.C_below HR0.out Z55); (case side2 => exact Z106); rintro e w18 ⟨rfl, hb⟩; refine ⟨_, rfl, ?_⟩; have n0_ := Aside0.mk (blk_below (g := gb145) (o := .cells #[.string ((rd_T23 l1 x19_1).f0), .string ((rd_T23 l1 x19_1).f1), .string ((rd_T23 l1 x19_1).f2), .string ((rd_T23 l1 x19_1).f3), .int .i64 ((rd_T23 l1 x19_1).f4), .int .i64 ((rd_T23 l1 x19_1).f5), .bool ((rd_T23 l1 x19_1).f6), .int .i64 ((rd_T23 l1 x19_1).f7), .bool ((rd_T23 l1 x19_1).f8)] 23 (0, 0)) Z0 hb); have n1_ := Aside0.mk (below_step Z55 hb); clear BK145; clear HB; have BK145 := n0_; have HB := n1_; clear n0_ n1_; (try clear hb); (try clear hb2); (try clear hk); (try clear hi); obtain ⟨hcz19_0, hcz19_1, hcz19_2, hcz19_3, hcz19_4, hcz19_5, hcz19_6, hcz19_7, hcz19_8, hfz19_0, hfz19_1, hfz19_2, hfz19_3, hfz19_4, hfz19_5, hfz19_6, hfz19_7, hfz19_8⟩ := bf9 BK145.out) | (go_at_call 77; (with_reducible refine (partner_isPartner.calls k1 _ _ l0 ((rd_T23 l1 x19_1).f1) t147 _ ?side1 ?side2 A16.out).mono ?_); (case side1 => exact Z46); (case side2 => exact Z106); rintro e w20 ⟨rfl, hb⟩; have n0_ := Aside0.mk (blk_below (g := gb145) (o := .cells #[.string ((rd_T23 l1 x19_1).f0), .string ((rd_T23 l1 x19_1).f1), .string ((rd_T23 l1 x19_1).f2), .string ((rd_T23 l1 x19_1).f3), .int .i64 ((rd_T23 l1 x19_1).f4), .int .i64 ((rd_T23 l1 x19_1).f5), .bool ((rd_T23 l1 x19_1).f6), .int .i64 ((rd_T23 l1 x19_1).f7), .bool ((rd_T23 l1 x19_1).f8)] 23 (0, 0)) Z76 hb); have n1_ := Aside0.mk (below_step Z55 hb); clear BK145; clear HB; have BK145 := n0_; have HB := n1_; clear n0_ n1_; (try clear hb); (try clear hb2); (try clear hk); (try clear hi)))
          go_meet
          case rel => exact ⟨_, (!t147), Z98, H', ⟨Z100⟩, ⟨Z76⟩, ⟨Z55⟩⟩
         ·replace c15 := Bool.eq_false_iff.mpr c15
          subst c15
          have H1 : (partner_CheckAgreements.j1 k1 l0 l1 (l1.length : Int) x19_1 true ((rd_T23 l1 x19_1).f0) ((rd_T23 l1 x19_1).f1) ((rd_T23 l1 x19_1).f2) ((rd_T23 l1 x19_1).f3) ((rd_T23 l1 x19_1).f4) ((rd_T23 l1 x19_1).f5) ((rd_T23 l1 x19_1).f6) ((rd_T23 l1 x19_1).f7) ((rd_T23 l1 x19_1).f8)) = some r := by rw [if_neg (show ¬ (false = true) by decide)] at H; exact H
          clear H
          have H := H1
          clear H1
          have H' := Aside0.mk H
          clear H
          obtain ⟨hcz21_0, hcz21_1, hcz21_2, hcz21_3, hcz21_4, hcz21_5, hcz21_6, hcz21_7, hcz21_8, hfz21_0, hfz21_1, hfz21_2, hfz21_3, hfz21_4, hfz21_5, hfz21_6, hfz21_7, hfz21_8⟩ := bf9 BK145.out
          go_wp2_with (first | ((with_reducible refine gate_callee (f := 77) rfl ?_); refine goesL_ (some 26) rfl rfl Tryd.func77 (by kernel_rfl) rfl #[.slice A0 l0.length c0, .string ((rd_T23 l1 x19_1).f0)] rfl Z45 ?_; (with_reducible refine (partner_isPartner.calls k1 _ _ l0 ((rd_T23 l1 x19_1).f0) false _ ?side1 ?side2 A14.out).mono ?_); (case side1 => exact Kd.C_below HR0.out Z55); (case side2 => exact Z106); rintro e w22 ⟨rfl, hb⟩; refine ⟨_, rfl, ?_⟩; have n0_ := Aside0.mk (blk_below (g := gb145) (o := .cells #[.string ((rd_T23 l1 x19_1).f0), .string ((rd_T23 l1 x19_1).f1), .string ((rd_T23 l1 x19_1).f2), .string ((rd_T23 l1 x19_1).f3), .int .i64 ((rd_T23 l1 x19_1).f4), .int .i64 ((rd_T23 l1 x19_1).f5), .bool ((rd_T23 l1 x19_1).f6), .int .i64 ((rd_T23 l1 x19_1).f7), .bool ((rd_T23 l1 x19_1).f8)] 23 (0, 0)) Z0 hb); have n1_ := Aside0.mk (below_step Z55 hb); clear BK145; clear HB; have BK145 := n0_; have HB := n1_; clear n0_ n1_; (try clear hb); (try clear hb2); (try clear hk); (try clear hi)))
          go_meet
          case rel => exact ⟨_, (true), Z98, H', ⟨Z100⟩, ⟨Z76⟩, ⟨Z55⟩⟩
        case rest =>
         clear HC11
         try clear c1
         try clear p1
         try clear q1
         try clear hx1
         try clear p2
         try clear c3
         try clear c4
         try clear c4b0
         try clear c4b1
         try clear c5
         try clear c5b0
         try clear c5b1
         try clear c7
         try clear c8
         try clear c8b0
         try clear c9
         try clear c9b0
         try clear c10
         try clear c10b0
         try clear p14
         try clear q14
         try clear hx14
         try clear c15
         try clear c18
         try clear hcz13_0
         try clear hcz13_1
         try clear hcz13_2
         try clear hcz13_3
         try clear hcz13_4
         try clear hcz13_5
         try clear hcz13_6
         try clear hcz13_7
         try clear hcz13_8
         try clear hcz17_0
         try clear hcz17_1
         try clear hcz17_2
         try clear hcz17_3
         try clear hcz17_4
         try clear hcz17_5
         try clear hcz17_6
         try clear hcz17_7
         try clear hcz17_8
         try clear hcz19_0
         try clear hcz19_1
         try clear hcz19_2
         try clear hcz19_3
         try clear hcz19_4
         try clear hcz19_5
         try clear hcz19_6
         try clear hcz19_7
         try clear hcz19_8
         try clear hcz21_0
         try clear hcz21_1
         try clear hcz21_2
         try clear hcz21_3
         try clear hcz21_4
         try clear hcz21_5
         try clear hcz21_6
         try clear hcz21_7
         try clear hcz21_8
         try clear hfz13_0
         try clear hfz13_1
         try clear hfz13_2
         try clear hfz13_3
         try clear hfz13_4
         try clear hfz13_5
         try clear hfz13_6
         try clear hfz13_7
         try clear hfz13_8
         try clear hfz17_0
         try clear hfz17_1
         try clear hfz17_2
         try clear hfz17_3
         try clear hfz17_4
         try clear hfz17_5
         try clear hfz17_6
         try clear hfz17_7
         try clear hfz17_8
         try clear hfz19_0
         try clear hfz19_1
         try clear hfz19_2
         try clear hfz19_3
         try clear hfz19_4
         try clear hfz19_5
         try clear hfz19_6
         try clear hfz19_7
         try clear hfz19_8
         try clear hfz21_0
         try clear hfz21_1
         try clear hfz21_2
         try clear hfz21_3
         try clear hfz21_4
         try clear hfz21_5
         try clear hfz21_6
         try clear hfz21_7
         try clear hfz21_8
         try clear hx144_0
         try clear hx144_1
         try clear hx144_2
         try clear hx144_3
         try clear hx144_4
         try clear hx144_5
         try clear hx144_6
         try clear hx144_7
         try clear hx144_8
         try clear p144
         try clear p2
         try clear q144
         obtain ⟨kq, x34_10, rfl, HA, HJ10, BK145, HB⟩ := hcut
         cases kq with
         | zero => exact absurd HA.out (by simp [partner_CheckAgreements.j1])
         | succ kj10 =>
          have H := HA.out
          clear HA
          simp only [partner_CheckAgreements.j1] at H
          by_cases c23 : x34_10 = true
          ·subst c23
           have H1 : (some 5) = some r := by rw [if_pos rfl] at H; exact H
           clear H
           have H := H1
           clear H1
           obtain rfl := Option.some.inj H
           go_wp2
           go_ret
           exact ⟨Z66, Z55⟩
          ·replace c23 := Bool.eq_false_iff.mpr c23
           subst c23
           have H1 : ((partner_ownFault.f kj10 ((rd_T23 l1 x19_1).f0) ((rd_T23 l1 x19_1).f1) ((rd_T23 l1 x19_1).f2) ((rd_T23 l1 x19_1).f3) ((rd_T23 l1 x19_1).f4) ((rd_T23 l1 x19_1).f5) ((rd_T23 l1 x19_1).f6) ((rd_T23 l1 x19_1).f7) ((rd_T23 l1 x19_1).f8)).bind fun t148 => (if t148 = 0 then (partner_CheckAgreements.l0 kj10 l0 l1 (l1.length : Int) (wrap64 (x19_1 + 1))) else (some t148))) = some r := by rw [if_neg (show ¬ (false = true) by decide)] at H; exact H
           clear H
           have H := H1
           clear H1
           replace H := Option.bind_eq_some_iff.mp H
           obtain ⟨t148, A240, H⟩ := H
           replace H : (if t148 = 0 then (partner_CheckAgreements.l0 kj10 l0 l1 (l1.length : Int) (wrap64 (x19_1 + 1))) else (some t148)) = some r := H
           have A24 := Aside0.mk A240
           clear A240
           by_cases c25 : t148 = 0
           ·rw [if_pos c25] at H
            have c25b0 : (t148 == 0) = true := beq_iff_eq.mpr c25
            have c25b1 : (t148 != 0) = false := bne_eq_false_iff_eq.mpr c25
            clear c25
            have H' := Aside0.mk H
            clear H
            have hcz26_0 : wc.cell? ⟨gb145, 0, none⟩ = some (.string ((rd_T23 l1 x19_1).f0)) := (blk_cell BK145.out 0).trans rfl
            have hcz26_1 : wc.cell? ⟨gb145, 1, none⟩ = some (.string ((rd_T23 l1 x19_1).f1)) := (blk_cell BK145.out 1).trans rfl
            have hcz26_2 : wc.cell? ⟨gb145, 2, none⟩ = some (.string ((rd_T23 l1 x19_1).f2)) := (blk_cell BK145.out 2).trans rfl
            have hcz26_3 : wc.cell? ⟨gb145, 3, none⟩ = some (.string ((rd_T23 l1 x19_1).f3)) := (blk_cell BK145.out 3).trans rfl
            have hcz26_4 : wc.cell? ⟨gb145, 4, none⟩ = some (.int .i64 ((rd_T23 l1 x19_1).f4)) := (blk_cell BK145.out 4).trans rfl
            have hcz26_5 : wc.cell? ⟨gb145, 5, none⟩ = some (.int .i64 ((rd_T23 l1 x19_1).f5)) := (blk_cell BK145.out 5).trans rfl
            have hcz26_6 : wc.cell? ⟨gb145, 6, none⟩ = some (.bool ((rd_T23 l1 x19_1).f6)) := (blk_cell BK145.out 6).trans rfl
            have hcz26_7 : wc.cell? ⟨gb145, 7, none⟩ = some (.int .i64 ((rd_T23 l1 x19_1).f7)) := (blk_cell BK145.out 7).trans rfl
            have hcz26_8 : wc.cell? ⟨gb145, 8, none⟩ = some (.bool ((rd_T23 l1 x19_1).f8)) := (blk_cell BK145.out 8).trans rfl
            have hfz26_0 := blk_frozen BK145.out 0
            have hfz26_1 := blk_frozen BK145.out 1
            have hfz26_2 := blk_frozen BK145.out 2
            have hfz26_3 := blk_frozen BK145.out 3
            have hfz26_4 := blk_frozen BK145.out 4
            have hfz26_5 := blk_frozen BK145.out 5
            have hfz26_6 := blk_frozen BK145.out 6
            have hfz26_7 := blk_frozen BK145.out 7
            have hfz26_8 := blk_frozen BK145.out 8
            go_wp2_with (first | ((with_reducible refine gate_callee (f := 43) rfl ?_); refine goesL_ (some 36) rfl rfl Tryd.func43 (by kernel_rfl) rfl #[.agg #[.string ((rd_T23 l1 x19_1).f0), .string ((rd_T23 l1 x19_1).f1), .string ((rd_T23 l1 x19_1).f2), .string ((rd_T23 l1 x19_1).f3), .int .i64 ((rd_T23 l1 x19_1).f4), .int .i64 ((rd_T23 l1 x19_1).f5), .bool ((rd_T23 l1 x19_1).f6), .int .i64 ((rd_T23 l1 x19_1).f7), .bool ((rd_T23 l1 x19_1).f8)]] rfl Z45 ?_; (with_reducible refine (partner_ownFault.calls kj10 ((rd_T23 l1 x19_1).f0) ((rd_T23 l1 x19_1).f1) ((rd_T23 l1 x19_1).f2) ((rd_T23 l1 x19_1).f3) ((rd_T23 l1 x19_1).f4) ((rd_T23 l1 x19_1).f5) ((rd_T23 l1 x19_1).f6) ((rd_T23 l1 x19_1).f7) ((rd_T23 l1 x19_1).f8) t148 _ A24.out).mono ?_); rintro e w27 ⟨rfl, hb⟩; refine ⟨_, rfl, ?_⟩; have n0_ := Aside0.mk (blk_below (g := gb145) (o := .cells #[.string ((rd_T23 l1 x19_1).f0), .string ((rd_T23 l1 x19_1).f1), .string ((rd_T23 l1 x19_1).f2), .string ((rd_T23 l1 x19_1).f3), .int .i64 ((rd_T23 l1 x19_1).f4), .int .i64 ((rd_T23 l1 x19_1).f5), .bool ((rd_T23 l1 x19_1).f6), .int .i64 ((rd_T23 l1 x19_1).f7), .bool ((rd_T23 l1 x19_1).f8)] 23 (0, 0)) Z76 hb); have n1_ := Aside0.mk (below_step Z55 hb); clear BK145; clear HB; have BK145 := n0_; have HB := n1_; clear n0_ n1_; (try clear hb); (try clear hb2); (try clear hk); (try clear hi)))
            go_roundg kj10
            case measure => have := HK1.out; have := HJ10.out; omega
            case rel => exact ⟨(wrap64 (x19_1 + 1)), Z98, H', ⟨by have := HK1.out; have := HJ10.out; omega⟩, ⟨Z55⟩⟩
           ·rw [if_neg c25] at H
            have c25b0 : (t148 == 0) = false := beq_eq_false_iff_ne.mpr c25
            have c25b1 : (t148 != 0) = true := bne_iff_ne.mpr c25
            obtain rfl := Option.some.inj H
            have hcz28_0 : wc.cell? ⟨gb145, 0, none⟩ = some (.string ((rd_T23 l1 x19_1).f0)) := (blk_cell BK145.out 0).trans rfl
            have hcz28_1 : wc.cell? ⟨gb145, 1, none⟩ = some (.string ((rd_T23 l1 x19_1).f1)) := (blk_cell BK145.out 1).trans rfl
            have hcz28_2 : wc.cell? ⟨gb145, 2, none⟩ = some (.string ((rd_T23 l1 x19_1).f2)) := (blk_cell BK145.out 2).trans rfl
            have hcz28_3 : wc.cell? ⟨gb145, 3, none⟩ = some (.string ((rd_T23 l1 x19_1).f3)) := (blk_cell BK145.out 3).trans rfl
            have hcz28_4 : wc.cell? ⟨gb145, 4, none⟩ = some (.int .i64 ((rd_T23 l1 x19_1).f4)) := (blk_cell BK145.out 4).trans rfl
            have hcz28_5 : wc.cell? ⟨gb145, 5, none⟩ = some (.int .i64 ((rd_T23 l1 x19_1).f5)) := (blk_cell BK145.out 5).trans rfl
            have hcz28_6 : wc.cell? ⟨gb145, 6, none⟩ = some (.bool ((rd_T23 l1 x19_1).f6)) := (blk_cell BK145.out 6).trans rfl
            have hcz28_7 : wc.cell? ⟨gb145, 7, none⟩ = some (.int .i64 ((rd_T23 l1 x19_1).f7)) := (blk_cell BK145.out 7).trans rfl
            have hcz28_8 : wc.cell? ⟨gb145, 8, none⟩ = some (.bool ((rd_T23 l1 x19_1).f8)) := (blk_cell BK145.out 8).trans rfl
            have hfz28_0 := blk_frozen BK145.out 0
            have hfz28_1 := blk_frozen BK145.out 1
            have hfz28_2 := blk_frozen BK145.out 2
            have hfz28_3 := blk_frozen BK145.out 3
            have hfz28_4 := blk_frozen BK145.out 4
            have hfz28_5 := blk_frozen BK145.out 5
            have hfz28_6 := blk_frozen BK145.out 6
            have hfz28_7 := blk_frozen BK145.out 7
            have hfz28_8 := blk_frozen BK145.out 8
            go_wp2_with (first | ((with_reducible refine gate_callee (f := 43) rfl ?_); refine goesL_ (some 36) rfl rfl Tryd.func43 (by kernel_rfl) rfl #[.agg #[.string ((rd_T23 l1 x19_1).f0), .string ((rd_T23 l1 x19_1).f1), .string ((rd_T23 l1 x19_1).f2), .string ((rd_T23 l1 x19_1).f3), .int .i64 ((rd_T23 l1 x19_1).f4), .int .i64 ((rd_T23 l1 x19_1).f5), .bool ((rd_T23 l1 x19_1).f6), .int .i64 ((rd_T23 l1 x19_1).f7), .bool ((rd_T23 l1 x19_1).f8)]] rfl Z45 ?_; (with_reducible refine (partner_ownFault.calls kj10 ((rd_T23 l1 x19_1).f0) ((rd_T23 l1 x19_1).f1) ((rd_T23 l1 x19_1).f2) ((rd_T23 l1 x19_1).f3) ((rd_T23 l1 x19_1).f4) ((rd_T23 l1 x19_1).f5) ((rd_T23 l1 x19_1).f6) ((rd_T23 l1 x19_1).f7) ((rd_T23 l1 x19_1).f8) t148 _ A24.out).mono ?_); rintro e w29 ⟨rfl, hb⟩; refine ⟨_, rfl, ?_⟩; have n0_ := Aside0.mk (blk_below (g := gb145) (o := .cells #[.string ((rd_T23 l1 x19_1).f0), .string ((rd_T23 l1 x19_1).f1), .string ((rd_T23 l1 x19_1).f2), .string ((rd_T23 l1 x19_1).f3), .int .i64 ((rd_T23 l1 x19_1).f4), .int .i64 ((rd_T23 l1 x19_1).f5), .bool ((rd_T23 l1 x19_1).f6), .int .i64 ((rd_T23 l1 x19_1).f7), .bool ((rd_T23 l1 x19_1).f8)] 23 (0, 0)) Z76 hb); have n1_ := Aside0.mk (below_step Z55 hb); clear BK145; clear HB; have BK145 := n0_; have HB := n1_; clear n0_ n1_; (try clear hb); (try clear hb2); (try clear hk); (try clear hi)))
            go_ret
            exact ⟨Z66, Z55⟩
       ·rw [if_neg c10] at H
        exact absurd H (by simp)
      ·rw [if_neg c9] at H
       exact absurd H (by simp)
     ·rw [if_neg c8] at H
      have c8b0 : decide (x19_1 < (l1.length : Int)) = false := decide_eq_false c8
      clear c8
      obtain rfl := Option.some.inj H
      go_wp2
      go_ret
      exact ⟨Z66, Z70⟩
 ·rw [if_neg c4] at H
  have c4b0 : (t143 == 0) = false := beq_eq_false_iff_ne.mpr c4
  have c4b1 : (t143 != 0) = true := bne_iff_ne.mpr c4
  obtain rfl := Option.some.inj H
  go_enter Tryd.func36, Tryd.ntmps36
  go_wp2_with (first | ((with_reducible refine gate_callee (f := 18) rfl ?_); refine goesL_ (some 10) rfl rfl Tryd.func18 (by kernel_rfl) rfl #[.slice A0 l0.length c0] rfl Z45 ?_; (with_reducible refine (partner_CheckPartners.calls k _ _ l0 t143 _ ?side1 ?side2 A3.out).mono ?_); (case side1 => exact Z67); (case side2 => exact Z106); rintro e w30 ⟨rfl, hb⟩; refine ⟨_, rfl, ?_⟩; have n0_ := Aside0.mk (below_step Z70 hb); clear HB; have HB := n0_; clear n0_; (try clear hb); (try clear hb2); (try clear hk); (try clear hi)))
  go_ret
  exact ⟨Z66, Z70⟩

/-! ### kit_IsDay: function 108 -/
def kit_IsDay.f (a0 : Int) : Option (Bool) := (kit_Outside.f a0 1 3652059).bind fun t149 => (some (!t149))
set_option maxHeartbeats 8000000 in
set_option maxRecDepth 100000 in
theorem kit_IsDay.calls (a0 : Int) (r : Bool) (w : World) (h : kit_IsDay.f a0 = some r) :
  Calls Tryd.prog 108 #[.int .i64 a0] w fun e w' => e = .returned (.bool r) ∧ Drawn0 w w' := by
 have H : ((kit_Outside.f a0 1 3652059).bind fun t149 => (some (!t149))) = some r := h
 clear h
 replace H := Option.bind_eq_some_iff.mp H
 obtain ⟨t149, A20, H⟩ := H
 replace H : (some (!t149)) = some r := H
 have A2 := Aside0.mk A20
 clear A20
 obtain rfl := Option.some.inj H
 go_enter Tryd.func108, Tryd.ntmps108
 go_wp2_with (first | ((with_reducible refine gate_callee (f := 86) rfl ?_); refine goesL_ (some 4) rfl rfl Tryd.func86 (by kernel_rfl) rfl #[.int .i64 a0, .int .i64 1, .int .i64 3652059] rfl Z45 ?_; (with_reducible refine (kit_Outside.calls a0 1 3652059 t149 _ A2.out).mono ?_); rintro e w' ⟨rfl, ⟨nd, rfl⟩⟩; refine ⟨_, rfl, ?_⟩))
 go_ret
 exact ⟨Z102, Z99⟩

/-! ### partner_restFault: function 79 -/
def partner_restFault.j0 : Nat → Bool → ByteArray → ByteArray → ByteArray → ByteArray → Int → Bool → Option (Int)
 | 0, _, _, _, _, _, _, _ => none
 | k + 1, x12, x151000, x151001, x151002, x151003, x151004, x151005 => if x12 = true then (some 5) else ((kit_IsDay.f x151004).bind fun t153 => (if t153 = true then (some 0) else (some 1)))
def partner_restFault.f (k : Nat) (a0_0 : ByteArray) (a0_1 : ByteArray) (a0_2 : ByteArray) (a0_3 : ByteArray) (a0_4 : Int) (a0_5 : Bool) : Option (Int) := (kit_IsName.f a0_2).bind fun t151 => (if t151 = true then ((kit_IsName.f a0_3).bind fun t152 => (partner_restFault.j0 k (!t152) a0_0 a0_1 a0_2 a0_3 a0_4 a0_5)) else (partner_restFault.j0 k true a0_0 a0_1 a0_2 a0_3 a0_4 a0_5))
theorem partner_restFault.mono_l : ∀ k, (∀ y0 y1 y2 y3 y4 y5 y6, LeO (partner_restFault.j0 k y0 y1 y2 y3 y4 y5 y6) (partner_restFault.j0 (k + 1) y0 y1 y2 y3 y4 y5 y6))
 | 0 => fun _ _ _ _ _ _ _ r h => by simp [partner_restFault.j0] at h
 | k + 1 => by
  have ih0 := partner_restFault.mono_l k
  ·intro y0 y1 y2 y3 y4 y5 y6
   unfold partner_restFault.j0
   repeat' first
   | (with_reducible exact ih0 _ _ _ _ _ _ _)
   | (with_reducible exact LeO.refl _)
   | (with_reducible exact LeO.none _)
   | (with_reducible refine LeO.ite ?_ ?_)
   | (with_reducible refine LeO.bind ?_ (fun _ => ?_))
   | exact ih0 _ _ _ _ _ _ _
   | exact LeO.none _
   | refine LeO.ite ?_ ?_
   | refine LeO.bind ?_ (fun _ => ?_)
theorem partner_restFault.mono : ∀ a0 a1 a2 a3 a4 a5 k, LeO (partner_restFault.f k a0 a1 a2 a3 a4 a5) (partner_restFault.f (k + 1) a0 a1 a2 a3 a4 a5) := by
 intro a0 a1 a2 a3 a4 a5 k
 have ih0 := partner_restFault.mono_l k
 unfold partner_restFault.f
 repeat' first
   | (with_reducible exact ih0 _ _ _ _ _ _ _)
   | (with_reducible exact LeO.refl _)
   | (with_reducible exact LeO.none _)
   | (with_reducible refine LeO.ite ?_ ?_)
   | (with_reducible refine LeO.bind ?_ (fun _ => ?_))
   | exact ih0 _ _ _ _ _ _ _
   | exact LeO.none _
   | refine LeO.ite ?_ ?_
   | refine LeO.bind ?_ (fun _ => ?_)
set_option maxHeartbeats 8000000 in
set_option maxRecDepth 100000 in
theorem partner_restFault.calls (k : Nat) (a0_0 : ByteArray) (a0_1 : ByteArray) (a0_2 : ByteArray) (a0_3 : ByteArray) (a0_4 : Int) (a0_5 : Bool) (r : Int) (w : World) (h : partner_restFault.f k a0_0 a0_1 a0_2 a0_3 a0_4 a0_5 = some r) :
  Calls Tryd.prog 79 #[.agg #[.string a0_0, .string a0_1, .string a0_2, .string a0_3, .int .i64 a0_4, .bool a0_5]] w fun e w' => e = .returned (.int .i64 r) ∧ Below w.heap.size w w' := by
 have hu37 := Tryd.underlying37
 have HB := Aside0.mk (Below.refl w.heap.size w)
 have H : ((kit_IsName.f a0_2).bind fun t151 => (if t151 = true then ((kit_IsName.f a0_3).bind fun t152 => (partner_restFault.j0 k (!t152) a0_0 a0_1 a0_2 a0_3 a0_4 a0_5)) else (partner_restFault.j0 k true a0_0 a0_1 a0_2 a0_3 a0_4 a0_5))) = some r := h
 clear h
 have HC2 := Aside0.mk H
 clear H
 go_enter Tryd.func79, Tryd.ntmps79
 go_upto_region 1 with (first | ((with_reducible refine gate_dst (N := 1) rfl ?_); refine box_event ?hg (N := 1) ?hd (cs := #[.string a0_0, .string a0_1, .string a0_2, .string a0_3, .int .i64 a0_4, .bool a0_5]) (t := 37) ?hr ?_; (case hd => rfl); (case hg => rfl); (case hr => exact Z103); intro gb150 hg w3 hbox hb; have n0_ := Aside0.mk (below_step Z70 hb); have n1_ := Aside0.mk (hbox); have n2_ := Aside0.mk ((Z49 : w.heap.size ≤ gb150)); have n3_ := Aside0.mk ((Z49 : w.heap.size ≤ gb150)); clear HB; have HB := n0_; have BK150 := n1_; have GW150 := n2_; have GE150 := n3_; clear n0_ n1_ n2_ n3_; clear hb hbox hg))
 (try simp only [Act.put, List.setIfInBounds_toArray, List.set_cons_zero, List.set_cons_succ])
 go_cut [12] (fun v12 wc => ∃ (kq : Nat) (x12_1 : Bool), v12 = .bool x12_1 ∧ Aside0 (partner_restFault.j0 kq x12_1 a0_0 a0_1 a0_2 a0_3 a0_4 a0_5 = some r) ∧ Aside0 (kq ≤ k) ∧ Aside0 (wc.heap[gb150]? = some (.cells #[.string a0_0, .string a0_1, .string a0_2, .string a0_3, .int .i64 a0_4, .bool a0_5] 37 (0, 0))) ∧ Aside0 (Below w.heap.size w wc))
 case first =>
  have H := HC2.out
  clear HC2
  replace H := Option.bind_eq_some_iff.mp H
  obtain ⟨t151, A40, H⟩ := H
  replace H : (if t151 = true then ((kit_IsName.f a0_3).bind fun t152 => (partner_restFault.j0 k (!t152) a0_0 a0_1 a0_2 a0_3 a0_4 a0_5)) else (partner_restFault.j0 k true a0_0 a0_1 a0_2 a0_3 a0_4 a0_5)) = some r := H
  have A4 := Aside0.mk A40
  clear A40
  by_cases c5 : t151 = true
  ·subst c5
   have H1 : ((kit_IsName.f a0_3).bind fun t152 => (partner_restFault.j0 k (!t152) a0_0 a0_1 a0_2 a0_3 a0_4 a0_5)) = some r := by rw [if_pos rfl] at H; exact H
   clear H
   have H := H1
   clear H1
   replace H := Option.bind_eq_some_iff.mp H
   obtain ⟨t152, A60, H⟩ := H
   replace H : (partner_restFault.j0 k (!t152) a0_0 a0_1 a0_2 a0_3 a0_4 a0_5) = some r := H
   have A6 := Aside0.mk A60
   clear A60
   have H' := Aside0.mk H
   clear H
   obtain ⟨hcz7_0, hcz7_1, hcz7_2, hcz7_3, hcz7_4, hcz7_5, hfz7_0, hfz7_1, hfz7_2, hfz7_3, hfz7_4, hfz7_5⟩ := bf6 BK150.out
   go_wp2_with (first | ((with_reducible refine gate_callee (f := 52) rfl ?_); refine goesL_ (some 5) rfl rfl Tryd.func52 (by kernel_rfl) rfl #[.string a0_2] rfl Z45 ?_; (with_reducible refine (kit_IsName.calls a0_2 true _ A4.out).mono ?_); rintro e w8 ⟨rfl, hb⟩; refine ⟨_, rfl, ?_⟩; have n0_ := Aside0.mk (blk_below (g := gb150) (o := .cells #[.string a0_0, .string a0_1, .string a0_2, .string a0_3, .int .i64 a0_4, .bool a0_5] 37 (0, 0)) Z77 hb); have n1_ := Aside0.mk (below_step Z56 hb); clear BK150; clear HB; have BK150 := n0_; have HB := n1_; clear n0_ n1_; (try clear hb); (try clear hb2); (try clear hk); (try clear hi); obtain ⟨hcz9_0, hcz9_1, hcz9_2, hcz9_3, hcz9_4, hcz9_5, hfz9_0, hfz9_1, hfz9_2, hfz9_3, hfz9_4, hfz9_5⟩ := bf6 BK150.out) | (go_at_call 52; (with_reducible refine (kit_IsName.calls a0_3 t152 _ A6.out).mono ?_); rintro e w10 ⟨rfl, hb⟩; have n0_ := Aside0.mk (blk_below (g := gb150) (o := .cells #[.string a0_0, .string a0_1, .string a0_2, .string a0_3, .int .i64 a0_4, .bool a0_5] 37 (0, 0)) Z77 hb); have n1_ := Aside0.mk (below_step Z56 hb); clear BK150; clear HB; have BK150 := n0_; have HB := n1_; clear n0_ n1_; (try clear hb); (try clear hb2); (try clear hk); (try clear hi)))
   go_meet
   case rel => exact ⟨_, (!t152), Z98, H', ⟨by first | omega | exact Nat.le_refl _⟩, ⟨Z77⟩, ⟨Z56⟩⟩
  ·replace c5 := Bool.eq_false_iff.mpr c5
   subst c5
   have H1 : (partner_restFault.j0 k true a0_0 a0_1 a0_2 a0_3 a0_4 a0_5) = some r := by rw [if_neg (show ¬ (false = true) by decide)] at H; exact H
   clear H
   have H := H1
   clear H1
   have H' := Aside0.mk H
   clear H
   obtain ⟨hcz11_0, hcz11_1, hcz11_2, hcz11_3, hcz11_4, hcz11_5, hfz11_0, hfz11_1, hfz11_2, hfz11_3, hfz11_4, hfz11_5⟩ := bf6 BK150.out
   go_wp2_with (first | ((with_reducible refine gate_callee (f := 52) rfl ?_); refine goesL_ (some 5) rfl rfl Tryd.func52 (by kernel_rfl) rfl #[.string a0_2] rfl Z45 ?_; (with_reducible refine (kit_IsName.calls a0_2 false _ A4.out).mono ?_); rintro e w12 ⟨rfl, hb⟩; refine ⟨_, rfl, ?_⟩; have n0_ := Aside0.mk (blk_below (g := gb150) (o := .cells #[.string a0_0, .string a0_1, .string a0_2, .string a0_3, .int .i64 a0_4, .bool a0_5] 37 (0, 0)) Z77 hb); have n1_ := Aside0.mk (below_step Z56 hb); clear BK150; clear HB; have BK150 := n0_; have HB := n1_; clear n0_ n1_; (try clear hb); (try clear hb2); (try clear hk); (try clear hi)))
   go_meet
   case rel => exact ⟨_, (true), Z98, H', ⟨by first | omega | exact Nat.le_refl _⟩, ⟨Z77⟩, ⟨Z56⟩⟩
 case rest =>
  clear HC2
  try clear p2
  try clear c5
  try clear c7
  try clear hcz11_0
  try clear hcz11_1
  try clear hcz11_2
  try clear hcz11_3
  try clear hcz11_4
  try clear hcz11_5
  try clear hcz7_0
  try clear hcz7_1
  try clear hcz7_2
  try clear hcz7_3
  try clear hcz7_4
  try clear hcz7_5
  try clear hcz9_0
  try clear hcz9_1
  try clear hcz9_2
  try clear hcz9_3
  try clear hcz9_4
  try clear hcz9_5
  try clear hfz11_0
  try clear hfz11_1
  try clear hfz11_2
  try clear hfz11_3
  try clear hfz11_4
  try clear hfz11_5
  try clear hfz7_0
  try clear hfz7_1
  try clear hfz7_2
  try clear hfz7_3
  try clear hfz7_4
  try clear hfz7_5
  try clear hfz9_0
  try clear hfz9_1
  try clear hfz9_2
  try clear hfz9_3
  try clear hfz9_4
  try clear hfz9_5
  obtain ⟨kq, x12_1, rfl, HA, HJ1, BK150, HB⟩ := hcut
  cases kq with
  | zero => exact absurd HA.out (by simp [partner_restFault.j0])
  | succ kj1 =>
   have H := HA.out
   clear HA
   simp only [partner_restFault.j0] at H
   by_cases c13 : x12_1 = true
   ·subst c13
    have H1 : (some 5) = some r := by rw [if_pos rfl] at H; exact H
    clear H
    have H := H1
    clear H1
    obtain rfl := Option.some.inj H
    go_wp2
    go_ret
    exact ⟨Z66, Z56⟩
   ·replace c13 := Bool.eq_false_iff.mpr c13
    subst c13
    have H1 : ((kit_IsDay.f a0_4).bind fun t153 => (if t153 = true then (some 0) else (some 1))) = some r := by rw [if_neg (show ¬ (false = true) by decide)] at H; exact H
    clear H
    have H := H1
    clear H1
    replace H := Option.bind_eq_some_iff.mp H
    obtain ⟨t153, A140, H⟩ := H
    replace H : (if t153 = true then (some 0) else (some 1)) = some r := H
    have A14 := Aside0.mk A140
    clear A140
    by_cases c15 : t153 = true
    ·subst c15
     have H1 : (some 0) = some r := by rw [if_pos rfl] at H; exact H
     clear H
     have H := H1
     clear H1
     obtain rfl := Option.some.inj H
     have hcz16_0 : wc.cell? ⟨gb150, 0, none⟩ = some (.string a0_0) := (blk_cell BK150.out 0).trans rfl
     have hcz16_1 : wc.cell? ⟨gb150, 1, none⟩ = some (.string a0_1) := (blk_cell BK150.out 1).trans rfl
     have hcz16_2 : wc.cell? ⟨gb150, 2, none⟩ = some (.string a0_2) := (blk_cell BK150.out 2).trans rfl
     have hcz16_3 : wc.cell? ⟨gb150, 3, none⟩ = some (.string a0_3) := (blk_cell BK150.out 3).trans rfl
     have hcz16_4 : wc.cell? ⟨gb150, 4, none⟩ = some (.int .i64 a0_4) := (blk_cell BK150.out 4).trans rfl
     have hcz16_5 : wc.cell? ⟨gb150, 5, none⟩ = some (.bool a0_5) := (blk_cell BK150.out 5).trans rfl
     have hfz16_0 := blk_frozen BK150.out 0
     have hfz16_1 := blk_frozen BK150.out 1
     have hfz16_2 := blk_frozen BK150.out 2
     have hfz16_3 := blk_frozen BK150.out 3
     have hfz16_4 := blk_frozen BK150.out 4
     have hfz16_5 := blk_frozen BK150.out 5
     go_wp2_with (first | ((with_reducible refine gate_callee (f := 108) rfl ?_); refine goesL_ (some 15) rfl rfl Tryd.func108 (by kernel_rfl) rfl #[.int .i64 a0_4] rfl Z45 ?_; (with_reducible refine (kit_IsDay.calls a0_4 true _ A14.out).mono ?_); rintro e w' ⟨rfl, ⟨nd, rfl⟩⟩; refine ⟨_, rfl, ?_⟩))
     go_ret
     exact ⟨Z66, Z56⟩
    ·replace c15 := Bool.eq_false_iff.mpr c15
     subst c15
     have H1 : (some 1) = some r := by rw [if_neg (show ¬ (false = true) by decide)] at H; exact H
     clear H
     have H := H1
     clear H1
     obtain rfl := Option.some.inj H
     have hcz17_0 : wc.cell? ⟨gb150, 0, none⟩ = some (.string a0_0) := (blk_cell BK150.out 0).trans rfl
     have hcz17_1 : wc.cell? ⟨gb150, 1, none⟩ = some (.string a0_1) := (blk_cell BK150.out 1).trans rfl
     have hcz17_2 : wc.cell? ⟨gb150, 2, none⟩ = some (.string a0_2) := (blk_cell BK150.out 2).trans rfl
     have hcz17_3 : wc.cell? ⟨gb150, 3, none⟩ = some (.string a0_3) := (blk_cell BK150.out 3).trans rfl
     have hcz17_4 : wc.cell? ⟨gb150, 4, none⟩ = some (.int .i64 a0_4) := (blk_cell BK150.out 4).trans rfl
     have hcz17_5 : wc.cell? ⟨gb150, 5, none⟩ = some (.bool a0_5) := (blk_cell BK150.out 5).trans rfl
     have hfz17_0 := blk_frozen BK150.out 0
     have hfz17_1 := blk_frozen BK150.out 1
     have hfz17_2 := blk_frozen BK150.out 2
     have hfz17_3 := blk_frozen BK150.out 3
     have hfz17_4 := blk_frozen BK150.out 4
     have hfz17_5 := blk_frozen BK150.out 5
     go_wp2_with (first | ((with_reducible refine gate_callee (f := 108) rfl ?_); refine goesL_ (some 15) rfl rfl Tryd.func108 (by kernel_rfl) rfl #[.int .i64 a0_4] rfl Z45 ?_; (with_reducible refine (kit_IsDay.calls a0_4 false _ A14.out).mono ?_); rintro e w' ⟨rfl, ⟨nd, rfl⟩⟩; refine ⟨_, rfl, ?_⟩))
     go_ret
     exact ⟨Z66, Z56⟩

/-! ### partner_caseFault: function 56 -/
def partner_caseFault.f (k : Nat) (a0_0 : ByteArray) (a0_1 : ByteArray) (a0_2 : ByteArray) (a0_3 : ByteArray) (a0_4 : Int) (a0_5 : Bool) : Option (Int) := (kit_IsName.f a0_0).bind fun t155 => (if t155 = true then ((kit_IsName.f a0_1).bind fun t156 => (if t156 = true then ((partner_restFault.f k a0_0 a0_1 a0_2 a0_3 a0_4 a0_5).bind fun t157 => (some t157)) else (some 5))) else (some 5))
theorem partner_caseFault.mono : ∀ a0 a1 a2 a3 a4 a5 k, LeO (partner_caseFault.f k a0 a1 a2 a3 a4 a5) (partner_caseFault.f (k + 1) a0 a1 a2 a3 a4 a5) := by
 intro a0 a1 a2 a3 a4 a5 k
 unfold partner_caseFault.f
 repeat' first
   | (with_reducible exact partner_restFault.mono _ _ _ _ _ _ _)
   | (with_reducible exact LeO.refl _)
   | (with_reducible exact LeO.none _)
   | (with_reducible refine LeO.ite ?_ ?_)
   | (with_reducible refine LeO.bind ?_ (fun _ => ?_))
   | exact partner_restFault.mono _ _ _ _ _ _ _
   | exact LeO.none _
   | refine LeO.ite ?_ ?_
   | refine LeO.bind ?_ (fun _ => ?_)
set_option maxHeartbeats 8000000 in
set_option maxRecDepth 100000 in
theorem partner_caseFault.calls (k : Nat) (a0_0 : ByteArray) (a0_1 : ByteArray) (a0_2 : ByteArray) (a0_3 : ByteArray) (a0_4 : Int) (a0_5 : Bool) (r : Int) (w : World) (h : partner_caseFault.f k a0_0 a0_1 a0_2 a0_3 a0_4 a0_5 = some r) :
  Calls Tryd.prog 56 #[.agg #[.string a0_0, .string a0_1, .string a0_2, .string a0_3, .int .i64 a0_4, .bool a0_5]] w fun e w' => e = .returned (.int .i64 r) ∧ Below w.heap.size w w' := by
 have hu37 := Tryd.underlying37
 have HB := Aside0.mk (Below.refl w.heap.size w)
 have H : ((kit_IsName.f a0_0).bind fun t155 => (if t155 = true then ((kit_IsName.f a0_1).bind fun t156 => (if t156 = true then ((partner_restFault.f k a0_0 a0_1 a0_2 a0_3 a0_4 a0_5).bind fun t157 => (some t157)) else (some 5))) else (some 5))) = some r := h
 clear h
 replace H := Option.bind_eq_some_iff.mp H
 obtain ⟨t155, A20, H⟩ := H
 replace H : (if t155 = true then ((kit_IsName.f a0_1).bind fun t156 => (if t156 = true then ((partner_restFault.f k a0_0 a0_1 a0_2 a0_3 a0_4 a0_5).bind fun t157 => (some t157)) else (some 5))) else (some 5)) = some r := H
 have A2 := Aside0.mk A20
 clear A20
 by_cases c3 : t155 = true
 ·subst c3
  have H1 : ((kit_IsName.f a0_1).bind fun t156 => (if t156 = true then ((partner_restFault.f k a0_0 a0_1 a0_2 a0_3 a0_4 a0_5).bind fun t157 => (some t157)) else (some 5))) = some r := by rw [if_pos rfl] at H; exact H
  clear H
  have H := H1
  clear H1
  replace H := Option.bind_eq_some_iff.mp H
  obtain ⟨t156, A40, H⟩ := H
  replace H : (if t156 = true then ((partner_restFault.f k a0_0 a0_1 a0_2 a0_3 a0_4 a0_5).bind fun t157 => (some t157)) else (some 5)) = some r := H
  have A4 := Aside0.mk A40
  clear A40
  by_cases c5 : t156 = true
  ·subst c5
   have H1 : ((partner_restFault.f k a0_0 a0_1 a0_2 a0_3 a0_4 a0_5).bind fun t157 => (some t157)) = some r := by rw [if_pos rfl] at H; exact H
   clear H
   have H := H1
   clear H1
   replace H := Option.bind_eq_some_iff.mp H
   obtain ⟨t157, A60, H⟩ := H
   replace H : (some t157) = some r := H
   have A6 := Aside0.mk A60
   clear A60
   obtain rfl := Option.some.inj H
   go_enter Tryd.func56, Tryd.ntmps56
   go_wp2_with (first | ((with_reducible refine gate_dst (N := 1) rfl ?_); refine box_event ?hg (N := 1) ?hd (cs := #[.string a0_0, .string a0_1, .string a0_2, .string a0_3, .int .i64 a0_4, .bool a0_5]) (t := 37) ?hr ?_; (case hd => rfl); (case hg => rfl); (case hr => exact Z103); intro gb154 hg w7 hbox hb; have n0_ := Aside0.mk (below_step Z70 hb); have n1_ := Aside0.mk (hbox); have n2_ := Aside0.mk ((Z49 : w.heap.size ≤ gb154)); have n3_ := Aside0.mk ((Z49 : w.heap.size ≤ gb154)); clear HB; have HB := n0_; have BK154 := n1_; have GW154 := n2_; have GE154 := n3_; clear n0_ n1_ n2_ n3_; clear hb hbox hg; obtain ⟨hcz8_0, hcz8_1, hcz8_2, hcz8_3, hcz8_4, hcz8_5, hfz8_0, hfz8_1, hfz8_2, hfz8_3, hfz8_4, hfz8_5⟩ := bf6 BK154.out) | ((with_reducible refine gate_callee (f := 52) rfl ?_); refine goesL_ (some 5) rfl rfl Tryd.func52 (by kernel_rfl) rfl #[.string a0_0] rfl Z45 ?_; (with_reducible refine (kit_IsName.calls a0_0 true _ A2.out).mono ?_); rintro e w9 ⟨rfl, hb⟩; refine ⟨_, rfl, ?_⟩; have n0_ := Aside0.mk (blk_below (g := gb154) (o := .cells #[.string a0_0, .string a0_1, .string a0_2, .string a0_3, .int .i64 a0_4, .bool a0_5] 37 (0, 0)) Z78 hb); have n1_ := Aside0.mk (below_step Z57 hb); clear BK154; clear HB; have BK154 := n0_; have HB := n1_; clear n0_ n1_; (try clear hb); (try clear hb2); (try clear hk); (try clear hi); obtain ⟨hcz10_0, hcz10_1, hcz10_2, hcz10_3, hcz10_4, hcz10_5, hfz10_0, hfz10_1, hfz10_2, hfz10_3, hfz10_4, hfz10_5⟩ := bf6 BK154.out) | (go_at_call 52; (with_reducible refine (kit_IsName.calls a0_1 true _ A4.out).mono ?_); rintro e w11 ⟨rfl, hb⟩; have n0_ := Aside0.mk (blk_below (g := gb154) (o := .cells #[.string a0_0, .string a0_1, .string a0_2, .string a0_3, .int .i64 a0_4, .bool a0_5] 37 (0, 0)) Z78 hb); have n1_ := Aside0.mk (below_step Z57 hb); clear BK154; clear HB; have BK154 := n0_; have HB := n1_; clear n0_ n1_; (try clear hb); (try clear hb2); (try clear hk); (try clear hi); obtain ⟨hcz12_0, hcz12_1, hcz12_2, hcz12_3, hcz12_4, hcz12_5, hfz12_0, hfz12_1, hfz12_2, hfz12_3, hfz12_4, hfz12_5⟩ := bf6 BK154.out) | ((with_reducible refine gate_callee (f := 79) rfl ?_); refine goesL_ (some 14) rfl rfl Tryd.func79 (by kernel_rfl) rfl #[.agg #[.string a0_0, .string a0_1, .string a0_2, .string a0_3, .int .i64 a0_4, .bool a0_5]] rfl Z45 ?_; (with_reducible refine (partner_restFault.calls k a0_0 a0_1 a0_2 a0_3 a0_4 a0_5 t157 _ A6.out).mono ?_); rintro e w13 ⟨rfl, hb⟩; refine ⟨_, rfl, ?_⟩; have n0_ := Aside0.mk (blk_below (g := gb154) (o := .cells #[.string a0_0, .string a0_1, .string a0_2, .string a0_3, .int .i64 a0_4, .bool a0_5] 37 (0, 0)) Z78 hb); have n1_ := Aside0.mk (below_step Z57 hb); clear BK154; clear HB; have BK154 := n0_; have HB := n1_; clear n0_ n1_; (try clear hb); (try clear hb2); (try clear hk); (try clear hi)))
   go_ret
   exact ⟨Z66, Z57⟩
  ·replace c5 := Bool.eq_false_iff.mpr c5
   subst c5
   have H1 : (some 5) = some r := by rw [if_neg (show ¬ (false = true) by decide)] at H; exact H
   clear H
   have H := H1
   clear H1
   obtain rfl := Option.some.inj H
   go_enter Tryd.func56, Tryd.ntmps56
   go_wp2_with (first | ((with_reducible refine gate_dst (N := 1) rfl ?_); refine box_event ?hg (N := 1) ?hd (cs := #[.string a0_0, .string a0_1, .string a0_2, .string a0_3, .int .i64 a0_4, .bool a0_5]) (t := 37) ?hr ?_; (case hd => rfl); (case hg => rfl); (case hr => exact Z103); intro gb154 hg w14 hbox hb; have n0_ := Aside0.mk (below_step Z70 hb); have n1_ := Aside0.mk (hbox); have n2_ := Aside0.mk ((Z49 : w.heap.size ≤ gb154)); have n3_ := Aside0.mk ((Z49 : w.heap.size ≤ gb154)); clear HB; have HB := n0_; have BK154 := n1_; have GW154 := n2_; have GE154 := n3_; clear n0_ n1_ n2_ n3_; clear hb hbox hg; obtain ⟨hcz15_0, hcz15_1, hcz15_2, hcz15_3, hcz15_4, hcz15_5, hfz15_0, hfz15_1, hfz15_2, hfz15_3, hfz15_4, hfz15_5⟩ := bf6 BK154.out) | ((with_reducible refine gate_callee (f := 52) rfl ?_); refine goesL_ (some 5) rfl rfl Tryd.func52 (by kernel_rfl) rfl #[.string a0_0] rfl Z45 ?_; (with_reducible refine (kit_IsName.calls a0_0 true _ A2.out).mono ?_); rintro e w16 ⟨rfl, hb⟩; refine ⟨_, rfl, ?_⟩; have n0_ := Aside0.mk (blk_below (g := gb154) (o := .cells #[.string a0_0, .string a0_1, .string a0_2, .string a0_3, .int .i64 a0_4, .bool a0_5] 37 (0, 0)) Z78 hb); have n1_ := Aside0.mk (below_step Z57 hb); clear BK154; clear HB; have BK154 := n0_; have HB := n1_; clear n0_ n1_; (try clear hb); (try clear hb2); (try clear hk); (try clear hi); obtain ⟨hcz17_0, hcz17_1, hcz17_2, hcz17_3, hcz17_4, hcz17_5, hfz17_0, hfz17_1, hfz17_2, hfz17_3, hfz17_4, hfz17_5⟩ := bf6 BK154.out) | (go_at_call 52; (with_reducible refine (kit_IsName.calls a0_1 false _ A4.out).mono ?_); rintro e w18 ⟨rfl, hb⟩; have n0_ := Aside0.mk (blk_below (g := gb154) (o := .cells #[.string a0_0, .string a0_1, .string a0_2, .string a0_3, .int .i64 a0_4, .bool a0_5] 37 (0, 0)) Z78 hb); have n1_ := Aside0.mk (below_step Z57 hb); clear BK154; clear HB; have BK154 := n0_; have HB := n1_; clear n0_ n1_; (try clear hb); (try clear hb2); (try clear hk); (try clear hi)))
   go_ret
   exact ⟨Z66, Z57⟩
 ·replace c3 := Bool.eq_false_iff.mpr c3
  subst c3
  have H1 : (some 5) = some r := by rw [if_neg (show ¬ (false = true) by decide)] at H; exact H
  clear H
  have H := H1
  clear H1
  obtain rfl := Option.some.inj H
  go_enter Tryd.func56, Tryd.ntmps56
  go_wp2_with (first | ((with_reducible refine gate_dst (N := 1) rfl ?_); refine box_event ?hg (N := 1) ?hd (cs := #[.string a0_0, .string a0_1, .string a0_2, .string a0_3, .int .i64 a0_4, .bool a0_5]) (t := 37) ?hr ?_; (case hd => rfl); (case hg => rfl); (case hr => exact Z103); intro gb154 hg w19 hbox hb; have n0_ := Aside0.mk (below_step Z70 hb); have n1_ := Aside0.mk (hbox); have n2_ := Aside0.mk ((Z49 : w.heap.size ≤ gb154)); have n3_ := Aside0.mk ((Z49 : w.heap.size ≤ gb154)); clear HB; have HB := n0_; have BK154 := n1_; have GW154 := n2_; have GE154 := n3_; clear n0_ n1_ n2_ n3_; clear hb hbox hg; obtain ⟨hcz20_0, hcz20_1, hcz20_2, hcz20_3, hcz20_4, hcz20_5, hfz20_0, hfz20_1, hfz20_2, hfz20_3, hfz20_4, hfz20_5⟩ := bf6 BK154.out) | ((with_reducible refine gate_callee (f := 52) rfl ?_); refine goesL_ (some 5) rfl rfl Tryd.func52 (by kernel_rfl) rfl #[.string a0_0] rfl Z45 ?_; (with_reducible refine (kit_IsName.calls a0_0 false _ A2.out).mono ?_); rintro e w21 ⟨rfl, hb⟩; refine ⟨_, rfl, ?_⟩; have n0_ := Aside0.mk (blk_below (g := gb154) (o := .cells #[.string a0_0, .string a0_1, .string a0_2, .string a0_3, .int .i64 a0_4, .bool a0_5] 37 (0, 0)) Z78 hb); have n1_ := Aside0.mk (below_step Z57 hb); clear BK154; clear HB; have BK154 := n0_; have HB := n1_; clear n0_ n1_; (try clear hb); (try clear hb2); (try clear hk); (try clear hi)))
  go_ret
  exact ⟨Z66, Z57⟩

/-! ### partner_askedFault: function 67 -/
def partner_askedFault.f (k : Nat) (l0 : List (S86)) (l1 : List (S23)) (a2_0 : ByteArray) (a2_1 : ByteArray) (a2_2 : ByteArray) (a2_3 : ByteArray) (a2_4 : Int) (a2_5 : Bool) : Option (Int) := (partner_CheckAgreements.f k l0 l1).bind fun t159 => (if t159 = 0 then ((partner_caseFault.f k a2_0 a2_1 a2_2 a2_3 a2_4 a2_5).bind fun t160 => (if t160 = 0 then ((partner_isPartner.f k l0 a2_0).bind fun t161 => (if t161 = true then ((partner_isPartner.f k l0 a2_1).bind fun t162 => (if t162 = true then (some 0) else (some 5))) else (some 5))) else (some t160))) else (some t159))
theorem partner_askedFault.mono : ∀ a0 a1 a2 a3 a4 a5 a6 a7 k, LeO (partner_askedFault.f k a0 a1 a2 a3 a4 a5 a6 a7) (partner_askedFault.f (k + 1) a0 a1 a2 a3 a4 a5 a6 a7) := by
 intro a0 a1 a2 a3 a4 a5 a6 a7 k
 unfold partner_askedFault.f
 repeat' first
   | (with_reducible exact partner_CheckAgreements.mono _ _ _)
   | (with_reducible exact partner_caseFault.mono _ _ _ _ _ _ _)
   | (with_reducible exact partner_isPartner.mono _ _ _)
   | (with_reducible exact LeO.refl _)
   | (with_reducible exact LeO.none _)
   | (with_reducible refine LeO.ite ?_ ?_)
   | (with_reducible refine LeO.bind ?_ (fun _ => ?_))
   | exact partner_CheckAgreements.mono _ _ _
   | exact partner_caseFault.mono _ _ _ _ _ _ _
   | exact partner_isPartner.mono _ _ _
   | exact LeO.none _
   | refine LeO.ite ?_ ?_
   | refine LeO.bind ?_ (fun _ => ?_)
set_option maxHeartbeats 8000000 in
set_option maxRecDepth 100000 in
theorem partner_askedFault.calls (k : Nat) (A0 : Option Addr) (c0 : Nat) (l0 : List (S86)) (A1 : Option Addr) (c1 : Nat) (l1 : List (S23)) (a2_0 : ByteArray) (a2_1 : ByteArray) (a2_2 : ByteArray) (a2_3 : ByteArray) (a2_4 : Int) (a2_5 : Bool) (r : Int) (w : World) (hr0 : Kd.C k86 w A0 l0.length l0) (hc0 : l0.length ≤ c0) (hr1 : Kd.C k23 w A1 l1.length l1) (hc1 : l1.length ≤ c1) (h : partner_askedFault.f k l0 l1 a2_0 a2_1 a2_2 a2_3 a2_4 a2_5 = some r) :
  Calls Tryd.prog 67 #[.slice A0 l0.length c0, .slice A1 l1.length c1, .agg #[.string a2_0, .string a2_1, .string a2_2, .string a2_3, .int .i64 a2_4, .bool a2_5]] w fun e w' => e = .returned (.int .i64 r) ∧ Below w.heap.size w w' := by
 have hu37 := Tryd.underlying37
 have HR0 := Aside0.mk hr0
 have HC0 := Aside0.mk hc0
 clear hr0 hc0
 have HR1 := Aside0.mk hr1
 have HC1 := Aside0.mk hc1
 clear hr1 hc1
 have HB := Aside0.mk (Below.refl w.heap.size w)
 have H : ((partner_CheckAgreements.f k l0 l1).bind fun t159 => (if t159 = 0 then ((partner_caseFault.f k a2_0 a2_1 a2_2 a2_3 a2_4 a2_5).bind fun t160 => (if t160 = 0 then ((partner_isPartner.f k l0 a2_0).bind fun t161 => (if t161 = true then ((partner_isPartner.f k l0 a2_1).bind fun t162 => (if t162 = true then (some 0) else (some 5))) else (some 5))) else (some t160))) else (some t159))) = some r := h
 clear h
 replace H := Option.bind_eq_some_iff.mp H
 obtain ⟨t159, A40, H⟩ := H
 replace H : (if t159 = 0 then ((partner_caseFault.f k a2_0 a2_1 a2_2 a2_3 a2_4 a2_5).bind fun t160 => (if t160 = 0 then ((partner_isPartner.f k l0 a2_0).bind fun t161 => (if t161 = true then ((partner_isPartner.f k l0 a2_1).bind fun t162 => (if t162 = true then (some 0) else (some 5))) else (some 5))) else (some t160))) else (some t159)) = some r := H
 have A4 := Aside0.mk A40
 clear A40
 by_cases c5 : t159 = 0
 ·rw [if_pos c5] at H
  have c5b0 : (t159 == 0) = true := beq_iff_eq.mpr c5
  have c5b1 : (t159 != 0) = false := bne_eq_false_iff_eq.mpr c5
  clear c5
  replace H := Option.bind_eq_some_iff.mp H
  obtain ⟨t160, A60, H⟩ := H
  replace H : (if t160 = 0 then ((partner_isPartner.f k l0 a2_0).bind fun t161 => (if t161 = true then ((partner_isPartner.f k l0 a2_1).bind fun t162 => (if t162 = true then (some 0) else (some 5))) else (some 5))) else (some t160)) = some r := H
  have A6 := Aside0.mk A60
  clear A60
  by_cases c7 : t160 = 0
  ·rw [if_pos c7] at H
   have c7b0 : (t160 == 0) = true := beq_iff_eq.mpr c7
   have c7b1 : (t160 != 0) = false := bne_eq_false_iff_eq.mpr c7
   clear c7
   replace H := Option.bind_eq_some_iff.mp H
   obtain ⟨t161, A80, H⟩ := H
   replace H : (if t161 = true then ((partner_isPartner.f k l0 a2_1).bind fun t162 => (if t162 = true then (some 0) else (some 5))) else (some 5)) = some r := H
   have A8 := Aside0.mk A80
   clear A80
   by_cases c9 : t161 = true
   ·subst c9
    have H1 : ((partner_isPartner.f k l0 a2_1).bind fun t162 => (if t162 = true then (some 0) else (some 5))) = some r := by rw [if_pos rfl] at H; exact H
    clear H
    have H := H1
    clear H1
    replace H := Option.bind_eq_some_iff.mp H
    obtain ⟨t162, A100, H⟩ := H
    replace H : (if t162 = true then (some 0) else (some 5)) = some r := H
    have A10 := Aside0.mk A100
    clear A100
    by_cases c11 : t162 = true
    ·subst c11
     have H1 : (some 0) = some r := by rw [if_pos rfl] at H; exact H
     clear H
     have H := H1
     clear H1
     obtain rfl := Option.some.inj H
     go_enter Tryd.func67, Tryd.ntmps67
     go_wp2_with (first | ((with_reducible refine gate_dst (N := 5) rfl ?_); refine box_event ?hg (N := 5) ?hd (cs := #[.string a2_0, .string a2_1, .string a2_2, .string a2_3, .int .i64 a2_4, .bool a2_5]) (t := 37) ?hr ?_; (case hd => rfl); (case hg => rfl); (case hr => exact Z103); intro gb158 hg w12 hbox hb; have n0_ := Aside0.mk (below_step Z70 hb); have n1_ := Aside0.mk (hbox); have n2_ := Aside0.mk ((Z49 : w.heap.size ≤ gb158)); have n3_ := Aside0.mk ((Z49 : w.heap.size ≤ gb158)); clear HB; have HB := n0_; have BK158 := n1_; have GW158 := n2_; have GE158 := n3_; clear n0_ n1_ n2_ n3_; clear hb hbox hg) | ((with_reducible refine gate_callee (f := 36) rfl ?_); refine goesL_ (some 11) rfl rfl Tryd.func36 (by kernel_rfl) rfl #[.slice A0 l0.length c0, .slice A1 l1.length c1] rfl Z45 ?_; (with_reducible refine (partner_CheckAgreements.calls k _ _ l0 _ _ l1 t159 _ ?side1 ?side2 ?side3 ?side4 A4.out).mono ?_); (case side1 => exact Z46); (case side2 => exact Z106); (case side3 => exact Z47); (case side4 => exact HC1.out); rintro e w13 ⟨rfl, hb⟩; refine ⟨_, rfl, ?_⟩; have n0_ := Aside0.mk (blk_below (g := gb158) (o := .cells #[.string a2_0, .string a2_1, .string a2_2, .string a2_3, .int .i64 a2_4, .bool a2_5] 37 (0, 0)) Z79 hb); have n1_ := Aside0.mk (below_step Z58 hb); clear BK158; clear HB; have BK158 := n0_; have HB := n1_; clear n0_ n1_; (try clear hb); (try clear hb2); (try clear hk); (try clear hi); obtain ⟨hcz14_0, hcz14_1, hcz14_2, hcz14_3, hcz14_4, hcz14_5, hfz14_0, hfz14_1, hfz14_2, hfz14_3, hfz14_4, hfz14_5⟩ := bf6 BK158.out) | ((with_reducible refine gate_callee (f := 56) rfl ?_); refine goesL_ (some 16) rfl rfl Tryd.func56 (by kernel_rfl) rfl #[.agg #[.string a2_0, .string a2_1, .string a2_2, .string a2_3, .int .i64 a2_4, .bool a2_5]] rfl Z45 ?_; (with_reducible refine (partner_caseFault.calls k a2_0 a2_1 a2_2 a2_3 a2_4 a2_5 t160 _ A6.out).mono ?_); rintro e w15 ⟨rfl, hb⟩; refine ⟨_, rfl, ?_⟩; have n0_ := Aside0.mk (blk_below (g := gb158) (o := .cells #[.string a2_0, .string a2_1, .string a2_2, .string a2_3, .int .i64 a2_4, .bool a2_5] 37 (0, 0)) Z79 hb); have n1_ := Aside0.mk (below_step Z58 hb); clear BK158; clear HB; have BK158 := n0_; have HB := n1_; clear n0_ n1_; (try clear hb); (try clear hb2); (try clear hk); (try clear hi); obtain ⟨hcz16_0, hcz16_1, hcz16_2, hcz16_3, hcz16_4, hcz16_5, hfz16_0, hfz16_1, hfz16_2, hfz16_3, hfz16_4, hfz16_5⟩ := bf6 BK158.out) | ((with_reducible refine gate_callee (f := 77) rfl ?_); refine goesL_ (some 23) rfl rfl Tryd.func77 (by kernel_rfl) rfl #[.slice A0 l0.length c0, .string a2_0] rfl Z45 ?_; (with_reducible refine (partner_isPartner.calls k _ _ l0 a2_0 true _ ?side1 ?side2 A8.out).mono ?_); (case side1 => exact Z46); (case side2 => exact Z106); rintro e w17 ⟨rfl, hb⟩; refine ⟨_, rfl, ?_⟩; have n0_ := Aside0.mk (blk_below (g := gb158) (o := .cells #[.string a2_0, .string a2_1, .string a2_2, .string a2_3, .int .i64 a2_4, .bool a2_5] 37 (0, 0)) Z79 hb); have n1_ := Aside0.mk (below_step Z58 hb); clear BK158; clear HB; have BK158 := n0_; have HB := n1_; clear n0_ n1_; (try clear hb); (try clear hb2); (try clear hk); (try clear hi); obtain ⟨hcz18_0, hcz18_1, hcz18_2, hcz18_3, hcz18_4, hcz18_5, hfz18_0, hfz18_1, hfz18_2, hfz18_3, hfz18_4, hfz18_5⟩ := bf6 BK158.out) | (go_at_call 77; (with_reducible refine (partner_isPartner.calls k _ _ l0 a2_1 true _ ?side1 ?side2 A10.out).mono ?_); (case side1 => exact Z46); (case side2 => exact Z106); rintro e w19 ⟨rfl, hb⟩; have n0_ := Aside0.mk (blk_below (g := gb158) (o := .cells #[.string a2_0, .string a2_1, .string a2_2, .string a2_3, .int .i64 a2_4, .bool a2_5] 37 (0, 0)) Z79 hb); have n1_ := Aside0.mk (below_step Z58 hb); clear BK158; clear HB; have BK158 := n0_; have HB := n1_; clear n0_ n1_; (try clear hb); (try clear hb2); (try clear hk); (try clear hi)))
     go_ret
     exact ⟨Z66, Z58⟩
    ·replace c11 := Bool.eq_false_iff.mpr c11
     subst c11
     have H1 : (some 5) = some r := by rw [if_neg (show ¬ (false = true) by decide)] at H; exact H
     clear H
     have H := H1
     clear H1
     obtain rfl := Option.some.inj H
     go_enter Tryd.func67, Tryd.ntmps67
     go_wp2_with (first | ((with_reducible refine gate_dst (N := 5) rfl ?_); refine box_event ?hg (N := 5) ?hd (cs := #[.string a2_0, .string a2_1, .string a2_2, .string a2_3, .int .i64 a2_4, .bool a2_5]) (t := 37) ?hr ?_; (case hd => rfl); (case hg => rfl); (case hr => exact Z103); intro gb158 hg w20 hbox hb; have n0_ := Aside0.mk (below_step Z70 hb); have n1_ := Aside0.mk (hbox); have n2_ := Aside0.mk ((Z49 : w.heap.size ≤ gb158)); have n3_ := Aside0.mk ((Z49 : w.heap.size ≤ gb158)); clear HB; have HB := n0_; have BK158 := n1_; have GW158 := n2_; have GE158 := n3_; clear n0_ n1_ n2_ n3_; clear hb hbox hg) | ((with_reducible refine gate_callee (f := 36) rfl ?_); refine goesL_ (some 11) rfl rfl Tryd.func36 (by kernel_rfl) rfl #[.slice A0 l0.length c0, .slice A1 l1.length c1] rfl Z45 ?_; (with_reducible refine (partner_CheckAgreements.calls k _ _ l0 _ _ l1 t159 _ ?side1 ?side2 ?side3 ?side4 A4.out).mono ?_); (case side1 => exact Z46); (case side2 => exact Z106); (case side3 => exact Z47); (case side4 => exact HC1.out); rintro e w21 ⟨rfl, hb⟩; refine ⟨_, rfl, ?_⟩; have n0_ := Aside0.mk (blk_below (g := gb158) (o := .cells #[.string a2_0, .string a2_1, .string a2_2, .string a2_3, .int .i64 a2_4, .bool a2_5] 37 (0, 0)) Z79 hb); have n1_ := Aside0.mk (below_step Z58 hb); clear BK158; clear HB; have BK158 := n0_; have HB := n1_; clear n0_ n1_; (try clear hb); (try clear hb2); (try clear hk); (try clear hi); obtain ⟨hcz22_0, hcz22_1, hcz22_2, hcz22_3, hcz22_4, hcz22_5, hfz22_0, hfz22_1, hfz22_2, hfz22_3, hfz22_4, hfz22_5⟩ := bf6 BK158.out) | ((with_reducible refine gate_callee (f := 56) rfl ?_); refine goesL_ (some 16) rfl rfl Tryd.func56 (by kernel_rfl) rfl #[.agg #[.string a2_0, .string a2_1, .string a2_2, .string a2_3, .int .i64 a2_4, .bool a2_5]] rfl Z45 ?_; (with_reducible refine (partner_caseFault.calls k a2_0 a2_1 a2_2 a2_3 a2_4 a2_5 t160 _ A6.out).mono ?_); rintro e w23 ⟨rfl, hb⟩; refine ⟨_, rfl, ?_⟩; have n0_ := Aside0.mk (blk_below (g := gb158) (o := .cells #[.string a2_0, .string a2_1, .string a2_2, .string a2_3, .int .i64 a2_4, .bool a2_5] 37 (0, 0)) Z79 hb); have n1_ := Aside0.mk (below_step Z58 hb); clear BK158; clear HB; have BK158 := n0_; have HB := n1_; clear n0_ n1_; (try clear hb); (try clear hb2); (try clear hk); (try clear hi); obtain ⟨hcz24_0, hcz24_1, hcz24_2, hcz24_3, hcz24_4, hcz24_5, hfz24_0, hfz24_1, hfz24_2, hfz24_3, hfz24_4, hfz24_5⟩ := bf6 BK158.out) | ((with_reducible refine gate_callee (f := 77) rfl ?_); refine goesL_ (some 23) rfl rfl Tryd.func77 (by kernel_rfl) rfl #[.slice A0 l0.length c0, .string a2_0] rfl Z45 ?_; (with_reducible refine (partner_isPartner.calls k _ _ l0 a2_0 true _ ?side1 ?side2 A8.out).mono ?_); (case side1 => exact Z46); (case side2 => exact Z106); rintro e w25 ⟨rfl, hb⟩; refine ⟨_, rfl, ?_⟩; have n0_ := Aside0.mk (blk_below (g := gb158) (o := .cells #[.string a2_0, .string a2_1, .string a2_2, .string a2_3, .int .i64 a2_4, .bool a2_5] 37 (0, 0)) Z79 hb); have n1_ := Aside0.mk (below_step Z58 hb); clear BK158; clear HB; have BK158 := n0_; have HB := n1_; clear n0_ n1_; (try clear hb); (try clear hb2); (try clear hk); (try clear hi); obtain ⟨hcz26_0, hcz26_1, hcz26_2, hcz26_3, hcz26_4, hcz26_5, hfz26_0, hfz26_1, hfz26_2, hfz26_3, hfz26_4, hfz26_5⟩ := bf6 BK158.out) | (go_at_call 77; (with_reducible refine (partner_isPartner.calls k _ _ l0 a2_1 false _ ?side1 ?side2 A10.out).mono ?_); (case side1 => exact Z46); (case side2 => exact Z106); rintro e w27 ⟨rfl, hb⟩; have n0_ := Aside0.mk (blk_below (g := gb158) (o := .cells #[.string a2_0, .string a2_1, .string a2_2, .string a2_3, .int .i64 a2_4, .bool a2_5] 37 (0, 0)) Z79 hb); have n1_ := Aside0.mk (below_step Z58 hb); clear BK158; clear HB; have BK158 := n0_; have HB := n1_; clear n0_ n1_; (try clear hb); (try clear hb2); (try clear hk); (try clear hi)))
     go_ret
     exact ⟨Z66, Z58⟩
   ·replace c9 := Bool.eq_false_iff.mpr c9
    subst c9
    have H1 : (some 5) = some r := by rw [if_neg (show ¬ (false = true) by decide)] at H; exact H
    clear H
    have H := H1
    clear H1
    obtain rfl := Option.some.inj H
    go_enter Tryd.func67, Tryd.ntmps67
    go_wp2_with (first | ((with_reducible refine gate_dst (N := 5) rfl ?_); refine box_event ?hg (N := 5) ?hd (cs := #[.string a2_0, .string a2_1, .string a2_2, .string a2_3, .int .i64 a2_4, .bool a2_5]) (t := 37) ?hr ?_; (case hd => rfl); (case hg => rfl); (case hr => exact Z103); intro gb158 hg w28 hbox hb; have n0_ := Aside0.mk (below_step Z70 hb); have n1_ := Aside0.mk (hbox); have n2_ := Aside0.mk ((Z49 : w.heap.size ≤ gb158)); have n3_ := Aside0.mk ((Z49 : w.heap.size ≤ gb158)); clear HB; have HB := n0_; have BK158 := n1_; have GW158 := n2_; have GE158 := n3_; clear n0_ n1_ n2_ n3_; clear hb hbox hg) | ((with_reducible refine gate_callee (f := 36) rfl ?_); refine goesL_ (some 11) rfl rfl Tryd.func36 (by kernel_rfl) rfl #[.slice A0 l0.length c0, .slice A1 l1.length c1] rfl Z45 ?_; (with_reducible refine (partner_CheckAgreements.calls k _ _ l0 _ _ l1 t159 _ ?side1 ?side2 ?side3 ?side4 A4.out).mono ?_); (case side1 => exact Z46); (case side2 => exact Z106); (case side3 => exact Z47); (case side4 => exact HC1.out); rintro e w29 ⟨rfl, hb⟩; refine ⟨_, rfl, ?_⟩; have n0_ := Aside0.mk (blk_below (g := gb158) (o := .cells #[.string a2_0, .string a2_1, .string a2_2, .string a2_3, .int .i64 a2_4, .bool a2_5] 37 (0, 0)) Z79 hb); have n1_ := Aside0.mk (below_step Z58 hb); clear BK158; clear HB; have BK158 := n0_; have HB := n1_; clear n0_ n1_; (try clear hb); (try clear hb2); (try clear hk); (try clear hi); obtain ⟨hcz30_0, hcz30_1, hcz30_2, hcz30_3, hcz30_4, hcz30_5, hfz30_0, hfz30_1, hfz30_2, hfz30_3, hfz30_4, hfz30_5⟩ := bf6 BK158.out) | ((with_reducible refine gate_callee (f := 56) rfl ?_); refine goesL_ (some 16) rfl rfl Tryd.func56 (by kernel_rfl) rfl #[.agg #[.string a2_0, .string a2_1, .string a2_2, .string a2_3, .int .i64 a2_4, .bool a2_5]] rfl Z45 ?_; (with_reducible refine (partner_caseFault.calls k a2_0 a2_1 a2_2 a2_3 a2_4 a2_5 t160 _ A6.out).mono ?_); rintro e w31 ⟨rfl, hb⟩; refine ⟨_, rfl, ?_⟩; have n0_ := Aside0.mk (blk_below (g := gb158) (o := .cells #[.string a2_0, .string a2_1, .string a2_2, .string a2_3, .int .i64 a2_4, .bool a2_5] 37 (0, 0)) Z79 hb); have n1_ := Aside0.mk (below_step Z58 hb); clear BK158; clear HB; have BK158 := n0_; have HB := n1_; clear n0_ n1_; (try clear hb); (try clear hb2); (try clear hk); (try clear hi); obtain ⟨hcz32_0, hcz32_1, hcz32_2, hcz32_3, hcz32_4, hcz32_5, hfz32_0, hfz32_1, hfz32_2, hfz32_3, hfz32_4, hfz32_5⟩ := bf6 BK158.out) | ((with_reducible refine gate_callee (f := 77) rfl ?_); refine goesL_ (some 23) rfl rfl Tryd.func77 (by kernel_rfl) rfl #[.slice A0 l0.length c0, .string a2_0] rfl Z45 ?_; (with_reducible refine (partner_isPartner.calls k _ _ l0 a2_0 false _ ?side1 ?side2 A8.out).mono ?_); (case side1 => exact Z46); (case side2 => exact Z106); rintro e w33 ⟨rfl, hb⟩; refine ⟨_, rfl, ?_⟩; have n0_ := Aside0.mk (blk_below (g := gb158) (o := .cells #[.string a2_0, .string a2_1, .string a2_2, .string a2_3, .int .i64 a2_4, .bool a2_5] 37 (0, 0)) Z79 hb); have n1_ := Aside0.mk (below_step Z58 hb); clear BK158; clear HB; have BK158 := n0_; have HB := n1_; clear n0_ n1_; (try clear hb); (try clear hb2); (try clear hk); (try clear hi)))
    go_ret
    exact ⟨Z66, Z58⟩
  ·rw [if_neg c7] at H
   have c7b0 : (t160 == 0) = false := beq_eq_false_iff_ne.mpr c7
   have c7b1 : (t160 != 0) = true := bne_iff_ne.mpr c7
   obtain rfl := Option.some.inj H
   go_enter Tryd.func67, Tryd.ntmps67
   go_wp2_with (first | ((with_reducible refine gate_dst (N := 5) rfl ?_); refine box_event ?hg (N := 5) ?hd (cs := #[.string a2_0, .string a2_1, .string a2_2, .string a2_3, .int .i64 a2_4, .bool a2_5]) (t := 37) ?hr ?_; (case hd => rfl); (case hg => rfl); (case hr => exact Z103); intro gb158 hg w34 hbox hb; have n0_ := Aside0.mk (below_step Z70 hb); have n1_ := Aside0.mk (hbox); have n2_ := Aside0.mk ((Z49 : w.heap.size ≤ gb158)); have n3_ := Aside0.mk ((Z49 : w.heap.size ≤ gb158)); clear HB; have HB := n0_; have BK158 := n1_; have GW158 := n2_; have GE158 := n3_; clear n0_ n1_ n2_ n3_; clear hb hbox hg) | ((with_reducible refine gate_callee (f := 36) rfl ?_); refine goesL_ (some 11) rfl rfl Tryd.func36 (by kernel_rfl) rfl #[.slice A0 l0.length c0, .slice A1 l1.length c1] rfl Z45 ?_; (with_reducible refine (partner_CheckAgreements.calls k _ _ l0 _ _ l1 t159 _ ?side1 ?side2 ?side3 ?side4 A4.out).mono ?_); (case side1 => exact Z46); (case side2 => exact Z106); (case side3 => exact Z47); (case side4 => exact HC1.out); rintro e w35 ⟨rfl, hb⟩; refine ⟨_, rfl, ?_⟩; have n0_ := Aside0.mk (blk_below (g := gb158) (o := .cells #[.string a2_0, .string a2_1, .string a2_2, .string a2_3, .int .i64 a2_4, .bool a2_5] 37 (0, 0)) Z79 hb); have n1_ := Aside0.mk (below_step Z58 hb); clear BK158; clear HB; have BK158 := n0_; have HB := n1_; clear n0_ n1_; (try clear hb); (try clear hb2); (try clear hk); (try clear hi); obtain ⟨hcz36_0, hcz36_1, hcz36_2, hcz36_3, hcz36_4, hcz36_5, hfz36_0, hfz36_1, hfz36_2, hfz36_3, hfz36_4, hfz36_5⟩ := bf6 BK158.out) | ((with_reducible refine gate_callee (f := 56) rfl ?_); refine goesL_ (some 16) rfl rfl Tryd.func56 (by kernel_rfl) rfl #[.agg #[.string a2_0, .string a2_1, .string a2_2, .string a2_3, .int .i64 a2_4, .bool a2_5]] rfl Z45 ?_; (with_reducible refine (partner_caseFault.calls k a2_0 a2_1 a2_2 a2_3 a2_4 a2_5 t160 _ A6.out).mono ?_); rintro e w37 ⟨rfl, hb⟩; refine ⟨_, rfl, ?_⟩; have n0_ := Aside0.mk (blk_below (g := gb158) (o := .cells #[.string a2_0, .string a2_1, .string a2_2, .string a2_3, .int .i64 a2_4, .bool a2_5] 37 (0, 0)) Z79 hb); have n1_ := Aside0.mk (below_step Z58 hb); clear BK158; clear HB; have BK158 := n0_; have HB := n1_; clear n0_ n1_; (try clear hb); (try clear hb2); (try clear hk); (try clear hi)))
   go_ret
   exact ⟨Z66, Z58⟩
 ·rw [if_neg c5] at H
  have c5b0 : (t159 == 0) = false := beq_eq_false_iff_ne.mpr c5
  have c5b1 : (t159 != 0) = true := bne_iff_ne.mpr c5
  obtain rfl := Option.some.inj H
  go_enter Tryd.func67, Tryd.ntmps67
  go_wp2_with (first | ((with_reducible refine gate_dst (N := 5) rfl ?_); refine box_event ?hg (N := 5) ?hd (cs := #[.string a2_0, .string a2_1, .string a2_2, .string a2_3, .int .i64 a2_4, .bool a2_5]) (t := 37) ?hr ?_; (case hd => rfl); (case hg => rfl); (case hr => exact Z103); intro gb158 hg w38 hbox hb; have n0_ := Aside0.mk (below_step Z70 hb); have n1_ := Aside0.mk (hbox); have n2_ := Aside0.mk ((Z49 : w.heap.size ≤ gb158)); have n3_ := Aside0.mk ((Z49 : w.heap.size ≤ gb158)); clear HB; have HB := n0_; have BK158 := n1_; have GW158 := n2_; have GE158 := n3_; clear n0_ n1_ n2_ n3_; clear hb hbox hg) | ((with_reducible refine gate_callee (f := 36) rfl ?_); refine goesL_ (some 11) rfl rfl Tryd.func36 (by kernel_rfl) rfl #[.slice A0 l0.length c0, .slice A1 l1.length c1] rfl Z45 ?_; (with_reducible refine (partner_CheckAgreements.calls k _ _ l0 _ _ l1 t159 _ ?side1 ?side2 ?side3 ?side4 A4.out).mono ?_); (case side1 => exact Z46); (case side2 => exact Z106); (case side3 => exact Z47); (case side4 => exact HC1.out); rintro e w39 ⟨rfl, hb⟩; refine ⟨_, rfl, ?_⟩; have n0_ := Aside0.mk (blk_below (g := gb158) (o := .cells #[.string a2_0, .string a2_1, .string a2_2, .string a2_3, .int .i64 a2_4, .bool a2_5] 37 (0, 0)) Z79 hb); have n1_ := Aside0.mk (below_step Z58 hb); clear BK158; clear HB; have BK158 := n0_; have HB := n1_; clear n0_ n1_; (try clear hb); (try clear hb2); (try clear hk); (try clear hi)))
  go_ret
  exact ⟨Z66, Z58⟩

end Go.Proofs.YtdlgohhecicnoaaDoor.XPartnerNeverIsNever
