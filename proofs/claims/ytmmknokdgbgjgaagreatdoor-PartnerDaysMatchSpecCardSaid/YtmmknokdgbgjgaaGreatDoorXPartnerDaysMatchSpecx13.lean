-- Walks of PartnerDaysMatchSpec: written by xprint.py out of the translation (hand-proved functions among them). Lean checks it.
import Derived.Test.YtmmknokdgbgjgaaGreatDoorXPartnerDaysMatchSpecx0
import Derived.Test.YtmmknokdgbgjgaaGreatDoorXPartnerDaysMatchSpecx2
import Derived.Test.YtmmknokdgbgjgaaGreatDoorXPartnerDaysMatchSpecx10
import Derived.Test.YtmmknokdgbgjgaaGreatDoorXPartnerDaysMatchSpecx11
import Derived.Test.YtmmknokdgbgjgaaGreatDoorXPartnerDaysMatchSpecx12
namespace Go.Proofs.YtmmknokdgbgjgaaGreatDoor.XPartnerDaysMatchSpec
open Go.RowKit Go.Proofs.YtmmknokdgbgjgaaGreatDoorW.PrintWords Go.Proofs.YtmmknokdgbgjgaaGreatDoorW.PrintLast Go.Proofs.YtmmknokdgbgjgaaGreatDoorW.PrintMore
attribute [local go_sem] max2_int min2_int max_two min_two max_three min_three max_four min_four   -- for this text's walks alone
set_option linter.unusedVariables false
set_option linter.unusedSimpArgs false

/-! ### partner_CheckAgreements: function 27 -/
mutual
def partner_CheckAgreements.l0 : Nat → List (S110) → List (S53) → Int → Int → Option (Int)
 | 0, _, _, _, _ => none
 | k + 1, x0, x17, x18, x19 => if x19 < x18 then (if 0 ≤ x19 then (if x19 < (x17.length : Int) then ((partner_isPartner.f k x0 ((qa x17 x19).f0)).bind fun t227 => (if t227 = true then ((partner_isPartner.f k x0 ((qa x17 x19).f1)).bind fun t228 => (partner_CheckAgreements.j1 k x0 x17 x18 x19 (!t228) ((qa x17 x19).f0) ((qa x17 x19).f1) ((qa x17 x19).f2) ((qa x17 x19).f3) ((qa x17 x19).f4) ((qa x17 x19).f5) ((qa x17 x19).f6) ((qa x17 x19).f7) ((qa x17 x19).f8))) else (partner_CheckAgreements.j1 k x0 x17 x18 x19 true ((qa x17 x19).f0) ((qa x17 x19).f1) ((qa x17 x19).f2) ((qa x17 x19).f3) ((qa x17 x19).f4) ((qa x17 x19).f5) ((qa x17 x19).f6) ((qa x17 x19).f7) ((qa x17 x19).f8)))) else (none)) else (none)) else (some 0)
def partner_CheckAgreements.j1 : Nat → List (S110) → List (S53) → Int → Int → Bool → ByteArray → ByteArray → ByteArray → ByteArray → Int → Int → Bool → Int → Bool → Option (Int)
 | 0, _, _, _, _, _, _, _, _, _, _, _, _, _, _ => none
 | k + 1, x0, x17, x18, x19, x34, x227000, x227001, x227002, x227003, x227004, x227005, x227006, x227007, x227008 => if x34 = true then (some 5) else ((partner_ownFault.f k x227000 x227001 x227002 x227003 x227004 x227005 x227006 x227007 x227008).bind fun t229 => (if t229 = 0 then (partner_CheckAgreements.l0 k x0 x17 x18 (wrap64 (x19 + 1))) else (some t229)))
end
def partner_CheckAgreements.f (k : Nat) (l0 : List (S110)) (l1 : List (S53)) : Option (Int) := (partner_CheckPartners.f k l0).bind fun t224 => (if t224 = 0 then (if (l1.length : Int) > 200 then (some 2) else (partner_CheckAgreements.l0 k l0 l1 (l1.length : Int) 0)) else (some t224))
theorem partner_CheckAgreements.mono_l : ∀ k, (∀ y0 y1 y2 y3, qv (partner_CheckAgreements.l0 k y0 y1 y2 y3) (partner_CheckAgreements.l0 (k + 1) y0 y1 y2 y3)) ∧ (∀ y0 y1 y2 y3 y4 y5 y6 y7 y8 y9 y10 y11 y12 y13, qv (partner_CheckAgreements.j1 k y0 y1 y2 y3 y4 y5 y6 y7 y8 y9 y10 y11 y12 y13) (partner_CheckAgreements.j1 (k + 1) y0 y1 y2 y3 y4 y5 y6 y7 y8 y9 y10 y11 y12 y13))
 | 0 => ⟨fun _ _ _ _ r h => by simp [partner_CheckAgreements.l0] at h, fun _ _ _ _ _ _ _ _ _ _ _ _ _ _ r h => by simp [partner_CheckAgreements.j1] at h⟩
 | k + 1 => by
  obtain ⟨ih0, ih1⟩ := partner_CheckAgreements.mono_l k
  refine ⟨?_, ?_⟩
  all_goals
   intros
   first | unfold partner_CheckAgreements.l0 | unfold partner_CheckAgreements.j1
   repeat' first
   | (with_reducible apply ih0)
   | (with_reducible apply ih1)
   | (with_reducible apply partner_CheckPartners.mono)
   | (with_reducible apply partner_isPartner.mono)
   | (with_reducible apply partner_ownFault.mono)
   | (with_reducible exact qv.refl _)
   | (with_reducible exact qv.none _)
   | (with_reducible refine qv.ite ?_ ?_)
   | (with_reducible refine qv.bind ?_ (fun _ => ?_))
   | apply ih0
   | apply ih1
   | apply partner_CheckPartners.mono
   | apply partner_isPartner.mono
   | apply partner_ownFault.mono
   | exact qv.none _
   | refine qv.ite ?_ ?_
   | refine qv.bind ?_ (fun _ => ?_)
theorem partner_CheckAgreements.mono : ∀ a0 a1 k, qv (partner_CheckAgreements.f k a0 a1) (partner_CheckAgreements.f (k + 1) a0 a1) := by
 intro a0 a1 k
 obtain ⟨ih0, ih1⟩ := partner_CheckAgreements.mono_l k
 unfold partner_CheckAgreements.f
 repeat' first
   | (with_reducible apply ih0)
   | (with_reducible apply ih1)
   | (with_reducible apply partner_CheckPartners.mono)
   | (with_reducible apply partner_isPartner.mono)
   | (with_reducible apply partner_ownFault.mono)
   | (with_reducible exact qv.refl _)
   | (with_reducible exact qv.none _)
   | (with_reducible refine qv.ite ?_ ?_)
   | (with_reducible refine qv.bind ?_ (fun _ => ?_))
   | apply ih0
   | apply ih1
   | apply partner_CheckPartners.mono
   | apply partner_isPartner.mono
   | apply partner_ownFault.mono
   | exact qv.none _
   | refine qv.ite ?_ ?_
   | refine qv.bind ?_ (fun _ => ?_)
set_option maxHeartbeats 8000000 in
set_option maxRecDepth 100000 in
theorem partner_CheckAgreements.calls (k : Nat) (A0 : Option Addr) (c0 : Nat) (l0 : List (S110)) (A1 : Option Addr) (c1 : Nat) (l1 : List (S53)) (r : Int) (w : World) (hr0 : Kd.C k110 w A0 l0.length l0) (hc0 : l0.length ≤ c0) (hr1 : Kd.C k53 w A1 l1.length l1) (hc1 : l1.length ≤ c1) (h : partner_CheckAgreements.f k l0 l1 = some r) :
  Calls Tryz.prog 27 #[.slice A0 l0.length c0, .slice A1 l1.length c1] w fun e w' => e = .returned (.int .i64 r) ∧ Below w.heap.size w w' := by
 have hu53 := Tryz.underlying53
 have HR0 := qb.mk hr0
 have HC0 := qb.mk hc0
 clear hr0 hc0
 have HR1 := qb.mk hr1
 have HC1 := qb.mk hc1
 clear hr1 hc1
 have HB := qb.mk (Below.refl w.heap.size w)
 have H : ((partner_CheckPartners.f k l0).bind fun t224 => (if t224 = 0 then (if (l1.length : Int) > 200 then (some 2) else (partner_CheckAgreements.l0 k l0 l1 (l1.length : Int) 0)) else (some t224))) = some r := h
 clear h
 replace H := Option.bind_eq_some_iff.mp H
 obtain ⟨t224, A30, H⟩ := H
 replace H : (if t224 = 0 then (if (l1.length : Int) > 200 then (some 2) else (partner_CheckAgreements.l0 k l0 l1 (l1.length : Int) 0)) else (some t224)) = some r := H
 have A3 := qb.mk A30
 clear A30
 by_cases c4 : t224 = 0
 case neg =>
  rw [if_neg c4] at H
  have c4b0 : (t224 == 0) = false := beq_eq_false_iff_ne.mpr c4
  have c4b1 : (t224 != 0) = true := bne_iff_ne.mpr c4
  obtain rfl := Option.some.inj H
  go_enter Tryz.func27, Tryz.ntmps27
  go_wp2_with (first | ((with_reducible refine qg (f := 61) rfl ?_); refine goesL_ (some 10) rfl rfl Tryz.func61 (by kernel_rfl) rfl #[.slice A0 l0.length c0] rfl Z61 ?_; (with_reducible refine (partner_CheckPartners.calls k _ _ l0 t224 _ ?side1 ?side2 A3.out).mono ?_); (case side1 => exact Z98); (case side2 => exact Z158); rintro e w30 ⟨rfl, hb⟩; refine ⟨_, rfl, ?_⟩; have n0_ := qb.mk (qd qz hb); clear HB; have HB := n0_; clear n0_; (try clear hb); (try clear hb2); (try clear hk); (try clear hi)))
  go_ret
  exact ⟨Z97, qz⟩

 rw [if_pos c4] at H
 have c4b0 : (t224 == 0) = true := beq_iff_eq.mpr c4
 have c4b1 : (t224 != 0) = false := bne_eq_false_iff_eq.mpr c4
 clear c4
 by_cases c5 : (l1.length : Int) > 200
 case pos =>
  rw [if_pos c5] at H
  have c5b0 : decide (200 < (l1.length : Int)) = true := decide_eq_true c5
  have c5b1 : decide (200 < l1.length) = true := decide_eq_true (by omega)
  clear c5
  obtain rfl := Option.some.inj H
  go_enter Tryz.func27, Tryz.ntmps27
  go_wp2_with (first | ((with_reducible refine qg (f := 61) rfl ?_); refine goesL_ (some 10) rfl rfl Tryz.func61 (by kernel_rfl) rfl #[.slice A0 l0.length c0] rfl Z61 ?_; (with_reducible refine (partner_CheckPartners.calls k _ _ l0 t224 _ ?side1 ?side2 A3.out).mono ?_); (case side1 => exact Z98); (case side2 => exact Z158); rintro e w6 ⟨rfl, hb⟩; refine ⟨_, rfl, ?_⟩; have n0_ := qb.mk (qd qz hb); clear HB; have HB := n0_; clear n0_; (try clear hb); (try clear hb2); (try clear hk); (try clear hi)))
  go_ret
  exact ⟨Z97, qz⟩
 rw [if_neg c5] at H
 have c5b0 : decide (200 < (l1.length : Int)) = false := decide_eq_false c5
 have c5b1 : decide (200 < l1.length) = false := decide_eq_false (by omega)
 clear c5
 have H' := qb.mk H
 clear H
 go_enter Tryz.func27, Tryz.ntmps27
 go_wp2_with (first | ((with_reducible refine qg (f := 61) rfl ?_); refine goesL_ (some 10) rfl rfl Tryz.func61 (by kernel_rfl) rfl #[.slice A0 l0.length c0] rfl Z61 ?_; (with_reducible refine (partner_CheckPartners.calls k _ _ l0 t224 _ ?side1 ?side2 A3.out).mono ?_); (case side1 => exact Z98); (case side2 => exact Z158); rintro e w7 ⟨rfl, hb⟩; refine ⟨_, rfl, ?_⟩; have n0_ := qb.mk (qd qz hb); clear HB; have HB := n0_; clear n0_; (try clear hb); (try clear hb2); (try clear hk); (try clear hi)))
 go_loopg [19] k (fun kq v19 w' => ∃ (x19_1 : Int), v19 = .int .i64 x19_1 ∧ qb (partner_CheckAgreements.l0 kq l0 l1 (l1.length : Int) x19_1 = some r) ∧ qb (kq ≤ k) ∧ qb (Below w.heap.size w w'))
 case atStart => exact ⟨(0), qD, H', ⟨Nat.le_refl _⟩, ⟨qz⟩⟩
 case round =>
  clear H'
  try clear c1; try clear c2; try clear p2; try clear c4; try clear c4b0; try clear c4b1; try clear c5; try clear c5b0; try clear c5b1; try clear c6
  obtain ⟨x19_1, rfl, HA, HK1, HB⟩ := hrel
  cases gk with
  | zero => exact absurd HA.out (by simp [partner_CheckAgreements.l0])
  | succ k1 =>
   have H := HA.out
   clear HA
   simp only [partner_CheckAgreements.l0] at H
   by_cases c8 : x19_1 < (l1.length : Int)
   case neg =>
    rw [if_neg c8] at H
    have c8b0 : decide (x19_1 < (l1.length : Int)) = false := decide_eq_false c8
    clear c8
    obtain rfl := Option.some.inj H
    go_wp2
    go_ret
    exact ⟨Z97, qz⟩
   rw [if_pos c8] at H
   have c8b0 : decide (x19_1 < (l1.length : Int)) = true := decide_eq_true c8
   clear c8
   by_cases c9 : 0 ≤ x19_1
   case neg =>
    rw [if_neg c9] at H
    exact absurd H (by simp)
   rw [if_pos c9] at H
   have c9b0 : decide (0 ≤ x19_1) = true := decide_eq_true c9
   clear c9
   by_cases c10 : x19_1 < (l1.length : Int)
   case neg =>
    rw [if_neg c10] at H
    exact absurd H (by simp)
   rw [if_pos c10] at H
   have c10b0 : decide (x19_1 < (l1.length : Int)) = true := decide_eq_true c10
   clear c10
   have HC11 := qb.mk H
   clear H
   have p225 : 0 ≤ (x19_1 : Int) := of_decide_eq_true qB
   have q225 : x19_1 < (l1.length : Int) := of_decide_eq_true qB
   obtain ⟨ad225, e225, hx225_0, hx225_1, hx225_2, hx225_3, hx225_4, hx225_5, hx225_6, hx225_7, hx225_8⟩ := at_T53 HR1.out x19_1 p225 q225
   cases e225
   replace hx225_0 := bx HB hx225_0
   replace hx225_1 := bx HB hx225_1
   replace hx225_2 := bx HB hx225_2
   replace hx225_3 := bx HB hx225_3
   replace hx225_4 := bx HB hx225_4
   replace hx225_5 := bx HB hx225_5
   replace hx225_6 := bx HB hx225_6
   replace hx225_7 := bx HB hx225_7
   replace hx225_8 := bx HB hx225_8
   replace p225 := eq_true p225
   replace q225 := eq_true q225
   go_upto_region 9 with (first | ((with_reducible refine qi (N := 7) rfl ?_); refine qh ?hg (N := 7) ?hd (cs := #[.string (⟨#[]⟩ : ByteArray), .string (⟨#[]⟩ : ByteArray), .string (⟨#[]⟩ : ByteArray), .string (⟨#[]⟩ : ByteArray), .int .i64 0, .int .i64 0, .bool false, .int .i64 0, .bool false]) (t := 53) ?hr ?_; (case hd => rfl); (case hg => rfl); (case hr => exact qC); intro gb226 hg w12 hbox hb; have n0_ := qb.mk (qd qz hb); have n1_ := qb.mk (hbox); have n2_ := qb.mk ((Z66 : w.heap.size ≤ gb226)); have n3_ := n2_; clear HB; have HB := n0_; have BK226 := n1_; have GW226 := n2_; have GE226 := n3_; clear n0_ n1_ n2_ n3_; clear hb hbox hg; obtain ⟨yc13_0, yc13_1, yc13_2, yc13_3, yc13_4, yc13_5, yc13_6, yc13_7, yc13_8, yf13_0, yf13_1, yf13_2, yf13_3, yf13_4, yf13_5, yf13_6, yf13_7, yf13_8⟩ := bf9 BK226.out))
   (try simp only [Act.put, sT, s0, s1])
   go_cut [34] (fun v34 wc => ∃ (kq : Nat) (x34_10 : Bool), v34 = .bool x34_10 ∧ qb (partner_CheckAgreements.j1 kq l0 l1 (l1.length : Int) x19_1 x34_10 ((qa l1 x19_1).f0) ((qa l1 x19_1).f1) ((qa l1 x19_1).f2) ((qa l1 x19_1).f3) ((qa l1 x19_1).f4) ((qa l1 x19_1).f5) ((qa l1 x19_1).f6) ((qa l1 x19_1).f7) ((qa l1 x19_1).f8) = some r) ∧ qb (kq ≤ k1) ∧ qb (wc.heap[gb226]? = some (.cells #[.string ((qa l1 x19_1).f0), .string ((qa l1 x19_1).f1), .string ((qa l1 x19_1).f2), .string ((qa l1 x19_1).f3), .int .i64 ((qa l1 x19_1).f4), .int .i64 ((qa l1 x19_1).f5), .bool ((qa l1 x19_1).f6), .int .i64 ((qa l1 x19_1).f7), .bool ((qa l1 x19_1).f8)] 53 (0, 0))) ∧ qb (Below w.heap.size w wc))
   case first =>
    have H := HC11.out
    clear HC11
    replace H := Option.bind_eq_some_iff.mp H
    obtain ⟨t227, A140, H⟩ := H
    replace H : (if t227 = true then ((partner_isPartner.f k1 l0 ((qa l1 x19_1).f1)).bind fun t228 => (partner_CheckAgreements.j1 k1 l0 l1 (l1.length : Int) x19_1 (!t228) ((qa l1 x19_1).f0) ((qa l1 x19_1).f1) ((qa l1 x19_1).f2) ((qa l1 x19_1).f3) ((qa l1 x19_1).f4) ((qa l1 x19_1).f5) ((qa l1 x19_1).f6) ((qa l1 x19_1).f7) ((qa l1 x19_1).f8))) else (partner_CheckAgreements.j1 k1 l0 l1 (l1.length : Int) x19_1 true ((qa l1 x19_1).f0) ((qa l1 x19_1).f1) ((qa l1 x19_1).f2) ((qa l1 x19_1).f3) ((qa l1 x19_1).f4) ((qa l1 x19_1).f5) ((qa l1 x19_1).f6) ((qa l1 x19_1).f7) ((qa l1 x19_1).f8))) = some r := H
    have A14 := qb.mk A140
    clear A140
    by_cases c15 : t227 = true
    case neg =>
     replace c15 := Bool.eq_false_iff.mpr c15
     subst c15
     have H1 : (partner_CheckAgreements.j1 k1 l0 l1 (l1.length : Int) x19_1 true ((qa l1 x19_1).f0) ((qa l1 x19_1).f1) ((qa l1 x19_1).f2) ((qa l1 x19_1).f3) ((qa l1 x19_1).f4) ((qa l1 x19_1).f5) ((qa l1 x19_1).f6) ((qa l1 x19_1).f7) ((qa l1 x19_1).f8)) = some r := by rw [if_neg (show ¬ (false = true) by decide)] at H; exact H
     clear H
     have H := H1
     clear H1
     have H' := qb.mk H
     clear H
     obtain ⟨yc21_0, yc21_1, yc21_2, yc21_3, yc21_4, yc21_5, yc21_6, yc21_7, yc21_8, yf21_0, yf21_1, yf21_2, yf21_3, yf21_4, yf21_5, yf21_6, yf21_7, yf21_8⟩ := bf9 BK226.out
     go_wp2_with (first | ((with_reducible refine qg (f := 55) rfl ?_); refine goesL_ (some 26) rfl rfl Tryz.func55 (by kernel_rfl) rfl #[.slice A0 l0.length c0, .string ((qa l1 x19_1).f0)] rfl Z61 ?_; (with_reducible refine (partner_isPartner.calls k1 _ _ l0 ((qa l1 x19_1).f0) false _ ?side1 ?side2 A14.out).mono ?_); (case side1 => exact Kd.C_below HR0.out Z83); (case side2 => exact Z158); rintro e w22 ⟨rfl, hb⟩; refine ⟨_, rfl, ?_⟩; have n0_ := qb.mk (qw (g := gb226) (o := .cells #[.string ((qa l1 x19_1).f0), .string ((qa l1 x19_1).f1), .string ((qa l1 x19_1).f2), .string ((qa l1 x19_1).f3), .int .i64 ((qa l1 x19_1).f4), .int .i64 ((qa l1 x19_1).f5), .bool ((qa l1 x19_1).f6), .int .i64 ((qa l1 x19_1).f7), .bool ((qa l1 x19_1).f8)] 53 (0, 0)) Z21 hb); have n1_ := qb.mk (qd Z83 hb); clear BK226 HB; have BK226 := n0_; have HB := n1_; clear n0_ n1_; (try clear hb); (try clear hb2); (try clear hk); (try clear hi)))
     go_meet
     case rel => exact ⟨_, (true), qD, H', ⟨Z139⟩, ⟨by (with_reducible repeat (first | refine qn ?_ _ | refine qm ?_ | refine ql ?_ _)); exact BK226.out⟩, ⟨Z83⟩⟩
    subst c15
    have H1 : ((partner_isPartner.f k1 l0 ((qa l1 x19_1).f1)).bind fun t228 => (partner_CheckAgreements.j1 k1 l0 l1 (l1.length : Int) x19_1 (!t228) ((qa l1 x19_1).f0) ((qa l1 x19_1).f1) ((qa l1 x19_1).f2) ((qa l1 x19_1).f3) ((qa l1 x19_1).f4) ((qa l1 x19_1).f5) ((qa l1 x19_1).f6) ((qa l1 x19_1).f7) ((qa l1 x19_1).f8))) = some r := by rw [if_pos rfl] at H; exact H
    clear H
    have H := H1
    clear H1
    replace H := Option.bind_eq_some_iff.mp H
    obtain ⟨t228, A160, H⟩ := H
    replace H : (partner_CheckAgreements.j1 k1 l0 l1 (l1.length : Int) x19_1 (!t228) ((qa l1 x19_1).f0) ((qa l1 x19_1).f1) ((qa l1 x19_1).f2) ((qa l1 x19_1).f3) ((qa l1 x19_1).f4) ((qa l1 x19_1).f5) ((qa l1 x19_1).f6) ((qa l1 x19_1).f7) ((qa l1 x19_1).f8)) = some r := H
    have A16 := qb.mk A160
    clear A160
    have H' := qb.mk H
    clear H
    obtain ⟨yc17_0, yc17_1, yc17_2, yc17_3, yc17_4, yc17_5, yc17_6, yc17_7, yc17_8, yf17_0, yf17_1, yf17_2, yf17_3, yf17_4, yf17_5, yf17_6, yf17_7, yf17_8⟩ := bf9 BK226.out
    go_wp2_with (first | ((with_reducible refine qg (f := 55) rfl ?_); refine goesL_ (some 26) rfl rfl Tryz.func55 (by kernel_rfl) rfl #[.slice A0 l0.length c0, .string ((qa l1 x19_1).f0)] rfl Z61 ?_; (with_reducible refine (partner_isPartner.calls k1 _ _ l0 ((qa l1 x19_1).f0) true _ ?side1 ?side2 A14.out).mono ?_); (case side1 => exact Kd.C_below HR0.out Z83); (case side2 => exact Z158); rintro e w18 ⟨rfl, hb⟩; refine ⟨_, rfl, ?_⟩; have n0_ := qb.mk (qw (g := gb226) (o := .cells #[.string ((qa l1 x19_1).f0), .string ((qa l1 x19_1).f1), .string ((qa l1 x19_1).f2), .string ((qa l1 x19_1).f3), .int .i64 ((qa l1 x19_1).f4), .int .i64 ((qa l1 x19_1).f5), .bool ((qa l1 x19_1).f6), .int .i64 ((qa l1 x19_1).f7), .bool ((qa l1 x19_1).f8)] 53 (0, 0)) Z21 hb); have n1_ := qb.mk (qd Z83 hb); clear BK226 HB; have BK226 := n0_; have HB := n1_; clear n0_ n1_; (try clear hb); (try clear hb2); (try clear hk); (try clear hi); obtain ⟨yc19_0, yc19_1, yc19_2, yc19_3, yc19_4, yc19_5, yc19_6, yc19_7, yc19_8, yf19_0, yf19_1, yf19_2, yf19_3, yf19_4, yf19_5, yf19_6, yf19_7, yf19_8⟩ := bf9 BK226.out) | (go_at_call 55; (with_reducible refine (partner_isPartner.calls k1 _ _ l0 ((qa l1 x19_1).f1) t228 _ ?side1 ?side2 A16.out).mono ?_); (case side1 => exact Z62); (case side2 => exact Z158); rintro e w20 ⟨rfl, hb⟩; have n0_ := bb BK226 hb; have n1_ := qb.mk (qd Z83 hb); clear BK226 HB; have BK226 := n0_; have HB := n1_; clear n0_ n1_; (try clear hb); (try clear hb2); (try clear hk); (try clear hi)))
    go_meet
    case rel => exact ⟨_, (!t228), qD, H', ⟨Z139⟩, ⟨by (with_reducible repeat (first | refine qn ?_ _ | refine qm ?_ | refine ql ?_ _)); exact BK226.out⟩, ⟨Z83⟩⟩
   case rest =>
    clear HC11
    try clear c1; try clear c2; try clear p2 p2; try clear q2; try clear hx2; try clear c4; try clear c4b0; try clear c4b1; try clear c5; try clear c5b0; try clear c5b1; try clear c6; try clear c8; try clear c8b0; try clear c9; try clear c9b0; try clear c10; try clear c10b0; try clear c15; try clear p22; try clear q22; try clear hx22; try clear yc13_0 yc13_1 yc13_2 yc13_3 yc13_4 yc13_5 yc13_6 yc13_7 yc13_8 yf13_0 yf13_1 yf13_2 yf13_3 yf13_4 yf13_5 yf13_6 yf13_7 yf13_8; try clear yc17_0 yc17_1 yc17_2 yc17_3 yc17_4 yc17_5 yc17_6 yc17_7 yc17_8 yf17_0 yf17_1 yf17_2 yf17_3 yf17_4 yf17_5 yf17_6 yf17_7 yf17_8; try clear yc19_0 yc19_1 yc19_2 yc19_3 yc19_4 yc19_5 yc19_6 yc19_7 yc19_8 yf19_0 yf19_1 yf19_2 yf19_3 yf19_4 yf19_5 yf19_6 yf19_7 yf19_8; try clear yc21_0 yc21_1 yc21_2 yc21_3 yc21_4 yc21_5 yc21_6 yc21_7 yc21_8 yf21_0 yf21_1 yf21_2 yf21_3 yf21_4 yf21_5 yf21_6 yf21_7 yf21_8; try clear hx225_0; try clear hx225_1; try clear hx225_2; try clear hx225_3; try clear hx225_4; try clear hx225_5; try clear hx225_6; try clear hx225_7; try clear hx225_8; try clear p225; try clear q225
    obtain ⟨kq, x34_10, rfl, HA, HJ10, BK226, HB⟩ := hcut
    cases kq with
    | zero => exact absurd HA.out (by simp [partner_CheckAgreements.j1])
    | succ kj10 =>
     have H := HA.out
     clear HA
     simp only [partner_CheckAgreements.j1] at H
     by_cases c23 : x34_10 = true
     case pos =>
      subst c23
      have H1 : (some 5) = some r := by rw [if_pos rfl] at H; exact H
      clear H
      have H := H1
      clear H1
      obtain rfl := Option.some.inj H
      go_wp2
      go_ret
      exact ⟨Z97, Z83⟩
     replace c23 := Bool.eq_false_iff.mpr c23
     subst c23
     have H1 : ((partner_ownFault.f kj10 ((qa l1 x19_1).f0) ((qa l1 x19_1).f1) ((qa l1 x19_1).f2) ((qa l1 x19_1).f3) ((qa l1 x19_1).f4) ((qa l1 x19_1).f5) ((qa l1 x19_1).f6) ((qa l1 x19_1).f7) ((qa l1 x19_1).f8)).bind fun t229 => (if t229 = 0 then (partner_CheckAgreements.l0 kj10 l0 l1 (l1.length : Int) (wrap64 (x19_1 + 1))) else (some t229))) = some r := by rw [if_neg (show ¬ (false = true) by decide)] at H; exact H
     clear H
     have H := H1
     clear H1
     replace H := Option.bind_eq_some_iff.mp H
     obtain ⟨t229, A240, H⟩ := H
     replace H : (if t229 = 0 then (partner_CheckAgreements.l0 kj10 l0 l1 (l1.length : Int) (wrap64 (x19_1 + 1))) else (some t229)) = some r := H
     have A24 := qb.mk A240
     clear A240
     by_cases c25 : t229 = 0
     case neg =>
      rw [if_neg c25] at H
      have c25b0 : (t229 == 0) = false := beq_eq_false_iff_ne.mpr c25
      have c25b1 : (t229 != 0) = true := bne_iff_ne.mpr c25
      obtain rfl := Option.some.inj H
      have yc28_0 : wc.cell? ⟨gb226, 0, none⟩ = some (.string ((qa l1 x19_1).f0)) := (qc BK226.out 0).trans rfl
      have yc28_1 : wc.cell? ⟨gb226, 1, none⟩ = some (.string ((qa l1 x19_1).f1)) := (qc BK226.out 1).trans rfl
      have yc28_2 : wc.cell? ⟨gb226, 2, none⟩ = some (.string ((qa l1 x19_1).f2)) := (qc BK226.out 2).trans rfl
      have yc28_3 : wc.cell? ⟨gb226, 3, none⟩ = some (.string ((qa l1 x19_1).f3)) := (qc BK226.out 3).trans rfl
      have yc28_4 : wc.cell? ⟨gb226, 4, none⟩ = some (.int .i64 ((qa l1 x19_1).f4)) := (qc BK226.out 4).trans rfl
      have yc28_5 : wc.cell? ⟨gb226, 5, none⟩ = some (.int .i64 ((qa l1 x19_1).f5)) := (qc BK226.out 5).trans rfl
      have yc28_6 : wc.cell? ⟨gb226, 6, none⟩ = some (.bool ((qa l1 x19_1).f6)) := (qc BK226.out 6).trans rfl
      have yc28_7 : wc.cell? ⟨gb226, 7, none⟩ = some (.int .i64 ((qa l1 x19_1).f7)) := (qc BK226.out 7).trans rfl
      have yc28_8 : wc.cell? ⟨gb226, 8, none⟩ = some (.bool ((qa l1 x19_1).f8)) := (qc BK226.out 8).trans rfl
      have yf28_0 := qe BK226.out 0
      have yf28_1 := qe BK226.out 1
      have yf28_2 := qe BK226.out 2
      have yf28_3 := qe BK226.out 3
      have yf28_4 := qe BK226.out 4
      have yf28_5 := qe BK226.out 5
      have yf28_6 := qe BK226.out 6
      have yf28_7 := qe BK226.out 7
      have yf28_8 := qe BK226.out 8
      go_wp2_with (first | ((with_reducible refine qg (f := 62) rfl ?_); refine goesL_ (some 36) rfl rfl Tryz.func62 (by kernel_rfl) rfl #[.agg #[.string ((qa l1 x19_1).f0), .string ((qa l1 x19_1).f1), .string ((qa l1 x19_1).f2), .string ((qa l1 x19_1).f3), .int .i64 ((qa l1 x19_1).f4), .int .i64 ((qa l1 x19_1).f5), .bool ((qa l1 x19_1).f6), .int .i64 ((qa l1 x19_1).f7), .bool ((qa l1 x19_1).f8)]] rfl Z61 ?_; (with_reducible refine (partner_ownFault.calls kj10 ((qa l1 x19_1).f0) ((qa l1 x19_1).f1) ((qa l1 x19_1).f2) ((qa l1 x19_1).f3) ((qa l1 x19_1).f4) ((qa l1 x19_1).f5) ((qa l1 x19_1).f6) ((qa l1 x19_1).f7) ((qa l1 x19_1).f8) t229 _ A24.out).mono ?_); rintro e w29 ⟨rfl, hb⟩; refine ⟨_, rfl, ?_⟩; have n0_ := bb BK226 hb; have n1_ := qb.mk (qd Z83 hb); clear BK226 HB; have BK226 := n0_; have HB := n1_; clear n0_ n1_; (try clear hb); (try clear hb2); (try clear hk); (try clear hi)))
      go_ret
      exact ⟨Z97, Z83⟩
     rw [if_pos c25] at H
     have c25b0 : (t229 == 0) = true := beq_iff_eq.mpr c25
     have c25b1 : (t229 != 0) = false := bne_eq_false_iff_eq.mpr c25
     clear c25
     have H' := qb.mk H
     clear H
     have yc26_0 : wc.cell? ⟨gb226, 0, none⟩ = some (.string ((qa l1 x19_1).f0)) := (qc BK226.out 0).trans rfl
     have yc26_1 : wc.cell? ⟨gb226, 1, none⟩ = some (.string ((qa l1 x19_1).f1)) := (qc BK226.out 1).trans rfl
     have yc26_2 : wc.cell? ⟨gb226, 2, none⟩ = some (.string ((qa l1 x19_1).f2)) := (qc BK226.out 2).trans rfl
     have yc26_3 : wc.cell? ⟨gb226, 3, none⟩ = some (.string ((qa l1 x19_1).f3)) := (qc BK226.out 3).trans rfl
     have yc26_4 : wc.cell? ⟨gb226, 4, none⟩ = some (.int .i64 ((qa l1 x19_1).f4)) := (qc BK226.out 4).trans rfl
     have yc26_5 : wc.cell? ⟨gb226, 5, none⟩ = some (.int .i64 ((qa l1 x19_1).f5)) := (qc BK226.out 5).trans rfl
     have yc26_6 : wc.cell? ⟨gb226, 6, none⟩ = some (.bool ((qa l1 x19_1).f6)) := (qc BK226.out 6).trans rfl
     have yc26_7 : wc.cell? ⟨gb226, 7, none⟩ = some (.int .i64 ((qa l1 x19_1).f7)) := (qc BK226.out 7).trans rfl
     have yc26_8 : wc.cell? ⟨gb226, 8, none⟩ = some (.bool ((qa l1 x19_1).f8)) := (qc BK226.out 8).trans rfl
     have yf26_0 := qe BK226.out 0
     have yf26_1 := qe BK226.out 1
     have yf26_2 := qe BK226.out 2
     have yf26_3 := qe BK226.out 3
     have yf26_4 := qe BK226.out 4
     have yf26_5 := qe BK226.out 5
     have yf26_6 := qe BK226.out 6
     have yf26_7 := qe BK226.out 7
     have yf26_8 := qe BK226.out 8
     go_wp2_with (first | ((with_reducible refine qg (f := 62) rfl ?_); refine goesL_ (some 36) rfl rfl Tryz.func62 (by kernel_rfl) rfl #[.agg #[.string ((qa l1 x19_1).f0), .string ((qa l1 x19_1).f1), .string ((qa l1 x19_1).f2), .string ((qa l1 x19_1).f3), .int .i64 ((qa l1 x19_1).f4), .int .i64 ((qa l1 x19_1).f5), .bool ((qa l1 x19_1).f6), .int .i64 ((qa l1 x19_1).f7), .bool ((qa l1 x19_1).f8)]] rfl Z61 ?_; (with_reducible refine (partner_ownFault.calls kj10 ((qa l1 x19_1).f0) ((qa l1 x19_1).f1) ((qa l1 x19_1).f2) ((qa l1 x19_1).f3) ((qa l1 x19_1).f4) ((qa l1 x19_1).f5) ((qa l1 x19_1).f6) ((qa l1 x19_1).f7) ((qa l1 x19_1).f8) t229 _ A24.out).mono ?_); rintro e w27 ⟨rfl, hb⟩; refine ⟨_, rfl, ?_⟩; have n0_ := bb BK226 hb; have n1_ := qb.mk (qd Z83 hb); clear BK226 HB; have BK226 := n0_; have HB := n1_; clear n0_ n1_; (try clear hb); (try clear hb2); (try clear hk); (try clear hi)))
     go_roundg kj10
     case measure => have := HK1.out; have := HJ10.out; omega
     case rel => exact ⟨(wrap64 (x19_1 + 1)), qD, H', ⟨by have := HK1.out; have := HJ10.out; omega⟩, ⟨Z83⟩⟩
/-! ### kit_IsDay: function 139 -/
def kit_IsDay.f (a0 : Int) : Option (Bool) := (kit_Outside.f a0 1 3652059).bind fun t230 => (some (!t230))
set_option maxHeartbeats 8000000 in
set_option maxRecDepth 100000 in
theorem kit_IsDay.calls (a0 : Int) (r : Bool) (w : World) (h : kit_IsDay.f a0 = some r) :
  Calls Tryz.prog 139 #[.int .i64 a0] w fun e w' => e = .returned (.bool r) ∧ Drawn0 w w' := by
 have H : ((kit_Outside.f a0 1 3652059).bind fun t230 => (some (!t230))) = some r := h
 clear h
 replace H := Option.bind_eq_some_iff.mp H
 obtain ⟨t230, A20, H⟩ := H
 replace H : (some (!t230)) = some r := H
 have A2 := qb.mk A20
 clear A20
 obtain rfl := Option.some.inj H
 go_enter Tryz.func139, Tryz.ntmps139
 go_wp2_with (first | ((with_reducible refine qg (f := 75) rfl ?_); refine goesL_ (some 4) rfl rfl Tryz.func75 (by kernel_rfl) rfl #[.int .i64 a0, .int .i64 1, .int .i64 3652059] rfl Z61 ?_; (with_reducible refine (kit_Outside.calls a0 1 3652059 t230 _ A2.out).mono ?_); rintro e w' ⟨rfl, ⟨nd, rfl⟩⟩; refine ⟨_, rfl, ?_⟩))
 go_ret
 exact ⟨Z141, Z138⟩

/-! ### partner_restFault: function 89 -/
def partner_restFault.j0 : Nat → Bool → ByteArray → ByteArray → ByteArray → ByteArray → Int → Bool → Option (Int)
 | 0, _, _, _, _, _, _, _ => none
 | k + 1, x12, x232000, x232001, x232002, x232003, x232004, x232005 => if x12 = true then (some 5) else ((kit_IsDay.f x232004).bind fun t234 => (if t234 = true then (some 0) else (some 1)))
def partner_restFault.f (k : Nat) (a0_0 : ByteArray) (a0_1 : ByteArray) (a0_2 : ByteArray) (a0_3 : ByteArray) (a0_4 : Int) (a0_5 : Bool) : Option (Int) := (kit_IsName.f a0_2).bind fun t232 => (if t232 = true then ((kit_IsName.f a0_3).bind fun t233 => (partner_restFault.j0 k (!t233) a0_0 a0_1 a0_2 a0_3 a0_4 a0_5)) else (partner_restFault.j0 k true a0_0 a0_1 a0_2 a0_3 a0_4 a0_5))
theorem partner_restFault.mono_l : ∀ k, (∀ y0 y1 y2 y3 y4 y5 y6, qv (partner_restFault.j0 k y0 y1 y2 y3 y4 y5 y6) (partner_restFault.j0 (k + 1) y0 y1 y2 y3 y4 y5 y6))
 | 0 => fun _ _ _ _ _ _ _ r h => by simp [partner_restFault.j0] at h
 | k + 1 => by
  have ih0 := partner_restFault.mono_l k
  ·intro y0 y1 y2 y3 y4 y5 y6
   unfold partner_restFault.j0
   repeat' first
   | (with_reducible apply ih0)
   | (with_reducible exact qv.refl _)
   | (with_reducible exact qv.none _)
   | (with_reducible refine qv.ite ?_ ?_)
   | (with_reducible refine qv.bind ?_ (fun _ => ?_))
   | apply ih0
   | exact qv.none _
   | refine qv.ite ?_ ?_
   | refine qv.bind ?_ (fun _ => ?_)
theorem partner_restFault.mono : ∀ a0 a1 a2 a3 a4 a5 k, qv (partner_restFault.f k a0 a1 a2 a3 a4 a5) (partner_restFault.f (k + 1) a0 a1 a2 a3 a4 a5) := by
 intro a0 a1 a2 a3 a4 a5 k
 have ih0 := partner_restFault.mono_l k
 unfold partner_restFault.f
 repeat' first
   | (with_reducible apply ih0)
   | (with_reducible exact qv.refl _)
   | (with_reducible exact qv.none _)
   | (with_reducible refine qv.ite ?_ ?_)
   | (with_reducible refine qv.bind ?_ (fun _ => ?_))
   | apply ih0
   | exact qv.none _
   | refine qv.ite ?_ ?_
   | refine qv.bind ?_ (fun _ => ?_)
set_option maxHeartbeats 8000000 in
set_option maxRecDepth 100000 in
theorem partner_restFault.calls (k : Nat) (a0_0 : ByteArray) (a0_1 : ByteArray) (a0_2 : ByteArray) (a0_3 : ByteArray) (a0_4 : Int) (a0_5 : Bool) (r : Int) (w : World) (h : partner_restFault.f k a0_0 a0_1 a0_2 a0_3 a0_4 a0_5 = some r) :
  Calls Tryz.prog 89 #[.agg #[.string a0_0, .string a0_1, .string a0_2, .string a0_3, .int .i64 a0_4, .bool a0_5]] w fun e w' => e = .returned (.int .i64 r) ∧ Below w.heap.size w w' := by
 have hu25 := Tryz.underlying25
 have HB := qb.mk (Below.refl w.heap.size w)
 have H : ((kit_IsName.f a0_2).bind fun t232 => (if t232 = true then ((kit_IsName.f a0_3).bind fun t233 => (partner_restFault.j0 k (!t233) a0_0 a0_1 a0_2 a0_3 a0_4 a0_5)) else (partner_restFault.j0 k true a0_0 a0_1 a0_2 a0_3 a0_4 a0_5))) = some r := h
 clear h
 have HC2 := qb.mk H
 clear H
 go_enter Tryz.func89, Tryz.ntmps89
 go_upto_region 1 with (first | ((with_reducible refine qi (N := 1) rfl ?_); refine qh ?hg (N := 1) ?hd (cs := #[.string a0_0, .string a0_1, .string a0_2, .string a0_3, .int .i64 a0_4, .bool a0_5]) (t := 25) ?hr ?_; (case hd => rfl); (case hg => rfl); (case hr => exact qC); intro gb231 hg w3 hbox hb; have n0_ := qb.mk (qd qz hb); have n1_ := qb.mk (hbox); have n2_ := qb.mk ((Z66 : w.heap.size ≤ gb231)); have n3_ := n2_; clear HB; have HB := n0_; have BK231 := n1_; have GW231 := n2_; have GE231 := n3_; clear n0_ n1_ n2_ n3_; clear hb hbox hg))
 (try simp only [Act.put, sT, s0, s1])
 go_cut [12] (fun v12 wc => ∃ (kq : Nat) (x12_1 : Bool), v12 = .bool x12_1 ∧ qb (partner_restFault.j0 kq x12_1 a0_0 a0_1 a0_2 a0_3 a0_4 a0_5 = some r) ∧ qb (kq ≤ k) ∧ qb (wc.heap[gb231]? = some (.cells #[.string a0_0, .string a0_1, .string a0_2, .string a0_3, .int .i64 a0_4, .bool a0_5] 25 (0, 0))) ∧ qb (Below w.heap.size w wc))
 case first =>
  have H := HC2.out
  clear HC2
  replace H := Option.bind_eq_some_iff.mp H
  obtain ⟨t232, A40, H⟩ := H
  replace H : (if t232 = true then ((kit_IsName.f a0_3).bind fun t233 => (partner_restFault.j0 k (!t233) a0_0 a0_1 a0_2 a0_3 a0_4 a0_5)) else (partner_restFault.j0 k true a0_0 a0_1 a0_2 a0_3 a0_4 a0_5)) = some r := H
  have A4 := qb.mk A40
  clear A40
  by_cases c5 : t232 = true
  case neg =>
   replace c5 := Bool.eq_false_iff.mpr c5
   subst c5
   have H1 : (partner_restFault.j0 k true a0_0 a0_1 a0_2 a0_3 a0_4 a0_5) = some r := by rw [if_neg (show ¬ (false = true) by decide)] at H; exact H
   clear H
   have H := H1
   clear H1
   have H' := qb.mk H
   clear H
   obtain ⟨yc11_0, yc11_1, yc11_2, yc11_3, yc11_4, yc11_5, yf11_0, yf11_1, yf11_2, yf11_3, yf11_4, yf11_5⟩ := bf6 BK231.out
   go_wp2_with (first | ((with_reducible refine qg (f := 88) rfl ?_); refine goesL_ (some 5) rfl rfl Tryz.func88 (by kernel_rfl) rfl #[.string a0_2] rfl Z61 ?_; (with_reducible refine (kit_IsName.calls a0_2 false _ A4.out).mono ?_); rintro e w12 ⟨rfl, hb⟩; refine ⟨_, rfl, ?_⟩; have n0_ := bb BK231 hb; have n1_ := qb.mk (qd Z84 hb); clear BK231 HB; have BK231 := n0_; have HB := n1_; clear n0_ n1_; (try clear hb); (try clear hb2); (try clear hk); (try clear hi)))
   go_meet
   case rel => exact ⟨_, (true), qD, H', ⟨Z154⟩, ⟨by (with_reducible repeat (first | refine qn ?_ _ | refine qm ?_ | refine ql ?_ _)); exact BK231.out⟩, ⟨Z84⟩⟩
  subst c5
  have H1 : ((kit_IsName.f a0_3).bind fun t233 => (partner_restFault.j0 k (!t233) a0_0 a0_1 a0_2 a0_3 a0_4 a0_5)) = some r := by rw [if_pos rfl] at H; exact H
  clear H
  have H := H1
  clear H1
  replace H := Option.bind_eq_some_iff.mp H
  obtain ⟨t233, A60, H⟩ := H
  replace H : (partner_restFault.j0 k (!t233) a0_0 a0_1 a0_2 a0_3 a0_4 a0_5) = some r := H
  have A6 := qb.mk A60
  clear A60
  have H' := qb.mk H
  clear H
  obtain ⟨yc7_0, yc7_1, yc7_2, yc7_3, yc7_4, yc7_5, yf7_0, yf7_1, yf7_2, yf7_3, yf7_4, yf7_5⟩ := bf6 BK231.out
  go_wp2_with (first | ((with_reducible refine qg (f := 88) rfl ?_); refine goesL_ (some 5) rfl rfl Tryz.func88 (by kernel_rfl) rfl #[.string a0_2] rfl Z61 ?_; (with_reducible refine (kit_IsName.calls a0_2 true _ A4.out).mono ?_); rintro e w8 ⟨rfl, hb⟩; refine ⟨_, rfl, ?_⟩; have n0_ := bb BK231 hb; have n1_ := qb.mk (qd Z84 hb); clear BK231 HB; have BK231 := n0_; have HB := n1_; clear n0_ n1_; (try clear hb); (try clear hb2); (try clear hk); (try clear hi); obtain ⟨yc9_0, yc9_1, yc9_2, yc9_3, yc9_4, yc9_5, yf9_0, yf9_1, yf9_2, yf9_3, yf9_4, yf9_5⟩ := bf6 BK231.out) | (go_at_call 88; (with_reducible refine (kit_IsName.calls a0_3 t233 _ A6.out).mono ?_); rintro e w10 ⟨rfl, hb⟩; have n0_ := bb BK231 hb; have n1_ := qb.mk (qd Z84 hb); clear BK231 HB; have BK231 := n0_; have HB := n1_; clear n0_ n1_; (try clear hb); (try clear hb2); (try clear hk); (try clear hi)))
  go_meet
  case rel => exact ⟨_, (!t233), qD, H', ⟨Z154⟩, ⟨by (with_reducible repeat (first | refine qn ?_ _ | refine qm ?_ | refine ql ?_ _)); exact BK231.out⟩, ⟨Z84⟩⟩
 case rest =>
  clear HC2
  try clear p2; try clear c5; try clear c8; try clear yc11_0 yc11_1 yc11_2 yc11_3 yc11_4 yc11_5 yf11_0 yf11_1 yf11_2 yf11_3 yf11_4 yf11_5; try clear yc7_0 yc7_1 yc7_2 yc7_3 yc7_4 yc7_5 yf7_0 yf7_1 yf7_2 yf7_3 yf7_4 yf7_5; try clear yc9_0 yc9_1 yc9_2 yc9_3 yc9_4 yc9_5 yf9_0 yf9_1 yf9_2 yf9_3 yf9_4 yf9_5
  obtain ⟨kq, x12_1, rfl, HA, HJ1, BK231, HB⟩ := hcut
  cases kq with
  | zero => exact absurd HA.out (by simp [partner_restFault.j0])
  | succ kj1 =>
   have H := HA.out
   clear HA
   simp only [partner_restFault.j0] at H
   by_cases c13 : x12_1 = true
   case pos =>
    subst c13
    have H1 : (some 5) = some r := by rw [if_pos rfl] at H; exact H
    clear H
    have H := H1
    clear H1
    obtain rfl := Option.some.inj H
    go_wp2
    go_ret
    exact ⟨Z97, Z84⟩
   replace c13 := Bool.eq_false_iff.mpr c13
   subst c13
   have H1 : ((kit_IsDay.f a0_4).bind fun t234 => (if t234 = true then (some 0) else (some 1))) = some r := by rw [if_neg (show ¬ (false = true) by decide)] at H; exact H
   clear H
   have H := H1
   clear H1
   replace H := Option.bind_eq_some_iff.mp H
   obtain ⟨t234, A140, H⟩ := H
   replace H : (if t234 = true then (some 0) else (some 1)) = some r := H
   have A14 := qb.mk A140
   clear A140
   by_cases c15 : t234 = true
   case pos =>
    subst c15
    have H1 : (some 0) = some r := by rw [if_pos rfl] at H; exact H
    clear H
    have H := H1
    clear H1
    obtain rfl := Option.some.inj H
    have yc16_0 : wc.cell? ⟨gb231, 0, none⟩ = some (.string a0_0) := (qc BK231.out 0).trans rfl
    have yc16_1 : wc.cell? ⟨gb231, 1, none⟩ = some (.string a0_1) := (qc BK231.out 1).trans rfl
    have yc16_2 : wc.cell? ⟨gb231, 2, none⟩ = some (.string a0_2) := (qc BK231.out 2).trans rfl
    have yc16_3 : wc.cell? ⟨gb231, 3, none⟩ = some (.string a0_3) := (qc BK231.out 3).trans rfl
    have yc16_4 : wc.cell? ⟨gb231, 4, none⟩ = some (.int .i64 a0_4) := (qc BK231.out 4).trans rfl
    have yc16_5 : wc.cell? ⟨gb231, 5, none⟩ = some (.bool a0_5) := (qc BK231.out 5).trans rfl
    have yf16_0 := qe BK231.out 0
    have yf16_1 := qe BK231.out 1
    have yf16_2 := qe BK231.out 2
    have yf16_3 := qe BK231.out 3
    have yf16_4 := qe BK231.out 4
    have yf16_5 := qe BK231.out 5
    go_wp2_with (first | ((with_reducible refine qg (f := 139) rfl ?_); refine goesL_ (some 15) rfl rfl Tryz.func139 (by kernel_rfl) rfl #[.int .i64 a0_4] rfl Z61 ?_; (with_reducible refine (kit_IsDay.calls a0_4 true _ A14.out).mono ?_); rintro e w' ⟨rfl, ⟨nd, rfl⟩⟩; refine ⟨_, rfl, ?_⟩))
    go_ret
    exact ⟨Z97, Z84⟩
   replace c15 := Bool.eq_false_iff.mpr c15
   subst c15
   have H1 : (some 1) = some r := by rw [if_neg (show ¬ (false = true) by decide)] at H; exact H
   clear H
   have H := H1
   clear H1
   obtain rfl := Option.some.inj H
   have yc17_0 : wc.cell? ⟨gb231, 0, none⟩ = some (.string a0_0) := (qc BK231.out 0).trans rfl
   have yc17_1 : wc.cell? ⟨gb231, 1, none⟩ = some (.string a0_1) := (qc BK231.out 1).trans rfl
   have yc17_2 : wc.cell? ⟨gb231, 2, none⟩ = some (.string a0_2) := (qc BK231.out 2).trans rfl
   have yc17_3 : wc.cell? ⟨gb231, 3, none⟩ = some (.string a0_3) := (qc BK231.out 3).trans rfl
   have yc17_4 : wc.cell? ⟨gb231, 4, none⟩ = some (.int .i64 a0_4) := (qc BK231.out 4).trans rfl
   have yc17_5 : wc.cell? ⟨gb231, 5, none⟩ = some (.bool a0_5) := (qc BK231.out 5).trans rfl
   have yf17_0 := qe BK231.out 0
   have yf17_1 := qe BK231.out 1
   have yf17_2 := qe BK231.out 2
   have yf17_3 := qe BK231.out 3
   have yf17_4 := qe BK231.out 4
   have yf17_5 := qe BK231.out 5
   go_wp2_with (first | ((with_reducible refine qg (f := 139) rfl ?_); refine goesL_ (some 15) rfl rfl Tryz.func139 (by kernel_rfl) rfl #[.int .i64 a0_4] rfl Z61 ?_; (with_reducible refine (kit_IsDay.calls a0_4 false _ A14.out).mono ?_); rintro e w' ⟨rfl, ⟨nd, rfl⟩⟩; refine ⟨_, rfl, ?_⟩))
   go_ret
   exact ⟨Z97, Z84⟩

/-! ### partner_caseFault: function 54 -/
def partner_caseFault.f (k : Nat) (a0_0 : ByteArray) (a0_1 : ByteArray) (a0_2 : ByteArray) (a0_3 : ByteArray) (a0_4 : Int) (a0_5 : Bool) : Option (Int) := (kit_IsName.f a0_0).bind fun t236 => (if t236 = true then ((kit_IsName.f a0_1).bind fun t237 => (if t237 = true then ((partner_restFault.f k a0_0 a0_1 a0_2 a0_3 a0_4 a0_5).bind fun t238 => (some t238)) else (some 5))) else (some 5))
theorem partner_caseFault.mono : ∀ a0 a1 a2 a3 a4 a5 k, qv (partner_caseFault.f k a0 a1 a2 a3 a4 a5) (partner_caseFault.f (k + 1) a0 a1 a2 a3 a4 a5) := by
 intro a0 a1 a2 a3 a4 a5 k
 unfold partner_caseFault.f
 repeat' first
   | (with_reducible apply partner_restFault.mono)
   | (with_reducible exact qv.refl _)
   | (with_reducible exact qv.none _)
   | (with_reducible refine qv.ite ?_ ?_)
   | (with_reducible refine qv.bind ?_ (fun _ => ?_))
   | apply partner_restFault.mono
   | exact qv.none _
   | refine qv.ite ?_ ?_
   | refine qv.bind ?_ (fun _ => ?_)
set_option maxHeartbeats 8000000 in
set_option maxRecDepth 100000 in
theorem partner_caseFault.calls (k : Nat) (a0_0 : ByteArray) (a0_1 : ByteArray) (a0_2 : ByteArray) (a0_3 : ByteArray) (a0_4 : Int) (a0_5 : Bool) (r : Int) (w : World) (h : partner_caseFault.f k a0_0 a0_1 a0_2 a0_3 a0_4 a0_5 = some r) :
  Calls Tryz.prog 54 #[.agg #[.string a0_0, .string a0_1, .string a0_2, .string a0_3, .int .i64 a0_4, .bool a0_5]] w fun e w' => e = .returned (.int .i64 r) ∧ Below w.heap.size w w' := by
 have hu25 := Tryz.underlying25
 have HB := qb.mk (Below.refl w.heap.size w)
 have H : ((kit_IsName.f a0_0).bind fun t236 => (if t236 = true then ((kit_IsName.f a0_1).bind fun t237 => (if t237 = true then ((partner_restFault.f k a0_0 a0_1 a0_2 a0_3 a0_4 a0_5).bind fun t238 => (some t238)) else (some 5))) else (some 5))) = some r := h
 clear h
 replace H := Option.bind_eq_some_iff.mp H
 obtain ⟨t236, A20, H⟩ := H
 replace H : (if t236 = true then ((kit_IsName.f a0_1).bind fun t237 => (if t237 = true then ((partner_restFault.f k a0_0 a0_1 a0_2 a0_3 a0_4 a0_5).bind fun t238 => (some t238)) else (some 5))) else (some 5)) = some r := H
 have A2 := qb.mk A20
 clear A20
 by_cases c3 : t236 = true
 case neg =>
  replace c3 := Bool.eq_false_iff.mpr c3
  subst c3
  have H1 : (some 5) = some r := by rw [if_neg (show ¬ (false = true) by decide)] at H; exact H
  clear H
  have H := H1
  clear H1
  obtain rfl := Option.some.inj H
  go_enter Tryz.func54, Tryz.ntmps54
  go_wp2_with (first | ((with_reducible refine qi (N := 1) rfl ?_); refine qh ?hg (N := 1) ?hd (cs := #[.string a0_0, .string a0_1, .string a0_2, .string a0_3, .int .i64 a0_4, .bool a0_5]) (t := 25) ?hr ?_; (case hd => rfl); (case hg => rfl); (case hr => exact qC); intro gb235 hg w19 hbox hb; have n0_ := qb.mk (qd qz hb); have n1_ := qb.mk (hbox); have n2_ := qb.mk ((Z66 : w.heap.size ≤ gb235)); have n3_ := n2_; clear HB; have HB := n0_; have BK235 := n1_; have GW235 := n2_; have GE235 := n3_; clear n0_ n1_ n2_ n3_; clear hb hbox hg; obtain ⟨yc20_0, yc20_1, yc20_2, yc20_3, yc20_4, yc20_5, yf20_0, yf20_1, yf20_2, yf20_3, yf20_4, yf20_5⟩ := bf6 BK235.out) | ((with_reducible refine qg (f := 88) rfl ?_); refine goesL_ (some 5) rfl rfl Tryz.func88 (by kernel_rfl) rfl #[.string a0_0] rfl Z61 ?_; (with_reducible refine (kit_IsName.calls a0_0 false _ A2.out).mono ?_); rintro e w21 ⟨rfl, hb⟩; refine ⟨_, rfl, ?_⟩; have n0_ := bb BK235 hb; have n1_ := qb.mk (qd Z85 hb); clear BK235 HB; have BK235 := n0_; have HB := n1_; clear n0_ n1_; (try clear hb); (try clear hb2); (try clear hk); (try clear hi)))
  go_ret
  exact ⟨Z97, Z85⟩

 subst c3
 have H1 : ((kit_IsName.f a0_1).bind fun t237 => (if t237 = true then ((partner_restFault.f k a0_0 a0_1 a0_2 a0_3 a0_4 a0_5).bind fun t238 => (some t238)) else (some 5))) = some r := by rw [if_pos rfl] at H; exact H
 clear H
 have H := H1
 clear H1
 replace H := Option.bind_eq_some_iff.mp H
 obtain ⟨t237, A40, H⟩ := H
 replace H : (if t237 = true then ((partner_restFault.f k a0_0 a0_1 a0_2 a0_3 a0_4 a0_5).bind fun t238 => (some t238)) else (some 5)) = some r := H
 have A4 := qb.mk A40
 clear A40
 by_cases c5 : t237 = true
 case neg =>
  replace c5 := Bool.eq_false_iff.mpr c5
  subst c5
  have H1 : (some 5) = some r := by rw [if_neg (show ¬ (false = true) by decide)] at H; exact H
  clear H
  have H := H1
  clear H1
  obtain rfl := Option.some.inj H
  go_enter Tryz.func54, Tryz.ntmps54
  go_wp2_with (first | ((with_reducible refine qi (N := 1) rfl ?_); refine qh ?hg (N := 1) ?hd (cs := #[.string a0_0, .string a0_1, .string a0_2, .string a0_3, .int .i64 a0_4, .bool a0_5]) (t := 25) ?hr ?_; (case hd => rfl); (case hg => rfl); (case hr => exact qC); intro gb235 hg w14 hbox hb; have n0_ := qb.mk (qd qz hb); have n1_ := qb.mk (hbox); have n2_ := qb.mk ((Z66 : w.heap.size ≤ gb235)); have n3_ := n2_; clear HB; have HB := n0_; have BK235 := n1_; have GW235 := n2_; have GE235 := n3_; clear n0_ n1_ n2_ n3_; clear hb hbox hg; obtain ⟨yc15_0, yc15_1, yc15_2, yc15_3, yc15_4, yc15_5, yf15_0, yf15_1, yf15_2, yf15_3, yf15_4, yf15_5⟩ := bf6 BK235.out) | ((with_reducible refine qg (f := 88) rfl ?_); refine goesL_ (some 5) rfl rfl Tryz.func88 (by kernel_rfl) rfl #[.string a0_0] rfl Z61 ?_; (with_reducible refine (kit_IsName.calls a0_0 true _ A2.out).mono ?_); rintro e w16 ⟨rfl, hb⟩; refine ⟨_, rfl, ?_⟩; have n0_ := bb BK235 hb; have n1_ := qb.mk (qd Z85 hb); clear BK235 HB; have BK235 := n0_; have HB := n1_; clear n0_ n1_; (try clear hb); (try clear hb2); (try clear hk); (try clear hi); obtain ⟨yc17_0, yc17_1, yc17_2, yc17_3, yc17_4, yc17_5, yf17_0, yf17_1, yf17_2, yf17_3, yf17_4, yf17_5⟩ := bf6 BK235.out) | (go_at_call 88; (with_reducible refine (kit_IsName.calls a0_1 false _ A4.out).mono ?_); rintro e w18 ⟨rfl, hb⟩; have n0_ := bb BK235 hb; have n1_ := qb.mk (qd Z85 hb); clear BK235 HB; have BK235 := n0_; have HB := n1_; clear n0_ n1_; (try clear hb); (try clear hb2); (try clear hk); (try clear hi)))
  go_ret
  exact ⟨Z97, Z85⟩
 subst c5
 have H1 : ((partner_restFault.f k a0_0 a0_1 a0_2 a0_3 a0_4 a0_5).bind fun t238 => (some t238)) = some r := by rw [if_pos rfl] at H; exact H
 clear H
 have H := H1
 clear H1
 replace H := Option.bind_eq_some_iff.mp H
 obtain ⟨t238, A60, H⟩ := H
 replace H : (some t238) = some r := H
 have A6 := qb.mk A60
 clear A60
 obtain rfl := Option.some.inj H
 go_enter Tryz.func54, Tryz.ntmps54
 go_wp2_with (first | ((with_reducible refine qi (N := 1) rfl ?_); refine qh ?hg (N := 1) ?hd (cs := #[.string a0_0, .string a0_1, .string a0_2, .string a0_3, .int .i64 a0_4, .bool a0_5]) (t := 25) ?hr ?_; (case hd => rfl); (case hg => rfl); (case hr => exact qC); intro gb235 hg w7 hbox hb; have n0_ := qb.mk (qd qz hb); have n1_ := qb.mk (hbox); have n2_ := qb.mk ((Z66 : w.heap.size ≤ gb235)); have n3_ := n2_; clear HB; have HB := n0_; have BK235 := n1_; have GW235 := n2_; have GE235 := n3_; clear n0_ n1_ n2_ n3_; clear hb hbox hg; obtain ⟨yc8_0, yc8_1, yc8_2, yc8_3, yc8_4, yc8_5, yf8_0, yf8_1, yf8_2, yf8_3, yf8_4, yf8_5⟩ := bf6 BK235.out) | ((with_reducible refine qg (f := 88) rfl ?_); refine goesL_ (some 5) rfl rfl Tryz.func88 (by kernel_rfl) rfl #[.string a0_0] rfl Z61 ?_; (with_reducible refine (kit_IsName.calls a0_0 true _ A2.out).mono ?_); rintro e w9 ⟨rfl, hb⟩; refine ⟨_, rfl, ?_⟩; have n0_ := bb BK235 hb; have n1_ := qb.mk (qd Z85 hb); clear BK235 HB; have BK235 := n0_; have HB := n1_; clear n0_ n1_; (try clear hb); (try clear hb2); (try clear hk); (try clear hi); obtain ⟨yc10_0, yc10_1, yc10_2, yc10_3, yc10_4, yc10_5, yf10_0, yf10_1, yf10_2, yf10_3, yf10_4, yf10_5⟩ := bf6 BK235.out) | (go_at_call 88; (with_reducible refine (kit_IsName.calls a0_1 true _ A4.out).mono ?_); rintro e w11 ⟨rfl, hb⟩; have n0_ := bb BK235 hb; have n1_ := qb.mk (qd Z85 hb); clear BK235 HB; have BK235 := n0_; have HB := n1_; clear n0_ n1_; (try clear hb); (try clear hb2); (try clear hk); (try clear hi); obtain ⟨yc12_0, yc12_1, yc12_2, yc12_3, yc12_4, yc12_5, yf12_0, yf12_1, yf12_2, yf12_3, yf12_4, yf12_5⟩ := bf6 BK235.out) | ((with_reducible refine qg (f := 89) rfl ?_); refine goesL_ (some 14) rfl rfl Tryz.func89 (by kernel_rfl) rfl #[.agg #[.string a0_0, .string a0_1, .string a0_2, .string a0_3, .int .i64 a0_4, .bool a0_5]] rfl Z61 ?_; (with_reducible refine (partner_restFault.calls k a0_0 a0_1 a0_2 a0_3 a0_4 a0_5 t238 _ A6.out).mono ?_); rintro e w13 ⟨rfl, hb⟩; refine ⟨_, rfl, ?_⟩; have n0_ := bb BK235 hb; have n1_ := qb.mk (qd Z85 hb); clear BK235 HB; have BK235 := n0_; have HB := n1_; clear n0_ n1_; (try clear hb); (try clear hb2); (try clear hk); (try clear hi)))
 go_ret
 exact ⟨Z97, Z85⟩
/-! ### partner_askedFault: function 22 -/
def partner_askedFault.f (k : Nat) (l0 : List (S110)) (l1 : List (S53)) (a2_0 : ByteArray) (a2_1 : ByteArray) (a2_2 : ByteArray) (a2_3 : ByteArray) (a2_4 : Int) (a2_5 : Bool) : Option (Int) := (partner_CheckAgreements.f k l0 l1).bind fun t240 => (if t240 = 0 then ((partner_caseFault.f k a2_0 a2_1 a2_2 a2_3 a2_4 a2_5).bind fun t241 => (if t241 = 0 then ((partner_isPartner.f k l0 a2_0).bind fun t242 => (if t242 = true then ((partner_isPartner.f k l0 a2_1).bind fun t243 => (if t243 = true then (some 0) else (some 5))) else (some 5))) else (some t241))) else (some t240))
theorem partner_askedFault.mono : ∀ a0 a1 a2 a3 a4 a5 a6 a7 k, qv (partner_askedFault.f k a0 a1 a2 a3 a4 a5 a6 a7) (partner_askedFault.f (k + 1) a0 a1 a2 a3 a4 a5 a6 a7) := by
 intro a0 a1 a2 a3 a4 a5 a6 a7 k
 unfold partner_askedFault.f
 repeat' first
   | (with_reducible apply partner_CheckAgreements.mono)
   | (with_reducible apply partner_caseFault.mono)
   | (with_reducible apply partner_isPartner.mono)
   | (with_reducible exact qv.refl _)
   | (with_reducible exact qv.none _)
   | (with_reducible refine qv.ite ?_ ?_)
   | (with_reducible refine qv.bind ?_ (fun _ => ?_))
   | apply partner_CheckAgreements.mono
   | apply partner_caseFault.mono
   | apply partner_isPartner.mono
   | exact qv.none _
   | refine qv.ite ?_ ?_
   | refine qv.bind ?_ (fun _ => ?_)
set_option maxHeartbeats 8000000 in
set_option maxRecDepth 100000 in
theorem partner_askedFault.calls (k : Nat) (A0 : Option Addr) (c0 : Nat) (l0 : List (S110)) (A1 : Option Addr) (c1 : Nat) (l1 : List (S53)) (a2_0 : ByteArray) (a2_1 : ByteArray) (a2_2 : ByteArray) (a2_3 : ByteArray) (a2_4 : Int) (a2_5 : Bool) (r : Int) (w : World) (hr0 : Kd.C k110 w A0 l0.length l0) (hc0 : l0.length ≤ c0) (hr1 : Kd.C k53 w A1 l1.length l1) (hc1 : l1.length ≤ c1) (h : partner_askedFault.f k l0 l1 a2_0 a2_1 a2_2 a2_3 a2_4 a2_5 = some r) :
  Calls Tryz.prog 22 #[.slice A0 l0.length c0, .slice A1 l1.length c1, .agg #[.string a2_0, .string a2_1, .string a2_2, .string a2_3, .int .i64 a2_4, .bool a2_5]] w fun e w' => e = .returned (.int .i64 r) ∧ Below w.heap.size w w' := by
 have hu25 := Tryz.underlying25
 have HR0 := qb.mk hr0
 have HC0 := qb.mk hc0
 clear hr0 hc0
 have HR1 := qb.mk hr1
 have HC1 := qb.mk hc1
 clear hr1 hc1
 have HB := qb.mk (Below.refl w.heap.size w)
 have H : ((partner_CheckAgreements.f k l0 l1).bind fun t240 => (if t240 = 0 then ((partner_caseFault.f k a2_0 a2_1 a2_2 a2_3 a2_4 a2_5).bind fun t241 => (if t241 = 0 then ((partner_isPartner.f k l0 a2_0).bind fun t242 => (if t242 = true then ((partner_isPartner.f k l0 a2_1).bind fun t243 => (if t243 = true then (some 0) else (some 5))) else (some 5))) else (some t241))) else (some t240))) = some r := h
 clear h
 replace H := Option.bind_eq_some_iff.mp H
 obtain ⟨t240, A40, H⟩ := H
 replace H : (if t240 = 0 then ((partner_caseFault.f k a2_0 a2_1 a2_2 a2_3 a2_4 a2_5).bind fun t241 => (if t241 = 0 then ((partner_isPartner.f k l0 a2_0).bind fun t242 => (if t242 = true then ((partner_isPartner.f k l0 a2_1).bind fun t243 => (if t243 = true then (some 0) else (some 5))) else (some 5))) else (some t241))) else (some t240)) = some r := H
 have A4 := qb.mk A40
 clear A40
 by_cases c5 : t240 = 0
 case neg =>
  rw [if_neg c5] at H
  have c5b0 : (t240 == 0) = false := beq_eq_false_iff_ne.mpr c5
  have c5b1 : (t240 != 0) = true := bne_iff_ne.mpr c5
  obtain rfl := Option.some.inj H
  go_enter Tryz.func22, Tryz.ntmps22
  go_wp2_with (first | ((with_reducible refine qi (N := 5) rfl ?_); refine qh ?hg (N := 5) ?hd (cs := #[.string a2_0, .string a2_1, .string a2_2, .string a2_3, .int .i64 a2_4, .bool a2_5]) (t := 25) ?hr ?_; (case hd => rfl); (case hg => rfl); (case hr => exact qC); intro gb239 hg w38 hbox hb; have n0_ := qb.mk (qd qz hb); have n1_ := qb.mk (hbox); have n2_ := qb.mk ((Z66 : w.heap.size ≤ gb239)); have n3_ := n2_; clear HB; have HB := n0_; have BK239 := n1_; have GW239 := n2_; have GE239 := n3_; clear n0_ n1_ n2_ n3_; clear hb hbox hg) | ((with_reducible refine qg (f := 27) rfl ?_); refine goesL_ (some 11) rfl rfl Tryz.func27 (by kernel_rfl) rfl #[.slice A0 l0.length c0, .slice A1 l1.length c1] rfl Z61 ?_; (with_reducible refine (partner_CheckAgreements.calls k _ _ l0 _ _ l1 t240 _ ?side1 ?side2 ?side3 ?side4 A4.out).mono ?_); (case side1 => exact Z62); (case side2 => exact Z158); (case side3 => exact Z63); (case side4 => exact Z159); rintro e w39 ⟨rfl, hb⟩; refine ⟨_, rfl, ?_⟩; have n0_ := bb BK239 hb; have n1_ := qb.mk (qd Z86 hb); clear BK239 HB; have BK239 := n0_; have HB := n1_; clear n0_ n1_; (try clear hb); (try clear hb2); (try clear hk); (try clear hi)))
  go_ret
  exact ⟨Z97, Z86⟩

 rw [if_pos c5] at H
 have c5b0 : (t240 == 0) = true := beq_iff_eq.mpr c5
 have c5b1 : (t240 != 0) = false := bne_eq_false_iff_eq.mpr c5
 clear c5
 replace H := Option.bind_eq_some_iff.mp H
 obtain ⟨t241, A60, H⟩ := H
 replace H : (if t241 = 0 then ((partner_isPartner.f k l0 a2_0).bind fun t242 => (if t242 = true then ((partner_isPartner.f k l0 a2_1).bind fun t243 => (if t243 = true then (some 0) else (some 5))) else (some 5))) else (some t241)) = some r := H
 have A6 := qb.mk A60
 clear A60
 by_cases c7 : t241 = 0
 case neg =>
  rw [if_neg c7] at H
  have c7b0 : (t241 == 0) = false := beq_eq_false_iff_ne.mpr c7
  have c7b1 : (t241 != 0) = true := bne_iff_ne.mpr c7
  obtain rfl := Option.some.inj H
  go_enter Tryz.func22, Tryz.ntmps22
  go_wp2_with (first | ((with_reducible refine qi (N := 5) rfl ?_); refine qh ?hg (N := 5) ?hd (cs := #[.string a2_0, .string a2_1, .string a2_2, .string a2_3, .int .i64 a2_4, .bool a2_5]) (t := 25) ?hr ?_; (case hd => rfl); (case hg => rfl); (case hr => exact qC); intro gb239 hg w34 hbox hb; have n0_ := qb.mk (qd qz hb); have n1_ := qb.mk (hbox); have n2_ := qb.mk ((Z66 : w.heap.size ≤ gb239)); have n3_ := n2_; clear HB; have HB := n0_; have BK239 := n1_; have GW239 := n2_; have GE239 := n3_; clear n0_ n1_ n2_ n3_; clear hb hbox hg) | ((with_reducible refine qg (f := 27) rfl ?_); refine goesL_ (some 11) rfl rfl Tryz.func27 (by kernel_rfl) rfl #[.slice A0 l0.length c0, .slice A1 l1.length c1] rfl Z61 ?_; (with_reducible refine (partner_CheckAgreements.calls k _ _ l0 _ _ l1 t240 _ ?side1 ?side2 ?side3 ?side4 A4.out).mono ?_); (case side1 => exact Z62); (case side2 => exact Z158); (case side3 => exact Z63); (case side4 => exact Z159); rintro e w35 ⟨rfl, hb⟩; refine ⟨_, rfl, ?_⟩; have n0_ := bb BK239 hb; have n1_ := qb.mk (qd Z86 hb); clear BK239 HB; have BK239 := n0_; have HB := n1_; clear n0_ n1_; (try clear hb); (try clear hb2); (try clear hk); (try clear hi); obtain ⟨yc36_0, yc36_1, yc36_2, yc36_3, yc36_4, yc36_5, yf36_0, yf36_1, yf36_2, yf36_3, yf36_4, yf36_5⟩ := bf6 BK239.out) | ((with_reducible refine qg (f := 54) rfl ?_); refine goesL_ (some 16) rfl rfl Tryz.func54 (by kernel_rfl) rfl #[.agg #[.string a2_0, .string a2_1, .string a2_2, .string a2_3, .int .i64 a2_4, .bool a2_5]] rfl Z61 ?_; (with_reducible refine (partner_caseFault.calls k a2_0 a2_1 a2_2 a2_3 a2_4 a2_5 t241 _ A6.out).mono ?_); rintro e w37 ⟨rfl, hb⟩; refine ⟨_, rfl, ?_⟩; have n0_ := bb BK239 hb; have n1_ := qb.mk (qd Z86 hb); clear BK239 HB; have BK239 := n0_; have HB := n1_; clear n0_ n1_; (try clear hb); (try clear hb2); (try clear hk); (try clear hi)))
  go_ret
  exact ⟨Z97, Z86⟩
 rw [if_pos c7] at H
 have c7b0 : (t241 == 0) = true := beq_iff_eq.mpr c7
 have c7b1 : (t241 != 0) = false := bne_eq_false_iff_eq.mpr c7
 clear c7
 replace H := Option.bind_eq_some_iff.mp H
 obtain ⟨t242, A80, H⟩ := H
 replace H : (if t242 = true then ((partner_isPartner.f k l0 a2_1).bind fun t243 => (if t243 = true then (some 0) else (some 5))) else (some 5)) = some r := H
 have A8 := qb.mk A80
 clear A80
 by_cases c9 : t242 = true
 case neg =>
  replace c9 := Bool.eq_false_iff.mpr c9
  subst c9
  have H1 : (some 5) = some r := by rw [if_neg (show ¬ (false = true) by decide)] at H; exact H
  clear H
  have H := H1
  clear H1
  obtain rfl := Option.some.inj H
  go_enter Tryz.func22, Tryz.ntmps22
  go_wp2_with (first | ((with_reducible refine qi (N := 5) rfl ?_); refine qh ?hg (N := 5) ?hd (cs := #[.string a2_0, .string a2_1, .string a2_2, .string a2_3, .int .i64 a2_4, .bool a2_5]) (t := 25) ?hr ?_; (case hd => rfl); (case hg => rfl); (case hr => exact qC); intro gb239 hg w28 hbox hb; have n0_ := qb.mk (qd qz hb); have n1_ := qb.mk (hbox); have n2_ := qb.mk ((Z66 : w.heap.size ≤ gb239)); have n3_ := n2_; clear HB; have HB := n0_; have BK239 := n1_; have GW239 := n2_; have GE239 := n3_; clear n0_ n1_ n2_ n3_; clear hb hbox hg) | ((with_reducible refine qg (f := 27) rfl ?_); refine goesL_ (some 11) rfl rfl Tryz.func27 (by kernel_rfl) rfl #[.slice A0 l0.length c0, .slice A1 l1.length c1] rfl Z61 ?_; (with_reducible refine (partner_CheckAgreements.calls k _ _ l0 _ _ l1 t240 _ ?side1 ?side2 ?side3 ?side4 A4.out).mono ?_); (case side1 => exact Z62); (case side2 => exact Z158); (case side3 => exact Z63); (case side4 => exact Z159); rintro e w29 ⟨rfl, hb⟩; refine ⟨_, rfl, ?_⟩; have n0_ := bb BK239 hb; have n1_ := qb.mk (qd Z86 hb); clear BK239 HB; have BK239 := n0_; have HB := n1_; clear n0_ n1_; (try clear hb); (try clear hb2); (try clear hk); (try clear hi); obtain ⟨yc30_0, yc30_1, yc30_2, yc30_3, yc30_4, yc30_5, yf30_0, yf30_1, yf30_2, yf30_3, yf30_4, yf30_5⟩ := bf6 BK239.out) | ((with_reducible refine qg (f := 54) rfl ?_); refine goesL_ (some 16) rfl rfl Tryz.func54 (by kernel_rfl) rfl #[.agg #[.string a2_0, .string a2_1, .string a2_2, .string a2_3, .int .i64 a2_4, .bool a2_5]] rfl Z61 ?_; (with_reducible refine (partner_caseFault.calls k a2_0 a2_1 a2_2 a2_3 a2_4 a2_5 t241 _ A6.out).mono ?_); rintro e w31 ⟨rfl, hb⟩; refine ⟨_, rfl, ?_⟩; have n0_ := bb BK239 hb; have n1_ := qb.mk (qd Z86 hb); clear BK239 HB; have BK239 := n0_; have HB := n1_; clear n0_ n1_; (try clear hb); (try clear hb2); (try clear hk); (try clear hi); obtain ⟨yc32_0, yc32_1, yc32_2, yc32_3, yc32_4, yc32_5, yf32_0, yf32_1, yf32_2, yf32_3, yf32_4, yf32_5⟩ := bf6 BK239.out) | ((with_reducible refine qg (f := 55) rfl ?_); refine goesL_ (some 23) rfl rfl Tryz.func55 (by kernel_rfl) rfl #[.slice A0 l0.length c0, .string a2_0] rfl Z61 ?_; (with_reducible refine (partner_isPartner.calls k _ _ l0 a2_0 false _ ?side1 ?side2 A8.out).mono ?_); (case side1 => exact Z62); (case side2 => exact Z158); rintro e w33 ⟨rfl, hb⟩; refine ⟨_, rfl, ?_⟩; have n0_ := bb BK239 hb; have n1_ := qb.mk (qd Z86 hb); clear BK239 HB; have BK239 := n0_; have HB := n1_; clear n0_ n1_; (try clear hb); (try clear hb2); (try clear hk); (try clear hi)))
  go_ret
  exact ⟨Z97, Z86⟩
 subst c9
 have H1 : ((partner_isPartner.f k l0 a2_1).bind fun t243 => (if t243 = true then (some 0) else (some 5))) = some r := by rw [if_pos rfl] at H; exact H
 clear H
 have H := H1
 clear H1
 replace H := Option.bind_eq_some_iff.mp H
 obtain ⟨t243, A100, H⟩ := H
 replace H : (if t243 = true then (some 0) else (some 5)) = some r := H
 have A10 := qb.mk A100
 clear A100
 by_cases c11 : t243 = true
 case pos =>
  subst c11
  have H1 : (some 0) = some r := by rw [if_pos rfl] at H; exact H
  clear H
  have H := H1
  clear H1
  obtain rfl := Option.some.inj H
  go_enter Tryz.func22, Tryz.ntmps22
  go_wp2_with (first | ((with_reducible refine qi (N := 5) rfl ?_); refine qh ?hg (N := 5) ?hd (cs := #[.string a2_0, .string a2_1, .string a2_2, .string a2_3, .int .i64 a2_4, .bool a2_5]) (t := 25) ?hr ?_; (case hd => rfl); (case hg => rfl); (case hr => exact qC); intro gb239 hg w12 hbox hb; have n0_ := qb.mk (qd qz hb); have n1_ := qb.mk (hbox); have n2_ := qb.mk ((Z66 : w.heap.size ≤ gb239)); have n3_ := n2_; clear HB; have HB := n0_; have BK239 := n1_; have GW239 := n2_; have GE239 := n3_; clear n0_ n1_ n2_ n3_; clear hb hbox hg) | ((with_reducible refine qg (f := 27) rfl ?_); refine goesL_ (some 11) rfl rfl Tryz.func27 (by kernel_rfl) rfl #[.slice A0 l0.length c0, .slice A1 l1.length c1] rfl Z61 ?_; (with_reducible refine (partner_CheckAgreements.calls k _ _ l0 _ _ l1 t240 _ ?side1 ?side2 ?side3 ?side4 A4.out).mono ?_); (case side1 => exact Z62); (case side2 => exact Z158); (case side3 => exact Z63); (case side4 => exact Z159); rintro e w13 ⟨rfl, hb⟩; refine ⟨_, rfl, ?_⟩; have n0_ := bb BK239 hb; have n1_ := qb.mk (qd Z86 hb); clear BK239 HB; have BK239 := n0_; have HB := n1_; clear n0_ n1_; (try clear hb); (try clear hb2); (try clear hk); (try clear hi); obtain ⟨yc14_0, yc14_1, yc14_2, yc14_3, yc14_4, yc14_5, yf14_0, yf14_1, yf14_2, yf14_3, yf14_4, yf14_5⟩ := bf6 BK239.out) | ((with_reducible refine qg (f := 54) rfl ?_); refine goesL_ (some 16) rfl rfl Tryz.func54 (by kernel_rfl) rfl #[.agg #[.string a2_0, .string a2_1, .string a2_2, .string a2_3, .int .i64 a2_4, .bool a2_5]] rfl Z61 ?_; (with_reducible refine (partner_caseFault.calls k a2_0 a2_1 a2_2 a2_3 a2_4 a2_5 t241 _ A6.out).mono ?_); rintro e w15 ⟨rfl, hb⟩; refine ⟨_, rfl, ?_⟩; have n0_ := bb BK239 hb; have n1_ := qb.mk (qd Z86 hb); clear BK239 HB; have BK239 := n0_; have HB := n1_; clear n0_ n1_; (try clear hb); (try clear hb2); (try clear hk); (try clear hi); obtain ⟨yc16_0, yc16_1, yc16_2, yc16_3, yc16_4, yc16_5, yf16_0, yf16_1, yf16_2, yf16_3, yf16_4, yf16_5⟩ := bf6 BK239.out) | ((with_reducible refine qg (f := 55) rfl ?_); refine goesL_ (some 23) rfl rfl Tryz.func55 (by kernel_rfl) rfl #[.slice A0 l0.length c0, .string a2_0] rfl Z61 ?_; (with_reducible refine (partner_isPartner.calls k _ _ l0 a2_0 true _ ?side1 ?side2 A8.out).mono ?_); (case side1 => exact Z62); (case side2 => exact Z158); rintro e w17 ⟨rfl, hb⟩; refine ⟨_, rfl, ?_⟩; have n0_ := bb BK239 hb; have n1_ := qb.mk (qd Z86 hb); clear BK239 HB; have BK239 := n0_; have HB := n1_; clear n0_ n1_; (try clear hb); (try clear hb2); (try clear hk); (try clear hi); obtain ⟨yc18_0, yc18_1, yc18_2, yc18_3, yc18_4, yc18_5, yf18_0, yf18_1, yf18_2, yf18_3, yf18_4, yf18_5⟩ := bf6 BK239.out) | (go_at_call 55; (with_reducible refine (partner_isPartner.calls k _ _ l0 a2_1 true _ ?side1 ?side2 A10.out).mono ?_); (case side1 => exact Z62); (case side2 => exact Z158); rintro e w19 ⟨rfl, hb⟩; have n0_ := bb BK239 hb; have n1_ := qb.mk (qd Z86 hb); clear BK239 HB; have BK239 := n0_; have HB := n1_; clear n0_ n1_; (try clear hb); (try clear hb2); (try clear hk); (try clear hi)))
  go_ret
  exact ⟨Z97, Z86⟩
 replace c11 := Bool.eq_false_iff.mpr c11
 subst c11
 have H1 : (some 5) = some r := by rw [if_neg (show ¬ (false = true) by decide)] at H; exact H
 clear H
 have H := H1
 clear H1
 obtain rfl := Option.some.inj H
 go_enter Tryz.func22, Tryz.ntmps22
 go_wp2_with (first | ((with_reducible refine qi (N := 5) rfl ?_); refine qh ?hg (N := 5) ?hd (cs := #[.string a2_0, .string a2_1, .string a2_2, .string a2_3, .int .i64 a2_4, .bool a2_5]) (t := 25) ?hr ?_; (case hd => rfl); (case hg => rfl); (case hr => exact qC); intro gb239 hg w20 hbox hb; have n0_ := qb.mk (qd qz hb); have n1_ := qb.mk (hbox); have n2_ := qb.mk ((Z66 : w.heap.size ≤ gb239)); have n3_ := n2_; clear HB; have HB := n0_; have BK239 := n1_; have GW239 := n2_; have GE239 := n3_; clear n0_ n1_ n2_ n3_; clear hb hbox hg) | ((with_reducible refine qg (f := 27) rfl ?_); refine goesL_ (some 11) rfl rfl Tryz.func27 (by kernel_rfl) rfl #[.slice A0 l0.length c0, .slice A1 l1.length c1] rfl Z61 ?_; (with_reducible refine (partner_CheckAgreements.calls k _ _ l0 _ _ l1 t240 _ ?side1 ?side2 ?side3 ?side4 A4.out).mono ?_); (case side1 => exact Z62); (case side2 => exact Z158); (case side3 => exact Z63); (case side4 => exact Z159); rintro e w21 ⟨rfl, hb⟩; refine ⟨_, rfl, ?_⟩; have n0_ := bb BK239 hb; have n1_ := qb.mk (qd Z86 hb); clear BK239 HB; have BK239 := n0_; have HB := n1_; clear n0_ n1_; (try clear hb); (try clear hb2); (try clear hk); (try clear hi); obtain ⟨yc22_0, yc22_1, yc22_2, yc22_3, yc22_4, yc22_5, yf22_0, yf22_1, yf22_2, yf22_3, yf22_4, yf22_5⟩ := bf6 BK239.out) | ((with_reducible refine qg (f := 54) rfl ?_); refine goesL_ (some 16) rfl rfl Tryz.func54 (by kernel_rfl) rfl #[.agg #[.string a2_0, .string a2_1, .string a2_2, .string a2_3, .int .i64 a2_4, .bool a2_5]] rfl Z61 ?_; (with_reducible refine (partner_caseFault.calls k a2_0 a2_1 a2_2 a2_3 a2_4 a2_5 t241 _ A6.out).mono ?_); rintro e w23 ⟨rfl, hb⟩; refine ⟨_, rfl, ?_⟩; have n0_ := bb BK239 hb; have n1_ := qb.mk (qd Z86 hb); clear BK239 HB; have BK239 := n0_; have HB := n1_; clear n0_ n1_; (try clear hb); (try clear hb2); (try clear hk); (try clear hi); obtain ⟨yc24_0, yc24_1, yc24_2, yc24_3, yc24_4, yc24_5, yf24_0, yf24_1, yf24_2, yf24_3, yf24_4, yf24_5⟩ := bf6 BK239.out) | ((with_reducible refine qg (f := 55) rfl ?_); refine goesL_ (some 23) rfl rfl Tryz.func55 (by kernel_rfl) rfl #[.slice A0 l0.length c0, .string a2_0] rfl Z61 ?_; (with_reducible refine (partner_isPartner.calls k _ _ l0 a2_0 true _ ?side1 ?side2 A8.out).mono ?_); (case side1 => exact Z62); (case side2 => exact Z158); rintro e w25 ⟨rfl, hb⟩; refine ⟨_, rfl, ?_⟩; have n0_ := bb BK239 hb; have n1_ := qb.mk (qd Z86 hb); clear BK239 HB; have BK239 := n0_; have HB := n1_; clear n0_ n1_; (try clear hb); (try clear hb2); (try clear hk); (try clear hi); obtain ⟨yc26_0, yc26_1, yc26_2, yc26_3, yc26_4, yc26_5, yf26_0, yf26_1, yf26_2, yf26_3, yf26_4, yf26_5⟩ := bf6 BK239.out) | (go_at_call 55; (with_reducible refine (partner_isPartner.calls k _ _ l0 a2_1 false _ ?side1 ?side2 A10.out).mono ?_); (case side1 => exact Z62); (case side2 => exact Z158); rintro e w27 ⟨rfl, hb⟩; have n0_ := bb BK239 hb; have n1_ := qb.mk (qd Z86 hb); clear BK239 HB; have BK239 := n0_; have HB := n1_; clear n0_ n1_; (try clear hb); (try clear hb2); (try clear hk); (try clear hi)))
 go_ret
 exact ⟨Z97, Z86⟩
end Go.Proofs.YtmmknokdgbgjgaaGreatDoor.XPartnerDaysMatchSpec
