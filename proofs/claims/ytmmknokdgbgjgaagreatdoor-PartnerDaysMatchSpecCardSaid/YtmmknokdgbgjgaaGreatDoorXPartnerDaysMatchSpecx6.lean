-- Walks of PartnerDaysMatchSpec: written by xprint.py out of the translation (hand-proved functions among them). Lean checks it.
import Derived.Test.YtmmknokdgbgjgaaGreatDoorXPartnerDaysMatchSpecx0
import Derived.Test.YtmmknokdgbgjgaaGreatDoorXPartnerDaysMatchSpecx2
import Derived.Test.YtmmknokdgbgjgaaGreatDoorXPartnerDaysMatchSpecx4
import Derived.Test.YtmmknokdgbgjgaaGreatDoorXPartnerDaysMatchSpecx5
namespace Go.Proofs.YtmmknokdgbgjgaaGreatDoor.XPartnerDaysMatchSpec
open Go.RowKit Go.Proofs.YtmmknokdgbgjgaaGreatDoorW.PrintWords Go.Proofs.YtmmknokdgbgjgaaGreatDoorW.PrintLast Go.Proofs.YtmmknokdgbgjgaaGreatDoorW.PrintMore
attribute [local go_sem] max2_int min2_int max_two min_two max_three min_three max_four min_four   -- for this text's walks alone
set_option linter.unusedVariables false
set_option linter.unusedSimpArgs false

/-! ### r8CheckAgreements: function 25 -/
mutual
def r8CheckAgreements.l0 : Nat → List (S110) → List (S53) → Int → Int → Option (Int)
 | 0, _, _, _, _ => none
 | k + 1, x0, x17, x18, x19 => if x19 < x18 then (if 0 ≤ x19 then (if x19 < (x17.length : Int) then ((r8isPartner.f k x0 ((qa x17 x19).f0)).bind fun t134 => (if t134 = true then ((r8isPartner.f k x0 ((qa x17 x19).f1)).bind fun t135 => (r8CheckAgreements.j1 k x0 x17 x18 x19 (!t135) ((qa x17 x19).f0) ((qa x17 x19).f1) ((qa x17 x19).f2) ((qa x17 x19).f3) ((qa x17 x19).f4) ((qa x17 x19).f5) ((qa x17 x19).f6) ((qa x17 x19).f7) ((qa x17 x19).f8))) else (r8CheckAgreements.j1 k x0 x17 x18 x19 true ((qa x17 x19).f0) ((qa x17 x19).f1) ((qa x17 x19).f2) ((qa x17 x19).f3) ((qa x17 x19).f4) ((qa x17 x19).f5) ((qa x17 x19).f6) ((qa x17 x19).f7) ((qa x17 x19).f8)))) else (none)) else (none)) else (some 0)
def r8CheckAgreements.j1 : Nat → List (S110) → List (S53) → Int → Int → Bool → ByteArray → ByteArray → ByteArray → ByteArray → Int → Int → Bool → Int → Bool → Option (Int)
 | 0, _, _, _, _, _, _, _, _, _, _, _, _, _, _ => none
 | k + 1, x0, x17, x18, x19, x34, x134000, x134001, x134002, x134003, x134004, x134005, x134006, x134007, x134008 => if x34 = true then (some 5) else ((r8checkAgreement.f k x134000 x134001 x134002 x134003 x134004 x134005 x134006 x134007 x134008).bind fun t136 => (if t136 = 0 then (r8CheckAgreements.l0 k x0 x17 x18 (wrap64 (x19 + 1))) else (some t136)))
end
def r8CheckAgreements.f (k : Nat) (l0 : List (S110)) (l1 : List (S53)) : Option (Int) := (r8CheckPartners.f k l0).bind fun t131 => (if t131 = 0 then (if (l1.length : Int) > 200 then (some 2) else (r8CheckAgreements.l0 k l0 l1 (l1.length : Int) 0)) else (some t131))
theorem r8CheckAgreements.mono_l : ∀ k, (∀ y0 y1 y2 y3, qv (r8CheckAgreements.l0 k y0 y1 y2 y3) (r8CheckAgreements.l0 (k + 1) y0 y1 y2 y3)) ∧ (∀ y0 y1 y2 y3 y4 y5 y6 y7 y8 y9 y10 y11 y12 y13, qv (r8CheckAgreements.j1 k y0 y1 y2 y3 y4 y5 y6 y7 y8 y9 y10 y11 y12 y13) (r8CheckAgreements.j1 (k + 1) y0 y1 y2 y3 y4 y5 y6 y7 y8 y9 y10 y11 y12 y13))
 | 0 => ⟨fun _ _ _ _ r h => by simp [r8CheckAgreements.l0] at h, fun _ _ _ _ _ _ _ _ _ _ _ _ _ _ r h => by simp [r8CheckAgreements.j1] at h⟩
 | k + 1 => by
  obtain ⟨ih0, ih1⟩ := r8CheckAgreements.mono_l k
  refine ⟨?_, ?_⟩
  all_goals
   intros
   first | unfold r8CheckAgreements.l0 | unfold r8CheckAgreements.j1
   repeat' first
   | (with_reducible apply ih0)
   | (with_reducible apply ih1)
   | (with_reducible apply r8CheckPartners.mono)
   | (with_reducible apply r8checkAgreement.mono)
   | (with_reducible apply r8isPartner.mono)
   | (with_reducible exact qv.refl _)
   | (with_reducible exact qv.none _)
   | (with_reducible refine qv.ite ?_ ?_)
   | (with_reducible refine qv.bind ?_ (fun _ => ?_))
   | apply ih0
   | apply ih1
   | apply r8CheckPartners.mono
   | apply r8checkAgreement.mono
   | apply r8isPartner.mono
   | exact qv.none _
   | refine qv.ite ?_ ?_
   | refine qv.bind ?_ (fun _ => ?_)
theorem r8CheckAgreements.mono : ∀ a0 a1 k, qv (r8CheckAgreements.f k a0 a1) (r8CheckAgreements.f (k + 1) a0 a1) := by
 intro a0 a1 k
 obtain ⟨ih0, ih1⟩ := r8CheckAgreements.mono_l k
 unfold r8CheckAgreements.f
 repeat' first
   | (with_reducible apply ih0)
   | (with_reducible apply ih1)
   | (with_reducible apply r8CheckPartners.mono)
   | (with_reducible apply r8checkAgreement.mono)
   | (with_reducible apply r8isPartner.mono)
   | (with_reducible exact qv.refl _)
   | (with_reducible exact qv.none _)
   | (with_reducible refine qv.ite ?_ ?_)
   | (with_reducible refine qv.bind ?_ (fun _ => ?_))
   | apply ih0
   | apply ih1
   | apply r8CheckPartners.mono
   | apply r8checkAgreement.mono
   | apply r8isPartner.mono
   | exact qv.none _
   | refine qv.ite ?_ ?_
   | refine qv.bind ?_ (fun _ => ?_)
set_option maxHeartbeats 8000000 in
set_option maxRecDepth 100000 in
theorem r8CheckAgreements.calls (k : Nat) (A0 : Option Addr) (c0 : Nat) (l0 : List (S110)) (A1 : Option Addr) (c1 : Nat) (l1 : List (S53)) (r : Int) (w : World) (hr0 : Kd.C k110 w A0 l0.length l0) (hc0 : l0.length ≤ c0) (hr1 : Kd.C k53 w A1 l1.length l1) (hc1 : l1.length ≤ c1) (h : r8CheckAgreements.f k l0 l1 = some r) :
  Calls Tryz.prog 25 #[.slice A0 l0.length c0, .slice A1 l1.length c1] w fun e w' => e = .returned (.int .i64 r) ∧ Below w.heap.size w w' := by
 have hu53 := Tryz.underlying53
 have HR0 := qb.mk hr0
 have HC0 := qb.mk hc0
 clear hr0 hc0
 have HR1 := qb.mk hr1
 have HC1 := qb.mk hc1
 clear hr1 hc1
 have HB := qb.mk (Below.refl w.heap.size w)
 have H : ((r8CheckPartners.f k l0).bind fun t131 => (if t131 = 0 then (if (l1.length : Int) > 200 then (some 2) else (r8CheckAgreements.l0 k l0 l1 (l1.length : Int) 0)) else (some t131))) = some r := h
 clear h
 replace H := Option.bind_eq_some_iff.mp H
 obtain ⟨t131, A30, H⟩ := H
 replace H : (if t131 = 0 then (if (l1.length : Int) > 200 then (some 2) else (r8CheckAgreements.l0 k l0 l1 (l1.length : Int) 0)) else (some t131)) = some r := H
 have A3 := qb.mk A30
 clear A30
 by_cases c4 : t131 = 0
 case neg =>
  rw [if_neg c4] at H
  have c4b0 : (t131 == 0) = false := beq_eq_false_iff_ne.mpr c4
  have c4b1 : (t131 != 0) = true := bne_iff_ne.mpr c4
  obtain rfl := Option.some.inj H
  go_enter Tryz.func25, Tryz.ntmps25
  go_wp2_with (first | ((with_reducible refine qg (f := 58) rfl ?_); refine goesL_ (some 10) rfl rfl Tryz.func58 (by kernel_rfl) rfl #[.slice A0 l0.length c0] rfl Z61 ?_; (with_reducible refine (r8CheckPartners.calls k _ _ l0 t131 _ ?side1 ?side2 A3.out).mono ?_); (case side1 => exact Z98); (case side2 => exact Z158); rintro e w30 ⟨rfl, hb⟩; refine ⟨_, rfl, ?_⟩; have n0_ := qb.mk (qd qz hb); clear HB; have HB := n0_; clear n0_; (try clear hb); (try clear hb2); (try clear hk); (try clear hi)))
  go_ret
  exact ⟨Z97, qz⟩

 rw [if_pos c4] at H
 have c4b0 : (t131 == 0) = true := beq_iff_eq.mpr c4
 have c4b1 : (t131 != 0) = false := bne_eq_false_iff_eq.mpr c4
 clear c4
 by_cases c5 : (l1.length : Int) > 200
 case pos =>
  rw [if_pos c5] at H
  have c5b0 : decide (200 < (l1.length : Int)) = true := decide_eq_true c5
  have c5b1 : decide (200 < l1.length) = true := decide_eq_true (by omega)
  clear c5
  obtain rfl := Option.some.inj H
  go_enter Tryz.func25, Tryz.ntmps25
  go_wp2_with (first | ((with_reducible refine qg (f := 58) rfl ?_); refine goesL_ (some 10) rfl rfl Tryz.func58 (by kernel_rfl) rfl #[.slice A0 l0.length c0] rfl Z61 ?_; (with_reducible refine (r8CheckPartners.calls k _ _ l0 t131 _ ?side1 ?side2 A3.out).mono ?_); (case side1 => exact Z98); (case side2 => exact Z158); rintro e w6 ⟨rfl, hb⟩; refine ⟨_, rfl, ?_⟩; have n0_ := qb.mk (qd qz hb); clear HB; have HB := n0_; clear n0_; (try clear hb); (try clear hb2); (try clear hk); (try clear hi)))
  go_ret
  exact ⟨Z97, qz⟩
 rw [if_neg c5] at H
 have c5b0 : decide (200 < (l1.length : Int)) = false := decide_eq_false c5
 have c5b1 : decide (200 < l1.length) = false := decide_eq_false (by omega)
 clear c5
 have H' := qb.mk H
 clear H
 go_enter Tryz.func25, Tryz.ntmps25
 go_wp2_with (first | ((with_reducible refine qg (f := 58) rfl ?_); refine goesL_ (some 10) rfl rfl Tryz.func58 (by kernel_rfl) rfl #[.slice A0 l0.length c0] rfl Z61 ?_; (with_reducible refine (r8CheckPartners.calls k _ _ l0 t131 _ ?side1 ?side2 A3.out).mono ?_); (case side1 => exact Z98); (case side2 => exact Z158); rintro e w7 ⟨rfl, hb⟩; refine ⟨_, rfl, ?_⟩; have n0_ := qb.mk (qd qz hb); clear HB; have HB := n0_; clear n0_; (try clear hb); (try clear hb2); (try clear hk); (try clear hi)))
 go_loopg [19] k (fun kq v19 w' => ∃ (x19_1 : Int), v19 = .int .i64 x19_1 ∧ qb (r8CheckAgreements.l0 kq l0 l1 (l1.length : Int) x19_1 = some r) ∧ qb (kq ≤ k) ∧ qb (Below w.heap.size w w'))
 case atStart => exact ⟨(0), qD, H', ⟨Nat.le_refl _⟩, ⟨qz⟩⟩
 case round =>
  clear H'
  try clear c1; try clear c2; try clear p2; try clear c4; try clear c4b0; try clear c4b1; try clear c5; try clear c5b0; try clear c5b1
  obtain ⟨x19_1, rfl, HA, HK1, HB⟩ := hrel
  cases gk with
  | zero => exact absurd HA.out (by simp [r8CheckAgreements.l0])
  | succ k1 =>
   have H := HA.out
   clear HA
   simp only [r8CheckAgreements.l0] at H
   by_cases c8 : x19_1 < (l1.length : Int)
   case neg =>
    rw [if_neg c8] at H
    have c8b0 : decide (x19_1 < (l1.length : Int)) = false := decide_eq_false c8
    clear c8
    obtain rfl := Option.some.inj H
    go_wp2
    go_ret
    exact ⟨Z97, qz⟩
   rw [if_pos c8] at H
   have c8b0 : decide (x19_1 < (l1.length : Int)) = true := decide_eq_true c8
   clear c8
   by_cases c9 : 0 ≤ x19_1
   case neg =>
    rw [if_neg c9] at H
    exact absurd H (by simp)
   rw [if_pos c9] at H
   have c9b0 : decide (0 ≤ x19_1) = true := decide_eq_true c9
   clear c9
   by_cases c10 : x19_1 < (l1.length : Int)
   case neg =>
    rw [if_neg c10] at H
    exact absurd H (by simp)
   rw [if_pos c10] at H
   have c10b0 : decide (x19_1 < (l1.length : Int)) = true := decide_eq_true c10
   clear c10
   have HC11 := qb.mk H
   clear H
   have p132 : 0 ≤ (x19_1 : Int) := of_decide_eq_true qB
   have q132 : x19_1 < (l1.length : Int) := of_decide_eq_true qB
   obtain ⟨ad132, e132, hx132_0, hx132_1, hx132_2, hx132_3, hx132_4, hx132_5, hx132_6, hx132_7, hx132_8⟩ := at_T53 HR1.out x19_1 p132 q132
   cases e132
   replace hx132_0 := bx HB hx132_0
   replace hx132_1 := bx HB hx132_1
   replace hx132_2 := bx HB hx132_2
   replace hx132_3 := bx HB hx132_3
   replace hx132_4 := bx HB hx132_4
   replace hx132_5 := bx HB hx132_5
   replace hx132_6 := bx HB hx132_6
   replace hx132_7 := bx HB hx132_7
   replace hx132_8 := bx HB hx132_8
   replace p132 := eq_true p132
   replace q132 := eq_true q132
   go_upto_region 9 with (first | ((with_reducible refine qi (N := 7) rfl ?_); refine qh ?hg (N := 7) ?hd (cs := #[.string (⟨#[]⟩ : ByteArray), .string (⟨#[]⟩ : ByteArray), .string (⟨#[]⟩ : ByteArray), .string (⟨#[]⟩ : ByteArray), .int .i64 0, .int .i64 0, .bool false, .int .i64 0, .bool false]) (t := 53) ?hr ?_; (case hd => rfl); (case hg => rfl); (case hr => exact qC); intro gb133 hg w12 hbox hb; have n0_ := qb.mk (qd qz hb); have n1_ := qb.mk (hbox); have n2_ := qb.mk ((Z66 : w.heap.size ≤ gb133)); have n3_ := n2_; clear HB; have HB := n0_; have BK133 := n1_; have GW133 := n2_; have GE133 := n3_; clear n0_ n1_ n2_ n3_; clear hb hbox hg; obtain ⟨yc13_0, yc13_1, yc13_2, yc13_3, yc13_4, yc13_5, yc13_6, yc13_7, yc13_8, yf13_0, yf13_1, yf13_2, yf13_3, yf13_4, yf13_5, yf13_6, yf13_7, yf13_8⟩ := bf9 BK133.out))
   (try simp only [Act.put, sT, s0, s1])
   go_cut [34] (fun v34 wc => ∃ (kq : Nat) (x34_10 : Bool), v34 = .bool x34_10 ∧ qb (r8CheckAgreements.j1 kq l0 l1 (l1.length : Int) x19_1 x34_10 ((qa l1 x19_1).f0) ((qa l1 x19_1).f1) ((qa l1 x19_1).f2) ((qa l1 x19_1).f3) ((qa l1 x19_1).f4) ((qa l1 x19_1).f5) ((qa l1 x19_1).f6) ((qa l1 x19_1).f7) ((qa l1 x19_1).f8) = some r) ∧ qb (kq ≤ k1) ∧ qb (wc.heap[gb133]? = some (.cells #[.string ((qa l1 x19_1).f0), .string ((qa l1 x19_1).f1), .string ((qa l1 x19_1).f2), .string ((qa l1 x19_1).f3), .int .i64 ((qa l1 x19_1).f4), .int .i64 ((qa l1 x19_1).f5), .bool ((qa l1 x19_1).f6), .int .i64 ((qa l1 x19_1).f7), .bool ((qa l1 x19_1).f8)] 53 (0, 0))) ∧ qb (Below w.heap.size w wc))
   case first =>
    have H := HC11.out
    clear HC11
    replace H := Option.bind_eq_some_iff.mp H
    obtain ⟨t134, A140, H⟩ := H
    replace H : (if t134 = true then ((r8isPartner.f k1 l0 ((qa l1 x19_1).f1)).bind fun t135 => (r8CheckAgreements.j1 k1 l0 l1 (l1.length : Int) x19_1 (!t135) ((qa l1 x19_1).f0) ((qa l1 x19_1).f1) ((qa l1 x19_1).f2) ((qa l1 x19_1).f3) ((qa l1 x19_1).f4) ((qa l1 x19_1).f5) ((qa l1 x19_1).f6) ((qa l1 x19_1).f7) ((qa l1 x19_1).f8))) else (r8CheckAgreements.j1 k1 l0 l1 (l1.length : Int) x19_1 true ((qa l1 x19_1).f0) ((qa l1 x19_1).f1) ((qa l1 x19_1).f2) ((qa l1 x19_1).f3) ((qa l1 x19_1).f4) ((qa l1 x19_1).f5) ((qa l1 x19_1).f6) ((qa l1 x19_1).f7) ((qa l1 x19_1).f8))) = some r := H
    have A14 := qb.mk A140
    clear A140
    by_cases c15 : t134 = true
    case neg =>
     replace c15 := Bool.eq_false_iff.mpr c15
     subst c15
     have H1 : (r8CheckAgreements.j1 k1 l0 l1 (l1.length : Int) x19_1 true ((qa l1 x19_1).f0) ((qa l1 x19_1).f1) ((qa l1 x19_1).f2) ((qa l1 x19_1).f3) ((qa l1 x19_1).f4) ((qa l1 x19_1).f5) ((qa l1 x19_1).f6) ((qa l1 x19_1).f7) ((qa l1 x19_1).f8)) = some r := by rw [if_neg (show ¬ (false = true) by decide)] at H; exact H
     clear H
     have H := H1
     clear H1
     have H' := qb.mk H
     clear H
     obtain ⟨yc21_0, yc21_1, yc21_2, yc21_3, yc21_4, yc21_5, yc21_6, yc21_7, yc21_8, yf21_0, yf21_1, yf21_2, yf21_3, yf21_4, yf21_5, yf21_6, yf21_7, yf21_8⟩ := bf9 BK133.out
     go_wp2_with (first | ((with_reducible refine qg (f := 49) rfl ?_); refine goesL_ (some 26) rfl rfl Tryz.func49 (by kernel_rfl) rfl #[.slice A0 l0.length c0, .string ((qa l1 x19_1).f0)] rfl Z61 ?_; (with_reducible refine (r8isPartner.calls k1 _ _ l0 ((qa l1 x19_1).f0) false _ ?side1 ?side2 A14.out).mono ?_); (case side1 => exact Kd.C_below HR0.out Z71); (case side2 => exact Z158); rintro e w22 ⟨rfl, hb⟩; refine ⟨_, rfl, ?_⟩; have n0_ := qb.mk (qw (g := gb133) (o := .cells #[.string ((qa l1 x19_1).f0), .string ((qa l1 x19_1).f1), .string ((qa l1 x19_1).f2), .string ((qa l1 x19_1).f3), .int .i64 ((qa l1 x19_1).f4), .int .i64 ((qa l1 x19_1).f5), .bool ((qa l1 x19_1).f6), .int .i64 ((qa l1 x19_1).f7), .bool ((qa l1 x19_1).f8)] 53 (0, 0)) Z20 hb); have n1_ := qb.mk (qd Z71 hb); clear BK133 HB; have BK133 := n0_; have HB := n1_; clear n0_ n1_; (try clear hb); (try clear hb2); (try clear hk); (try clear hi)))
     go_meet
     case rel => exact ⟨_, (true), qD, H', ⟨Z139⟩, ⟨by (with_reducible repeat (first | refine qn ?_ _ | refine qm ?_ | refine ql ?_ _)); exact BK133.out⟩, ⟨Z71⟩⟩
    subst c15
    have H1 : ((r8isPartner.f k1 l0 ((qa l1 x19_1).f1)).bind fun t135 => (r8CheckAgreements.j1 k1 l0 l1 (l1.length : Int) x19_1 (!t135) ((qa l1 x19_1).f0) ((qa l1 x19_1).f1) ((qa l1 x19_1).f2) ((qa l1 x19_1).f3) ((qa l1 x19_1).f4) ((qa l1 x19_1).f5) ((qa l1 x19_1).f6) ((qa l1 x19_1).f7) ((qa l1 x19_1).f8))) = some r := by rw [if_pos rfl] at H; exact H
    clear H
    have H := H1
    clear H1
    replace H := Option.bind_eq_some_iff.mp H
    obtain ⟨t135, A160, H⟩ := H
    replace H : (r8CheckAgreements.j1 k1 l0 l1 (l1.length : Int) x19_1 (!t135) ((qa l1 x19_1).f0) ((qa l1 x19_1).f1) ((qa l1 x19_1).f2) ((qa l1 x19_1).f3) ((qa l1 x19_1).f4) ((qa l1 x19_1).f5) ((qa l1 x19_1).f6) ((qa l1 x19_1).f7) ((qa l1 x19_1).f8)) = some r := H
    have A16 := qb.mk A160
    clear A160
    have H' := qb.mk H
    clear H
    obtain ⟨yc17_0, yc17_1, yc17_2, yc17_3, yc17_4, yc17_5, yc17_6, yc17_7, yc17_8, yf17_0, yf17_1, yf17_2, yf17_3, yf17_4, yf17_5, yf17_6, yf17_7, yf17_8⟩ := bf9 BK133.out
    go_wp2_with (first | ((with_reducible refine qg (f := 49) rfl ?_); refine goesL_ (some 26) rfl rfl Tryz.func49 (by kernel_rfl) rfl #[.slice A0 l0.length c0, .string ((qa l1 x19_1).f0)] rfl Z61 ?_; (with_reducible refine (r8isPartner.calls k1 _ _ l0 ((qa l1 x19_1).f0) true _ ?side1 ?side2 A14.out).mono ?_); (case side1 => exact Kd.C_below HR0.out Z71); (case side2 => exact Z158); rintro e w18 ⟨rfl, hb⟩; refine ⟨_, rfl, ?_⟩; have n0_ := qb.mk (qw (g := gb133) (o := .cells #[.string ((qa l1 x19_1).f0), .string ((qa l1 x19_1).f1), .string ((qa l1 x19_1).f2), .string ((qa l1 x19_1).f3), .int .i64 ((qa l1 x19_1).f4), .int .i64 ((qa l1 x19_1).f5), .bool ((qa l1 x19_1).f6), .int .i64 ((qa l1 x19_1).f7), .bool ((qa l1 x19_1).f8)] 53 (0, 0)) Z20 hb); have n1_ := qb.mk (qd Z71 hb); clear BK133 HB; have BK133 := n0_; have HB := n1_; clear n0_ n1_; (try clear hb); (try clear hb2); (try clear hk); (try clear hi); obtain ⟨yc19_0, yc19_1, yc19_2, yc19_3, yc19_4, yc19_5, yc19_6, yc19_7, yc19_8, yf19_0, yf19_1, yf19_2, yf19_3, yf19_4, yf19_5, yf19_6, yf19_7, yf19_8⟩ := bf9 BK133.out) | (go_at_call 49; (with_reducible refine (r8isPartner.calls k1 _ _ l0 ((qa l1 x19_1).f1) t135 _ ?side1 ?side2 A16.out).mono ?_); (case side1 => exact Z62); (case side2 => exact Z158); rintro e w20 ⟨rfl, hb⟩; have n0_ := bb BK133 hb; have n1_ := qb.mk (qd Z71 hb); clear BK133 HB; have BK133 := n0_; have HB := n1_; clear n0_ n1_; (try clear hb); (try clear hb2); (try clear hk); (try clear hi)))
    go_meet
    case rel => exact ⟨_, (!t135), qD, H', ⟨Z139⟩, ⟨by (with_reducible repeat (first | refine qn ?_ _ | refine qm ?_ | refine ql ?_ _)); exact BK133.out⟩, ⟨Z71⟩⟩
   case rest =>
    clear HC11
    try clear c1; try clear p1; try clear q1; try clear hx1; try clear c2; try clear p2 p2; try clear c4; try clear c4b0; try clear c4b1; try clear c5; try clear c5b0; try clear c5b1; try clear c8; try clear c8b0; try clear c9; try clear c9b0; try clear c10; try clear c10b0; try clear p13; try clear q13; try clear hx13; try clear c15; try clear yc13_0 yc13_1 yc13_2 yc13_3 yc13_4 yc13_5 yc13_6 yc13_7 yc13_8 yf13_0 yf13_1 yf13_2 yf13_3 yf13_4 yf13_5 yf13_6 yf13_7 yf13_8; try clear yc17_0 yc17_1 yc17_2 yc17_3 yc17_4 yc17_5 yc17_6 yc17_7 yc17_8 yf17_0 yf17_1 yf17_2 yf17_3 yf17_4 yf17_5 yf17_6 yf17_7 yf17_8; try clear yc19_0 yc19_1 yc19_2 yc19_3 yc19_4 yc19_5 yc19_6 yc19_7 yc19_8 yf19_0 yf19_1 yf19_2 yf19_3 yf19_4 yf19_5 yf19_6 yf19_7 yf19_8; try clear yc21_0 yc21_1 yc21_2 yc21_3 yc21_4 yc21_5 yc21_6 yc21_7 yc21_8 yf21_0 yf21_1 yf21_2 yf21_3 yf21_4 yf21_5 yf21_6 yf21_7 yf21_8; try clear hx132_0; try clear hx132_1; try clear hx132_2; try clear hx132_3; try clear hx132_4; try clear hx132_5; try clear hx132_6; try clear hx132_7; try clear hx132_8; try clear p132; try clear q132
    obtain ⟨kq, x34_10, rfl, HA, HJ10, BK133, HB⟩ := hcut
    cases kq with
    | zero => exact absurd HA.out (by simp [r8CheckAgreements.j1])
    | succ kj10 =>
     have H := HA.out
     clear HA
     simp only [r8CheckAgreements.j1] at H
     by_cases c23 : x34_10 = true
     case pos =>
      subst c23
      have H1 : (some 5) = some r := by rw [if_pos rfl] at H; exact H
      clear H
      have H := H1
      clear H1
      obtain rfl := Option.some.inj H
      go_wp2
      go_ret
      exact ⟨Z97, Z71⟩
     replace c23 := Bool.eq_false_iff.mpr c23
     subst c23
     have H1 : ((r8checkAgreement.f kj10 ((qa l1 x19_1).f0) ((qa l1 x19_1).f1) ((qa l1 x19_1).f2) ((qa l1 x19_1).f3) ((qa l1 x19_1).f4) ((qa l1 x19_1).f5) ((qa l1 x19_1).f6) ((qa l1 x19_1).f7) ((qa l1 x19_1).f8)).bind fun t136 => (if t136 = 0 then (r8CheckAgreements.l0 kj10 l0 l1 (l1.length : Int) (wrap64 (x19_1 + 1))) else (some t136))) = some r := by rw [if_neg (show ¬ (false = true) by decide)] at H; exact H
     clear H
     have H := H1
     clear H1
     replace H := Option.bind_eq_some_iff.mp H
     obtain ⟨t136, A240, H⟩ := H
     replace H : (if t136 = 0 then (r8CheckAgreements.l0 kj10 l0 l1 (l1.length : Int) (wrap64 (x19_1 + 1))) else (some t136)) = some r := H
     have A24 := qb.mk A240
     clear A240
     by_cases c25 : t136 = 0
     case neg =>
      rw [if_neg c25] at H
      have c25b0 : (t136 == 0) = false := beq_eq_false_iff_ne.mpr c25
      have c25b1 : (t136 != 0) = true := bne_iff_ne.mpr c25
      obtain rfl := Option.some.inj H
      have yc28_0 : wc.cell? ⟨gb133, 0, none⟩ = some (.string ((qa l1 x19_1).f0)) := (qc BK133.out 0).trans rfl
      have yc28_1 : wc.cell? ⟨gb133, 1, none⟩ = some (.string ((qa l1 x19_1).f1)) := (qc BK133.out 1).trans rfl
      have yc28_2 : wc.cell? ⟨gb133, 2, none⟩ = some (.string ((qa l1 x19_1).f2)) := (qc BK133.out 2).trans rfl
      have yc28_3 : wc.cell? ⟨gb133, 3, none⟩ = some (.string ((qa l1 x19_1).f3)) := (qc BK133.out 3).trans rfl
      have yc28_4 : wc.cell? ⟨gb133, 4, none⟩ = some (.int .i64 ((qa l1 x19_1).f4)) := (qc BK133.out 4).trans rfl
      have yc28_5 : wc.cell? ⟨gb133, 5, none⟩ = some (.int .i64 ((qa l1 x19_1).f5)) := (qc BK133.out 5).trans rfl
      have yc28_6 : wc.cell? ⟨gb133, 6, none⟩ = some (.bool ((qa l1 x19_1).f6)) := (qc BK133.out 6).trans rfl
      have yc28_7 : wc.cell? ⟨gb133, 7, none⟩ = some (.int .i64 ((qa l1 x19_1).f7)) := (qc BK133.out 7).trans rfl
      have yc28_8 : wc.cell? ⟨gb133, 8, none⟩ = some (.bool ((qa l1 x19_1).f8)) := (qc BK133.out 8).trans rfl
      have yf28_0 := qe BK133.out 0
      have yf28_1 := qe BK133.out 1
      have yf28_2 := qe BK133.out 2
      have yf28_3 := qe BK133.out 3
      have yf28_4 := qe BK133.out 4
      have yf28_5 := qe BK133.out 5
      have yf28_6 := qe BK133.out 6
      have yf28_7 := qe BK133.out 7
      have yf28_8 := qe BK133.out 8
      go_wp2_with (first | ((with_reducible refine qg (f := 59) rfl ?_); refine goesL_ (some 36) rfl rfl Tryz.func59 (by kernel_rfl) rfl #[.agg #[.string ((qa l1 x19_1).f0), .string ((qa l1 x19_1).f1), .string ((qa l1 x19_1).f2), .string ((qa l1 x19_1).f3), .int .i64 ((qa l1 x19_1).f4), .int .i64 ((qa l1 x19_1).f5), .bool ((qa l1 x19_1).f6), .int .i64 ((qa l1 x19_1).f7), .bool ((qa l1 x19_1).f8)]] rfl Z61 ?_; (with_reducible refine (r8checkAgreement.calls kj10 ((qa l1 x19_1).f0) ((qa l1 x19_1).f1) ((qa l1 x19_1).f2) ((qa l1 x19_1).f3) ((qa l1 x19_1).f4) ((qa l1 x19_1).f5) ((qa l1 x19_1).f6) ((qa l1 x19_1).f7) ((qa l1 x19_1).f8) t136 _ A24.out).mono ?_); rintro e w29 ⟨rfl, hb⟩; refine ⟨_, rfl, ?_⟩; have n0_ := bb BK133 hb; have n1_ := qb.mk (qd Z71 hb); clear BK133 HB; have BK133 := n0_; have HB := n1_; clear n0_ n1_; (try clear hb); (try clear hb2); (try clear hk); (try clear hi)))
      go_ret
      exact ⟨Z97, Z71⟩
     rw [if_pos c25] at H
     have c25b0 : (t136 == 0) = true := beq_iff_eq.mpr c25
     have c25b1 : (t136 != 0) = false := bne_eq_false_iff_eq.mpr c25
     clear c25
     have H' := qb.mk H
     clear H
     have yc26_0 : wc.cell? ⟨gb133, 0, none⟩ = some (.string ((qa l1 x19_1).f0)) := (qc BK133.out 0).trans rfl
     have yc26_1 : wc.cell? ⟨gb133, 1, none⟩ = some (.string ((qa l1 x19_1).f1)) := (qc BK133.out 1).trans rfl
     have yc26_2 : wc.cell? ⟨gb133, 2, none⟩ = some (.string ((qa l1 x19_1).f2)) := (qc BK133.out 2).trans rfl
     have yc26_3 : wc.cell? ⟨gb133, 3, none⟩ = some (.string ((qa l1 x19_1).f3)) := (qc BK133.out 3).trans rfl
     have yc26_4 : wc.cell? ⟨gb133, 4, none⟩ = some (.int .i64 ((qa l1 x19_1).f4)) := (qc BK133.out 4).trans rfl
     have yc26_5 : wc.cell? ⟨gb133, 5, none⟩ = some (.int .i64 ((qa l1 x19_1).f5)) := (qc BK133.out 5).trans rfl
     have yc26_6 : wc.cell? ⟨gb133, 6, none⟩ = some (.bool ((qa l1 x19_1).f6)) := (qc BK133.out 6).trans rfl
     have yc26_7 : wc.cell? ⟨gb133, 7, none⟩ = some (.int .i64 ((qa l1 x19_1).f7)) := (qc BK133.out 7).trans rfl
     have yc26_8 : wc.cell? ⟨gb133, 8, none⟩ = some (.bool ((qa l1 x19_1).f8)) := (qc BK133.out 8).trans rfl
     have yf26_0 := qe BK133.out 0
     have yf26_1 := qe BK133.out 1
     have yf26_2 := qe BK133.out 2
     have yf26_3 := qe BK133.out 3
     have yf26_4 := qe BK133.out 4
     have yf26_5 := qe BK133.out 5
     have yf26_6 := qe BK133.out 6
     have yf26_7 := qe BK133.out 7
     have yf26_8 := qe BK133.out 8
     go_wp2_with (first | ((with_reducible refine qg (f := 59) rfl ?_); refine goesL_ (some 36) rfl rfl Tryz.func59 (by kernel_rfl) rfl #[.agg #[.string ((qa l1 x19_1).f0), .string ((qa l1 x19_1).f1), .string ((qa l1 x19_1).f2), .string ((qa l1 x19_1).f3), .int .i64 ((qa l1 x19_1).f4), .int .i64 ((qa l1 x19_1).f5), .bool ((qa l1 x19_1).f6), .int .i64 ((qa l1 x19_1).f7), .bool ((qa l1 x19_1).f8)]] rfl Z61 ?_; (with_reducible refine (r8checkAgreement.calls kj10 ((qa l1 x19_1).f0) ((qa l1 x19_1).f1) ((qa l1 x19_1).f2) ((qa l1 x19_1).f3) ((qa l1 x19_1).f4) ((qa l1 x19_1).f5) ((qa l1 x19_1).f6) ((qa l1 x19_1).f7) ((qa l1 x19_1).f8) t136 _ A24.out).mono ?_); rintro e w27 ⟨rfl, hb⟩; refine ⟨_, rfl, ?_⟩; have n0_ := bb BK133 hb; have n1_ := qb.mk (qd Z71 hb); clear BK133 HB; have BK133 := n0_; have HB := n1_; clear n0_ n1_; (try clear hb); (try clear hb2); (try clear hk); (try clear hi)))
     go_roundg kj10
     case measure => have := HK1.out; have := HJ10.out; omega
     case rel => exact ⟨(wrap64 (x19_1 + 1)), qD, H', ⟨by have := HK1.out; have := HJ10.out; omega⟩, ⟨Z71⟩⟩
/-! ### r8checkCase: function 84 -/
def r8checkCase.j0 : Nat → Bool → ByteArray → ByteArray → ByteArray → ByteArray → Int → Bool → Option (Int)
 | 0, _, _, _, _, _, _, _ => none
 | k + 1, x12, x138000, x138001, x138002, x138003, x138004, x138005 => if x12 = true then (some 5) else ((interchangeref1_IsDay.f x138004).bind fun t140 => (if t140 = true then (some 0) else (some 1)))
def r8checkCase.f (k : Nat) (a0_0 : ByteArray) (a0_1 : ByteArray) (a0_2 : ByteArray) (a0_3 : ByteArray) (a0_4 : Int) (a0_5 : Bool) : Option (Int) := (interchangeref1_IsName.f k a0_2).bind fun t138 => (if t138 = true then ((interchangeref1_IsName.f k a0_3).bind fun t139 => (r8checkCase.j0 k (!t139) a0_0 a0_1 a0_2 a0_3 a0_4 a0_5)) else (r8checkCase.j0 k true a0_0 a0_1 a0_2 a0_3 a0_4 a0_5))
theorem r8checkCase.mono_l : ∀ k, (∀ y0 y1 y2 y3 y4 y5 y6, qv (r8checkCase.j0 k y0 y1 y2 y3 y4 y5 y6) (r8checkCase.j0 (k + 1) y0 y1 y2 y3 y4 y5 y6))
 | 0 => fun _ _ _ _ _ _ _ r h => by simp [r8checkCase.j0] at h
 | k + 1 => by
  have ih0 := r8checkCase.mono_l k
  ·intro y0 y1 y2 y3 y4 y5 y6
   unfold r8checkCase.j0
   repeat' first
   | (with_reducible apply ih0)
   | (with_reducible apply interchangeref1_IsName.mono)
   | (with_reducible exact qv.refl _)
   | (with_reducible exact qv.none _)
   | (with_reducible refine qv.ite ?_ ?_)
   | (with_reducible refine qv.bind ?_ (fun _ => ?_))
   | apply ih0
   | apply interchangeref1_IsName.mono
   | exact qv.none _
   | refine qv.ite ?_ ?_
   | refine qv.bind ?_ (fun _ => ?_)
theorem r8checkCase.mono : ∀ a0 a1 a2 a3 a4 a5 k, qv (r8checkCase.f k a0 a1 a2 a3 a4 a5) (r8checkCase.f (k + 1) a0 a1 a2 a3 a4 a5) := by
 intro a0 a1 a2 a3 a4 a5 k
 have ih0 := r8checkCase.mono_l k
 unfold r8checkCase.f
 repeat' first
   | (with_reducible apply ih0)
   | (with_reducible apply interchangeref1_IsName.mono)
   | (with_reducible exact qv.refl _)
   | (with_reducible exact qv.none _)
   | (with_reducible refine qv.ite ?_ ?_)
   | (with_reducible refine qv.bind ?_ (fun _ => ?_))
   | apply ih0
   | apply interchangeref1_IsName.mono
   | exact qv.none _
   | refine qv.ite ?_ ?_
   | refine qv.bind ?_ (fun _ => ?_)
set_option maxHeartbeats 8000000 in
set_option maxRecDepth 100000 in
theorem r8checkCase.calls (k : Nat) (a0_0 : ByteArray) (a0_1 : ByteArray) (a0_2 : ByteArray) (a0_3 : ByteArray) (a0_4 : Int) (a0_5 : Bool) (r : Int) (w : World) (h : r8checkCase.f k a0_0 a0_1 a0_2 a0_3 a0_4 a0_5 = some r) :
  Calls Tryz.prog 84 #[.agg #[.string a0_0, .string a0_1, .string a0_2, .string a0_3, .int .i64 a0_4, .bool a0_5]] w fun e w' => e = .returned (.int .i64 r) ∧ Below w.heap.size w w' := by
 have hu25 := Tryz.underlying25
 have HB := qb.mk (Below.refl w.heap.size w)
 have H : ((interchangeref1_IsName.f k a0_2).bind fun t138 => (if t138 = true then ((interchangeref1_IsName.f k a0_3).bind fun t139 => (r8checkCase.j0 k (!t139) a0_0 a0_1 a0_2 a0_3 a0_4 a0_5)) else (r8checkCase.j0 k true a0_0 a0_1 a0_2 a0_3 a0_4 a0_5))) = some r := h
 clear h
 have HC2 := qb.mk H
 clear H
 go_enter Tryz.func84, Tryz.ntmps84
 go_upto_region 1 with (first | ((with_reducible refine qi (N := 1) rfl ?_); refine qh ?hg (N := 1) ?hd (cs := #[.string a0_0, .string a0_1, .string a0_2, .string a0_3, .int .i64 a0_4, .bool a0_5]) (t := 25) ?hr ?_; (case hd => rfl); (case hg => rfl); (case hr => exact qC); intro gb137 hg w3 hbox hb; have n0_ := qb.mk (qd qz hb); have n1_ := qb.mk (hbox); have n2_ := qb.mk ((Z66 : w.heap.size ≤ gb137)); have n3_ := n2_; clear HB; have HB := n0_; have BK137 := n1_; have GW137 := n2_; have GE137 := n3_; clear n0_ n1_ n2_ n3_; clear hb hbox hg))
 (try simp only [Act.put, sT, s0, s1])
 go_cut [12] (fun v12 wc => ∃ (kq : Nat) (x12_1 : Bool), v12 = .bool x12_1 ∧ qb (r8checkCase.j0 kq x12_1 a0_0 a0_1 a0_2 a0_3 a0_4 a0_5 = some r) ∧ qb (kq ≤ k) ∧ qb (wc.heap[gb137]? = some (.cells #[.string a0_0, .string a0_1, .string a0_2, .string a0_3, .int .i64 a0_4, .bool a0_5] 25 (0, 0))) ∧ qb (Below w.heap.size w wc))
 case first =>
  have H := HC2.out
  clear HC2
  replace H := Option.bind_eq_some_iff.mp H
  obtain ⟨t138, A40, H⟩ := H
  replace H : (if t138 = true then ((interchangeref1_IsName.f k a0_3).bind fun t139 => (r8checkCase.j0 k (!t139) a0_0 a0_1 a0_2 a0_3 a0_4 a0_5)) else (r8checkCase.j0 k true a0_0 a0_1 a0_2 a0_3 a0_4 a0_5)) = some r := H
  have A4 := qb.mk A40
  clear A40
  by_cases c5 : t138 = true
  case neg =>
   replace c5 := Bool.eq_false_iff.mpr c5
   subst c5
   have H1 : (r8checkCase.j0 k true a0_0 a0_1 a0_2 a0_3 a0_4 a0_5) = some r := by rw [if_neg (show ¬ (false = true) by decide)] at H; exact H
   clear H
   have H := H1
   clear H1
   have H' := qb.mk H
   clear H
   obtain ⟨yc8_0, yc8_1, yc8_2, yc8_3, yc8_4, yc8_5, yf8_0, yf8_1, yf8_2, yf8_3, yf8_4, yf8_5⟩ := bf6 BK137.out
   go_wp2_with (first | ((with_reducible refine qg (f := 83) rfl ?_); refine goesL_ (some 5) rfl rfl Tryz.func83 (by kernel_rfl) rfl #[.string a0_2] rfl Z61 ?_; (with_reducible refine (interchangeref1_IsName.calls k a0_2 false _ A4.out).mono ?_); rintro e w' ⟨rfl, ⟨nd, rfl⟩⟩; refine ⟨_, rfl, ?_⟩))
   go_meet
   case rel => exact ⟨_, (true), qD, H', ⟨Z154⟩, ⟨by (with_reducible repeat (first | refine qn ?_ _ | refine qm ?_ | refine ql ?_ _)); exact BK137.out⟩, ⟨Z72⟩⟩
  subst c5
  have H1 : ((interchangeref1_IsName.f k a0_3).bind fun t139 => (r8checkCase.j0 k (!t139) a0_0 a0_1 a0_2 a0_3 a0_4 a0_5)) = some r := by rw [if_pos rfl] at H; exact H
  clear H
  have H := H1
  clear H1
  replace H := Option.bind_eq_some_iff.mp H
  obtain ⟨t139, A60, H⟩ := H
  replace H : (r8checkCase.j0 k (!t139) a0_0 a0_1 a0_2 a0_3 a0_4 a0_5) = some r := H
  have A6 := qb.mk A60
  clear A60
  have H' := qb.mk H
  clear H
  obtain ⟨yc7_0, yc7_1, yc7_2, yc7_3, yc7_4, yc7_5, yf7_0, yf7_1, yf7_2, yf7_3, yf7_4, yf7_5⟩ := bf6 BK137.out
  go_wp2_with (first | ((with_reducible refine qg (f := 83) rfl ?_); refine goesL_ (some 5) rfl rfl Tryz.func83 (by kernel_rfl) rfl #[.string a0_2] rfl Z61 ?_; (with_reducible refine (interchangeref1_IsName.calls k a0_2 true _ A4.out).mono ?_); rintro e w' ⟨rfl, ⟨nd, rfl⟩⟩; refine ⟨_, rfl, ?_⟩) | (go_at_call 83; (with_reducible refine (interchangeref1_IsName.calls k a0_3 t139 _ A6.out).mono ?_); rintro e w' ⟨rfl, ⟨nd, rfl⟩⟩))
  go_meet
  case rel => exact ⟨_, (!t139), qD, H', ⟨Z154⟩, ⟨by (with_reducible repeat (first | refine qn ?_ _ | refine qm ?_ | refine ql ?_ _)); exact BK137.out⟩, ⟨Z72⟩⟩
 case rest =>
  clear HC2
  try clear p2; try clear c5; try clear c8; try clear yc7_0 yc7_1 yc7_2 yc7_3 yc7_4 yc7_5 yf7_0 yf7_1 yf7_2 yf7_3 yf7_4 yf7_5; try clear yc8_0 yc8_1 yc8_2 yc8_3 yc8_4 yc8_5 yf8_0 yf8_1 yf8_2 yf8_3 yf8_4 yf8_5
  obtain ⟨kq, x12_1, rfl, HA, HJ1, BK137, HB⟩ := hcut
  cases kq with
  | zero => exact absurd HA.out (by simp [r8checkCase.j0])
  | succ kj1 =>
   have H := HA.out
   clear HA
   simp only [r8checkCase.j0] at H
   by_cases c9 : x12_1 = true
   case pos =>
    subst c9
    have H1 : (some 5) = some r := by rw [if_pos rfl] at H; exact H
    clear H
    have H := H1
    clear H1
    obtain rfl := Option.some.inj H
    go_wp2
    go_ret
    exact ⟨Z97, Z72⟩
   replace c9 := Bool.eq_false_iff.mpr c9
   subst c9
   have H1 : ((interchangeref1_IsDay.f a0_4).bind fun t140 => (if t140 = true then (some 0) else (some 1))) = some r := by rw [if_neg (show ¬ (false = true) by decide)] at H; exact H
   clear H
   have H := H1
   clear H1
   replace H := Option.bind_eq_some_iff.mp H
   obtain ⟨t140, A100, H⟩ := H
   replace H : (if t140 = true then (some 0) else (some 1)) = some r := H
   have A10 := qb.mk A100
   clear A100
   by_cases c11 : t140 = true
   case pos =>
    subst c11
    have H1 : (some 0) = some r := by rw [if_pos rfl] at H; exact H
    clear H
    have H := H1
    clear H1
    obtain rfl := Option.some.inj H
    have yc12_0 : wc.cell? ⟨gb137, 0, none⟩ = some (.string a0_0) := (qc BK137.out 0).trans rfl
    have yc12_1 : wc.cell? ⟨gb137, 1, none⟩ = some (.string a0_1) := (qc BK137.out 1).trans rfl
    have yc12_2 : wc.cell? ⟨gb137, 2, none⟩ = some (.string a0_2) := (qc BK137.out 2).trans rfl
    have yc12_3 : wc.cell? ⟨gb137, 3, none⟩ = some (.string a0_3) := (qc BK137.out 3).trans rfl
    have yc12_4 : wc.cell? ⟨gb137, 4, none⟩ = some (.int .i64 a0_4) := (qc BK137.out 4).trans rfl
    have yc12_5 : wc.cell? ⟨gb137, 5, none⟩ = some (.bool a0_5) := (qc BK137.out 5).trans rfl
    have yf12_0 := qe BK137.out 0
    have yf12_1 := qe BK137.out 1
    have yf12_2 := qe BK137.out 2
    have yf12_3 := qe BK137.out 3
    have yf12_4 := qe BK137.out 4
    have yf12_5 := qe BK137.out 5
    go_wp2_with (first | ((with_reducible refine qg (f := 98) rfl ?_); refine goesL_ (some 15) rfl rfl Tryz.func98 (by kernel_rfl) rfl #[.int .i64 a0_4] rfl Z61 ?_; (with_reducible refine (interchangeref1_IsDay.calls a0_4 true _ A10.out).mono ?_); rintro e w' ⟨rfl, ⟨nd, rfl⟩⟩; refine ⟨_, rfl, ?_⟩))
    go_ret
    exact ⟨Z97, Z72⟩
   replace c11 := Bool.eq_false_iff.mpr c11
   subst c11
   have H1 : (some 1) = some r := by rw [if_neg (show ¬ (false = true) by decide)] at H; exact H
   clear H
   have H := H1
   clear H1
   obtain rfl := Option.some.inj H
   have yc13_0 : wc.cell? ⟨gb137, 0, none⟩ = some (.string a0_0) := (qc BK137.out 0).trans rfl
   have yc13_1 : wc.cell? ⟨gb137, 1, none⟩ = some (.string a0_1) := (qc BK137.out 1).trans rfl
   have yc13_2 : wc.cell? ⟨gb137, 2, none⟩ = some (.string a0_2) := (qc BK137.out 2).trans rfl
   have yc13_3 : wc.cell? ⟨gb137, 3, none⟩ = some (.string a0_3) := (qc BK137.out 3).trans rfl
   have yc13_4 : wc.cell? ⟨gb137, 4, none⟩ = some (.int .i64 a0_4) := (qc BK137.out 4).trans rfl
   have yc13_5 : wc.cell? ⟨gb137, 5, none⟩ = some (.bool a0_5) := (qc BK137.out 5).trans rfl
   have yf13_0 := qe BK137.out 0
   have yf13_1 := qe BK137.out 1
   have yf13_2 := qe BK137.out 2
   have yf13_3 := qe BK137.out 3
   have yf13_4 := qe BK137.out 4
   have yf13_5 := qe BK137.out 5
   go_wp2_with (first | ((with_reducible refine qg (f := 98) rfl ?_); refine goesL_ (some 15) rfl rfl Tryz.func98 (by kernel_rfl) rfl #[.int .i64 a0_4] rfl Z61 ?_; (with_reducible refine (interchangeref1_IsDay.calls a0_4 false _ A10.out).mono ?_); rintro e w' ⟨rfl, ⟨nd, rfl⟩⟩; refine ⟨_, rfl, ?_⟩))
   go_ret
   exact ⟨Z97, Z72⟩

/-! ### r8checkWhole: function 48 -/
def r8checkWhole.f (k : Nat) (a0_0 : ByteArray) (a0_1 : ByteArray) (a0_2 : ByteArray) (a0_3 : ByteArray) (a0_4 : Int) (a0_5 : Bool) : Option (Int) := (interchangeref1_IsName.f k a0_0).bind fun t142 => (if t142 = true then ((interchangeref1_IsName.f k a0_1).bind fun t143 => (if t143 = true then ((r8checkCase.f k a0_0 a0_1 a0_2 a0_3 a0_4 a0_5).bind fun t144 => (some t144)) else (some 5))) else (some 5))
theorem r8checkWhole.mono : ∀ a0 a1 a2 a3 a4 a5 k, qv (r8checkWhole.f k a0 a1 a2 a3 a4 a5) (r8checkWhole.f (k + 1) a0 a1 a2 a3 a4 a5) := by
 intro a0 a1 a2 a3 a4 a5 k
 unfold r8checkWhole.f
 repeat' first
   | (with_reducible apply interchangeref1_IsName.mono)
   | (with_reducible apply r8checkCase.mono)
   | (with_reducible exact qv.refl _)
   | (with_reducible exact qv.none _)
   | (with_reducible refine qv.ite ?_ ?_)
   | (with_reducible refine qv.bind ?_ (fun _ => ?_))
   | apply interchangeref1_IsName.mono
   | apply r8checkCase.mono
   | exact qv.none _
   | refine qv.ite ?_ ?_
   | refine qv.bind ?_ (fun _ => ?_)
set_option maxHeartbeats 8000000 in
set_option maxRecDepth 100000 in
theorem r8checkWhole.calls (k : Nat) (a0_0 : ByteArray) (a0_1 : ByteArray) (a0_2 : ByteArray) (a0_3 : ByteArray) (a0_4 : Int) (a0_5 : Bool) (r : Int) (w : World) (h : r8checkWhole.f k a0_0 a0_1 a0_2 a0_3 a0_4 a0_5 = some r) :
  Calls Tryz.prog 48 #[.agg #[.string a0_0, .string a0_1, .string a0_2, .string a0_3, .int .i64 a0_4, .bool a0_5]] w fun e w' => e = .returned (.int .i64 r) ∧ Below w.heap.size w w' := by
 have hu25 := Tryz.underlying25
 have HB := qb.mk (Below.refl w.heap.size w)
 have H : ((interchangeref1_IsName.f k a0_0).bind fun t142 => (if t142 = true then ((interchangeref1_IsName.f k a0_1).bind fun t143 => (if t143 = true then ((r8checkCase.f k a0_0 a0_1 a0_2 a0_3 a0_4 a0_5).bind fun t144 => (some t144)) else (some 5))) else (some 5))) = some r := h
 clear h
 replace H := Option.bind_eq_some_iff.mp H
 obtain ⟨t142, A20, H⟩ := H
 replace H : (if t142 = true then ((interchangeref1_IsName.f k a0_1).bind fun t143 => (if t143 = true then ((r8checkCase.f k a0_0 a0_1 a0_2 a0_3 a0_4 a0_5).bind fun t144 => (some t144)) else (some 5))) else (some 5)) = some r := H
 have A2 := qb.mk A20
 clear A20
 by_cases c3 : t142 = true
 case neg =>
  replace c3 := Bool.eq_false_iff.mpr c3
  subst c3
  have H1 : (some 5) = some r := by rw [if_neg (show ¬ (false = true) by decide)] at H; exact H
  clear H
  have H := H1
  clear H1
  obtain rfl := Option.some.inj H
  go_enter Tryz.func48, Tryz.ntmps48
  go_wp2_with (first | ((with_reducible refine qi (N := 1) rfl ?_); refine qh ?hg (N := 1) ?hd (cs := #[.string a0_0, .string a0_1, .string a0_2, .string a0_3, .int .i64 a0_4, .bool a0_5]) (t := 25) ?hr ?_; (case hd => rfl); (case hg => rfl); (case hr => exact qC); intro gb141 hg w12 hbox hb; have n0_ := qb.mk (qd qz hb); have n1_ := qb.mk (hbox); have n2_ := qb.mk ((Z66 : w.heap.size ≤ gb141)); have n3_ := n2_; clear HB; have HB := n0_; have BK141 := n1_; have GW141 := n2_; have GE141 := n3_; clear n0_ n1_ n2_ n3_; clear hb hbox hg; obtain ⟨yc13_0, yc13_1, yc13_2, yc13_3, yc13_4, yc13_5, yf13_0, yf13_1, yf13_2, yf13_3, yf13_4, yf13_5⟩ := bf6 BK141.out) | ((with_reducible refine qg (f := 83) rfl ?_); refine goesL_ (some 5) rfl rfl Tryz.func83 (by kernel_rfl) rfl #[.string a0_0] rfl Z61 ?_; (with_reducible refine (interchangeref1_IsName.calls k a0_0 false _ A2.out).mono ?_); rintro e w' ⟨rfl, ⟨nd, rfl⟩⟩; refine ⟨_, rfl, ?_⟩))
  go_ret
  exact ⟨Z97, Z73⟩

 subst c3
 have H1 : ((interchangeref1_IsName.f k a0_1).bind fun t143 => (if t143 = true then ((r8checkCase.f k a0_0 a0_1 a0_2 a0_3 a0_4 a0_5).bind fun t144 => (some t144)) else (some 5))) = some r := by rw [if_pos rfl] at H; exact H
 clear H
 have H := H1
 clear H1
 replace H := Option.bind_eq_some_iff.mp H
 obtain ⟨t143, A40, H⟩ := H
 replace H : (if t143 = true then ((r8checkCase.f k a0_0 a0_1 a0_2 a0_3 a0_4 a0_5).bind fun t144 => (some t144)) else (some 5)) = some r := H
 have A4 := qb.mk A40
 clear A40
 by_cases c5 : t143 = true
 case neg =>
  replace c5 := Bool.eq_false_iff.mpr c5
  subst c5
  have H1 : (some 5) = some r := by rw [if_neg (show ¬ (false = true) by decide)] at H; exact H
  clear H
  have H := H1
  clear H1
  obtain rfl := Option.some.inj H
  go_enter Tryz.func48, Tryz.ntmps48
  go_wp2_with (first | ((with_reducible refine qi (N := 1) rfl ?_); refine qh ?hg (N := 1) ?hd (cs := #[.string a0_0, .string a0_1, .string a0_2, .string a0_3, .int .i64 a0_4, .bool a0_5]) (t := 25) ?hr ?_; (case hd => rfl); (case hg => rfl); (case hr => exact qC); intro gb141 hg w10 hbox hb; have n0_ := qb.mk (qd qz hb); have n1_ := qb.mk (hbox); have n2_ := qb.mk ((Z66 : w.heap.size ≤ gb141)); have n3_ := n2_; clear HB; have HB := n0_; have BK141 := n1_; have GW141 := n2_; have GE141 := n3_; clear n0_ n1_ n2_ n3_; clear hb hbox hg; obtain ⟨yc11_0, yc11_1, yc11_2, yc11_3, yc11_4, yc11_5, yf11_0, yf11_1, yf11_2, yf11_3, yf11_4, yf11_5⟩ := bf6 BK141.out) | ((with_reducible refine qg (f := 83) rfl ?_); refine goesL_ (some 5) rfl rfl Tryz.func83 (by kernel_rfl) rfl #[.string a0_0] rfl Z61 ?_; (with_reducible refine (interchangeref1_IsName.calls k a0_0 true _ A2.out).mono ?_); rintro e w' ⟨rfl, ⟨nd, rfl⟩⟩; refine ⟨_, rfl, ?_⟩) | (go_at_call 83; (with_reducible refine (interchangeref1_IsName.calls k a0_1 false _ A4.out).mono ?_); rintro e w' ⟨rfl, ⟨nd, rfl⟩⟩))
  go_ret
  exact ⟨Z97, Z73⟩
 subst c5
 have H1 : ((r8checkCase.f k a0_0 a0_1 a0_2 a0_3 a0_4 a0_5).bind fun t144 => (some t144)) = some r := by rw [if_pos rfl] at H; exact H
 clear H
 have H := H1
 clear H1
 replace H := Option.bind_eq_some_iff.mp H
 obtain ⟨t144, A60, H⟩ := H
 replace H : (some t144) = some r := H
 have A6 := qb.mk A60
 clear A60
 obtain rfl := Option.some.inj H
 go_enter Tryz.func48, Tryz.ntmps48
 go_wp2_with (first | ((with_reducible refine qi (N := 1) rfl ?_); refine qh ?hg (N := 1) ?hd (cs := #[.string a0_0, .string a0_1, .string a0_2, .string a0_3, .int .i64 a0_4, .bool a0_5]) (t := 25) ?hr ?_; (case hd => rfl); (case hg => rfl); (case hr => exact qC); intro gb141 hg w7 hbox hb; have n0_ := qb.mk (qd qz hb); have n1_ := qb.mk (hbox); have n2_ := qb.mk ((Z66 : w.heap.size ≤ gb141)); have n3_ := n2_; clear HB; have HB := n0_; have BK141 := n1_; have GW141 := n2_; have GE141 := n3_; clear n0_ n1_ n2_ n3_; clear hb hbox hg; obtain ⟨yc8_0, yc8_1, yc8_2, yc8_3, yc8_4, yc8_5, yf8_0, yf8_1, yf8_2, yf8_3, yf8_4, yf8_5⟩ := bf6 BK141.out) | ((with_reducible refine qg (f := 83) rfl ?_); refine goesL_ (some 5) rfl rfl Tryz.func83 (by kernel_rfl) rfl #[.string a0_0] rfl Z61 ?_; (with_reducible refine (interchangeref1_IsName.calls k a0_0 true _ A2.out).mono ?_); rintro e w' ⟨rfl, ⟨nd, rfl⟩⟩; refine ⟨_, rfl, ?_⟩) | (go_at_call 83; (with_reducible refine (interchangeref1_IsName.calls k a0_1 true _ A4.out).mono ?_); rintro e w' ⟨rfl, ⟨nd, rfl⟩⟩) | ((with_reducible refine qg (f := 84) rfl ?_); refine goesL_ (some 14) rfl rfl Tryz.func84 (by kernel_rfl) rfl #[.agg #[.string a0_0, .string a0_1, .string a0_2, .string a0_3, .int .i64 a0_4, .bool a0_5]] rfl Z61 ?_; (with_reducible refine (r8checkCase.calls k a0_0 a0_1 a0_2 a0_3 a0_4 a0_5 t144 _ A6.out).mono ?_); rintro e w9 ⟨rfl, hb⟩; refine ⟨_, rfl, ?_⟩; have n0_ := bb BK141 hb; have n1_ := qb.mk (qd Z73 hb); clear BK141 HB; have BK141 := n0_; have HB := n1_; clear n0_ n1_; (try clear hb); (try clear hb2); (try clear hk); (try clear hi)))
 go_ret
 exact ⟨Z97, Z73⟩
/-! ### r8askCase: function 19 -/
def r8askCase.f (k : Nat) (l0 : List (S110)) (l1 : List (S53)) (a2_0 : ByteArray) (a2_1 : ByteArray) (a2_2 : ByteArray) (a2_3 : ByteArray) (a2_4 : Int) (a2_5 : Bool) : Option (Int) := (r8CheckAgreements.f k l0 l1).bind fun t146 => (if t146 = 0 then ((r8checkWhole.f k a2_0 a2_1 a2_2 a2_3 a2_4 a2_5).bind fun t147 => (if t147 = 0 then ((r8isPartner.f k l0 a2_0).bind fun t148 => (if t148 = true then ((r8isPartner.f k l0 a2_1).bind fun t149 => (if t149 = true then (some 0) else (some 5))) else (some 5))) else (some t147))) else (some t146))
theorem r8askCase.mono : ∀ a0 a1 a2 a3 a4 a5 a6 a7 k, qv (r8askCase.f k a0 a1 a2 a3 a4 a5 a6 a7) (r8askCase.f (k + 1) a0 a1 a2 a3 a4 a5 a6 a7) := by
 intro a0 a1 a2 a3 a4 a5 a6 a7 k
 unfold r8askCase.f
 repeat' first
   | (with_reducible apply r8CheckAgreements.mono)
   | (with_reducible apply r8checkWhole.mono)
   | (with_reducible apply r8isPartner.mono)
   | (with_reducible exact qv.refl _)
   | (with_reducible exact qv.none _)
   | (with_reducible refine qv.ite ?_ ?_)
   | (with_reducible refine qv.bind ?_ (fun _ => ?_))
   | apply r8CheckAgreements.mono
   | apply r8checkWhole.mono
   | apply r8isPartner.mono
   | exact qv.none _
   | refine qv.ite ?_ ?_
   | refine qv.bind ?_ (fun _ => ?_)
set_option maxHeartbeats 8000000 in
set_option maxRecDepth 100000 in
theorem r8askCase.calls (k : Nat) (A0 : Option Addr) (c0 : Nat) (l0 : List (S110)) (A1 : Option Addr) (c1 : Nat) (l1 : List (S53)) (a2_0 : ByteArray) (a2_1 : ByteArray) (a2_2 : ByteArray) (a2_3 : ByteArray) (a2_4 : Int) (a2_5 : Bool) (r : Int) (w : World) (hr0 : Kd.C k110 w A0 l0.length l0) (hc0 : l0.length ≤ c0) (hr1 : Kd.C k53 w A1 l1.length l1) (hc1 : l1.length ≤ c1) (h : r8askCase.f k l0 l1 a2_0 a2_1 a2_2 a2_3 a2_4 a2_5 = some r) :
  Calls Tryz.prog 19 #[.slice A0 l0.length c0, .slice A1 l1.length c1, .agg #[.string a2_0, .string a2_1, .string a2_2, .string a2_3, .int .i64 a2_4, .bool a2_5]] w fun e w' => e = .returned (.int .i64 r) ∧ Below w.heap.size w w' := by
 have hu25 := Tryz.underlying25
 have HR0 := qb.mk hr0
 have HC0 := qb.mk hc0
 clear hr0 hc0
 have HR1 := qb.mk hr1
 have HC1 := qb.mk hc1
 clear hr1 hc1
 have HB := qb.mk (Below.refl w.heap.size w)
 have H : ((r8CheckAgreements.f k l0 l1).bind fun t146 => (if t146 = 0 then ((r8checkWhole.f k a2_0 a2_1 a2_2 a2_3 a2_4 a2_5).bind fun t147 => (if t147 = 0 then ((r8isPartner.f k l0 a2_0).bind fun t148 => (if t148 = true then ((r8isPartner.f k l0 a2_1).bind fun t149 => (if t149 = true then (some 0) else (some 5))) else (some 5))) else (some t147))) else (some t146))) = some r := h
 clear h
 replace H := Option.bind_eq_some_iff.mp H
 obtain ⟨t146, A40, H⟩ := H
 replace H : (if t146 = 0 then ((r8checkWhole.f k a2_0 a2_1 a2_2 a2_3 a2_4 a2_5).bind fun t147 => (if t147 = 0 then ((r8isPartner.f k l0 a2_0).bind fun t148 => (if t148 = true then ((r8isPartner.f k l0 a2_1).bind fun t149 => (if t149 = true then (some 0) else (some 5))) else (some 5))) else (some t147))) else (some t146)) = some r := H
 have A4 := qb.mk A40
 clear A40
 by_cases c5 : t146 = 0
 case neg =>
  rw [if_neg c5] at H
  have c5b0 : (t146 == 0) = false := beq_eq_false_iff_ne.mpr c5
  have c5b1 : (t146 != 0) = true := bne_iff_ne.mpr c5
  obtain rfl := Option.some.inj H
  go_enter Tryz.func19, Tryz.ntmps19
  go_wp2_with (first | ((with_reducible refine qi (N := 5) rfl ?_); refine qh ?hg (N := 5) ?hd (cs := #[.string a2_0, .string a2_1, .string a2_2, .string a2_3, .int .i64 a2_4, .bool a2_5]) (t := 25) ?hr ?_; (case hd => rfl); (case hg => rfl); (case hr => exact qC); intro gb145 hg w38 hbox hb; have n0_ := qb.mk (qd qz hb); have n1_ := qb.mk (hbox); have n2_ := qb.mk ((Z66 : w.heap.size ≤ gb145)); have n3_ := n2_; clear HB; have HB := n0_; have BK145 := n1_; have GW145 := n2_; have GE145 := n3_; clear n0_ n1_ n2_ n3_; clear hb hbox hg) | ((with_reducible refine qg (f := 25) rfl ?_); refine goesL_ (some 11) rfl rfl Tryz.func25 (by kernel_rfl) rfl #[.slice A0 l0.length c0, .slice A1 l1.length c1] rfl Z61 ?_; (with_reducible refine (r8CheckAgreements.calls k _ _ l0 _ _ l1 t146 _ ?side1 ?side2 ?side3 ?side4 A4.out).mono ?_); (case side1 => exact Z62); (case side2 => exact Z158); (case side3 => exact Z63); (case side4 => exact Z159); rintro e w39 ⟨rfl, hb⟩; refine ⟨_, rfl, ?_⟩; have n0_ := bb BK145 hb; have n1_ := qb.mk (qd Z74 hb); clear BK145 HB; have BK145 := n0_; have HB := n1_; clear n0_ n1_; (try clear hb); (try clear hb2); (try clear hk); (try clear hi)))
  go_ret
  exact ⟨Z97, Z74⟩

 rw [if_pos c5] at H
 have c5b0 : (t146 == 0) = true := beq_iff_eq.mpr c5
 have c5b1 : (t146 != 0) = false := bne_eq_false_iff_eq.mpr c5
 clear c5
 replace H := Option.bind_eq_some_iff.mp H
 obtain ⟨t147, A60, H⟩ := H
 replace H : (if t147 = 0 then ((r8isPartner.f k l0 a2_0).bind fun t148 => (if t148 = true then ((r8isPartner.f k l0 a2_1).bind fun t149 => (if t149 = true then (some 0) else (some 5))) else (some 5))) else (some t147)) = some r := H
 have A6 := qb.mk A60
 clear A60
 by_cases c7 : t147 = 0
 case neg =>
  rw [if_neg c7] at H
  have c7b0 : (t147 == 0) = false := beq_eq_false_iff_ne.mpr c7
  have c7b1 : (t147 != 0) = true := bne_iff_ne.mpr c7
  obtain rfl := Option.some.inj H
  go_enter Tryz.func19, Tryz.ntmps19
  go_wp2_with (first | ((with_reducible refine qi (N := 5) rfl ?_); refine qh ?hg (N := 5) ?hd (cs := #[.string a2_0, .string a2_1, .string a2_2, .string a2_3, .int .i64 a2_4, .bool a2_5]) (t := 25) ?hr ?_; (case hd => rfl); (case hg => rfl); (case hr => exact qC); intro gb145 hg w34 hbox hb; have n0_ := qb.mk (qd qz hb); have n1_ := qb.mk (hbox); have n2_ := qb.mk ((Z66 : w.heap.size ≤ gb145)); have n3_ := n2_; clear HB; have HB := n0_; have BK145 := n1_; have GW145 := n2_; have GE145 := n3_; clear n0_ n1_ n2_ n3_; clear hb hbox hg) | ((with_reducible refine qg (f := 25) rfl ?_); refine goesL_ (some 11) rfl rfl Tryz.func25 (by kernel_rfl) rfl #[.slice A0 l0.length c0, .slice A1 l1.length c1] rfl Z61 ?_; (with_reducible refine (r8CheckAgreements.calls k _ _ l0 _ _ l1 t146 _ ?side1 ?side2 ?side3 ?side4 A4.out).mono ?_); (case side1 => exact Z62); (case side2 => exact Z158); (case side3 => exact Z63); (case side4 => exact Z159); rintro e w35 ⟨rfl, hb⟩; refine ⟨_, rfl, ?_⟩; have n0_ := bb BK145 hb; have n1_ := qb.mk (qd Z74 hb); clear BK145 HB; have BK145 := n0_; have HB := n1_; clear n0_ n1_; (try clear hb); (try clear hb2); (try clear hk); (try clear hi); obtain ⟨yc36_0, yc36_1, yc36_2, yc36_3, yc36_4, yc36_5, yf36_0, yf36_1, yf36_2, yf36_3, yf36_4, yf36_5⟩ := bf6 BK145.out) | ((with_reducible refine qg (f := 48) rfl ?_); refine goesL_ (some 16) rfl rfl Tryz.func48 (by kernel_rfl) rfl #[.agg #[.string a2_0, .string a2_1, .string a2_2, .string a2_3, .int .i64 a2_4, .bool a2_5]] rfl Z61 ?_; (with_reducible refine (r8checkWhole.calls k a2_0 a2_1 a2_2 a2_3 a2_4 a2_5 t147 _ A6.out).mono ?_); rintro e w37 ⟨rfl, hb⟩; refine ⟨_, rfl, ?_⟩; have n0_ := bb BK145 hb; have n1_ := qb.mk (qd Z74 hb); clear BK145 HB; have BK145 := n0_; have HB := n1_; clear n0_ n1_; (try clear hb); (try clear hb2); (try clear hk); (try clear hi)))
  go_ret
  exact ⟨Z97, Z74⟩
 rw [if_pos c7] at H
 have c7b0 : (t147 == 0) = true := beq_iff_eq.mpr c7
 have c7b1 : (t147 != 0) = false := bne_eq_false_iff_eq.mpr c7
 clear c7
 replace H := Option.bind_eq_some_iff.mp H
 obtain ⟨t148, A80, H⟩ := H
 replace H : (if t148 = true then ((r8isPartner.f k l0 a2_1).bind fun t149 => (if t149 = true then (some 0) else (some 5))) else (some 5)) = some r := H
 have A8 := qb.mk A80
 clear A80
 by_cases c9 : t148 = true
 case neg =>
  replace c9 := Bool.eq_false_iff.mpr c9
  subst c9
  have H1 : (some 5) = some r := by rw [if_neg (show ¬ (false = true) by decide)] at H; exact H
  clear H
  have H := H1
  clear H1
  obtain rfl := Option.some.inj H
  go_enter Tryz.func19, Tryz.ntmps19
  go_wp2_with (first | ((with_reducible refine qi (N := 5) rfl ?_); refine qh ?hg (N := 5) ?hd (cs := #[.string a2_0, .string a2_1, .string a2_2, .string a2_3, .int .i64 a2_4, .bool a2_5]) (t := 25) ?hr ?_; (case hd => rfl); (case hg => rfl); (case hr => exact qC); intro gb145 hg w28 hbox hb; have n0_ := qb.mk (qd qz hb); have n1_ := qb.mk (hbox); have n2_ := qb.mk ((Z66 : w.heap.size ≤ gb145)); have n3_ := n2_; clear HB; have HB := n0_; have BK145 := n1_; have GW145 := n2_; have GE145 := n3_; clear n0_ n1_ n2_ n3_; clear hb hbox hg) | ((with_reducible refine qg (f := 25) rfl ?_); refine goesL_ (some 11) rfl rfl Tryz.func25 (by kernel_rfl) rfl #[.slice A0 l0.length c0, .slice A1 l1.length c1] rfl Z61 ?_; (with_reducible refine (r8CheckAgreements.calls k _ _ l0 _ _ l1 t146 _ ?side1 ?side2 ?side3 ?side4 A4.out).mono ?_); (case side1 => exact Z62); (case side2 => exact Z158); (case side3 => exact Z63); (case side4 => exact Z159); rintro e w29 ⟨rfl, hb⟩; refine ⟨_, rfl, ?_⟩; have n0_ := bb BK145 hb; have n1_ := qb.mk (qd Z74 hb); clear BK145 HB; have BK145 := n0_; have HB := n1_; clear n0_ n1_; (try clear hb); (try clear hb2); (try clear hk); (try clear hi); obtain ⟨yc30_0, yc30_1, yc30_2, yc30_3, yc30_4, yc30_5, yf30_0, yf30_1, yf30_2, yf30_3, yf30_4, yf30_5⟩ := bf6 BK145.out) | ((with_reducible refine qg (f := 48) rfl ?_); refine goesL_ (some 16) rfl rfl Tryz.func48 (by kernel_rfl) rfl #[.agg #[.string a2_0, .string a2_1, .string a2_2, .string a2_3, .int .i64 a2_4, .bool a2_5]] rfl Z61 ?_; (with_reducible refine (r8checkWhole.calls k a2_0 a2_1 a2_2 a2_3 a2_4 a2_5 t147 _ A6.out).mono ?_); rintro e w31 ⟨rfl, hb⟩; refine ⟨_, rfl, ?_⟩; have n0_ := bb BK145 hb; have n1_ := qb.mk (qd Z74 hb); clear BK145 HB; have BK145 := n0_; have HB := n1_; clear n0_ n1_; (try clear hb); (try clear hb2); (try clear hk); (try clear hi); obtain ⟨yc32_0, yc32_1, yc32_2, yc32_3, yc32_4, yc32_5, yf32_0, yf32_1, yf32_2, yf32_3, yf32_4, yf32_5⟩ := bf6 BK145.out) | ((with_reducible refine qg (f := 49) rfl ?_); refine goesL_ (some 23) rfl rfl Tryz.func49 (by kernel_rfl) rfl #[.slice A0 l0.length c0, .string a2_0] rfl Z61 ?_; (with_reducible refine (r8isPartner.calls k _ _ l0 a2_0 false _ ?side1 ?side2 A8.out).mono ?_); (case side1 => exact Z62); (case side2 => exact Z158); rintro e w33 ⟨rfl, hb⟩; refine ⟨_, rfl, ?_⟩; have n0_ := bb BK145 hb; have n1_ := qb.mk (qd Z74 hb); clear BK145 HB; have BK145 := n0_; have HB := n1_; clear n0_ n1_; (try clear hb); (try clear hb2); (try clear hk); (try clear hi)))
  go_ret
  exact ⟨Z97, Z74⟩
 subst c9
 have H1 : ((r8isPartner.f k l0 a2_1).bind fun t149 => (if t149 = true then (some 0) else (some 5))) = some r := by rw [if_pos rfl] at H; exact H
 clear H
 have H := H1
 clear H1
 replace H := Option.bind_eq_some_iff.mp H
 obtain ⟨t149, A100, H⟩ := H
 replace H : (if t149 = true then (some 0) else (some 5)) = some r := H
 have A10 := qb.mk A100
 clear A100
 by_cases c11 : t149 = true
 case pos =>
  subst c11
  have H1 : (some 0) = some r := by rw [if_pos rfl] at H; exact H
  clear H
  have H := H1
  clear H1
  obtain rfl := Option.some.inj H
  go_enter Tryz.func19, Tryz.ntmps19
  go_wp2_with (first | ((with_reducible refine qi (N := 5) rfl ?_); refine qh ?hg (N := 5) ?hd (cs := #[.string a2_0, .string a2_1, .string a2_2, .string a2_3, .int .i64 a2_4, .bool a2_5]) (t := 25) ?hr ?_; (case hd => rfl); (case hg => rfl); (case hr => exact qC); intro gb145 hg w12 hbox hb; have n0_ := qb.mk (qd qz hb); have n1_ := qb.mk (hbox); have n2_ := qb.mk ((Z66 : w.heap.size ≤ gb145)); have n3_ := n2_; clear HB; have HB := n0_; have BK145 := n1_; have GW145 := n2_; have GE145 := n3_; clear n0_ n1_ n2_ n3_; clear hb hbox hg) | ((with_reducible refine qg (f := 25) rfl ?_); refine goesL_ (some 11) rfl rfl Tryz.func25 (by kernel_rfl) rfl #[.slice A0 l0.length c0, .slice A1 l1.length c1] rfl Z61 ?_; (with_reducible refine (r8CheckAgreements.calls k _ _ l0 _ _ l1 t146 _ ?side1 ?side2 ?side3 ?side4 A4.out).mono ?_); (case side1 => exact Z62); (case side2 => exact Z158); (case side3 => exact Z63); (case side4 => exact Z159); rintro e w13 ⟨rfl, hb⟩; refine ⟨_, rfl, ?_⟩; have n0_ := bb BK145 hb; have n1_ := qb.mk (qd Z74 hb); clear BK145 HB; have BK145 := n0_; have HB := n1_; clear n0_ n1_; (try clear hb); (try clear hb2); (try clear hk); (try clear hi); obtain ⟨yc14_0, yc14_1, yc14_2, yc14_3, yc14_4, yc14_5, yf14_0, yf14_1, yf14_2, yf14_3, yf14_4, yf14_5⟩ := bf6 BK145.out) | ((with_reducible refine qg (f := 48) rfl ?_); refine goesL_ (some 16) rfl rfl Tryz.func48 (by kernel_rfl) rfl #[.agg #[.string a2_0, .string a2_1, .string a2_2, .string a2_3, .int .i64 a2_4, .bool a2_5]] rfl Z61 ?_; (with_reducible refine (r8checkWhole.calls k a2_0 a2_1 a2_2 a2_3 a2_4 a2_5 t147 _ A6.out).mono ?_); rintro e w15 ⟨rfl, hb⟩; refine ⟨_, rfl, ?_⟩; have n0_ := bb BK145 hb; have n1_ := qb.mk (qd Z74 hb); clear BK145 HB; have BK145 := n0_; have HB := n1_; clear n0_ n1_; (try clear hb); (try clear hb2); (try clear hk); (try clear hi); obtain ⟨yc16_0, yc16_1, yc16_2, yc16_3, yc16_4, yc16_5, yf16_0, yf16_1, yf16_2, yf16_3, yf16_4, yf16_5⟩ := bf6 BK145.out) | ((with_reducible refine qg (f := 49) rfl ?_); refine goesL_ (some 23) rfl rfl Tryz.func49 (by kernel_rfl) rfl #[.slice A0 l0.length c0, .string a2_0] rfl Z61 ?_; (with_reducible refine (r8isPartner.calls k _ _ l0 a2_0 true _ ?side1 ?side2 A8.out).mono ?_); (case side1 => exact Z62); (case side2 => exact Z158); rintro e w17 ⟨rfl, hb⟩; refine ⟨_, rfl, ?_⟩; have n0_ := bb BK145 hb; have n1_ := qb.mk (qd Z74 hb); clear BK145 HB; have BK145 := n0_; have HB := n1_; clear n0_ n1_; (try clear hb); (try clear hb2); (try clear hk); (try clear hi); obtain ⟨yc18_0, yc18_1, yc18_2, yc18_3, yc18_4, yc18_5, yf18_0, yf18_1, yf18_2, yf18_3, yf18_4, yf18_5⟩ := bf6 BK145.out) | (go_at_call 49; (with_reducible refine (r8isPartner.calls k _ _ l0 a2_1 true _ ?side1 ?side2 A10.out).mono ?_); (case side1 => exact Z62); (case side2 => exact Z158); rintro e w19 ⟨rfl, hb⟩; have n0_ := bb BK145 hb; have n1_ := qb.mk (qd Z74 hb); clear BK145 HB; have BK145 := n0_; have HB := n1_; clear n0_ n1_; (try clear hb); (try clear hb2); (try clear hk); (try clear hi)))
  go_ret
  exact ⟨Z97, Z74⟩
 replace c11 := Bool.eq_false_iff.mpr c11
 subst c11
 have H1 : (some 5) = some r := by rw [if_neg (show ¬ (false = true) by decide)] at H; exact H
 clear H
 have H := H1
 clear H1
 obtain rfl := Option.some.inj H
 go_enter Tryz.func19, Tryz.ntmps19
 go_wp2_with (first | ((with_reducible refine qi (N := 5) rfl ?_); refine qh ?hg (N := 5) ?hd (cs := #[.string a2_0, .string a2_1, .string a2_2, .string a2_3, .int .i64 a2_4, .bool a2_5]) (t := 25) ?hr ?_; (case hd => rfl); (case hg => rfl); (case hr => exact qC); intro gb145 hg w20 hbox hb; have n0_ := qb.mk (qd qz hb); have n1_ := qb.mk (hbox); have n2_ := qb.mk ((Z66 : w.heap.size ≤ gb145)); have n3_ := n2_; clear HB; have HB := n0_; have BK145 := n1_; have GW145 := n2_; have GE145 := n3_; clear n0_ n1_ n2_ n3_; clear hb hbox hg) | ((with_reducible refine qg (f := 25) rfl ?_); refine goesL_ (some 11) rfl rfl Tryz.func25 (by kernel_rfl) rfl #[.slice A0 l0.length c0, .slice A1 l1.length c1] rfl Z61 ?_; (with_reducible refine (r8CheckAgreements.calls k _ _ l0 _ _ l1 t146 _ ?side1 ?side2 ?side3 ?side4 A4.out).mono ?_); (case side1 => exact Z62); (case side2 => exact Z158); (case side3 => exact Z63); (case side4 => exact Z159); rintro e w21 ⟨rfl, hb⟩; refine ⟨_, rfl, ?_⟩; have n0_ := bb BK145 hb; have n1_ := qb.mk (qd Z74 hb); clear BK145 HB; have BK145 := n0_; have HB := n1_; clear n0_ n1_; (try clear hb); (try clear hb2); (try clear hk); (try clear hi); obtain ⟨yc22_0, yc22_1, yc22_2, yc22_3, yc22_4, yc22_5, yf22_0, yf22_1, yf22_2, yf22_3, yf22_4, yf22_5⟩ := bf6 BK145.out) | ((with_reducible refine qg (f := 48) rfl ?_); refine goesL_ (some 16) rfl rfl Tryz.func48 (by kernel_rfl) rfl #[.agg #[.string a2_0, .string a2_1, .string a2_2, .string a2_3, .int .i64 a2_4, .bool a2_5]] rfl Z61 ?_; (with_reducible refine (r8checkWhole.calls k a2_0 a2_1 a2_2 a2_3 a2_4 a2_5 t147 _ A6.out).mono ?_); rintro e w23 ⟨rfl, hb⟩; refine ⟨_, rfl, ?_⟩; have n0_ := bb BK145 hb; have n1_ := qb.mk (qd Z74 hb); clear BK145 HB; have BK145 := n0_; have HB := n1_; clear n0_ n1_; (try clear hb); (try clear hb2); (try clear hk); (try clear hi); obtain ⟨yc24_0, yc24_1, yc24_2, yc24_3, yc24_4, yc24_5, yf24_0, yf24_1, yf24_2, yf24_3, yf24_4, yf24_5⟩ := bf6 BK145.out) | ((with_reducible refine qg (f := 49) rfl ?_); refine goesL_ (some 23) rfl rfl Tryz.func49 (by kernel_rfl) rfl #[.slice A0 l0.length c0, .string a2_0] rfl Z61 ?_; (with_reducible refine (r8isPartner.calls k _ _ l0 a2_0 true _ ?side1 ?side2 A8.out).mono ?_); (case side1 => exact Z62); (case side2 => exact Z158); rintro e w25 ⟨rfl, hb⟩; refine ⟨_, rfl, ?_⟩; have n0_ := bb BK145 hb; have n1_ := qb.mk (qd Z74 hb); clear BK145 HB; have BK145 := n0_; have HB := n1_; clear n0_ n1_; (try clear hb); (try clear hb2); (try clear hk); (try clear hi); obtain ⟨yc26_0, yc26_1, yc26_2, yc26_3, yc26_4, yc26_5, yf26_0, yf26_1, yf26_2, yf26_3, yf26_4, yf26_5⟩ := bf6 BK145.out) | (go_at_call 49; (with_reducible refine (r8isPartner.calls k _ _ l0 a2_1 false _ ?side1 ?side2 A10.out).mono ?_); (case side1 => exact Z62); (case side2 => exact Z158); rintro e w27 ⟨rfl, hb⟩; have n0_ := bb BK145 hb; have n1_ := qb.mk (qd Z74 hb); clear BK145 HB; have BK145 := n0_; have HB := n1_; clear n0_ n1_; (try clear hb); (try clear hb2); (try clear hk); (try clear hi)))
 go_ret
 exact ⟨Z97, Z74⟩
end Go.Proofs.YtmmknokdgbgjgaaGreatDoor.XPartnerDaysMatchSpec
