-- Walks of PartnerDaysMatchSpec: written by xprint.py out of the translation (hand-proved functions among them). Lean checks it.
import Derived.Test.YtmmknokdgbgjgaaGreatDoorXPartnerDaysMatchSpecx0
import Derived.Test.YtmmknokdgbgjgaaGreatDoorXPartnerDaysMatchSpecx2
import Derived.Test.YtmmknokdgbgjgaaGreatDoorXPartnerDaysMatchSpecx9
import Derived.Test.YtmmknokdgbgjgaaGreatDoorXPartnerDaysMatchSpecx16
import Derived.Test.YtmmknokdgbgjgaaGreatDoorXPartnerDaysMatchSpecx18
import Derived.Test.YtmmknokdgbgjgaaGreatDoorXPartnerDaysMatchSpecx20
namespace Go.Proofs.YtmmknokdgbgjgaaGreatDoor.XPartnerDaysMatchSpec
open Go.RowKit Go.Proofs.YtmmknokdgbgjgaaGreatDoorW.PrintWords Go.Proofs.YtmmknokdgbgjgaaGreatDoorW.PrintLast Go.Proofs.YtmmknokdgbgjgaaGreatDoorW.PrintMore
attribute [local go_sem] max2_int min2_int max_two min_two max_three min_three max_four min_four   -- for this text's walks alone
set_option linter.unusedVariables false
set_option linter.unusedSimpArgs false

/-! ### l8PartnerDaysMatchSpec: function 3 -/
def l8PartnerDaysMatchSpec.j0 : Nat → List (S110) → List (S53) → Bool → Option (Bool)
 | 0, _, _, _ => none
 | k + 1, x0, x1, x34 => if x34 = true then (some false) else ((r8Never.f k x0 x1).bind fun bt387 => ((partner_Never.f k x0 x1).bind fun bt391 => (if bt391.2 = bt387.2 then ((slices_Equal_int_int.f k bt391.1 bt387.1).bind fun t395 => (if t395 = true then ((l8awake.f).bind fun t396 => (some t396)) else (some false))) else (some false))))
def l8PartnerDaysMatchSpec.f (k : Nat) (l0 : List (S110)) (l1 : List (S53)) (a2_0 : ByteArray) (a2_1 : ByteArray) (a2_2 : ByteArray) (a2_3 : ByteArray) (a2_4 : Int) (a2_5 : Bool) : Option (Bool) := (r8Until.f k l0 l1 a2_0 a2_1 a2_2 a2_3 a2_4 a2_5).bind fun bt383 => ((partner_Until.f k l0 l1 a2_0 a2_1 a2_2 a2_3 a2_4 a2_5).bind fun bt385 => (if bt385.2 = bt383.2 then (l8PartnerDaysMatchSpec.j0 k l0 l1 (bt385.1 != bt383.1)) else (l8PartnerDaysMatchSpec.j0 k l0 l1 true)))
theorem l8PartnerDaysMatchSpec.mono_l : ∀ k, (∀ y0 y1 y2, qv (l8PartnerDaysMatchSpec.j0 k y0 y1 y2) (l8PartnerDaysMatchSpec.j0 (k + 1) y0 y1 y2))
 | 0 => fun _ _ _ r h => by simp [l8PartnerDaysMatchSpec.j0] at h
 | k + 1 => by
  have ih0 := l8PartnerDaysMatchSpec.mono_l k
  ·intro y0 y1 y2
   unfold l8PartnerDaysMatchSpec.j0
   repeat' first
   | (with_reducible apply ih0)
   | (with_reducible apply r8Never.mono)
   | (with_reducible apply r8Until.mono)
   | (with_reducible apply partner_Never.mono)
   | (with_reducible apply partner_Until.mono)
   | (with_reducible apply slices_Equal_int_int.mono)
   | (with_reducible exact qv.refl _)
   | (with_reducible exact qv.none _)
   | (with_reducible refine qv.ite ?_ ?_)
   | (with_reducible refine qv.bind ?_ (fun _ => ?_))
   | apply ih0
   | apply r8Never.mono
   | apply r8Until.mono
   | apply partner_Never.mono
   | apply partner_Until.mono
   | apply slices_Equal_int_int.mono
   | exact qv.none _
   | refine qv.ite ?_ ?_
   | refine qv.bind ?_ (fun _ => ?_)
theorem l8PartnerDaysMatchSpec.mono : ∀ a0 a1 a2 a3 a4 a5 a6 a7 k, qv (l8PartnerDaysMatchSpec.f k a0 a1 a2 a3 a4 a5 a6 a7) (l8PartnerDaysMatchSpec.f (k + 1) a0 a1 a2 a3 a4 a5 a6 a7) := by
 intro a0 a1 a2 a3 a4 a5 a6 a7 k
 have ih0 := l8PartnerDaysMatchSpec.mono_l k
 unfold l8PartnerDaysMatchSpec.f
 repeat' first
   | (with_reducible apply ih0)
   | (with_reducible apply r8Never.mono)
   | (with_reducible apply r8Until.mono)
   | (with_reducible apply partner_Never.mono)
   | (with_reducible apply partner_Until.mono)
   | (with_reducible apply slices_Equal_int_int.mono)
   | (with_reducible exact qv.refl _)
   | (with_reducible exact qv.none _)
   | (with_reducible refine qv.ite ?_ ?_)
   | (with_reducible refine qv.bind ?_ (fun _ => ?_))
   | apply ih0
   | apply r8Never.mono
   | apply r8Until.mono
   | apply partner_Never.mono
   | apply partner_Until.mono
   | apply slices_Equal_int_int.mono
   | exact qv.none _
   | refine qv.ite ?_ ?_
   | refine qv.bind ?_ (fun _ => ?_)
set_option maxHeartbeats 8000000 in
set_option maxRecDepth 100000 in
theorem l8PartnerDaysMatchSpec.calls (k : Nat) (A0 : Option Addr) (c0 : Nat) (l0 : List (S110)) (A1 : Option Addr) (c1 : Nat) (l1 : List (S53)) (a2_0 : ByteArray) (a2_1 : ByteArray) (a2_2 : ByteArray) (a2_3 : ByteArray) (a2_4 : Int) (a2_5 : Bool) (r : Bool) (w : World) (hr0 : Kd.C k110 w A0 l0.length l0) (hc0 : l0.length ≤ c0) (hr1 : Kd.C k53 w A1 l1.length l1) (hc1 : l1.length ≤ c1) (h : l8PartnerDaysMatchSpec.f k l0 l1 a2_0 a2_1 a2_2 a2_3 a2_4 a2_5 = some r) :
  Calls Tryz.prog 3 #[.slice A0 l0.length c0, .slice A1 l1.length c1, .agg #[.string a2_0, .string a2_1, .string a2_2, .string a2_3, .int .i64 a2_4, .bool a2_5]] w fun e w' => e = .returned (.bool r) ∧ Below w.heap.size w w' := by
 have hu25 := Tryz.underlying25
 have HR0 := qb.mk hr0
 have HC0 := qb.mk hc0
 clear hr0 hc0
 have HR1 := qb.mk hr1
 have HC1 := qb.mk hc1
 clear hr1 hc1
 have HB := qb.mk (Below.refl w.heap.size w)
 have H : ((r8Until.f k l0 l1 a2_0 a2_1 a2_2 a2_3 a2_4 a2_5).bind fun bt383 => ((partner_Until.f k l0 l1 a2_0 a2_1 a2_2 a2_3 a2_4 a2_5).bind fun bt385 => (if bt385.2 = bt383.2 then (l8PartnerDaysMatchSpec.j0 k l0 l1 (bt385.1 != bt383.1)) else (l8PartnerDaysMatchSpec.j0 k l0 l1 true)))) = some r := h
 clear h
 replace H := Option.bind_eq_some_iff.mp H
 obtain ⟨⟨t383, t384⟩, A40, H⟩ := H
 replace H : ((partner_Until.f k l0 l1 a2_0 a2_1 a2_2 a2_3 a2_4 a2_5).bind fun bt385 => (if bt385.2 = t384 then (l8PartnerDaysMatchSpec.j0 k l0 l1 (bt385.1 != t383)) else (l8PartnerDaysMatchSpec.j0 k l0 l1 true))) = some r := H
 have A4 := qb.mk A40
 clear A40
 replace H := Option.bind_eq_some_iff.mp H
 obtain ⟨⟨t385, t386⟩, A50, H⟩ := H
 replace H : (if t386 = t384 then (l8PartnerDaysMatchSpec.j0 k l0 l1 (t385 != t383)) else (l8PartnerDaysMatchSpec.j0 k l0 l1 true)) = some r := H
 have A5 := qb.mk A50
 clear A50
 have HC6 := qb.mk H
 clear H
 go_enter Tryz.func3, Tryz.ntmps3
 go_upto_region 3 with (first | ((with_reducible refine qi (N := 5) rfl ?_); refine qh ?hg (N := 5) ?hd (cs := #[.string a2_0, .string a2_1, .string a2_2, .string a2_3, .int .i64 a2_4, .bool a2_5]) (t := 25) ?hr ?_; (case hd => rfl); (case hg => rfl); (case hr => exact qC); intro gb382 hg w7 hbox hb; have n0_ := qb.mk (qd qz hb); have n1_ := qb.mk (hbox); have n2_ := qb.mk ((Z66 : w.heap.size ≤ gb382)); have n3_ := n2_; clear HB; have HB := n0_; have BK382 := n1_; have GW382 := n2_; have GE382 := n3_; clear n0_ n1_ n2_ n3_; clear hb hbox hg; obtain ⟨yc8_0, yc8_1, yc8_2, yc8_3, yc8_4, yc8_5, yf8_0, yf8_1, yf8_2, yf8_3, yf8_4, yf8_5⟩ := bf6 BK382.out) | ((with_reducible refine qg (f := 5) rfl ?_); refine goesL_ (some 17) rfl rfl Tryz.func5 (by kernel_rfl) rfl #[.slice A0 l0.length c0, .slice A1 l1.length c1, .agg #[.string a2_0, .string a2_1, .string a2_2, .string a2_3, .int .i64 a2_4, .bool a2_5]] rfl Z61 ?_; (with_reducible refine (r8Until.calls k _ _ l0 _ _ l1 a2_0 a2_1 a2_2 a2_3 a2_4 a2_5 t383 t384 _ ?side1 ?side2 ?side3 ?side4 A4.out).mono ?_); (case side1 => exact Z62); (case side2 => exact Z158); (case side3 => exact Z63); (case side4 => exact Z159); rintro e w9 ⟨rfl, hb⟩; refine ⟨_, rfl, ?_⟩; have n0_ := bb BK382 hb; have n1_ := qb.mk (qd Z96 hb); clear BK382 HB; have BK382 := n0_; have HB := n1_; clear n0_ n1_; (try clear hb); (try clear hb2); (try clear hk); (try clear hi); obtain ⟨yc10_0, yc10_1, yc10_2, yc10_3, yc10_4, yc10_5, yf10_0, yf10_1, yf10_2, yf10_3, yf10_4, yf10_5⟩ := bf6 BK382.out) | ((with_reducible refine qg (f := 6) rfl ?_); refine goesL_ (some 24) rfl rfl Tryz.func6 (by kernel_rfl) rfl #[.slice A0 l0.length c0, .slice A1 l1.length c1, .agg #[.string a2_0, .string a2_1, .string a2_2, .string a2_3, .int .i64 a2_4, .bool a2_5]] rfl Z61 ?_; (with_reducible refine (partner_Until.calls k _ _ l0 _ _ l1 a2_0 a2_1 a2_2 a2_3 a2_4 a2_5 t385 t386 _ ?side1 ?side2 ?side3 ?side4 A5.out).mono ?_); (case side1 => exact Z62); (case side2 => exact Z158); (case side3 => exact Z63); (case side4 => exact Z159); rintro e w11 ⟨rfl, hb⟩; refine ⟨_, rfl, ?_⟩; have n0_ := bb BK382 hb; have n1_ := qb.mk (qd Z96 hb); clear BK382 HB; have BK382 := n0_; have HB := n1_; clear n0_ n1_; (try clear hb); (try clear hb2); (try clear hk); (try clear hi)))
 (try simp only [Act.put, sT, s0, s1])
 go_cut [34] (fun v34 wc => ∃ (kq : Nat) (x34_5 : Bool), v34 = .bool x34_5 ∧ qb (l8PartnerDaysMatchSpec.j0 kq l0 l1 x34_5 = some r) ∧ qb (kq ≤ k) ∧ qb (wc.heap[gb382]? = some (.cells #[.string a2_0, .string a2_1, .string a2_2, .string a2_3, .int .i64 a2_4, .bool a2_5] 25 (0, 0))) ∧ qb (Below w.heap.size w wc))
 case first =>
  have H := HC6.out
  clear HC6
  by_cases c12 : t386 = t384
  case neg =>
   rw [if_neg c12] at H
   have c12b0 : (t386 == t384) = false := beq_eq_false_iff_ne.mpr c12
   have c12b1 : (t386 != t384) = true := bne_iff_ne.mpr c12
   (first | rw [c12b0] | (simp only [qr, qt]; rw [c12b0]) | skip)
   have H' := qb.mk H
   clear H
   go_wp2
   go_meet
   case rel => exact ⟨_, (true), qD, H', ⟨Z154⟩, ⟨by (with_reducible repeat (first | refine qn ?_ _ | refine qm ?_ | refine ql ?_ _)); exact BK382.out⟩, ⟨Z96⟩⟩
  rw [if_pos c12] at H
  have c12b0 : (t386 == t384) = true := beq_iff_eq.mpr c12
  have c12b1 : (t386 != t384) = false := bne_eq_false_iff_eq.mpr c12
  clear c12
  (first | rw [c12b0] | (simp only [qr, qt]; rw [c12b0]) | skip)
  have H' := qb.mk H
  clear H
  go_wp2
  go_meet
  case rel => exact ⟨_, ((t385 != t383)), qD, H', ⟨Z154⟩, ⟨by (with_reducible repeat (first | refine qn ?_ _ | refine qm ?_ | refine ql ?_ _)); exact BK382.out⟩, ⟨Z96⟩⟩
 case rest =>
  clear HC6
  try clear c1; try clear p2; try clear c3; try clear c5; try clear c6; try clear c12; try clear c12b0; try clear c12b1; try clear yc10_0 yc10_1 yc10_2 yc10_3 yc10_4 yc10_5 yf10_0 yf10_1 yf10_2 yf10_3 yf10_4 yf10_5; try clear yc8_0 yc8_1 yc8_2 yc8_3 yc8_4 yc8_5 yf8_0 yf8_1 yf8_2 yf8_3 yf8_4 yf8_5
  obtain ⟨kq, x34_5, rfl, HA, HJ5, BK382, HB⟩ := hcut
  cases kq with
  | zero => exact absurd HA.out (by simp [l8PartnerDaysMatchSpec.j0])
  | succ kj5 =>
   have H := HA.out
   clear HA
   simp only [l8PartnerDaysMatchSpec.j0] at H
   by_cases c13 : x34_5 = true
   case pos =>
    subst c13
    have H1 : (some false) = some r := by rw [if_pos rfl] at H; exact H
    clear H
    have H := H1
    clear H1
    obtain rfl := Option.some.inj H
    go_wp2
    go_ret
    exact ⟨Z97, Z96⟩
   replace c13 := Bool.eq_false_iff.mpr c13
   subst c13
   have H1 : ((r8Never.f kj5 l0 l1).bind fun bt387 => ((partner_Never.f kj5 l0 l1).bind fun bt391 => (if bt391.2 = bt387.2 then ((slices_Equal_int_int.f kj5 bt391.1 bt387.1).bind fun t395 => (if t395 = true then ((l8awake.f).bind fun t396 => (some t396)) else (some false))) else (some false)))) = some r := by rw [if_neg (show ¬ (false = true) by decide)] at H; exact H
   clear H
   have H := H1
   clear H1
   replace H := Option.bind_eq_some_iff.mp H
   obtain ⟨⟨t387, t388⟩, A140, H⟩ := H
   replace H : ((partner_Never.f kj5 l0 l1).bind fun bt391 => (if bt391.2 = t388 then ((slices_Equal_int_int.f kj5 bt391.1 t387).bind fun t395 => (if t395 = true then ((l8awake.f).bind fun t396 => (some t396)) else (some false))) else (some false))) = some r := H
   have A14 := qb.mk A140
   clear A140
   replace H := Option.bind_eq_some_iff.mp H
   obtain ⟨⟨t391, t392⟩, A150, H⟩ := H
   replace H : (if t392 = t388 then ((slices_Equal_int_int.f kj5 t391 t387).bind fun t395 => (if t395 = true then ((l8awake.f).bind fun t396 => (some t396)) else (some false))) else (some false)) = some r := H
   have A15 := qb.mk A150
   clear A150
   by_cases c16 : t392 = t388
   case neg =>
    rw [if_neg c16] at H
    have c16b0 : (t392 == t388) = false := beq_eq_false_iff_ne.mpr c16
    have c16b1 : (t392 != t388) = true := bne_iff_ne.mpr c16
    obtain rfl := Option.some.inj H
    go_wp2_with (first | ((with_reducible refine qg (f := 7) rfl ?_); refine goesL_ (some 38) rfl rfl Tryz.func7 (by kernel_rfl) rfl #[.slice A0 l0.length c0, .slice A1 l1.length c1] rfl Z61 ?_; (with_reducible refine (r8Never.calls kj5 _ _ l0 _ _ l1 t387 t388 _ ?side1 ?side2 ?side3 ?side4 A14.out).mono ?_); (case side1 => exact Z62); (case side2 => exact Z158); (case side3 => exact Z63); (case side4 => exact Z159); rintro e w29 ⟨v389, rfl, ho0, hb⟩; refine ⟨_, rfl, ?_⟩; have n0_ := qb.mk (Kd.R_lower ho0 (qx Z96)); have n1_ := bb BK382 hb; have n2_ := qb.mk (qd Z96 hb); clear BK382 HB; have HO390 := n0_; have BK382 := n1_; have HB := n2_; clear n0_ n1_ n2_; (try clear hb); (try clear hb2); (try clear hk); (try clear hi); (try clear ho0)) | ((with_reducible refine qg (f := 8) rfl ?_); refine goesL_ (some 44) rfl rfl Tryz.func8 (by kernel_rfl) rfl #[.slice A0 l0.length c0, .slice A1 l1.length c1] rfl Z61 ?_; (with_reducible refine (partner_Never.calls kj5 _ _ l0 _ _ l1 t391 t392 _ ?side1 ?side2 ?side3 ?side4 A15.out).mono ?_); (case side1 => exact Z62); (case side2 => exact Z158); (case side3 => exact Z63); (case side4 => exact Z159); rintro e w30 ⟨v393, rfl, ho0, hb⟩; refine ⟨_, rfl, ?_⟩; have n0_ := qb.mk (Kd.R_elder' Z130 (Kd.R_base ho0) hb); have n1_ := qb.mk (Kd.R_lower (Kd.R_new' ho0 (Kd.R_lt Z130)) (qx Z96)); have n2_ := bb BK382 hb; have n3_ := qb.mk (qd Z96 hb); clear HO390 BK382 HB; have HO390 := n0_; have HO394 := n1_; have BK382 := n2_; have HB := n3_; clear n0_ n1_ n2_ n3_; (try clear hb); (try clear hb2); (try clear hk); (try clear hi); (try clear ho0)))
    go_ret
    exact ⟨Z97, Z96⟩

   rw [if_pos c16] at H
   have c16b0 : (t392 == t388) = true := beq_iff_eq.mpr c16
   have c16b1 : (t392 != t388) = false := bne_eq_false_iff_eq.mpr c16
   clear c16
   replace H := Option.bind_eq_some_iff.mp H
   obtain ⟨t395, A170, H⟩ := H
   replace H : (if t395 = true then ((l8awake.f).bind fun t396 => (some t396)) else (some false)) = some r := H
   have A17 := qb.mk A170
   clear A170
   by_cases c18 : t395 = true
   case neg =>
    replace c18 := Bool.eq_false_iff.mpr c18
    subst c18
    have H1 : (some false) = some r := by rw [if_neg (show ¬ (false = true) by decide)] at H; exact H
    clear H
    have H := H1
    clear H1
    obtain rfl := Option.some.inj H
    go_wp2_with (first | ((with_reducible refine qg (f := 7) rfl ?_); refine goesL_ (some 38) rfl rfl Tryz.func7 (by kernel_rfl) rfl #[.slice A0 l0.length c0, .slice A1 l1.length c1] rfl Z61 ?_; (with_reducible refine (r8Never.calls kj5 _ _ l0 _ _ l1 t387 t388 _ ?side1 ?side2 ?side3 ?side4 A14.out).mono ?_); (case side1 => exact Z62); (case side2 => exact Z158); (case side3 => exact Z63); (case side4 => exact Z159); rintro e w25 ⟨v389, rfl, ho0, hb⟩; refine ⟨_, rfl, ?_⟩; have n0_ := qb.mk (Kd.R_lower ho0 (qx Z96)); have n1_ := bb BK382 hb; have n2_ := qb.mk (qd Z96 hb); clear BK382 HB; have HO390 := n0_; have BK382 := n1_; have HB := n2_; clear n0_ n1_ n2_; (try clear hb); (try clear hb2); (try clear hk); (try clear hi); (try clear ho0)) | ((with_reducible refine qg (f := 8) rfl ?_); refine goesL_ (some 44) rfl rfl Tryz.func8 (by kernel_rfl) rfl #[.slice A0 l0.length c0, .slice A1 l1.length c1] rfl Z61 ?_; (with_reducible refine (partner_Never.calls kj5 _ _ l0 _ _ l1 t391 t392 _ ?side1 ?side2 ?side3 ?side4 A15.out).mono ?_); (case side1 => exact Z62); (case side2 => exact Z158); (case side3 => exact Z63); (case side4 => exact Z159); rintro e w26 ⟨v393, rfl, ho0, hb⟩; refine ⟨_, rfl, ?_⟩; have n0_ := qb.mk (Kd.R_elder' Z130 (Kd.R_base ho0) hb); have n1_ := qb.mk (Kd.R_lower (Kd.R_new' ho0 (Kd.R_lt Z130)) (qx Z96)); have n2_ := bb BK382 hb; have n3_ := qb.mk (qd Z96 hb); clear HO390 BK382 HB; have HO390 := n0_; have HO394 := n1_; have BK382 := n2_; have HB := n3_; clear n0_ n1_ n2_ n3_; (try clear hb); (try clear hb2); (try clear hk); (try clear hi); (try clear ho0); obtain ⟨Ao27, co27, eo27⟩ := Kd.R_slice HO394.out; subst eo27; obtain ⟨Ao28, co28, eo28⟩ := Kd.R_slice HO390.out; subst eo28) | (go_at_call 9; (with_reducible refine (slices_Equal_int_int.calls kj5 _ _ t391 _ _ t387 false _ ?side1 ?side2 ?side3 ?side4 A17.out).mono ?_); (case side1 => repeat (first | exact (Kd.R_reads' HO394.out).2.2 | (with_reducible refine Kd.C_alloc ?_ _) | (with_reducible refine Kd.C_drewN ?_ _) | (with_reducible refine Kd.C_drew ?_))); (case side2 => exact (Kd.R_reads' HO394.out).2.1); (case side3 => repeat (first | exact (Kd.R_reads' HO390.out).2.2 | (with_reducible refine Kd.C_alloc ?_ _) | (with_reducible refine Kd.C_drewN ?_ _) | (with_reducible refine Kd.C_drew ?_))); (case side4 => exact (Kd.R_reads' HO390.out).2.1); rintro e w' ⟨rfl, ⟨nd, rfl⟩⟩))
    go_ret
    exact ⟨Z97, Z96⟩
   subst c18
   have H1 : ((l8awake.f).bind fun t396 => (some t396)) = some r := by rw [if_pos rfl] at H; exact H
   clear H
   have H := H1
   clear H1
   replace H := Option.bind_eq_some_iff.mp H
   obtain ⟨t396, A190, H⟩ := H
   replace H : (some t396) = some r := H
   have A19 := qb.mk A190
   clear A190
   obtain rfl := Option.some.inj H
   go_wp2_with (first | ((with_reducible refine qg (f := 7) rfl ?_); refine goesL_ (some 38) rfl rfl Tryz.func7 (by kernel_rfl) rfl #[.slice A0 l0.length c0, .slice A1 l1.length c1] rfl Z61 ?_; (with_reducible refine (r8Never.calls kj5 _ _ l0 _ _ l1 t387 t388 _ ?side1 ?side2 ?side3 ?side4 A14.out).mono ?_); (case side1 => exact Z62); (case side2 => exact Z158); (case side3 => exact Z63); (case side4 => exact Z159); rintro e w20 ⟨v389, rfl, ho0, hb⟩; refine ⟨_, rfl, ?_⟩; have n0_ := qb.mk (Kd.R_lower ho0 (qx Z96)); have n1_ := bb BK382 hb; have n2_ := qb.mk (qd Z96 hb); clear BK382 HB; have HO390 := n0_; have BK382 := n1_; have HB := n2_; clear n0_ n1_ n2_; (try clear hb); (try clear hb2); (try clear hk); (try clear hi); (try clear ho0)) | ((with_reducible refine qg (f := 8) rfl ?_); refine goesL_ (some 44) rfl rfl Tryz.func8 (by kernel_rfl) rfl #[.slice A0 l0.length c0, .slice A1 l1.length c1] rfl Z61 ?_; (with_reducible refine (partner_Never.calls kj5 _ _ l0 _ _ l1 t391 t392 _ ?side1 ?side2 ?side3 ?side4 A15.out).mono ?_); (case side1 => exact Z62); (case side2 => exact Z158); (case side3 => exact Z63); (case side4 => exact Z159); rintro e w21 ⟨v393, rfl, ho0, hb⟩; refine ⟨_, rfl, ?_⟩; have n0_ := qb.mk (Kd.R_elder' Z130 (Kd.R_base ho0) hb); have n1_ := qb.mk (Kd.R_lower (Kd.R_new' ho0 (Kd.R_lt Z130)) (qx Z96)); have n2_ := bb BK382 hb; have n3_ := qb.mk (qd Z96 hb); clear HO390 BK382 HB; have HO390 := n0_; have HO394 := n1_; have BK382 := n2_; have HB := n3_; clear n0_ n1_ n2_ n3_; (try clear hb); (try clear hb2); (try clear hk); (try clear hi); (try clear ho0); obtain ⟨Ao22, co22, eo22⟩ := Kd.R_slice HO394.out; subst eo22; obtain ⟨Ao23, co23, eo23⟩ := Kd.R_slice HO390.out; subst eo23) | (go_at_call 9; (with_reducible refine (slices_Equal_int_int.calls kj5 _ _ t391 _ _ t387 true _ ?side1 ?side2 ?side3 ?side4 A17.out).mono ?_); (case side1 => repeat (first | exact (Kd.R_reads' HO394.out).2.2 | (with_reducible refine Kd.C_alloc ?_ _) | (with_reducible refine Kd.C_drewN ?_ _) | (with_reducible refine Kd.C_drew ?_))); (case side2 => exact (Kd.R_reads' HO394.out).2.1); (case side3 => repeat (first | exact (Kd.R_reads' HO390.out).2.2 | (with_reducible refine Kd.C_alloc ?_ _) | (with_reducible refine Kd.C_drewN ?_ _) | (with_reducible refine Kd.C_drew ?_))); (case side4 => exact (Kd.R_reads' HO390.out).2.1); rintro e w' ⟨rfl, ⟨nd, rfl⟩⟩) | (go_at_call 10; (with_reducible refine (l8awake.calls  t396 _ A19.out).mono ?_); rintro e w24 ⟨rfl, hb⟩; have n0_ := qb.mk (Kd.R_below Z130 hb); have n1_ := qb.mk (Kd.R_below (by (with_reducible repeat (first | apply Kd.R_alloc | apply Kd.R_drewN | apply Kd.R_drew)); exact HO394.out) hb); have n2_ := bb BK382 hb; have n3_ := qb.mk (qd Z96 hb); clear HO390 HO394 BK382 HB; have HO390 := n0_; have HO394 := n1_; have BK382 := n2_; have HB := n3_; clear n0_ n1_ n2_ n3_; (try clear hb); (try clear hb2); (try clear hk); (try clear hi)))
   go_ret
   exact ⟨Z97, Z96⟩
end Go.Proofs.YtmmknokdgbgjgaaGreatDoor.XPartnerDaysMatchSpec
