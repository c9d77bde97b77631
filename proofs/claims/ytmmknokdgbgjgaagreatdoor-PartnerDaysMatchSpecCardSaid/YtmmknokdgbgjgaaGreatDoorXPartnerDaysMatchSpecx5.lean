-- Walks of PartnerDaysMatchSpec: written by xprint.py out of the translation (hand-proved functions among them). Lean checks it.
import Derived.Test.YtmmknokdgbgjgaaGreatDoorXPartnerDaysMatchSpecx0
import Derived.Test.YtmmknokdgbgjgaaGreatDoorXPartnerDaysMatchSpecx2
import Derived.Test.YtmmknokdgbgjgaaGreatDoorXPartnerDaysMatchSpecx4
namespace Go.Proofs.YtmmknokdgbgjgaaGreatDoor.XPartnerDaysMatchSpec
open Go.RowKit Go.Proofs.YtmmknokdgbgjgaaGreatDoorW.PrintWords Go.Proofs.YtmmknokdgbgjgaaGreatDoorW.PrintLast Go.Proofs.YtmmknokdgbgjgaaGreatDoorW.PrintMore
attribute [local go_sem] max2_int min2_int max_two min_two max_three min_three max_four min_four   -- for this text's walks alone
set_option linter.unusedVariables false
set_option linter.unusedSimpArgs false

/-! ### r8checkAgreement: function 59 -/
mutual
def r8checkAgreement.j0 : Nat → Bool → ByteArray → ByteArray → ByteArray → ByteArray → Int → Int → Bool → Int → Bool → Option (Int)
 | 0, _, _, _, _, _, _, _, _, _, _ => none
 | k + 1, x9, x126000, x126001, x126002, x126003, x126004, x126005, x126006, x126007, x126008 => if x9 = true then (some 5) else (if x126003.toList = ([] : List UInt8) then (r8checkAgreement.j1 k false x126000 x126001 x126002 x126003 x126004 x126005 x126006 x126007 x126008) else (r8checkAgreement.j1 k (x126002.toList == ([] : List UInt8)) x126000 x126001 x126002 x126003 x126004 x126005 x126006 x126007 x126008))
def r8checkAgreement.j1 : Nat → Bool → ByteArray → ByteArray → ByteArray → ByteArray → Int → Int → Bool → Int → Bool → Option (Int)
 | 0, _, _, _, _, _, _, _, _, _, _ => none
 | k + 1, x20, x126000, x126001, x126002, x126003, x126004, x126005, x126006, x126007, x126008 => if x20 = true then (some 3) else ((interchangeref1_IsDay.f x126004).bind fun t128 => (if t128 = true then ((r8within.f x126005 x126004 3652059).bind fun t129 => (if t129 = true then ((r8within.f x126007 0 100000000).bind fun t130 => (if t130 = true then (some 0) else (some 1))) else (some 1))) else (some 1)))
end
def r8checkAgreement.f (k : Nat) (a0_0 : ByteArray) (a0_1 : ByteArray) (a0_2 : ByteArray) (a0_3 : ByteArray) (a0_4 : Int) (a0_5 : Int) (a0_6 : Bool) (a0_7 : Int) (a0_8 : Bool) : Option (Int) := if a0_0.toList = a0_1.toList then (some 12) else ((r8isAny.f k a0_2).bind fun t126 => (if t126 = true then ((r8isAny.f k a0_3).bind fun t127 => (r8checkAgreement.j0 k (!t127) a0_0 a0_1 a0_2 a0_3 a0_4 a0_5 a0_6 a0_7 a0_8)) else (r8checkAgreement.j0 k true a0_0 a0_1 a0_2 a0_3 a0_4 a0_5 a0_6 a0_7 a0_8)))
theorem r8checkAgreement.mono_l : ∀ k, (∀ y0 y1 y2 y3 y4 y5 y6 y7 y8 y9, qv (r8checkAgreement.j0 k y0 y1 y2 y3 y4 y5 y6 y7 y8 y9) (r8checkAgreement.j0 (k + 1) y0 y1 y2 y3 y4 y5 y6 y7 y8 y9)) ∧ (∀ y0 y1 y2 y3 y4 y5 y6 y7 y8 y9, qv (r8checkAgreement.j1 k y0 y1 y2 y3 y4 y5 y6 y7 y8 y9) (r8checkAgreement.j1 (k + 1) y0 y1 y2 y3 y4 y5 y6 y7 y8 y9))
 | 0 => ⟨fun _ _ _ _ _ _ _ _ _ _ r h => by simp [r8checkAgreement.j0] at h, fun _ _ _ _ _ _ _ _ _ _ r h => by simp [r8checkAgreement.j1] at h⟩
 | k + 1 => by
  obtain ⟨ih0, ih1⟩ := r8checkAgreement.mono_l k
  refine ⟨?_, ?_⟩
  all_goals
   intros
   first | unfold r8checkAgreement.j0 | unfold r8checkAgreement.j1
   repeat' first
   | (with_reducible apply ih0)
   | (with_reducible apply ih1)
   | (with_reducible apply r8isAny.mono)
   | (with_reducible exact qv.refl _)
   | (with_reducible exact qv.none _)
   | (with_reducible refine qv.ite ?_ ?_)
   | (with_reducible refine qv.bind ?_ (fun _ => ?_))
   | apply ih0
   | apply ih1
   | apply r8isAny.mono
   | exact qv.none _
   | refine qv.ite ?_ ?_
   | refine qv.bind ?_ (fun _ => ?_)
theorem r8checkAgreement.mono : ∀ a0 a1 a2 a3 a4 a5 a6 a7 a8 k, qv (r8checkAgreement.f k a0 a1 a2 a3 a4 a5 a6 a7 a8) (r8checkAgreement.f (k + 1) a0 a1 a2 a3 a4 a5 a6 a7 a8) := by
 intro a0 a1 a2 a3 a4 a5 a6 a7 a8 k
 obtain ⟨ih0, ih1⟩ := r8checkAgreement.mono_l k
 unfold r8checkAgreement.f
 repeat' first
   | (with_reducible apply ih0)
   | (with_reducible apply ih1)
   | (with_reducible apply r8isAny.mono)
   | (with_reducible exact qv.refl _)
   | (with_reducible exact qv.none _)
   | (with_reducible refine qv.ite ?_ ?_)
   | (with_reducible refine qv.bind ?_ (fun _ => ?_))
   | apply ih0
   | apply ih1
   | apply r8isAny.mono
   | exact qv.none _
   | refine qv.ite ?_ ?_
   | refine qv.bind ?_ (fun _ => ?_)
set_option maxHeartbeats 8000000 in
set_option maxRecDepth 100000 in
theorem r8checkAgreement.calls (k : Nat) (a0_0 : ByteArray) (a0_1 : ByteArray) (a0_2 : ByteArray) (a0_3 : ByteArray) (a0_4 : Int) (a0_5 : Int) (a0_6 : Bool) (a0_7 : Int) (a0_8 : Bool) (r : Int) (w : World) (h : r8checkAgreement.f k a0_0 a0_1 a0_2 a0_3 a0_4 a0_5 a0_6 a0_7 a0_8 = some r) :
  Calls Tryz.prog 59 #[.agg #[.string a0_0, .string a0_1, .string a0_2, .string a0_3, .int .i64 a0_4, .int .i64 a0_5, .bool a0_6, .int .i64 a0_7, .bool a0_8]] w fun e w' => e = .returned (.int .i64 r) ∧ Below w.heap.size w w' := by
 have hu53 := Tryz.underlying53
 have HB := qb.mk (Below.refl w.heap.size w)
 have H : (if a0_0.toList = a0_1.toList then (some 12) else ((r8isAny.f k a0_2).bind fun t126 => (if t126 = true then ((r8isAny.f k a0_3).bind fun t127 => (r8checkAgreement.j0 k (!t127) a0_0 a0_1 a0_2 a0_3 a0_4 a0_5 a0_6 a0_7 a0_8)) else (r8checkAgreement.j0 k true a0_0 a0_1 a0_2 a0_3 a0_4 a0_5 a0_6 a0_7 a0_8)))) = some r := h
 clear h
 by_cases c2 : a0_0.toList = a0_1.toList
 case pos =>
  rw [if_pos c2] at H
  have c2b0 : (a0_0.toList == a0_1.toList) = true := beq_iff_eq.mpr c2
  have c2b1 : (a0_0.toList != a0_1.toList) = false := bne_eq_false_iff_eq.mpr c2
  clear c2
  obtain rfl := Option.some.inj H
  go_enter Tryz.func59, Tryz.ntmps59
  go_wp2_with (first | ((with_reducible refine qi (N := 1) rfl ?_); refine qh ?hg (N := 1) ?hd (cs := #[.string a0_0, .string a0_1, .string a0_2, .string a0_3, .int .i64 a0_4, .int .i64 a0_5, .bool a0_6, .int .i64 a0_7, .bool a0_8]) (t := 53) ?hr ?_; (case hd => rfl); (case hg => rfl); (case hr => exact qC); intro gb125 hg w3 hbox hb; have n0_ := qb.mk (qd qz hb); have n1_ := qb.mk (hbox); have n2_ := qb.mk ((Z66 : w.heap.size ≤ gb125)); have n3_ := n2_; clear HB; have HB := n0_; have BK125 := n1_; have GW125 := n2_; have GE125 := n3_; clear n0_ n1_ n2_ n3_; clear hb hbox hg; obtain ⟨yc4_0, yc4_1, yc4_2, yc4_3, yc4_4, yc4_5, yc4_6, yc4_7, yc4_8, yf4_0, yf4_1, yf4_2, yf4_3, yf4_4, yf4_5, yf4_6, yf4_7, yf4_8⟩ := bf9 BK125.out))
  go_ret
  exact ⟨Z97, Z70⟩
 rw [if_neg c2] at H
 have c2b0 : (a0_0.toList == a0_1.toList) = false := beq_eq_false_iff_ne.mpr c2
 have c2b1 : (a0_0.toList != a0_1.toList) = true := bne_iff_ne.mpr c2
 have HC5 := qb.mk H
 clear H
 go_enter Tryz.func59, Tryz.ntmps59
 go_upto_region 3 with (first | ((with_reducible refine qi (N := 1) rfl ?_); refine qh ?hg (N := 1) ?hd (cs := #[.string a0_0, .string a0_1, .string a0_2, .string a0_3, .int .i64 a0_4, .int .i64 a0_5, .bool a0_6, .int .i64 a0_7, .bool a0_8]) (t := 53) ?hr ?_; (case hd => rfl); (case hg => rfl); (case hr => exact qC); intro gb125 hg w6 hbox hb; have n0_ := qb.mk (qd qz hb); have n1_ := qb.mk (hbox); have n2_ := qb.mk ((Z66 : w.heap.size ≤ gb125)); have n3_ := n2_; clear HB; have HB := n0_; have BK125 := n1_; have GW125 := n2_; have GE125 := n3_; clear n0_ n1_ n2_ n3_; clear hb hbox hg; obtain ⟨yc7_0, yc7_1, yc7_2, yc7_3, yc7_4, yc7_5, yc7_6, yc7_7, yc7_8, yf7_0, yf7_1, yf7_2, yf7_3, yf7_4, yf7_5, yf7_6, yf7_7, yf7_8⟩ := bf9 BK125.out))
 (try simp only [Act.put, sT, s0, s1])
 go_cut [9] (fun v9 wc => ∃ (kq : Nat) (x9_4 : Bool), v9 = .bool x9_4 ∧ qb (r8checkAgreement.j0 kq x9_4 a0_0 a0_1 a0_2 a0_3 a0_4 a0_5 a0_6 a0_7 a0_8 = some r) ∧ qb (kq ≤ k) ∧ qb (wc.heap[gb125]? = some (.cells #[.string a0_0, .string a0_1, .string a0_2, .string a0_3, .int .i64 a0_4, .int .i64 a0_5, .bool a0_6, .int .i64 a0_7, .bool a0_8] 53 (0, 0))) ∧ qb (Below w.heap.size w wc))
 case first =>
  have H := HC5.out
  clear HC5
  replace H := Option.bind_eq_some_iff.mp H
  obtain ⟨t126, A80, H⟩ := H
  replace H : (if t126 = true then ((r8isAny.f k a0_3).bind fun t127 => (r8checkAgreement.j0 k (!t127) a0_0 a0_1 a0_2 a0_3 a0_4 a0_5 a0_6 a0_7 a0_8)) else (r8checkAgreement.j0 k true a0_0 a0_1 a0_2 a0_3 a0_4 a0_5 a0_6 a0_7 a0_8)) = some r := H
  have A8 := qb.mk A80
  clear A80
  by_cases c9 : t126 = true
  case neg =>
   replace c9 := Bool.eq_false_iff.mpr c9
   subst c9
   have H1 : (r8checkAgreement.j0 k true a0_0 a0_1 a0_2 a0_3 a0_4 a0_5 a0_6 a0_7 a0_8) = some r := by rw [if_neg (show ¬ (false = true) by decide)] at H; exact H
   clear H
   have H := H1
   clear H1
   have H' := qb.mk H
   clear H
   obtain ⟨yc12_0, yc12_1, yc12_2, yc12_3, yc12_4, yc12_5, yc12_6, yc12_7, yc12_8, yf12_0, yf12_1, yf12_2, yf12_3, yf12_4, yf12_5, yf12_6, yf12_7, yf12_8⟩ := bf9 BK125.out
   go_wp2_with (first | ((with_reducible refine qg (f := 97) rfl ?_); refine goesL_ (some 12) rfl rfl Tryz.func97 (by kernel_rfl) rfl #[.string a0_2] rfl Z61 ?_; (with_reducible refine (r8isAny.calls k a0_2 false _ A8.out).mono ?_); rintro e w' ⟨rfl, ⟨nd, rfl⟩⟩; refine ⟨_, rfl, ?_⟩))
   go_meet
   case rel => exact ⟨_, (true), qD, H', ⟨Z154⟩, ⟨Z108⟩, ⟨Z70⟩⟩
  subst c9
  have H1 : ((r8isAny.f k a0_3).bind fun t127 => (r8checkAgreement.j0 k (!t127) a0_0 a0_1 a0_2 a0_3 a0_4 a0_5 a0_6 a0_7 a0_8)) = some r := by rw [if_pos rfl] at H; exact H
  clear H
  have H := H1
  clear H1
  replace H := Option.bind_eq_some_iff.mp H
  obtain ⟨t127, A100, H⟩ := H
  replace H : (r8checkAgreement.j0 k (!t127) a0_0 a0_1 a0_2 a0_3 a0_4 a0_5 a0_6 a0_7 a0_8) = some r := H
  have A10 := qb.mk A100
  clear A100
  have H' := qb.mk H
  clear H
  obtain ⟨yc11_0, yc11_1, yc11_2, yc11_3, yc11_4, yc11_5, yc11_6, yc11_7, yc11_8, yf11_0, yf11_1, yf11_2, yf11_3, yf11_4, yf11_5, yf11_6, yf11_7, yf11_8⟩ := bf9 BK125.out
  go_wp2_with (first | ((with_reducible refine qg (f := 97) rfl ?_); refine goesL_ (some 12) rfl rfl Tryz.func97 (by kernel_rfl) rfl #[.string a0_2] rfl Z61 ?_; (with_reducible refine (r8isAny.calls k a0_2 true _ A8.out).mono ?_); rintro e w' ⟨rfl, ⟨nd, rfl⟩⟩; refine ⟨_, rfl, ?_⟩) | (go_at_call 97; (with_reducible refine (r8isAny.calls k a0_3 t127 _ A10.out).mono ?_); rintro e w' ⟨rfl, ⟨nd, rfl⟩⟩))
  go_meet
  case rel => exact ⟨_, (!t127), qD, H', ⟨Z154⟩, ⟨Z108⟩, ⟨Z70⟩⟩
 case rest =>
  clear HC5
  try clear c2; try clear c2b0; try clear c2b1; try clear p2; try clear c5; try clear c9; try clear yc11_0 yc11_1 yc11_2 yc11_3 yc11_4 yc11_5 yc11_6 yc11_7 yc11_8 yf11_0 yf11_1 yf11_2 yf11_3 yf11_4 yf11_5 yf11_6 yf11_7 yf11_8; try clear yc12_0 yc12_1 yc12_2 yc12_3 yc12_4 yc12_5 yc12_6 yc12_7 yc12_8 yf12_0 yf12_1 yf12_2 yf12_3 yf12_4 yf12_5 yf12_6 yf12_7 yf12_8; try clear yc4_0 yc4_1 yc4_2 yc4_3 yc4_4 yc4_5 yc4_6 yc4_7 yc4_8 yf4_0 yf4_1 yf4_2 yf4_3 yf4_4 yf4_5 yf4_6 yf4_7 yf4_8; try clear yc7_0 yc7_1 yc7_2 yc7_3 yc7_4 yc7_5 yc7_6 yc7_7 yc7_8 yf7_0 yf7_1 yf7_2 yf7_3 yf7_4 yf7_5 yf7_6 yf7_7 yf7_8
  obtain ⟨kq, x9_4, rfl, HA, HJ4, BK125, HB⟩ := hcut
  cases kq with
  | zero => exact absurd HA.out (by simp [r8checkAgreement.j0])
  | succ kj4 =>
   have H := HA.out
   clear HA
   simp only [r8checkAgreement.j0] at H
   by_cases c13 : x9_4 = true
   case pos =>
    subst c13
    have H1 : (some 5) = some r := by rw [if_pos rfl] at H; exact H
    clear H
    have H := H1
    clear H1
    obtain rfl := Option.some.inj H
    go_wp2
    go_ret
    exact ⟨Z97, Z70⟩
   replace c13 := Bool.eq_false_iff.mpr c13
   subst c13
   have H1 : (if a0_3.toList = ([] : List UInt8) then (r8checkAgreement.j1 kj4 false a0_0 a0_1 a0_2 a0_3 a0_4 a0_5 a0_6 a0_7 a0_8) else (r8checkAgreement.j1 kj4 (a0_2.toList == ([] : List UInt8)) a0_0 a0_1 a0_2 a0_3 a0_4 a0_5 a0_6 a0_7 a0_8)) = some r := by rw [if_neg (show ¬ (false = true) by decide)] at H; exact H
   clear H
   have H := H1
   clear H1
   have HC14 := qb.mk H
   clear H
   go_upto_region 5 with (fail)
   go_cut [20] (fun v20 wc => ∃ (kq : Nat) (x20_13 : Bool), v20 = .bool x20_13 ∧ qb (r8checkAgreement.j1 kq x20_13 a0_0 a0_1 a0_2 a0_3 a0_4 a0_5 a0_6 a0_7 a0_8 = some r) ∧ qb (kq ≤ kj4) ∧ qb (wc.heap[gb125]? = some (.cells #[.string a0_0, .string a0_1, .string a0_2, .string a0_3, .int .i64 a0_4, .int .i64 a0_5, .bool a0_6, .int .i64 a0_7, .bool a0_8] 53 (0, 0))) ∧ qb (Below w.heap.size w wc))
   case first =>
    have H := HC14.out
    clear HC14
    by_cases c15 : a0_3.toList = ([] : List UInt8)
    case pos =>
     rw [if_pos c15] at H
     have c15b0 : (a0_3.toList == ([] : List UInt8)) = true := beq_iff_eq.mpr c15
     have c15b1 : (a0_3.toList != ([] : List UInt8)) = false := bne_eq_false_iff_eq.mpr c15
     clear c15
     (first | rw [c15b0] | (simp only [qr, qt]; rw [c15b0]) | skip)
     have H' := qb.mk H
     clear H
     have yc16_0 : wc.cell? ⟨gb125, 0, none⟩ = some (.string a0_0) := (qc BK125.out 0).trans rfl
     have yc16_1 : wc.cell? ⟨gb125, 1, none⟩ = some (.string a0_1) := (qc BK125.out 1).trans rfl
     have yc16_2 : wc.cell? ⟨gb125, 2, none⟩ = some (.string a0_2) := (qc BK125.out 2).trans rfl
     have yc16_3 : wc.cell? ⟨gb125, 3, none⟩ = some (.string a0_3) := (qc BK125.out 3).trans rfl
     have yc16_4 : wc.cell? ⟨gb125, 4, none⟩ = some (.int .i64 a0_4) := (qc BK125.out 4).trans rfl
     have yc16_5 : wc.cell? ⟨gb125, 5, none⟩ = some (.int .i64 a0_5) := (qc BK125.out 5).trans rfl
     have yc16_6 : wc.cell? ⟨gb125, 6, none⟩ = some (.bool a0_6) := (qc BK125.out 6).trans rfl
     have yc16_7 : wc.cell? ⟨gb125, 7, none⟩ = some (.int .i64 a0_7) := (qc BK125.out 7).trans rfl
     have yc16_8 : wc.cell? ⟨gb125, 8, none⟩ = some (.bool a0_8) := (qc BK125.out 8).trans rfl
     have yf16_0 := qe BK125.out 0
     have yf16_1 := qe BK125.out 1
     have yf16_2 := qe BK125.out 2
     have yf16_3 := qe BK125.out 3
     have yf16_4 := qe BK125.out 4
     have yf16_5 := qe BK125.out 5
     have yf16_6 := qe BK125.out 6
     have yf16_7 := qe BK125.out 7
     have yf16_8 := qe BK125.out 8
     go_wp2
     go_meet
     case rel => exact ⟨_, (false), qD, H', ⟨by have := HJ4.out; first | omega | exact Nat.le_refl _⟩, ⟨Z108⟩, ⟨Z70⟩⟩
    rw [if_neg c15] at H
    have c15b0 : (a0_3.toList == ([] : List UInt8)) = false := beq_eq_false_iff_ne.mpr c15
    have c15b1 : (a0_3.toList != ([] : List UInt8)) = true := bne_iff_ne.mpr c15
    (first | rw [c15b0] | (simp only [qr, qt]; rw [c15b0]) | skip)
    have H' := qb.mk H
    clear H
    have yc17_0 : wc.cell? ⟨gb125, 0, none⟩ = some (.string a0_0) := (qc BK125.out 0).trans rfl
    have yc17_1 : wc.cell? ⟨gb125, 1, none⟩ = some (.string a0_1) := (qc BK125.out 1).trans rfl
    have yc17_2 : wc.cell? ⟨gb125, 2, none⟩ = some (.string a0_2) := (qc BK125.out 2).trans rfl
    have yc17_3 : wc.cell? ⟨gb125, 3, none⟩ = some (.string a0_3) := (qc BK125.out 3).trans rfl
    have yc17_4 : wc.cell? ⟨gb125, 4, none⟩ = some (.int .i64 a0_4) := (qc BK125.out 4).trans rfl
    have yc17_5 : wc.cell? ⟨gb125, 5, none⟩ = some (.int .i64 a0_5) := (qc BK125.out 5).trans rfl
    have yc17_6 : wc.cell? ⟨gb125, 6, none⟩ = some (.bool a0_6) := (qc BK125.out 6).trans rfl
    have yc17_7 : wc.cell? ⟨gb125, 7, none⟩ = some (.int .i64 a0_7) := (qc BK125.out 7).trans rfl
    have yc17_8 : wc.cell? ⟨gb125, 8, none⟩ = some (.bool a0_8) := (qc BK125.out 8).trans rfl
    have yf17_0 := qe BK125.out 0
    have yf17_1 := qe BK125.out 1
    have yf17_2 := qe BK125.out 2
    have yf17_3 := qe BK125.out 3
    have yf17_4 := qe BK125.out 4
    have yf17_5 := qe BK125.out 5
    have yf17_6 := qe BK125.out 6
    have yf17_7 := qe BK125.out 7
    have yf17_8 := qe BK125.out 8
    go_wp2
    go_meet
    case rel => exact ⟨_, ((a0_2.toList == ([] : List UInt8))), qD, H', ⟨by have := HJ4.out; first | omega | exact Nat.le_refl _⟩, ⟨Z108⟩, ⟨Z70⟩⟩
   case rest =>
    clear HC14
    try clear c1; try clear c2; try clear c2b0; try clear c2b1; try clear p2 p2; try clear c5; try clear c9; try clear c13; try clear c15; try clear c15b0; try clear c15b1; try clear yc11_0 yc11_1 yc11_2 yc11_3 yc11_4 yc11_5 yc11_6 yc11_7 yc11_8 yf11_0 yf11_1 yf11_2 yf11_3 yf11_4 yf11_5 yf11_6 yf11_7 yf11_8; try clear yc12_0 yc12_1 yc12_2 yc12_3 yc12_4 yc12_5 yc12_6 yc12_7 yc12_8 yf12_0 yf12_1 yf12_2 yf12_3 yf12_4 yf12_5 yf12_6 yf12_7 yf12_8; try clear yc16_0 yc16_1 yc16_2 yc16_3 yc16_4 yc16_5 yc16_6 yc16_7 yc16_8 yf16_0 yf16_1 yf16_2 yf16_3 yf16_4 yf16_5 yf16_6 yf16_7 yf16_8; try clear yc17_0 yc17_1 yc17_2 yc17_3 yc17_4 yc17_5 yc17_6 yc17_7 yc17_8 yf17_0 yf17_1 yf17_2 yf17_3 yf17_4 yf17_5 yf17_6 yf17_7 yf17_8; try clear yc4_0 yc4_1 yc4_2 yc4_3 yc4_4 yc4_5 yc4_6 yc4_7 yc4_8 yf4_0 yf4_1 yf4_2 yf4_3 yf4_4 yf4_5 yf4_6 yf4_7 yf4_8; try clear yc7_0 yc7_1 yc7_2 yc7_3 yc7_4 yc7_5 yc7_6 yc7_7 yc7_8 yf7_0 yf7_1 yf7_2 yf7_3 yf7_4 yf7_5 yf7_6 yf7_7 yf7_8
    obtain ⟨kq, x20_13, rfl, HA, HJ13, BK125, HB⟩ := hcut
    cases kq with
    | zero => exact absurd HA.out (by simp [r8checkAgreement.j1])
    | succ kj13 =>
     have H := HA.out
     clear HA
     simp only [r8checkAgreement.j1] at H
     by_cases c18 : x20_13 = true
     case pos =>
      subst c18
      have H1 : (some 3) = some r := by rw [if_pos rfl] at H; exact H
      clear H
      have H := H1
      clear H1
      obtain rfl := Option.some.inj H
      go_wp2
      go_ret
      exact ⟨Z97, Z70⟩
     replace c18 := Bool.eq_false_iff.mpr c18
     subst c18
     have H1 : ((interchangeref1_IsDay.f a0_4).bind fun t128 => (if t128 = true then ((r8within.f a0_5 a0_4 3652059).bind fun t129 => (if t129 = true then ((r8within.f a0_7 0 100000000).bind fun t130 => (if t130 = true then (some 0) else (some 1))) else (some 1))) else (some 1))) = some r := by rw [if_neg (show ¬ (false = true) by decide)] at H; exact H
     clear H
     have H := H1
     clear H1
     replace H := Option.bind_eq_some_iff.mp H
     obtain ⟨t128, A190, H⟩ := H
     replace H : (if t128 = true then ((r8within.f a0_5 a0_4 3652059).bind fun t129 => (if t129 = true then ((r8within.f a0_7 0 100000000).bind fun t130 => (if t130 = true then (some 0) else (some 1))) else (some 1))) else (some 1)) = some r := H
     have A19 := qb.mk A190
     clear A190
     by_cases c20 : t128 = true
     case neg =>
      replace c20 := Bool.eq_false_iff.mpr c20
      subst c20
      have H1 : (some 1) = some r := by rw [if_neg (show ¬ (false = true) by decide)] at H; exact H
      clear H
      have H := H1
      clear H1
      obtain rfl := Option.some.inj H
      have yc28_0 : wc.cell? ⟨gb125, 0, none⟩ = some (.string a0_0) := (qc BK125.out 0).trans rfl
      have yc28_1 : wc.cell? ⟨gb125, 1, none⟩ = some (.string a0_1) := (qc BK125.out 1).trans rfl
      have yc28_2 : wc.cell? ⟨gb125, 2, none⟩ = some (.string a0_2) := (qc BK125.out 2).trans rfl
      have yc28_3 : wc.cell? ⟨gb125, 3, none⟩ = some (.string a0_3) := (qc BK125.out 3).trans rfl
      have yc28_4 : wc.cell? ⟨gb125, 4, none⟩ = some (.int .i64 a0_4) := (qc BK125.out 4).trans rfl
      have yc28_5 : wc.cell? ⟨gb125, 5, none⟩ = some (.int .i64 a0_5) := (qc BK125.out 5).trans rfl
      have yc28_6 : wc.cell? ⟨gb125, 6, none⟩ = some (.bool a0_6) := (qc BK125.out 6).trans rfl
      have yc28_7 : wc.cell? ⟨gb125, 7, none⟩ = some (.int .i64 a0_7) := (qc BK125.out 7).trans rfl
      have yc28_8 : wc.cell? ⟨gb125, 8, none⟩ = some (.bool a0_8) := (qc BK125.out 8).trans rfl
      have yf28_0 := qe BK125.out 0
      have yf28_1 := qe BK125.out 1
      have yf28_2 := qe BK125.out 2
      have yf28_3 := qe BK125.out 3
      have yf28_4 := qe BK125.out 4
      have yf28_5 := qe BK125.out 5
      have yf28_6 := qe BK125.out 6
      have yf28_7 := qe BK125.out 7
      have yf28_8 := qe BK125.out 8
      go_wp2_with (first | ((with_reducible refine qg (f := 98) rfl ?_); refine goesL_ (some 32) rfl rfl Tryz.func98 (by kernel_rfl) rfl #[.int .i64 a0_4] rfl Z61 ?_; (with_reducible refine (interchangeref1_IsDay.calls a0_4 false _ A19.out).mono ?_); rintro e w' ⟨rfl, ⟨nd, rfl⟩⟩; refine ⟨_, rfl, ?_⟩))
      go_ret
      exact ⟨Z97, Z70⟩

     subst c20
     have H1 : ((r8within.f a0_5 a0_4 3652059).bind fun t129 => (if t129 = true then ((r8within.f a0_7 0 100000000).bind fun t130 => (if t130 = true then (some 0) else (some 1))) else (some 1))) = some r := by rw [if_pos rfl] at H; exact H
     clear H
     have H := H1
     clear H1
     replace H := Option.bind_eq_some_iff.mp H
     obtain ⟨t129, A210, H⟩ := H
     replace H : (if t129 = true then ((r8within.f a0_7 0 100000000).bind fun t130 => (if t130 = true then (some 0) else (some 1))) else (some 1)) = some r := H
     have A21 := qb.mk A210
     clear A210
     by_cases c22 : t129 = true
     case neg =>
      replace c22 := Bool.eq_false_iff.mpr c22
      subst c22
      have H1 : (some 1) = some r := by rw [if_neg (show ¬ (false = true) by decide)] at H; exact H
      clear H
      have H := H1
      clear H1
      obtain rfl := Option.some.inj H
      have yc27_0 : wc.cell? ⟨gb125, 0, none⟩ = some (.string a0_0) := (qc BK125.out 0).trans rfl
      have yc27_1 : wc.cell? ⟨gb125, 1, none⟩ = some (.string a0_1) := (qc BK125.out 1).trans rfl
      have yc27_2 : wc.cell? ⟨gb125, 2, none⟩ = some (.string a0_2) := (qc BK125.out 2).trans rfl
      have yc27_3 : wc.cell? ⟨gb125, 3, none⟩ = some (.string a0_3) := (qc BK125.out 3).trans rfl
      have yc27_4 : wc.cell? ⟨gb125, 4, none⟩ = some (.int .i64 a0_4) := (qc BK125.out 4).trans rfl
      have yc27_5 : wc.cell? ⟨gb125, 5, none⟩ = some (.int .i64 a0_5) := (qc BK125.out 5).trans rfl
      have yc27_6 : wc.cell? ⟨gb125, 6, none⟩ = some (.bool a0_6) := (qc BK125.out 6).trans rfl
      have yc27_7 : wc.cell? ⟨gb125, 7, none⟩ = some (.int .i64 a0_7) := (qc BK125.out 7).trans rfl
      have yc27_8 : wc.cell? ⟨gb125, 8, none⟩ = some (.bool a0_8) := (qc BK125.out 8).trans rfl
      have yf27_0 := qe BK125.out 0
      have yf27_1 := qe BK125.out 1
      have yf27_2 := qe BK125.out 2
      have yf27_3 := qe BK125.out 3
      have yf27_4 := qe BK125.out 4
      have yf27_5 := qe BK125.out 5
      have yf27_6 := qe BK125.out 6
      have yf27_7 := qe BK125.out 7
      have yf27_8 := qe BK125.out 8
      go_wp2_with (first | ((with_reducible refine qg (f := 98) rfl ?_); refine goesL_ (some 32) rfl rfl Tryz.func98 (by kernel_rfl) rfl #[.int .i64 a0_4] rfl Z61 ?_; (with_reducible refine (interchangeref1_IsDay.calls a0_4 true _ A19.out).mono ?_); rintro e w' ⟨rfl, ⟨nd, rfl⟩⟩; refine ⟨_, rfl, ?_⟩) | (go_at_call 35; (with_reducible refine (r8within.calls a0_5 a0_4 3652059 false _ A21.out).mono ?_); rintro e w' ⟨rfl, ⟨nd, rfl⟩⟩))
      go_ret
      exact ⟨Z97, Z70⟩
     subst c22
     have H1 : ((r8within.f a0_7 0 100000000).bind fun t130 => (if t130 = true then (some 0) else (some 1))) = some r := by rw [if_pos rfl] at H; exact H
     clear H
     have H := H1
     clear H1
     replace H := Option.bind_eq_some_iff.mp H
     obtain ⟨t130, A230, H⟩ := H
     replace H : (if t130 = true then (some 0) else (some 1)) = some r := H
     have A23 := qb.mk A230
     clear A230
     by_cases c24 : t130 = true
     case pos =>
      subst c24
      have H1 : (some 0) = some r := by rw [if_pos rfl] at H; exact H
      clear H
      have H := H1
      clear H1
      obtain rfl := Option.some.inj H
      have yc25_0 : wc.cell? ⟨gb125, 0, none⟩ = some (.string a0_0) := (qc BK125.out 0).trans rfl
      have yc25_1 : wc.cell? ⟨gb125, 1, none⟩ = some (.string a0_1) := (qc BK125.out 1).trans rfl
      have yc25_2 : wc.cell? ⟨gb125, 2, none⟩ = some (.string a0_2) := (qc BK125.out 2).trans rfl
      have yc25_3 : wc.cell? ⟨gb125, 3, none⟩ = some (.string a0_3) := (qc BK125.out 3).trans rfl
      have yc25_4 : wc.cell? ⟨gb125, 4, none⟩ = some (.int .i64 a0_4) := (qc BK125.out 4).trans rfl
      have yc25_5 : wc.cell? ⟨gb125, 5, none⟩ = some (.int .i64 a0_5) := (qc BK125.out 5).trans rfl
      have yc25_6 : wc.cell? ⟨gb125, 6, none⟩ = some (.bool a0_6) := (qc BK125.out 6).trans rfl
      have yc25_7 : wc.cell? ⟨gb125, 7, none⟩ = some (.int .i64 a0_7) := (qc BK125.out 7).trans rfl
      have yc25_8 : wc.cell? ⟨gb125, 8, none⟩ = some (.bool a0_8) := (qc BK125.out 8).trans rfl
      have yf25_0 := qe BK125.out 0
      have yf25_1 := qe BK125.out 1
      have yf25_2 := qe BK125.out 2
      have yf25_3 := qe BK125.out 3
      have yf25_4 := qe BK125.out 4
      have yf25_5 := qe BK125.out 5
      have yf25_6 := qe BK125.out 6
      have yf25_7 := qe BK125.out 7
      have yf25_8 := qe BK125.out 8
      go_wp2_with (first | ((with_reducible refine qg (f := 98) rfl ?_); refine goesL_ (some 32) rfl rfl Tryz.func98 (by kernel_rfl) rfl #[.int .i64 a0_4] rfl Z61 ?_; (with_reducible refine (interchangeref1_IsDay.calls a0_4 true _ A19.out).mono ?_); rintro e w' ⟨rfl, ⟨nd, rfl⟩⟩; refine ⟨_, rfl, ?_⟩) | (go_at_call 35; (with_reducible refine (r8within.calls a0_5 a0_4 3652059 true _ A21.out).mono ?_); rintro e w' ⟨rfl, ⟨nd, rfl⟩⟩) | (go_at_call 35; (with_reducible refine (r8within.calls a0_7 0 100000000 true _ A23.out).mono ?_); rintro e w' ⟨rfl, ⟨nd, rfl⟩⟩))
      go_ret
      exact ⟨Z97, Z70⟩
     replace c24 := Bool.eq_false_iff.mpr c24
     subst c24
     have H1 : (some 1) = some r := by rw [if_neg (show ¬ (false = true) by decide)] at H; exact H
     clear H
     have H := H1
     clear H1
     obtain rfl := Option.some.inj H
     have yc26_0 : wc.cell? ⟨gb125, 0, none⟩ = some (.string a0_0) := (qc BK125.out 0).trans rfl
     have yc26_1 : wc.cell? ⟨gb125, 1, none⟩ = some (.string a0_1) := (qc BK125.out 1).trans rfl
     have yc26_2 : wc.cell? ⟨gb125, 2, none⟩ = some (.string a0_2) := (qc BK125.out 2).trans rfl
     have yc26_3 : wc.cell? ⟨gb125, 3, none⟩ = some (.string a0_3) := (qc BK125.out 3).trans rfl
     have yc26_4 : wc.cell? ⟨gb125, 4, none⟩ = some (.int .i64 a0_4) := (qc BK125.out 4).trans rfl
     have yc26_5 : wc.cell? ⟨gb125, 5, none⟩ = some (.int .i64 a0_5) := (qc BK125.out 5).trans rfl
     have yc26_6 : wc.cell? ⟨gb125, 6, none⟩ = some (.bool a0_6) := (qc BK125.out 6).trans rfl
     have yc26_7 : wc.cell? ⟨gb125, 7, none⟩ = some (.int .i64 a0_7) := (qc BK125.out 7).trans rfl
     have yc26_8 : wc.cell? ⟨gb125, 8, none⟩ = some (.bool a0_8) := (qc BK125.out 8).trans rfl
     have yf26_0 := qe BK125.out 0
     have yf26_1 := qe BK125.out 1
     have yf26_2 := qe BK125.out 2
     have yf26_3 := qe BK125.out 3
     have yf26_4 := qe BK125.out 4
     have yf26_5 := qe BK125.out 5
     have yf26_6 := qe BK125.out 6
     have yf26_7 := qe BK125.out 7
     have yf26_8 := qe BK125.out 8
     go_wp2_with (first | ((with_reducible refine qg (f := 98) rfl ?_); refine goesL_ (some 32) rfl rfl Tryz.func98 (by kernel_rfl) rfl #[.int .i64 a0_4] rfl Z61 ?_; (with_reducible refine (interchangeref1_IsDay.calls a0_4 true _ A19.out).mono ?_); rintro e w' ⟨rfl, ⟨nd, rfl⟩⟩; refine ⟨_, rfl, ?_⟩) | (go_at_call 35; (with_reducible refine (r8within.calls a0_5 a0_4 3652059 true _ A21.out).mono ?_); rintro e w' ⟨rfl, ⟨nd, rfl⟩⟩) | (go_at_call 35; (with_reducible refine (r8within.calls a0_7 0 100000000 false _ A23.out).mono ?_); rintro e w' ⟨rfl, ⟨nd, rfl⟩⟩))
     go_ret
     exact ⟨Z97, Z70⟩
end Go.Proofs.YtmmknokdgbgjgaaGreatDoor.XPartnerDaysMatchSpec
