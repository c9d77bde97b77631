-- Walks of PartnerDaysMatchSpec: written by xprint.py out of the translation (hand-proved functions among them). Lean checks it.
import Derived.Test.YtmmknokdgbgjgaaGreatDoorXPartnerDaysMatchSpecx0
import Derived.Test.YtmmknokdgbgjgaaGreatDoorXPartnerDaysMatchSpecx2
import Derived.Test.YtmmknokdgbgjgaaGreatDoorXPartnerDaysMatchSpecx11
namespace Go.Proofs.YtmmknokdgbgjgaaGreatDoor.XPartnerDaysMatchSpec
open Go.RowKit Go.Proofs.YtmmknokdgbgjgaaGreatDoorW.PrintWords Go.Proofs.YtmmknokdgbgjgaaGreatDoorW.PrintLast Go.Proofs.YtmmknokdgbgjgaaGreatDoorW.PrintMore
attribute [local go_sem] max2_int min2_int max_two min_two max_three min_three max_four min_four   -- for this text's walks alone
set_option linter.unusedVariables false
set_option linter.unusedSimpArgs false

/-! ### partner_ownFault: function 62 -/
mutual
def partner_ownFault.j0 : Nat → Bool → ByteArray → ByteArray → ByteArray → ByteArray → Int → Int → Bool → Int → Bool → Option (Int)
 | 0, _, _, _, _, _, _, _, _, _, _ => none
 | k + 1, x9, x219000, x219001, x219002, x219003, x219004, x219005, x219006, x219007, x219008 => if x9 = true then (some 5) else (if x219003.toList = ([] : List UInt8) then (partner_ownFault.j1 k false x219000 x219001 x219002 x219003 x219004 x219005 x219006 x219007 x219008) else (partner_ownFault.j1 k (x219002.toList == ([] : List UInt8)) x219000 x219001 x219002 x219003 x219004 x219005 x219006 x219007 x219008))
def partner_ownFault.j1 : Nat → Bool → ByteArray → ByteArray → ByteArray → ByteArray → Int → Int → Bool → Int → Bool → Option (Int)
 | 0, _, _, _, _, _, _, _, _, _, _ => none
 | k + 1, x20, x219000, x219001, x219002, x219003, x219004, x219005, x219006, x219007, x219008 => if x20 = true then (some 3) else ((kit_Outside.f x219004 1 3652059).bind fun t221 => (if t221 = true then (some 1) else ((kit_Outside.f x219005 x219004 3652059).bind fun t222 => (if t222 = true then (some 1) else ((kit_Outside.f x219007 0 100000000).bind fun t223 => (if t223 = true then (some 1) else (some 0)))))))
end
def partner_ownFault.f (k : Nat) (a0_0 : ByteArray) (a0_1 : ByteArray) (a0_2 : ByteArray) (a0_3 : ByteArray) (a0_4 : Int) (a0_5 : Int) (a0_6 : Bool) (a0_7 : Int) (a0_8 : Bool) : Option (Int) := if a0_0.toList = a0_1.toList then (some 12) else ((partner_isAny.f a0_2).bind fun t219 => (if t219 = true then ((partner_isAny.f a0_3).bind fun t220 => (partner_ownFault.j0 k (!t220) a0_0 a0_1 a0_2 a0_3 a0_4 a0_5 a0_6 a0_7 a0_8)) else (partner_ownFault.j0 k true a0_0 a0_1 a0_2 a0_3 a0_4 a0_5 a0_6 a0_7 a0_8)))
theorem partner_ownFault.mono_l : ∀ k, (∀ y0 y1 y2 y3 y4 y5 y6 y7 y8 y9, qv (partner_ownFault.j0 k y0 y1 y2 y3 y4 y5 y6 y7 y8 y9) (partner_ownFault.j0 (k + 1) y0 y1 y2 y3 y4 y5 y6 y7 y8 y9)) ∧ (∀ y0 y1 y2 y3 y4 y5 y6 y7 y8 y9, qv (partner_ownFault.j1 k y0 y1 y2 y3 y4 y5 y6 y7 y8 y9) (partner_ownFault.j1 (k + 1) y0 y1 y2 y3 y4 y5 y6 y7 y8 y9))
 | 0 => ⟨fun _ _ _ _ _ _ _ _ _ _ r h => by simp [partner_ownFault.j0] at h, fun _ _ _ _ _ _ _ _ _ _ r h => by simp [partner_ownFault.j1] at h⟩
 | k + 1 => by
  obtain ⟨ih0, ih1⟩ := partner_ownFault.mono_l k
  refine ⟨?_, ?_⟩
  all_goals
   intros
   first | unfold partner_ownFault.j0 | unfold partner_ownFault.j1
   repeat' first
   | (with_reducible apply ih0)
   | (with_reducible apply ih1)
   | (with_reducible exact qv.refl _)
   | (with_reducible exact qv.none _)
   | (with_reducible refine qv.ite ?_ ?_)
   | (with_reducible refine qv.bind ?_ (fun _ => ?_))
   | apply ih0
   | apply ih1
   | exact qv.none _
   | refine qv.ite ?_ ?_
   | refine qv.bind ?_ (fun _ => ?_)
theorem partner_ownFault.mono : ∀ a0 a1 a2 a3 a4 a5 a6 a7 a8 k, qv (partner_ownFault.f k a0 a1 a2 a3 a4 a5 a6 a7 a8) (partner_ownFault.f (k + 1) a0 a1 a2 a3 a4 a5 a6 a7 a8) := by
 intro a0 a1 a2 a3 a4 a5 a6 a7 a8 k
 obtain ⟨ih0, ih1⟩ := partner_ownFault.mono_l k
 unfold partner_ownFault.f
 repeat' first
   | (with_reducible apply ih0)
   | (with_reducible apply ih1)
   | (with_reducible exact qv.refl _)
   | (with_reducible exact qv.none _)
   | (with_reducible refine qv.ite ?_ ?_)
   | (with_reducible refine qv.bind ?_ (fun _ => ?_))
   | apply ih0
   | apply ih1
   | exact qv.none _
   | refine qv.ite ?_ ?_
   | refine qv.bind ?_ (fun _ => ?_)
set_option maxHeartbeats 8000000 in
set_option maxRecDepth 100000 in
theorem partner_ownFault.calls (k : Nat) (a0_0 : ByteArray) (a0_1 : ByteArray) (a0_2 : ByteArray) (a0_3 : ByteArray) (a0_4 : Int) (a0_5 : Int) (a0_6 : Bool) (a0_7 : Int) (a0_8 : Bool) (r : Int) (w : World) (h : partner_ownFault.f k a0_0 a0_1 a0_2 a0_3 a0_4 a0_5 a0_6 a0_7 a0_8 = some r) :
  Calls Tryz.prog 62 #[.agg #[.string a0_0, .string a0_1, .string a0_2, .string a0_3, .int .i64 a0_4, .int .i64 a0_5, .bool a0_6, .int .i64 a0_7, .bool a0_8]] w fun e w' => e = .returned (.int .i64 r) ∧ Below w.heap.size w w' := by
 have hu53 := Tryz.underlying53
 have HB := qb.mk (Below.refl w.heap.size w)
 have H : (if a0_0.toList = a0_1.toList then (some 12) else ((partner_isAny.f a0_2).bind fun t219 => (if t219 = true then ((partner_isAny.f a0_3).bind fun t220 => (partner_ownFault.j0 k (!t220) a0_0 a0_1 a0_2 a0_3 a0_4 a0_5 a0_6 a0_7 a0_8)) else (partner_ownFault.j0 k true a0_0 a0_1 a0_2 a0_3 a0_4 a0_5 a0_6 a0_7 a0_8)))) = some r := h
 clear h
 by_cases c2 : a0_0.toList = a0_1.toList
 case pos =>
  rw [if_pos c2] at H
  have c2b0 : (a0_0.toList == a0_1.toList) = true := beq_iff_eq.mpr c2
  have c2b1 : (a0_0.toList != a0_1.toList) = false := bne_eq_false_iff_eq.mpr c2
  clear c2
  obtain rfl := Option.some.inj H
  go_enter Tryz.func62, Tryz.ntmps62
  go_wp2_with (first | ((with_reducible refine qi (N := 1) rfl ?_); refine qh ?hg (N := 1) ?hd (cs := #[.string a0_0, .string a0_1, .string a0_2, .string a0_3, .int .i64 a0_4, .int .i64 a0_5, .bool a0_6, .int .i64 a0_7, .bool a0_8]) (t := 53) ?hr ?_; (case hd => rfl); (case hg => rfl); (case hr => exact qC); intro gb218 hg w3 hbox hb; have n0_ := qb.mk (qd qz hb); have n1_ := qb.mk (hbox); have n2_ := qb.mk ((Z66 : w.heap.size ≤ gb218)); have n3_ := n2_; clear HB; have HB := n0_; have BK218 := n1_; have GW218 := n2_; have GE218 := n3_; clear n0_ n1_ n2_ n3_; clear hb hbox hg; obtain ⟨yc4_0, yc4_1, yc4_2, yc4_3, yc4_4, yc4_5, yc4_6, yc4_7, yc4_8, yf4_0, yf4_1, yf4_2, yf4_3, yf4_4, yf4_5, yf4_6, yf4_7, yf4_8⟩ := bf9 BK218.out))
  go_ret
  exact ⟨Z97, Z82⟩
 rw [if_neg c2] at H
 have c2b0 : (a0_0.toList == a0_1.toList) = false := beq_eq_false_iff_ne.mpr c2
 have c2b1 : (a0_0.toList != a0_1.toList) = true := bne_iff_ne.mpr c2
 have HC5 := qb.mk H
 clear H
 go_enter Tryz.func62, Tryz.ntmps62
 go_upto_region 3 with (first | ((with_reducible refine qi (N := 1) rfl ?_); refine qh ?hg (N := 1) ?hd (cs := #[.string a0_0, .string a0_1, .string a0_2, .string a0_3, .int .i64 a0_4, .int .i64 a0_5, .bool a0_6, .int .i64 a0_7, .bool a0_8]) (t := 53) ?hr ?_; (case hd => rfl); (case hg => rfl); (case hr => exact qC); intro gb218 hg w6 hbox hb; have n0_ := qb.mk (qd qz hb); have n1_ := qb.mk (hbox); have n2_ := qb.mk ((Z66 : w.heap.size ≤ gb218)); have n3_ := n2_; clear HB; have HB := n0_; have BK218 := n1_; have GW218 := n2_; have GE218 := n3_; clear n0_ n1_ n2_ n3_; clear hb hbox hg; obtain ⟨yc7_0, yc7_1, yc7_2, yc7_3, yc7_4, yc7_5, yc7_6, yc7_7, yc7_8, yf7_0, yf7_1, yf7_2, yf7_3, yf7_4, yf7_5, yf7_6, yf7_7, yf7_8⟩ := bf9 BK218.out))
 (try simp only [Act.put, sT, s0, s1])
 go_cut [9] (fun v9 wc => ∃ (kq : Nat) (x9_4 : Bool), v9 = .bool x9_4 ∧ qb (partner_ownFault.j0 kq x9_4 a0_0 a0_1 a0_2 a0_3 a0_4 a0_5 a0_6 a0_7 a0_8 = some r) ∧ qb (kq ≤ k) ∧ qb (wc.heap[gb218]? = some (.cells #[.string a0_0, .string a0_1, .string a0_2, .string a0_3, .int .i64 a0_4, .int .i64 a0_5, .bool a0_6, .int .i64 a0_7, .bool a0_8] 53 (0, 0))) ∧ qb (Below w.heap.size w wc))
 case first =>
  have H := HC5.out
  clear HC5
  replace H := Option.bind_eq_some_iff.mp H
  obtain ⟨t219, A80, H⟩ := H
  replace H : (if t219 = true then ((partner_isAny.f a0_3).bind fun t220 => (partner_ownFault.j0 k (!t220) a0_0 a0_1 a0_2 a0_3 a0_4 a0_5 a0_6 a0_7 a0_8)) else (partner_ownFault.j0 k true a0_0 a0_1 a0_2 a0_3 a0_4 a0_5 a0_6 a0_7 a0_8)) = some r := H
  have A8 := qb.mk A80
  clear A80
  by_cases c9 : t219 = true
  case neg =>
   replace c9 := Bool.eq_false_iff.mpr c9
   subst c9
   have H1 : (partner_ownFault.j0 k true a0_0 a0_1 a0_2 a0_3 a0_4 a0_5 a0_6 a0_7 a0_8) = some r := by rw [if_neg (show ¬ (false = true) by decide)] at H; exact H
   clear H
   have H := H1
   clear H1
   have H' := qb.mk H
   clear H
   obtain ⟨yc15_0, yc15_1, yc15_2, yc15_3, yc15_4, yc15_5, yc15_6, yc15_7, yc15_8, yf15_0, yf15_1, yf15_2, yf15_3, yf15_4, yf15_5, yf15_6, yf15_7, yf15_8⟩ := bf9 BK218.out
   go_wp2_with (first | ((with_reducible refine qg (f := 101) rfl ?_); refine goesL_ (some 12) rfl rfl Tryz.func101 (by kernel_rfl) rfl #[.string a0_2] rfl Z61 ?_; (with_reducible refine (partner_isAny.calls a0_2 false _ A8.out).mono ?_); rintro e w16 ⟨rfl, hb⟩; refine ⟨_, rfl, ?_⟩; have n0_ := bb BK218 hb; have n1_ := qb.mk (qd Z82 hb); clear BK218 HB; have BK218 := n0_; have HB := n1_; clear n0_ n1_; (try clear hb); (try clear hb2); (try clear hk); (try clear hi)))
   go_meet
   case rel => exact ⟨_, (true), qD, H', ⟨Z154⟩, ⟨Z113⟩, ⟨Z82⟩⟩
  subst c9
  have H1 : ((partner_isAny.f a0_3).bind fun t220 => (partner_ownFault.j0 k (!t220) a0_0 a0_1 a0_2 a0_3 a0_4 a0_5 a0_6 a0_7 a0_8)) = some r := by rw [if_pos rfl] at H; exact H
  clear H
  have H := H1
  clear H1
  replace H := Option.bind_eq_some_iff.mp H
  obtain ⟨t220, A100, H⟩ := H
  replace H : (partner_ownFault.j0 k (!t220) a0_0 a0_1 a0_2 a0_3 a0_4 a0_5 a0_6 a0_7 a0_8) = some r := H
  have A10 := qb.mk A100
  clear A100
  have H' := qb.mk H
  clear H
  obtain ⟨yc11_0, yc11_1, yc11_2, yc11_3, yc11_4, yc11_5, yc11_6, yc11_7, yc11_8, yf11_0, yf11_1, yf11_2, yf11_3, yf11_4, yf11_5, yf11_6, yf11_7, yf11_8⟩ := bf9 BK218.out
  go_wp2_with (first | ((with_reducible refine qg (f := 101) rfl ?_); refine goesL_ (some 12) rfl rfl Tryz.func101 (by kernel_rfl) rfl #[.string a0_2] rfl Z61 ?_; (with_reducible refine (partner_isAny.calls a0_2 true _ A8.out).mono ?_); rintro e w12 ⟨rfl, hb⟩; refine ⟨_, rfl, ?_⟩; have n0_ := bb BK218 hb; have n1_ := qb.mk (qd Z82 hb); clear BK218 HB; have BK218 := n0_; have HB := n1_; clear n0_ n1_; (try clear hb); (try clear hb2); (try clear hk); (try clear hi); obtain ⟨yc13_0, yc13_1, yc13_2, yc13_3, yc13_4, yc13_5, yc13_6, yc13_7, yc13_8, yf13_0, yf13_1, yf13_2, yf13_3, yf13_4, yf13_5, yf13_6, yf13_7, yf13_8⟩ := bf9 BK218.out) | (go_at_call 101; (with_reducible refine (partner_isAny.calls a0_3 t220 _ A10.out).mono ?_); rintro e w14 ⟨rfl, hb⟩; have n0_ := bb BK218 hb; have n1_ := qb.mk (qd Z82 hb); clear BK218 HB; have BK218 := n0_; have HB := n1_; clear n0_ n1_; (try clear hb); (try clear hb2); (try clear hk); (try clear hi)))
  go_meet
  case rel => exact ⟨_, (!t220), qD, H', ⟨Z154⟩, ⟨Z113⟩, ⟨Z82⟩⟩
 case rest =>
  clear HC5
  try clear c1; try clear c2; try clear c2b0; try clear c2b1; try clear p2; try clear c6; try clear c9; try clear c10; try clear yc11_0 yc11_1 yc11_2 yc11_3 yc11_4 yc11_5 yc11_6 yc11_7 yc11_8 yf11_0 yf11_1 yf11_2 yf11_3 yf11_4 yf11_5 yf11_6 yf11_7 yf11_8; try clear yc13_0 yc13_1 yc13_2 yc13_3 yc13_4 yc13_5 yc13_6 yc13_7 yc13_8 yf13_0 yf13_1 yf13_2 yf13_3 yf13_4 yf13_5 yf13_6 yf13_7 yf13_8; try clear yc15_0 yc15_1 yc15_2 yc15_3 yc15_4 yc15_5 yc15_6 yc15_7 yc15_8 yf15_0 yf15_1 yf15_2 yf15_3 yf15_4 yf15_5 yf15_6 yf15_7 yf15_8; try clear yc4_0 yc4_1 yc4_2 yc4_3 yc4_4 yc4_5 yc4_6 yc4_7 yc4_8 yf4_0 yf4_1 yf4_2 yf4_3 yf4_4 yf4_5 yf4_6 yf4_7 yf4_8; try clear yc7_0 yc7_1 yc7_2 yc7_3 yc7_4 yc7_5 yc7_6 yc7_7 yc7_8 yf7_0 yf7_1 yf7_2 yf7_3 yf7_4 yf7_5 yf7_6 yf7_7 yf7_8
  obtain ⟨kq, x9_4, rfl, HA, HJ4, BK218, HB⟩ := hcut
  cases kq with
  | zero => exact absurd HA.out (by simp [partner_ownFault.j0])
  | succ kj4 =>
   have H := HA.out
   clear HA
   simp only [partner_ownFault.j0] at H
   by_cases c17 : x9_4 = true
   case pos =>
    subst c17
    have H1 : (some 5) = some r := by rw [if_pos rfl] at H; exact H
    clear H
    have H := H1
    clear H1
    obtain rfl := Option.some.inj H
    go_wp2
    go_ret
    exact ⟨Z97, Z82⟩
   replace c17 := Bool.eq_false_iff.mpr c17
   subst c17
   have H1 : (if a0_3.toList = ([] : List UInt8) then (partner_ownFault.j1 kj4 false a0_0 a0_1 a0_2 a0_3 a0_4 a0_5 a0_6 a0_7 a0_8) else (partner_ownFault.j1 kj4 (a0_2.toList == ([] : List UInt8)) a0_0 a0_1 a0_2 a0_3 a0_4 a0_5 a0_6 a0_7 a0_8)) = some r := by rw [if_neg (show ¬ (false = true) by decide)] at H; exact H
   clear H
   have H := H1
   clear H1
   have HC18 := qb.mk H
   clear H
   go_upto_region 5 with (fail)
   go_cut [20] (fun v20 wc => ∃ (kq : Nat) (x20_17 : Bool), v20 = .bool x20_17 ∧ qb (partner_ownFault.j1 kq x20_17 a0_0 a0_1 a0_2 a0_3 a0_4 a0_5 a0_6 a0_7 a0_8 = some r) ∧ qb (kq ≤ kj4) ∧ qb (wc.heap[gb218]? = some (.cells #[.string a0_0, .string a0_1, .string a0_2, .string a0_3, .int .i64 a0_4, .int .i64 a0_5, .bool a0_6, .int .i64 a0_7, .bool a0_8] 53 (0, 0))) ∧ qb (Below w.heap.size w wc))
   case first =>
    have H := HC18.out
    clear HC18
    by_cases c19 : a0_3.toList = ([] : List UInt8)
    case pos =>
     rw [if_pos c19] at H
     have c19b0 : (a0_3.toList == ([] : List UInt8)) = true := beq_iff_eq.mpr c19
     have c19b1 : (a0_3.toList != ([] : List UInt8)) = false := bne_eq_false_iff_eq.mpr c19
     clear c19
     (first | rw [c19b0] | (simp only [qr, qt]; rw [c19b0]) | skip)
     have H' := qb.mk H
     clear H
     have yc20_0 : wc.cell? ⟨gb218, 0, none⟩ = some (.string a0_0) := (qc BK218.out 0).trans rfl
     have yc20_1 : wc.cell? ⟨gb218, 1, none⟩ = some (.string a0_1) := (qc BK218.out 1).trans rfl
     have yc20_2 : wc.cell? ⟨gb218, 2, none⟩ = some (.string a0_2) := (qc BK218.out 2).trans rfl
     have yc20_3 : wc.cell? ⟨gb218, 3, none⟩ = some (.string a0_3) := (qc BK218.out 3).trans rfl
     have yc20_4 : wc.cell? ⟨gb218, 4, none⟩ = some (.int .i64 a0_4) := (qc BK218.out 4).trans rfl
     have yc20_5 : wc.cell? ⟨gb218, 5, none⟩ = some (.int .i64 a0_5) := (qc BK218.out 5).trans rfl
     have yc20_6 : wc.cell? ⟨gb218, 6, none⟩ = some (.bool a0_6) := (qc BK218.out 6).trans rfl
     have yc20_7 : wc.cell? ⟨gb218, 7, none⟩ = some (.int .i64 a0_7) := (qc BK218.out 7).trans rfl
     have yc20_8 : wc.cell? ⟨gb218, 8, none⟩ = some (.bool a0_8) := (qc BK218.out 8).trans rfl
     have yf20_0 := qe BK218.out 0
     have yf20_1 := qe BK218.out 1
     have yf20_2 := qe BK218.out 2
     have yf20_3 := qe BK218.out 3
     have yf20_4 := qe BK218.out 4
     have yf20_5 := qe BK218.out 5
     have yf20_6 := qe BK218.out 6
     have yf20_7 := qe BK218.out 7
     have yf20_8 := qe BK218.out 8
     go_wp2
     go_meet
     case rel => exact ⟨_, (false), qD, H', ⟨by have := HJ4.out; first | omega | exact Nat.le_refl _⟩, ⟨Z113⟩, ⟨Z82⟩⟩
    rw [if_neg c19] at H
    have c19b0 : (a0_3.toList == ([] : List UInt8)) = false := beq_eq_false_iff_ne.mpr c19
    have c19b1 : (a0_3.toList != ([] : List UInt8)) = true := bne_iff_ne.mpr c19
    (first | rw [c19b0] | (simp only [qr, qt]; rw [c19b0]) | skip)
    have H' := qb.mk H
    clear H
    have yc21_0 : wc.cell? ⟨gb218, 0, none⟩ = some (.string a0_0) := (qc BK218.out 0).trans rfl
    have yc21_1 : wc.cell? ⟨gb218, 1, none⟩ = some (.string a0_1) := (qc BK218.out 1).trans rfl
    have yc21_2 : wc.cell? ⟨gb218, 2, none⟩ = some (.string a0_2) := (qc BK218.out 2).trans rfl
    have yc21_3 : wc.cell? ⟨gb218, 3, none⟩ = some (.string a0_3) := (qc BK218.out 3).trans rfl
    have yc21_4 : wc.cell? ⟨gb218, 4, none⟩ = some (.int .i64 a0_4) := (qc BK218.out 4).trans rfl
    have yc21_5 : wc.cell? ⟨gb218, 5, none⟩ = some (.int .i64 a0_5) := (qc BK218.out 5).trans rfl
    have yc21_6 : wc.cell? ⟨gb218, 6, none⟩ = some (.bool a0_6) := (qc BK218.out 6).trans rfl
    have yc21_7 : wc.cell? ⟨gb218, 7, none⟩ = some (.int .i64 a0_7) := (qc BK218.out 7).trans rfl
    have yc21_8 : wc.cell? ⟨gb218, 8, none⟩ = some (.bool a0_8) := (qc BK218.out 8).trans rfl
    have yf21_0 := qe BK218.out 0
    have yf21_1 := qe BK218.out 1
    have yf21_2 := qe BK218.out 2
    have yf21_3 := qe BK218.out 3
    have yf21_4 := qe BK218.out 4
    have yf21_5 := qe BK218.out 5
    have yf21_6 := qe BK218.out 6
    have yf21_7 := qe BK218.out 7
    have yf21_8 := qe BK218.out 8
    go_wp2
    go_meet
    case rel => exact ⟨_, ((a0_2.toList == ([] : List UInt8))), qD, H', ⟨by have := HJ4.out; first | omega | exact Nat.le_refl _⟩, ⟨Z113⟩, ⟨Z82⟩⟩
   case rest =>
    clear HC18
    try clear c1; try clear c2; try clear c2b0; try clear c2b1; try clear p2 p2; try clear c6; try clear c9; try clear c10; try clear c17; try clear c19; try clear c19b0; try clear c19b1; try clear yc11_0 yc11_1 yc11_2 yc11_3 yc11_4 yc11_5 yc11_6 yc11_7 yc11_8 yf11_0 yf11_1 yf11_2 yf11_3 yf11_4 yf11_5 yf11_6 yf11_7 yf11_8; try clear yc13_0 yc13_1 yc13_2 yc13_3 yc13_4 yc13_5 yc13_6 yc13_7 yc13_8 yf13_0 yf13_1 yf13_2 yf13_3 yf13_4 yf13_5 yf13_6 yf13_7 yf13_8; try clear yc15_0 yc15_1 yc15_2 yc15_3 yc15_4 yc15_5 yc15_6 yc15_7 yc15_8 yf15_0 yf15_1 yf15_2 yf15_3 yf15_4 yf15_5 yf15_6 yf15_7 yf15_8; try clear yc20_0 yc20_1 yc20_2 yc20_3 yc20_4 yc20_5 yc20_6 yc20_7 yc20_8 yf20_0 yf20_1 yf20_2 yf20_3 yf20_4 yf20_5 yf20_6 yf20_7 yf20_8; try clear yc21_0 yc21_1 yc21_2 yc21_3 yc21_4 yc21_5 yc21_6 yc21_7 yc21_8 yf21_0 yf21_1 yf21_2 yf21_3 yf21_4 yf21_5 yf21_6 yf21_7 yf21_8; try clear yc4_0 yc4_1 yc4_2 yc4_3 yc4_4 yc4_5 yc4_6 yc4_7 yc4_8 yf4_0 yf4_1 yf4_2 yf4_3 yf4_4 yf4_5 yf4_6 yf4_7 yf4_8; try clear yc7_0 yc7_1 yc7_2 yc7_3 yc7_4 yc7_5 yc7_6 yc7_7 yc7_8 yf7_0 yf7_1 yf7_2 yf7_3 yf7_4 yf7_5 yf7_6 yf7_7 yf7_8
    obtain ⟨kq, x20_17, rfl, HA, HJ17, BK218, HB⟩ := hcut
    cases kq with
    | zero => exact absurd HA.out (by simp [partner_ownFault.j1])
    | succ kj17 =>
     have H := HA.out
     clear HA
     simp only [partner_ownFault.j1] at H
     by_cases c22 : x20_17 = true
     case pos =>
      subst c22
      have H1 : (some 3) = some r := by rw [if_pos rfl] at H; exact H
      clear H
      have H := H1
      clear H1
      obtain rfl := Option.some.inj H
      go_wp2
      go_ret
      exact ⟨Z97, Z82⟩
     replace c22 := Bool.eq_false_iff.mpr c22
     subst c22
     have H1 : ((kit_Outside.f a0_4 1 3652059).bind fun t221 => (if t221 = true then (some 1) else ((kit_Outside.f a0_5 a0_4 3652059).bind fun t222 => (if t222 = true then (some 1) else ((kit_Outside.f a0_7 0 100000000).bind fun t223 => (if t223 = true then (some 1) else (some 0))))))) = some r := by rw [if_neg (show ¬ (false = true) by decide)] at H; exact H
     clear H
     have H := H1
     clear H1
     replace H := Option.bind_eq_some_iff.mp H
     obtain ⟨t221, A230, H⟩ := H
     replace H : (if t221 = true then (some 1) else ((kit_Outside.f a0_5 a0_4 3652059).bind fun t222 => (if t222 = true then (some 1) else ((kit_Outside.f a0_7 0 100000000).bind fun t223 => (if t223 = true then (some 1) else (some 0)))))) = some r := H
     have A23 := qb.mk A230
     clear A230
     by_cases c24 : t221 = true
     case pos =>
      subst c24
      have H1 : (some 1) = some r := by rw [if_pos rfl] at H; exact H
      clear H
      have H := H1
      clear H1
      obtain rfl := Option.some.inj H
      have yc25_0 : wc.cell? ⟨gb218, 0, none⟩ = some (.string a0_0) := (qc BK218.out 0).trans rfl
      have yc25_1 : wc.cell? ⟨gb218, 1, none⟩ = some (.string a0_1) := (qc BK218.out 1).trans rfl
      have yc25_2 : wc.cell? ⟨gb218, 2, none⟩ = some (.string a0_2) := (qc BK218.out 2).trans rfl
      have yc25_3 : wc.cell? ⟨gb218, 3, none⟩ = some (.string a0_3) := (qc BK218.out 3).trans rfl
      have yc25_4 : wc.cell? ⟨gb218, 4, none⟩ = some (.int .i64 a0_4) := (qc BK218.out 4).trans rfl
      have yc25_5 : wc.cell? ⟨gb218, 5, none⟩ = some (.int .i64 a0_5) := (qc BK218.out 5).trans rfl
      have yc25_6 : wc.cell? ⟨gb218, 6, none⟩ = some (.bool a0_6) := (qc BK218.out 6).trans rfl
      have yc25_7 : wc.cell? ⟨gb218, 7, none⟩ = some (.int .i64 a0_7) := (qc BK218.out 7).trans rfl
      have yc25_8 : wc.cell? ⟨gb218, 8, none⟩ = some (.bool a0_8) := (qc BK218.out 8).trans rfl
      have yf25_0 := qe BK218.out 0
      have yf25_1 := qe BK218.out 1
      have yf25_2 := qe BK218.out 2
      have yf25_3 := qe BK218.out 3
      have yf25_4 := qe BK218.out 4
      have yf25_5 := qe BK218.out 5
      have yf25_6 := qe BK218.out 6
      have yf25_7 := qe BK218.out 7
      have yf25_8 := qe BK218.out 8
      go_wp2_with (first | ((with_reducible refine qg (f := 75) rfl ?_); refine goesL_ (some 32) rfl rfl Tryz.func75 (by kernel_rfl) rfl #[.int .i64 a0_4, .int .i64 1, .int .i64 3652059] rfl Z61 ?_; (with_reducible refine (kit_Outside.calls a0_4 1 3652059 true _ A23.out).mono ?_); rintro e w' ⟨rfl, ⟨nd, rfl⟩⟩; refine ⟨_, rfl, ?_⟩))
      go_ret
      exact ⟨Z97, Z82⟩
     replace c24 := Bool.eq_false_iff.mpr c24
     subst c24
     have H1 : ((kit_Outside.f a0_5 a0_4 3652059).bind fun t222 => (if t222 = true then (some 1) else ((kit_Outside.f a0_7 0 100000000).bind fun t223 => (if t223 = true then (some 1) else (some 0))))) = some r := by rw [if_neg (show ¬ (false = true) by decide)] at H; exact H
     clear H
     have H := H1
     clear H1
     replace H := Option.bind_eq_some_iff.mp H
     obtain ⟨t222, A260, H⟩ := H
     replace H : (if t222 = true then (some 1) else ((kit_Outside.f a0_7 0 100000000).bind fun t223 => (if t223 = true then (some 1) else (some 0)))) = some r := H
     have A26 := qb.mk A260
     clear A260
     by_cases c27 : t222 = true
     case pos =>
      subst c27
      have H1 : (some 1) = some r := by rw [if_pos rfl] at H; exact H
      clear H
      have H := H1
      clear H1
      obtain rfl := Option.some.inj H
      have yc28_0 : wc.cell? ⟨gb218, 0, none⟩ = some (.string a0_0) := (qc BK218.out 0).trans rfl
      have yc28_1 : wc.cell? ⟨gb218, 1, none⟩ = some (.string a0_1) := (qc BK218.out 1).trans rfl
      have yc28_2 : wc.cell? ⟨gb218, 2, none⟩ = some (.string a0_2) := (qc BK218.out 2).trans rfl
      have yc28_3 : wc.cell? ⟨gb218, 3, none⟩ = some (.string a0_3) := (qc BK218.out 3).trans rfl
      have yc28_4 : wc.cell? ⟨gb218, 4, none⟩ = some (.int .i64 a0_4) := (qc BK218.out 4).trans rfl
      have yc28_5 : wc.cell? ⟨gb218, 5, none⟩ = some (.int .i64 a0_5) := (qc BK218.out 5).trans rfl
      have yc28_6 : wc.cell? ⟨gb218, 6, none⟩ = some (.bool a0_6) := (qc BK218.out 6).trans rfl
      have yc28_7 : wc.cell? ⟨gb218, 7, none⟩ = some (.int .i64 a0_7) := (qc BK218.out 7).trans rfl
      have yc28_8 : wc.cell? ⟨gb218, 8, none⟩ = some (.bool a0_8) := (qc BK218.out 8).trans rfl
      have yf28_0 := qe BK218.out 0
      have yf28_1 := qe BK218.out 1
      have yf28_2 := qe BK218.out 2
      have yf28_3 := qe BK218.out 3
      have yf28_4 := qe BK218.out 4
      have yf28_5 := qe BK218.out 5
      have yf28_6 := qe BK218.out 6
      have yf28_7 := qe BK218.out 7
      have yf28_8 := qe BK218.out 8
      go_wp2_with (first | ((with_reducible refine qg (f := 75) rfl ?_); refine goesL_ (some 32) rfl rfl Tryz.func75 (by kernel_rfl) rfl #[.int .i64 a0_4, .int .i64 1, .int .i64 3652059] rfl Z61 ?_; (with_reducible refine (kit_Outside.calls a0_4 1 3652059 false _ A23.out).mono ?_); rintro e w' ⟨rfl, ⟨nd, rfl⟩⟩; refine ⟨_, rfl, ?_⟩) | (go_at_call 75; (with_reducible refine (kit_Outside.calls a0_5 a0_4 3652059 true _ A26.out).mono ?_); rintro e w' ⟨rfl, ⟨nd, rfl⟩⟩))
      go_ret
      exact ⟨Z97, Z82⟩
     replace c27 := Bool.eq_false_iff.mpr c27
     subst c27
     have H1 : ((kit_Outside.f a0_7 0 100000000).bind fun t223 => (if t223 = true then (some 1) else (some 0))) = some r := by rw [if_neg (show ¬ (false = true) by decide)] at H; exact H
     clear H
     have H := H1
     clear H1
     replace H := Option.bind_eq_some_iff.mp H
     obtain ⟨t223, A290, H⟩ := H
     replace H : (if t223 = true then (some 1) else (some 0)) = some r := H
     have A29 := qb.mk A290
     clear A290
     by_cases c30 : t223 = true
     case pos =>
      subst c30
      have H1 : (some 1) = some r := by rw [if_pos rfl] at H; exact H
      clear H
      have H := H1
      clear H1
      obtain rfl := Option.some.inj H
      have yc31_0 : wc.cell? ⟨gb218, 0, none⟩ = some (.string a0_0) := (qc BK218.out 0).trans rfl
      have yc31_1 : wc.cell? ⟨gb218, 1, none⟩ = some (.string a0_1) := (qc BK218.out 1).trans rfl
      have yc31_2 : wc.cell? ⟨gb218, 2, none⟩ = some (.string a0_2) := (qc BK218.out 2).trans rfl
      have yc31_3 : wc.cell? ⟨gb218, 3, none⟩ = some (.string a0_3) := (qc BK218.out 3).trans rfl
      have yc31_4 : wc.cell? ⟨gb218, 4, none⟩ = some (.int .i64 a0_4) := (qc BK218.out 4).trans rfl
      have yc31_5 : wc.cell? ⟨gb218, 5, none⟩ = some (.int .i64 a0_5) := (qc BK218.out 5).trans rfl
      have yc31_6 : wc.cell? ⟨gb218, 6, none⟩ = some (.bool a0_6) := (qc BK218.out 6).trans rfl
      have yc31_7 : wc.cell? ⟨gb218, 7, none⟩ = some (.int .i64 a0_7) := (qc BK218.out 7).trans rfl
      have yc31_8 : wc.cell? ⟨gb218, 8, none⟩ = some (.bool a0_8) := (qc BK218.out 8).trans rfl
      have yf31_0 := qe BK218.out 0
      have yf31_1 := qe BK218.out 1
      have yf31_2 := qe BK218.out 2
      have yf31_3 := qe BK218.out 3
      have yf31_4 := qe BK218.out 4
      have yf31_5 := qe BK218.out 5
      have yf31_6 := qe BK218.out 6
      have yf31_7 := qe BK218.out 7
      have yf31_8 := qe BK218.out 8
      go_wp2_with (first | ((with_reducible refine qg (f := 75) rfl ?_); refine goesL_ (some 32) rfl rfl Tryz.func75 (by kernel_rfl) rfl #[.int .i64 a0_4, .int .i64 1, .int .i64 3652059] rfl Z61 ?_; (with_reducible refine (kit_Outside.calls a0_4 1 3652059 false _ A23.out).mono ?_); rintro e w' ⟨rfl, ⟨nd, rfl⟩⟩; refine ⟨_, rfl, ?_⟩) | (go_at_call 75; (with_reducible refine (kit_Outside.calls a0_5 a0_4 3652059 false _ A26.out).mono ?_); rintro e w' ⟨rfl, ⟨nd, rfl⟩⟩) | (go_at_call 75; (with_reducible refine (kit_Outside.calls a0_7 0 100000000 true _ A29.out).mono ?_); rintro e w' ⟨rfl, ⟨nd, rfl⟩⟩))
      go_ret
      exact ⟨Z97, Z82⟩
     replace c30 := Bool.eq_false_iff.mpr c30
     subst c30
     have H1 : (some 0) = some r := by rw [if_neg (show ¬ (false = true) by decide)] at H; exact H
     clear H
     have H := H1
     clear H1
     obtain rfl := Option.some.inj H
     have yc32_0 : wc.cell? ⟨gb218, 0, none⟩ = some (.string a0_0) := (qc BK218.out 0).trans rfl
     have yc32_1 : wc.cell? ⟨gb218, 1, none⟩ = some (.string a0_1) := (qc BK218.out 1).trans rfl
     have yc32_2 : wc.cell? ⟨gb218, 2, none⟩ = some (.string a0_2) := (qc BK218.out 2).trans rfl
     have yc32_3 : wc.cell? ⟨gb218, 3, none⟩ = some (.string a0_3) := (qc BK218.out 3).trans rfl
     have yc32_4 : wc.cell? ⟨gb218, 4, none⟩ = some (.int .i64 a0_4) := (qc BK218.out 4).trans rfl
     have yc32_5 : wc.cell? ⟨gb218, 5, none⟩ = some (.int .i64 a0_5) := (qc BK218.out 5).trans rfl
     have yc32_6 : wc.cell? ⟨gb218, 6, none⟩ = some (.bool a0_6) := (qc BK218.out 6).trans rfl
     have yc32_7 : wc.cell? ⟨gb218, 7, none⟩ = some (.int .i64 a0_7) := (qc BK218.out 7).trans rfl
     have yc32_8 : wc.cell? ⟨gb218, 8, none⟩ = some (.bool a0_8) := (qc BK218.out 8).trans rfl
     have yf32_0 := qe BK218.out 0
     have yf32_1 := qe BK218.out 1
     have yf32_2 := qe BK218.out 2
     have yf32_3 := qe BK218.out 3
     have yf32_4 := qe BK218.out 4
     have yf32_5 := qe BK218.out 5
     have yf32_6 := qe BK218.out 6
     have yf32_7 := qe BK218.out 7
     have yf32_8 := qe BK218.out 8
     go_wp2_with (first | ((with_reducible refine qg (f := 75) rfl ?_); refine goesL_ (some 32) rfl rfl Tryz.func75 (by kernel_rfl) rfl #[.int .i64 a0_4, .int .i64 1, .int .i64 3652059] rfl Z61 ?_; (with_reducible refine (kit_Outside.calls a0_4 1 3652059 false _ A23.out).mono ?_); rintro e w' ⟨rfl, ⟨nd, rfl⟩⟩; refine ⟨_, rfl, ?_⟩) | (go_at_call 75; (with_reducible refine (kit_Outside.calls a0_5 a0_4 3652059 false _ A26.out).mono ?_); rintro e w' ⟨rfl, ⟨nd, rfl⟩⟩) | (go_at_call 75; (with_reducible refine (kit_Outside.calls a0_7 0 100000000 false _ A29.out).mono ?_); rintro e w' ⟨rfl, ⟨nd, rfl⟩⟩))
     go_ret
     exact ⟨Z97, Z82⟩

end Go.Proofs.YtmmknokdgbgjgaaGreatDoor.XPartnerDaysMatchSpec
