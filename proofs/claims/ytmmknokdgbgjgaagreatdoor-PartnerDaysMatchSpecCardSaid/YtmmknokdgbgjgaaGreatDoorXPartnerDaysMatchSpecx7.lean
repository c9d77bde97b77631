-- Walks of PartnerDaysMatchSpec: written by xprint.py out of the translation (hand-proved functions among them). Lean checks it.
import Derived.Test.YtmmknokdgbgjgaaGreatDoorXPartnerDaysMatchSpecx0
import Derived.Test.YtmmknokdgbgjgaaGreatDoorXPartnerDaysMatchSpecx2
namespace Go.Proofs.YtmmknokdgbgjgaaGreatDoor.XPartnerDaysMatchSpec
open Go.RowKit Go.Proofs.YtmmknokdgbgjgaaGreatDoorW.PrintWords Go.Proofs.YtmmknokdgbgjgaaGreatDoorW.PrintLast Go.Proofs.YtmmknokdgbgjgaaGreatDoorW.PrintMore
attribute [local go_sem] max2_int min2_int max_two min_two max_three min_three max_four min_four   -- for this text's walks alone
set_option linter.unusedVariables false
set_option linter.unusedSimpArgs false

/-! ### r8applies: function 50 -/
def r8applies.f (a0_0 : ByteArray) (a0_1 : ByteArray) (a0_2 : ByteArray) (a0_3 : ByteArray) (a0_4 : Int) (a0_5 : Int) (a0_6 : Bool) (a0_7 : Int) (a0_8 : Bool) (a1_0 : ByteArray) (a1_1 : ByteArray) (a1_2 : ByteArray) (a1_3 : ByteArray) (a1_4 : Int) (a1_5 : Bool) : Option (Bool) := if a0_0.toList = a1_0.toList then (if a0_1.toList = a1_1.toList then (if (a0_6 == a1_5) = true then (if a0_2.toList = ([] : List UInt8) then (if a0_3.toList = ([] : List UInt8) then ((r8within.f a1_4 a0_4 a0_5).bind fun t152 => (some t152)) else (if a0_3.toList = a1_3.toList then ((r8within.f a1_4 a0_4 a0_5).bind fun t153 => (some t153)) else (some false))) else (if a0_2.toList = a1_2.toList then (if a0_3.toList = ([] : List UInt8) then ((r8within.f a1_4 a0_4 a0_5).bind fun t154 => (some t154)) else (if a0_3.toList = a1_3.toList then ((r8within.f a1_4 a0_4 a0_5).bind fun t155 => (some t155)) else (some false))) else (some false))) else (some false)) else (some false)) else (some false)
set_option maxHeartbeats 8000000 in
set_option maxRecDepth 100000 in
theorem r8applies.calls (a0_0 : ByteArray) (a0_1 : ByteArray) (a0_2 : ByteArray) (a0_3 : ByteArray) (a0_4 : Int) (a0_5 : Int) (a0_6 : Bool) (a0_7 : Int) (a0_8 : Bool) (a1_0 : ByteArray) (a1_1 : ByteArray) (a1_2 : ByteArray) (a1_3 : ByteArray) (a1_4 : Int) (a1_5 : Bool) (r : Bool) (w : World) (h : r8applies.f a0_0 a0_1 a0_2 a0_3 a0_4 a0_5 a0_6 a0_7 a0_8 a1_0 a1_1 a1_2 a1_3 a1_4 a1_5 = some r) :
  Calls Tryz.prog 50 #[.agg #[.string a0_0, .string a0_1, .string a0_2, .string a0_3, .int .i64 a0_4, .int .i64 a0_5, .bool a0_6, .int .i64 a0_7, .bool a0_8], .agg #[.string a1_0, .string a1_1, .string a1_2, .string a1_3, .int .i64 a1_4, .bool a1_5]] w fun e w' => e = .returned (.bool r) ∧ Below w.heap.size w w' := by
 have hu53 := Tryz.underlying53
 have hu25 := Tryz.underlying25
 have HB := qb.mk (Below.refl w.heap.size w)
 have H : (if a0_0.toList = a1_0.toList then (if a0_1.toList = a1_1.toList then (if (a0_6 == a1_5) = true then (if a0_2.toList = ([] : List UInt8) then (if a0_3.toList = ([] : List UInt8) then ((r8within.f a1_4 a0_4 a0_5).bind fun t152 => (some t152)) else (if a0_3.toList = a1_3.toList then ((r8within.f a1_4 a0_4 a0_5).bind fun t153 => (some t153)) else (some false))) else (if a0_2.toList = a1_2.toList then (if a0_3.toList = ([] : List UInt8) then ((r8within.f a1_4 a0_4 a0_5).bind fun t154 => (some t154)) else (if a0_3.toList = a1_3.toList then ((r8within.f a1_4 a0_4 a0_5).bind fun t155 => (some t155)) else (some false))) else (some false))) else (some false)) else (some false)) else (some false)) = some r := h
 clear h
 by_cases c3 : a0_0.toList = a1_0.toList
 case neg =>
  rw [if_neg c3] at H
  have c3b0 : (a0_0.toList == a1_0.toList) = false := beq_eq_false_iff_ne.mpr c3
  have c3b1 : (a0_0.toList != a1_0.toList) = true := bne_iff_ne.mpr c3
  obtain rfl := Option.some.inj H
  go_enter Tryz.func50, Tryz.ntmps50
  go_wp2_with (first | ((with_reducible refine qi (N := 2) rfl ?_); refine qh ?hg (N := 2) ?hd (cs := #[.string a0_0, .string a0_1, .string a0_2, .string a0_3, .int .i64 a0_4, .int .i64 a0_5, .bool a0_6, .int .i64 a0_7, .bool a0_8]) (t := 53) ?hr ?_; (case hd => rfl); (case hg => rfl); (case hr => exact qC); intro gb150 hg w61 hbox hb; have n0_ := qb.mk (qd qz hb); have n1_ := qb.mk (hbox); have n2_ := qb.mk ((Z66 : w.heap.size ≤ gb150)); have n3_ := n2_; clear HB; have HB := n0_; have BK150 := n1_; have GW150 := n2_; have GE150 := n3_; clear n0_ n1_ n2_ n3_; clear hb hbox hg) | ((with_reducible refine qi (N := 3) rfl ?_); refine qh ?hg (N := 3) ?hd (cs := #[.string a1_0, .string a1_1, .string a1_2, .string a1_3, .int .i64 a1_4, .bool a1_5]) (t := 25) ?hr ?_; (case hd => rfl); (case hg => rfl); (case hr => exact qC); intro gb151 hg w62 hbox hb; have n0_ := bb BK150 hb; have n1_ := qb.mk (qd Z75 hb); have n2_ := qb.mk (hbox); have n3_ := qb.mk ((Z40 : w.heap.size ≤ gb151)); have n4_ := n3_; have n5_ := qb.mk ((Z146 : gb150 ≠ gb151)); have n6_ := qb.mk ((Z147 : gb151 ≠ gb150)); clear BK150 HB; have BK150 := n0_; have HB := n1_; have BK151 := n2_; have GW151 := n3_; have GE151 := n4_; have NB150_151 := n5_; have NB151_150 := n6_; clear n0_ n1_ n2_ n3_ n4_ n5_ n6_; clear hb hbox hg; have hnb63 := NB150_151.out; have hnc63 := NB151_150.out; obtain ⟨yc64_0, yc64_1, yc64_2, yc64_3, yc64_4, yc64_5, yc64_6, yc64_7, yc64_8, yf64_0, yf64_1, yf64_2, yf64_3, yf64_4, yf64_5, yf64_6, yf64_7, yf64_8⟩ := bf9 BK150.out; obtain ⟨yc65_0, yc65_1, yc65_2, yc65_3, yc65_4, yc65_5, yf65_0, yf65_1, yf65_2, yf65_3, yf65_4, yf65_5⟩ := bf6 BK151.out))
  go_ret
  exact ⟨Z97, Z48⟩

 rw [if_pos c3] at H
 have c3b0 : (a0_0.toList == a1_0.toList) = true := beq_iff_eq.mpr c3
 have c3b1 : (a0_0.toList != a1_0.toList) = false := bne_eq_false_iff_eq.mpr c3
 clear c3
 by_cases c4 : a0_1.toList = a1_1.toList
 case neg =>
  rw [if_neg c4] at H
  have c4b0 : (a0_1.toList == a1_1.toList) = false := beq_eq_false_iff_ne.mpr c4
  have c4b1 : (a0_1.toList != a1_1.toList) = true := bne_iff_ne.mpr c4
  obtain rfl := Option.some.inj H
  go_enter Tryz.func50, Tryz.ntmps50
  go_wp2_with (first | ((with_reducible refine qi (N := 2) rfl ?_); refine qh ?hg (N := 2) ?hd (cs := #[.string a0_0, .string a0_1, .string a0_2, .string a0_3, .int .i64 a0_4, .int .i64 a0_5, .bool a0_6, .int .i64 a0_7, .bool a0_8]) (t := 53) ?hr ?_; (case hd => rfl); (case hg => rfl); (case hr => exact qC); intro gb150 hg w56 hbox hb; have n0_ := qb.mk (qd qz hb); have n1_ := qb.mk (hbox); have n2_ := qb.mk ((Z66 : w.heap.size ≤ gb150)); have n3_ := n2_; clear HB; have HB := n0_; have BK150 := n1_; have GW150 := n2_; have GE150 := n3_; clear n0_ n1_ n2_ n3_; clear hb hbox hg) | ((with_reducible refine qi (N := 3) rfl ?_); refine qh ?hg (N := 3) ?hd (cs := #[.string a1_0, .string a1_1, .string a1_2, .string a1_3, .int .i64 a1_4, .bool a1_5]) (t := 25) ?hr ?_; (case hd => rfl); (case hg => rfl); (case hr => exact qC); intro gb151 hg w57 hbox hb; have n0_ := bb BK150 hb; have n1_ := qb.mk (qd Z75 hb); have n2_ := qb.mk (hbox); have n3_ := qb.mk ((Z40 : w.heap.size ≤ gb151)); have n4_ := n3_; have n5_ := qb.mk ((Z146 : gb150 ≠ gb151)); have n6_ := qb.mk ((Z147 : gb151 ≠ gb150)); clear BK150 HB; have BK150 := n0_; have HB := n1_; have BK151 := n2_; have GW151 := n3_; have GE151 := n4_; have NB150_151 := n5_; have NB151_150 := n6_; clear n0_ n1_ n2_ n3_ n4_ n5_ n6_; clear hb hbox hg; have hnb58 := NB150_151.out; have hnc58 := NB151_150.out; obtain ⟨yc59_0, yc59_1, yc59_2, yc59_3, yc59_4, yc59_5, yc59_6, yc59_7, yc59_8, yf59_0, yf59_1, yf59_2, yf59_3, yf59_4, yf59_5, yf59_6, yf59_7, yf59_8⟩ := bf9 BK150.out; obtain ⟨yc60_0, yc60_1, yc60_2, yc60_3, yc60_4, yc60_5, yf60_0, yf60_1, yf60_2, yf60_3, yf60_4, yf60_5⟩ := bf6 BK151.out))
  go_ret
  exact ⟨Z97, Z48⟩
 rw [if_pos c4] at H
 have c4b0 : (a0_1.toList == a1_1.toList) = true := beq_iff_eq.mpr c4
 have c4b1 : (a0_1.toList != a1_1.toList) = false := bne_eq_false_iff_eq.mpr c4
 clear c4
 by_cases c5 : (a0_6 == a1_5) = true
 case neg =>
  rw [if_neg c5] at H
  have c5b0 : (a0_6 == a1_5) = false := by simpa using c5
  (try (have c5b1 : decide (a0_6 = a1_5) = false := by simpa using c5))
  (try (have c5b2 : (a0_6 == a1_5) = false := by simpa using c5))
  (try (have c5b3 : ¬ (a0_6 = a1_5) := by simpa using c5))
  clear c5
  obtain rfl := Option.some.inj H
  go_enter Tryz.func50, Tryz.ntmps50
  go_wp2_with (first | ((with_reducible refine qi (N := 2) rfl ?_); refine qh ?hg (N := 2) ?hd (cs := #[.string a0_0, .string a0_1, .string a0_2, .string a0_3, .int .i64 a0_4, .int .i64 a0_5, .bool a0_6, .int .i64 a0_7, .bool a0_8]) (t := 53) ?hr ?_; (case hd => rfl); (case hg => rfl); (case hr => exact qC); intro gb150 hg w51 hbox hb; have n0_ := qb.mk (qd qz hb); have n1_ := qb.mk (hbox); have n2_ := qb.mk ((Z66 : w.heap.size ≤ gb150)); have n3_ := n2_; clear HB; have HB := n0_; have BK150 := n1_; have GW150 := n2_; have GE150 := n3_; clear n0_ n1_ n2_ n3_; clear hb hbox hg) | ((with_reducible refine qi (N := 3) rfl ?_); refine qh ?hg (N := 3) ?hd (cs := #[.string a1_0, .string a1_1, .string a1_2, .string a1_3, .int .i64 a1_4, .bool a1_5]) (t := 25) ?hr ?_; (case hd => rfl); (case hg => rfl); (case hr => exact qC); intro gb151 hg w52 hbox hb; have n0_ := bb BK150 hb; have n1_ := qb.mk (qd Z75 hb); have n2_ := qb.mk (hbox); have n3_ := qb.mk ((Z40 : w.heap.size ≤ gb151)); have n4_ := n3_; have n5_ := qb.mk ((Z146 : gb150 ≠ gb151)); have n6_ := qb.mk ((Z147 : gb151 ≠ gb150)); clear BK150 HB; have BK150 := n0_; have HB := n1_; have BK151 := n2_; have GW151 := n3_; have GE151 := n4_; have NB150_151 := n5_; have NB151_150 := n6_; clear n0_ n1_ n2_ n3_ n4_ n5_ n6_; clear hb hbox hg; have hnb53 := NB150_151.out; have hnc53 := NB151_150.out; obtain ⟨yc54_0, yc54_1, yc54_2, yc54_3, yc54_4, yc54_5, yc54_6, yc54_7, yc54_8, yf54_0, yf54_1, yf54_2, yf54_3, yf54_4, yf54_5, yf54_6, yf54_7, yf54_8⟩ := bf9 BK150.out; obtain ⟨yc55_0, yc55_1, yc55_2, yc55_3, yc55_4, yc55_5, yf55_0, yf55_1, yf55_2, yf55_3, yf55_4, yf55_5⟩ := bf6 BK151.out))
  go_ret
  exact ⟨Z97, Z48⟩
 rw [if_pos c5] at H
 have c5b0 : (a0_6 == a1_5) = true := c5
 (try (have c5b1 : decide (a0_6 = a1_5) = true := by simpa using c5))
 (try (have c5b2 : (a0_6 == a1_5) = true := by simpa using c5))
 clear c5
 by_cases c6 : a0_2.toList = ([] : List UInt8)
 case pos =>
  rw [if_pos c6] at H
  have c6b0 : (a0_2.toList == ([] : List UInt8)) = true := beq_iff_eq.mpr c6
  have c6b1 : (a0_2.toList != ([] : List UInt8)) = false := bne_eq_false_iff_eq.mpr c6
  clear c6
  by_cases c7 : a0_3.toList = ([] : List UInt8)
  case pos =>
   rw [if_pos c7] at H
   have c7b0 : (a0_3.toList == ([] : List UInt8)) = true := beq_iff_eq.mpr c7
   have c7b1 : (a0_3.toList != ([] : List UInt8)) = false := bne_eq_false_iff_eq.mpr c7
   clear c7
   replace H := Option.bind_eq_some_iff.mp H
   obtain ⟨t152, A80, H⟩ := H
   replace H : (some t152) = some r := H
   have A8 := qb.mk A80
   clear A80
   obtain rfl := Option.some.inj H
   go_enter Tryz.func50, Tryz.ntmps50
   go_wp2_with (first | ((with_reducible refine qi (N := 2) rfl ?_); refine qh ?hg (N := 2) ?hd (cs := #[.string a0_0, .string a0_1, .string a0_2, .string a0_3, .int .i64 a0_4, .int .i64 a0_5, .bool a0_6, .int .i64 a0_7, .bool a0_8]) (t := 53) ?hr ?_; (case hd => rfl); (case hg => rfl); (case hr => exact qC); intro gb150 hg w9 hbox hb; have n0_ := qb.mk (qd qz hb); have n1_ := qb.mk (hbox); have n2_ := qb.mk ((Z66 : w.heap.size ≤ gb150)); have n3_ := n2_; clear HB; have HB := n0_; have BK150 := n1_; have GW150 := n2_; have GE150 := n3_; clear n0_ n1_ n2_ n3_; clear hb hbox hg) | ((with_reducible refine qi (N := 3) rfl ?_); refine qh ?hg (N := 3) ?hd (cs := #[.string a1_0, .string a1_1, .string a1_2, .string a1_3, .int .i64 a1_4, .bool a1_5]) (t := 25) ?hr ?_; (case hd => rfl); (case hg => rfl); (case hr => exact qC); intro gb151 hg w10 hbox hb; have n0_ := bb BK150 hb; have n1_ := qb.mk (qd Z75 hb); have n2_ := qb.mk (hbox); have n3_ := qb.mk ((Z40 : w.heap.size ≤ gb151)); have n4_ := n3_; have n5_ := qb.mk ((Z146 : gb150 ≠ gb151)); have n6_ := qb.mk ((Z147 : gb151 ≠ gb150)); clear BK150 HB; have BK150 := n0_; have HB := n1_; have BK151 := n2_; have GW151 := n3_; have GE151 := n4_; have NB150_151 := n5_; have NB151_150 := n6_; clear n0_ n1_ n2_ n3_ n4_ n5_ n6_; clear hb hbox hg; have hnb11 := NB150_151.out; have hnc11 := NB151_150.out; obtain ⟨yc12_0, yc12_1, yc12_2, yc12_3, yc12_4, yc12_5, yc12_6, yc12_7, yc12_8, yf12_0, yf12_1, yf12_2, yf12_3, yf12_4, yf12_5, yf12_6, yf12_7, yf12_8⟩ := bf9 BK150.out; obtain ⟨yc13_0, yc13_1, yc13_2, yc13_3, yc13_4, yc13_5, yf13_0, yf13_1, yf13_2, yf13_3, yf13_4, yf13_5⟩ := bf6 BK151.out) | (go_at_call 35; (with_reducible refine (r8within.calls a1_4 a0_4 a0_5 t152 _ A8.out).mono ?_); rintro e w' ⟨rfl, ⟨nd, rfl⟩⟩))
   go_ret
   exact ⟨Z97, Z48⟩
  rw [if_neg c7] at H
  have c7b0 : (a0_3.toList == ([] : List UInt8)) = false := beq_eq_false_iff_ne.mpr c7
  have c7b1 : (a0_3.toList != ([] : List UInt8)) = true := bne_iff_ne.mpr c7
  by_cases c14 : a0_3.toList = a1_3.toList
  case neg =>
   rw [if_neg c14] at H
   have c14b0 : (a0_3.toList == a1_3.toList) = false := beq_eq_false_iff_ne.mpr c14
   have c14b1 : (a0_3.toList != a1_3.toList) = true := bne_iff_ne.mpr c14
   obtain rfl := Option.some.inj H
   go_enter Tryz.func50, Tryz.ntmps50
   go_wp2_with (first | ((with_reducible refine qi (N := 2) rfl ?_); refine qh ?hg (N := 2) ?hd (cs := #[.string a0_0, .string a0_1, .string a0_2, .string a0_3, .int .i64 a0_4, .int .i64 a0_5, .bool a0_6, .int .i64 a0_7, .bool a0_8]) (t := 53) ?hr ?_; (case hd => rfl); (case hg => rfl); (case hr => exact qC); intro gb150 hg w21 hbox hb; have n0_ := qb.mk (qd qz hb); have n1_ := qb.mk (hbox); have n2_ := qb.mk ((Z66 : w.heap.size ≤ gb150)); have n3_ := n2_; clear HB; have HB := n0_; have BK150 := n1_; have GW150 := n2_; have GE150 := n3_; clear n0_ n1_ n2_ n3_; clear hb hbox hg) | ((with_reducible refine qi (N := 3) rfl ?_); refine qh ?hg (N := 3) ?hd (cs := #[.string a1_0, .string a1_1, .string a1_2, .string a1_3, .int .i64 a1_4, .bool a1_5]) (t := 25) ?hr ?_; (case hd => rfl); (case hg => rfl); (case hr => exact qC); intro gb151 hg w22 hbox hb; have n0_ := bb BK150 hb; have n1_ := qb.mk (qd Z75 hb); have n2_ := qb.mk (hbox); have n3_ := qb.mk ((Z40 : w.heap.size ≤ gb151)); have n4_ := n3_; have n5_ := qb.mk ((Z146 : gb150 ≠ gb151)); have n6_ := qb.mk ((Z147 : gb151 ≠ gb150)); clear BK150 HB; have BK150 := n0_; have HB := n1_; have BK151 := n2_; have GW151 := n3_; have GE151 := n4_; have NB150_151 := n5_; have NB151_150 := n6_; clear n0_ n1_ n2_ n3_ n4_ n5_ n6_; clear hb hbox hg; have hnb23 := NB150_151.out; have hnc23 := NB151_150.out; obtain ⟨yc24_0, yc24_1, yc24_2, yc24_3, yc24_4, yc24_5, yc24_6, yc24_7, yc24_8, yf24_0, yf24_1, yf24_2, yf24_3, yf24_4, yf24_5, yf24_6, yf24_7, yf24_8⟩ := bf9 BK150.out; obtain ⟨yc25_0, yc25_1, yc25_2, yc25_3, yc25_4, yc25_5, yf25_0, yf25_1, yf25_2, yf25_3, yf25_4, yf25_5⟩ := bf6 BK151.out))
   go_ret
   exact ⟨Z97, Z48⟩
  rw [if_pos c14] at H
  have c14b0 : (a0_3.toList == a1_3.toList) = true := beq_iff_eq.mpr c14
  have c14b1 : (a0_3.toList != a1_3.toList) = false := bne_eq_false_iff_eq.mpr c14
  clear c14
  replace H := Option.bind_eq_some_iff.mp H
  obtain ⟨t153, A150, H⟩ := H
  replace H : (some t153) = some r := H
  have A15 := qb.mk A150
  clear A150
  obtain rfl := Option.some.inj H
  go_enter Tryz.func50, Tryz.ntmps50
  go_wp2_with (first | ((with_reducible refine qi (N := 2) rfl ?_); refine qh ?hg (N := 2) ?hd (cs := #[.string a0_0, .string a0_1, .string a0_2, .string a0_3, .int .i64 a0_4, .int .i64 a0_5, .bool a0_6, .int .i64 a0_7, .bool a0_8]) (t := 53) ?hr ?_; (case hd => rfl); (case hg => rfl); (case hr => exact qC); intro gb150 hg w16 hbox hb; have n0_ := qb.mk (qd qz hb); have n1_ := qb.mk (hbox); have n2_ := qb.mk ((Z66 : w.heap.size ≤ gb150)); have n3_ := n2_; clear HB; have HB := n0_; have BK150 := n1_; have GW150 := n2_; have GE150 := n3_; clear n0_ n1_ n2_ n3_; clear hb hbox hg) | ((with_reducible refine qi (N := 3) rfl ?_); refine qh ?hg (N := 3) ?hd (cs := #[.string a1_0, .string a1_1, .string a1_2, .string a1_3, .int .i64 a1_4, .bool a1_5]) (t := 25) ?hr ?_; (case hd => rfl); (case hg => rfl); (case hr => exact qC); intro gb151 hg w17 hbox hb; have n0_ := bb BK150 hb; have n1_ := qb.mk (qd Z75 hb); have n2_ := qb.mk (hbox); have n3_ := qb.mk ((Z40 : w.heap.size ≤ gb151)); have n4_ := n3_; have n5_ := qb.mk ((Z146 : gb150 ≠ gb151)); have n6_ := qb.mk ((Z147 : gb151 ≠ gb150)); clear BK150 HB; have BK150 := n0_; have HB := n1_; have BK151 := n2_; have GW151 := n3_; have GE151 := n4_; have NB150_151 := n5_; have NB151_150 := n6_; clear n0_ n1_ n2_ n3_ n4_ n5_ n6_; clear hb hbox hg; have hnb18 := NB150_151.out; have hnc18 := NB151_150.out; obtain ⟨yc19_0, yc19_1, yc19_2, yc19_3, yc19_4, yc19_5, yc19_6, yc19_7, yc19_8, yf19_0, yf19_1, yf19_2, yf19_3, yf19_4, yf19_5, yf19_6, yf19_7, yf19_8⟩ := bf9 BK150.out; obtain ⟨yc20_0, yc20_1, yc20_2, yc20_3, yc20_4, yc20_5, yf20_0, yf20_1, yf20_2, yf20_3, yf20_4, yf20_5⟩ := bf6 BK151.out) | (go_at_call 35; (with_reducible refine (r8within.calls a1_4 a0_4 a0_5 t153 _ A15.out).mono ?_); rintro e w' ⟨rfl, ⟨nd, rfl⟩⟩))
  go_ret
  exact ⟨Z97, Z48⟩
 rw [if_neg c6] at H
 have c6b0 : (a0_2.toList == ([] : List UInt8)) = false := beq_eq_false_iff_ne.mpr c6
 have c6b1 : (a0_2.toList != ([] : List UInt8)) = true := bne_iff_ne.mpr c6
 by_cases c26 : a0_2.toList = a1_2.toList
 case neg =>
  rw [if_neg c26] at H
  have c26b0 : (a0_2.toList == a1_2.toList) = false := beq_eq_false_iff_ne.mpr c26
  have c26b1 : (a0_2.toList != a1_2.toList) = true := bne_iff_ne.mpr c26
  obtain rfl := Option.some.inj H
  go_enter Tryz.func50, Tryz.ntmps50
  go_wp2_with (first | ((with_reducible refine qi (N := 2) rfl ?_); refine qh ?hg (N := 2) ?hd (cs := #[.string a0_0, .string a0_1, .string a0_2, .string a0_3, .int .i64 a0_4, .int .i64 a0_5, .bool a0_6, .int .i64 a0_7, .bool a0_8]) (t := 53) ?hr ?_; (case hd => rfl); (case hg => rfl); (case hr => exact qC); intro gb150 hg w46 hbox hb; have n0_ := qb.mk (qd qz hb); have n1_ := qb.mk (hbox); have n2_ := qb.mk ((Z66 : w.heap.size ≤ gb150)); have n3_ := n2_; clear HB; have HB := n0_; have BK150 := n1_; have GW150 := n2_; have GE150 := n3_; clear n0_ n1_ n2_ n3_; clear hb hbox hg) | ((with_reducible refine qi (N := 3) rfl ?_); refine qh ?hg (N := 3) ?hd (cs := #[.string a1_0, .string a1_1, .string a1_2, .string a1_3, .int .i64 a1_4, .bool a1_5]) (t := 25) ?hr ?_; (case hd => rfl); (case hg => rfl); (case hr => exact qC); intro gb151 hg w47 hbox hb; have n0_ := bb BK150 hb; have n1_ := qb.mk (qd Z75 hb); have n2_ := qb.mk (hbox); have n3_ := qb.mk ((Z40 : w.heap.size ≤ gb151)); have n4_ := n3_; have n5_ := qb.mk ((Z146 : gb150 ≠ gb151)); have n6_ := qb.mk ((Z147 : gb151 ≠ gb150)); clear BK150 HB; have BK150 := n0_; have HB := n1_; have BK151 := n2_; have GW151 := n3_; have GE151 := n4_; have NB150_151 := n5_; have NB151_150 := n6_; clear n0_ n1_ n2_ n3_ n4_ n5_ n6_; clear hb hbox hg; have hnb48 := NB150_151.out; have hnc48 := NB151_150.out; obtain ⟨yc49_0, yc49_1, yc49_2, yc49_3, yc49_4, yc49_5, yc49_6, yc49_7, yc49_8, yf49_0, yf49_1, yf49_2, yf49_3, yf49_4, yf49_5, yf49_6, yf49_7, yf49_8⟩ := bf9 BK150.out; obtain ⟨yc50_0, yc50_1, yc50_2, yc50_3, yc50_4, yc50_5, yf50_0, yf50_1, yf50_2, yf50_3, yf50_4, yf50_5⟩ := bf6 BK151.out))
  go_ret
  exact ⟨Z97, Z48⟩
 rw [if_pos c26] at H
 have c26b0 : (a0_2.toList == a1_2.toList) = true := beq_iff_eq.mpr c26
 have c26b1 : (a0_2.toList != a1_2.toList) = false := bne_eq_false_iff_eq.mpr c26
 clear c26
 by_cases c27 : a0_3.toList = ([] : List UInt8)
 case pos =>
  rw [if_pos c27] at H
  have c27b0 : (a0_3.toList == ([] : List UInt8)) = true := beq_iff_eq.mpr c27
  have c27b1 : (a0_3.toList != ([] : List UInt8)) = false := bne_eq_false_iff_eq.mpr c27
  clear c27
  replace H := Option.bind_eq_some_iff.mp H
  obtain ⟨t154, A280, H⟩ := H
  replace H : (some t154) = some r := H
  have A28 := qb.mk A280
  clear A280
  obtain rfl := Option.some.inj H
  go_enter Tryz.func50, Tryz.ntmps50
  go_wp2_with (first | ((with_reducible refine qi (N := 2) rfl ?_); refine qh ?hg (N := 2) ?hd (cs := #[.string a0_0, .string a0_1, .string a0_2, .string a0_3, .int .i64 a0_4, .int .i64 a0_5, .bool a0_6, .int .i64 a0_7, .bool a0_8]) (t := 53) ?hr ?_; (case hd => rfl); (case hg => rfl); (case hr => exact qC); intro gb150 hg w29 hbox hb; have n0_ := qb.mk (qd qz hb); have n1_ := qb.mk (hbox); have n2_ := qb.mk ((Z66 : w.heap.size ≤ gb150)); have n3_ := n2_; clear HB; have HB := n0_; have BK150 := n1_; have GW150 := n2_; have GE150 := n3_; clear n0_ n1_ n2_ n3_; clear hb hbox hg) | ((with_reducible refine qi (N := 3) rfl ?_); refine qh ?hg (N := 3) ?hd (cs := #[.string a1_0, .string a1_1, .string a1_2, .string a1_3, .int .i64 a1_4, .bool a1_5]) (t := 25) ?hr ?_; (case hd => rfl); (case hg => rfl); (case hr => exact qC); intro gb151 hg w30 hbox hb; have n0_ := bb BK150 hb; have n1_ := qb.mk (qd Z75 hb); have n2_ := qb.mk (hbox); have n3_ := qb.mk ((Z40 : w.heap.size ≤ gb151)); have n4_ := n3_; have n5_ := qb.mk ((Z146 : gb150 ≠ gb151)); have n6_ := qb.mk ((Z147 : gb151 ≠ gb150)); clear BK150 HB; have BK150 := n0_; have HB := n1_; have BK151 := n2_; have GW151 := n3_; have GE151 := n4_; have NB150_151 := n5_; have NB151_150 := n6_; clear n0_ n1_ n2_ n3_ n4_ n5_ n6_; clear hb hbox hg; have hnb31 := NB150_151.out; have hnc31 := NB151_150.out; obtain ⟨yc32_0, yc32_1, yc32_2, yc32_3, yc32_4, yc32_5, yc32_6, yc32_7, yc32_8, yf32_0, yf32_1, yf32_2, yf32_3, yf32_4, yf32_5, yf32_6, yf32_7, yf32_8⟩ := bf9 BK150.out; obtain ⟨yc33_0, yc33_1, yc33_2, yc33_3, yc33_4, yc33_5, yf33_0, yf33_1, yf33_2, yf33_3, yf33_4, yf33_5⟩ := bf6 BK151.out) | (go_at_call 35; (with_reducible refine (r8within.calls a1_4 a0_4 a0_5 t154 _ A28.out).mono ?_); rintro e w' ⟨rfl, ⟨nd, rfl⟩⟩))
  go_ret
  exact ⟨Z97, Z48⟩
 rw [if_neg c27] at H
 have c27b0 : (a0_3.toList == ([] : List UInt8)) = false := beq_eq_false_iff_ne.mpr c27
 have c27b1 : (a0_3.toList != ([] : List UInt8)) = true := bne_iff_ne.mpr c27
 by_cases c34 : a0_3.toList = a1_3.toList
 case neg =>
  rw [if_neg c34] at H
  have c34b0 : (a0_3.toList == a1_3.toList) = false := beq_eq_false_iff_ne.mpr c34
  have c34b1 : (a0_3.toList != a1_3.toList) = true := bne_iff_ne.mpr c34
  obtain rfl := Option.some.inj H
  go_enter Tryz.func50, Tryz.ntmps50
  go_wp2_with (first | ((with_reducible refine qi (N := 2) rfl ?_); refine qh ?hg (N := 2) ?hd (cs := #[.string a0_0, .string a0_1, .string a0_2, .string a0_3, .int .i64 a0_4, .int .i64 a0_5, .bool a0_6, .int .i64 a0_7, .bool a0_8]) (t := 53) ?hr ?_; (case hd => rfl); (case hg => rfl); (case hr => exact qC); intro gb150 hg w41 hbox hb; have n0_ := qb.mk (qd qz hb); have n1_ := qb.mk (hbox); have n2_ := qb.mk ((Z66 : w.heap.size ≤ gb150)); have n3_ := n2_; clear HB; have HB := n0_; have BK150 := n1_; have GW150 := n2_; have GE150 := n3_; clear n0_ n1_ n2_ n3_; clear hb hbox hg) | ((with_reducible refine qi (N := 3) rfl ?_); refine qh ?hg (N := 3) ?hd (cs := #[.string a1_0, .string a1_1, .string a1_2, .string a1_3, .int .i64 a1_4, .bool a1_5]) (t := 25) ?hr ?_; (case hd => rfl); (case hg => rfl); (case hr => exact qC); intro gb151 hg w42 hbox hb; have n0_ := bb BK150 hb; have n1_ := qb.mk (qd Z75 hb); have n2_ := qb.mk (hbox); have n3_ := qb.mk ((Z40 : w.heap.size ≤ gb151)); have n4_ := n3_; have n5_ := qb.mk ((Z146 : gb150 ≠ gb151)); have n6_ := qb.mk ((Z147 : gb151 ≠ gb150)); clear BK150 HB; have BK150 := n0_; have HB := n1_; have BK151 := n2_; have GW151 := n3_; have GE151 := n4_; have NB150_151 := n5_; have NB151_150 := n6_; clear n0_ n1_ n2_ n3_ n4_ n5_ n6_; clear hb hbox hg; have hnb43 := NB150_151.out; have hnc43 := NB151_150.out; obtain ⟨yc44_0, yc44_1, yc44_2, yc44_3, yc44_4, yc44_5, yc44_6, yc44_7, yc44_8, yf44_0, yf44_1, yf44_2, yf44_3, yf44_4, yf44_5, yf44_6, yf44_7, yf44_8⟩ := bf9 BK150.out; obtain ⟨yc45_0, yc45_1, yc45_2, yc45_3, yc45_4, yc45_5, yf45_0, yf45_1, yf45_2, yf45_3, yf45_4, yf45_5⟩ := bf6 BK151.out))
  go_ret
  exact ⟨Z97, Z48⟩
 rw [if_pos c34] at H
 have c34b0 : (a0_3.toList == a1_3.toList) = true := beq_iff_eq.mpr c34
 have c34b1 : (a0_3.toList != a1_3.toList) = false := bne_eq_false_iff_eq.mpr c34
 clear c34
 replace H := Option.bind_eq_some_iff.mp H
 obtain ⟨t155, A350, H⟩ := H
 replace H : (some t155) = some r := H
 have A35 := qb.mk A350
 clear A350
 obtain rfl := Option.some.inj H
 go_enter Tryz.func50, Tryz.ntmps50
 go_wp2_with (first | ((with_reducible refine qi (N := 2) rfl ?_); refine qh ?hg (N := 2) ?hd (cs := #[.string a0_0, .string a0_1, .string a0_2, .string a0_3, .int .i64 a0_4, .int .i64 a0_5, .bool a0_6, .int .i64 a0_7, .bool a0_8]) (t := 53) ?hr ?_; (case hd => rfl); (case hg => rfl); (case hr => exact qC); intro gb150 hg w36 hbox hb; have n0_ := qb.mk (qd qz hb); have n1_ := qb.mk (hbox); have n2_ := qb.mk ((Z66 : w.heap.size ≤ gb150)); have n3_ := n2_; clear HB; have HB := n0_; have BK150 := n1_; have GW150 := n2_; have GE150 := n3_; clear n0_ n1_ n2_ n3_; clear hb hbox hg) | ((with_reducible refine qi (N := 3) rfl ?_); refine qh ?hg (N := 3) ?hd (cs := #[.string a1_0, .string a1_1, .string a1_2, .string a1_3, .int .i64 a1_4, .bool a1_5]) (t := 25) ?hr ?_; (case hd => rfl); (case hg => rfl); (case hr => exact qC); intro gb151 hg w37 hbox hb; have n0_ := bb BK150 hb; have n1_ := qb.mk (qd Z75 hb); have n2_ := qb.mk (hbox); have n3_ := qb.mk ((Z40 : w.heap.size ≤ gb151)); have n4_ := n3_; have n5_ := qb.mk ((Z146 : gb150 ≠ gb151)); have n6_ := qb.mk ((Z147 : gb151 ≠ gb150)); clear BK150 HB; have BK150 := n0_; have HB := n1_; have BK151 := n2_; have GW151 := n3_; have GE151 := n4_; have NB150_151 := n5_; have NB151_150 := n6_; clear n0_ n1_ n2_ n3_ n4_ n5_ n6_; clear hb hbox hg; have hnb38 := NB150_151.out; have hnc38 := NB151_150.out; obtain ⟨yc39_0, yc39_1, yc39_2, yc39_3, yc39_4, yc39_5, yc39_6, yc39_7, yc39_8, yf39_0, yf39_1, yf39_2, yf39_3, yf39_4, yf39_5, yf39_6, yf39_7, yf39_8⟩ := bf9 BK150.out; obtain ⟨yc40_0, yc40_1, yc40_2, yc40_3, yc40_4, yc40_5, yf40_0, yf40_1, yf40_2, yf40_3, yf40_4, yf40_5⟩ := bf6 BK151.out) | (go_at_call 35; (with_reducible refine (r8within.calls a1_4 a0_4 a0_5 t155 _ A35.out).mono ?_); rintro e w' ⟨rfl, ⟨nd, rfl⟩⟩))
 go_ret
 exact ⟨Z97, Z48⟩
/-! ### r8rank: function 85 -/
def r8rank.f (a0_0 : ByteArray) (a0_1 : ByteArray) (a0_2 : ByteArray) (a0_3 : ByteArray) (a0_4 : Int) (a0_5 : Int) (a0_6 : Bool) (a0_7 : Int) (a0_8 : Bool) : Option (Int) := if a0_3.toList = ([] : List UInt8) then (if a0_2.toList = ([] : List UInt8) then (some 0) else (some 1)) else (some 2)
set_option maxHeartbeats 8000000 in
set_option maxRecDepth 100000 in
theorem r8rank.calls (a0_0 : ByteArray) (a0_1 : ByteArray) (a0_2 : ByteArray) (a0_3 : ByteArray) (a0_4 : Int) (a0_5 : Int) (a0_6 : Bool) (a0_7 : Int) (a0_8 : Bool) (r : Int) (w : World) (h : r8rank.f a0_0 a0_1 a0_2 a0_3 a0_4 a0_5 a0_6 a0_7 a0_8 = some r) :
  Calls Tryz.prog 85 #[.agg #[.string a0_0, .string a0_1, .string a0_2, .string a0_3, .int .i64 a0_4, .int .i64 a0_5, .bool a0_6, .int .i64 a0_7, .bool a0_8]] w fun e w' => e = .returned (.int .i64 r) ∧ Below w.heap.size w w' := by
 have hu53 := Tryz.underlying53
 have HB := qb.mk (Below.refl w.heap.size w)
 have H : (if a0_3.toList = ([] : List UInt8) then (if a0_2.toList = ([] : List UInt8) then (some 0) else (some 1)) else (some 2)) = some r := h
 clear h
 by_cases c2 : a0_3.toList = ([] : List UInt8)
 case neg =>
  rw [if_neg c2] at H
  have c2b0 : (a0_3.toList == ([] : List UInt8)) = false := beq_eq_false_iff_ne.mpr c2
  have c2b1 : (a0_3.toList != ([] : List UInt8)) = true := bne_iff_ne.mpr c2
  obtain rfl := Option.some.inj H
  go_enter Tryz.func85, Tryz.ntmps85
  go_wp2_with (first | ((with_reducible refine qi (N := 1) rfl ?_); refine qh ?hg (N := 1) ?hd (cs := #[.string a0_0, .string a0_1, .string a0_2, .string a0_3, .int .i64 a0_4, .int .i64 a0_5, .bool a0_6, .int .i64 a0_7, .bool a0_8]) (t := 53) ?hr ?_; (case hd => rfl); (case hg => rfl); (case hr => exact qC); intro gb156 hg w8 hbox hb; have n0_ := qb.mk (qd qz hb); have n1_ := qb.mk (hbox); have n2_ := qb.mk ((Z66 : w.heap.size ≤ gb156)); have n3_ := n2_; clear HB; have HB := n0_; have BK156 := n1_; have GW156 := n2_; have GE156 := n3_; clear n0_ n1_ n2_ n3_; clear hb hbox hg; obtain ⟨yc9_0, yc9_1, yc9_2, yc9_3, yc9_4, yc9_5, yc9_6, yc9_7, yc9_8, yf9_0, yf9_1, yf9_2, yf9_3, yf9_4, yf9_5, yf9_6, yf9_7, yf9_8⟩ := bf9 BK156.out))
  go_ret
  exact ⟨Z97, Z76⟩

 rw [if_pos c2] at H
 have c2b0 : (a0_3.toList == ([] : List UInt8)) = true := beq_iff_eq.mpr c2
 have c2b1 : (a0_3.toList != ([] : List UInt8)) = false := bne_eq_false_iff_eq.mpr c2
 clear c2
 by_cases c3 : a0_2.toList = ([] : List UInt8)
 case neg =>
  rw [if_neg c3] at H
  have c3b0 : (a0_2.toList == ([] : List UInt8)) = false := beq_eq_false_iff_ne.mpr c3
  have c3b1 : (a0_2.toList != ([] : List UInt8)) = true := bne_iff_ne.mpr c3
  obtain rfl := Option.some.inj H
  go_enter Tryz.func85, Tryz.ntmps85
  go_wp2_with (first | ((with_reducible refine qi (N := 1) rfl ?_); refine qh ?hg (N := 1) ?hd (cs := #[.string a0_0, .string a0_1, .string a0_2, .string a0_3, .int .i64 a0_4, .int .i64 a0_5, .bool a0_6, .int .i64 a0_7, .bool a0_8]) (t := 53) ?hr ?_; (case hd => rfl); (case hg => rfl); (case hr => exact qC); intro gb156 hg w6 hbox hb; have n0_ := qb.mk (qd qz hb); have n1_ := qb.mk (hbox); have n2_ := qb.mk ((Z66 : w.heap.size ≤ gb156)); have n3_ := n2_; clear HB; have HB := n0_; have BK156 := n1_; have GW156 := n2_; have GE156 := n3_; clear n0_ n1_ n2_ n3_; clear hb hbox hg; obtain ⟨yc7_0, yc7_1, yc7_2, yc7_3, yc7_4, yc7_5, yc7_6, yc7_7, yc7_8, yf7_0, yf7_1, yf7_2, yf7_3, yf7_4, yf7_5, yf7_6, yf7_7, yf7_8⟩ := bf9 BK156.out))
  go_ret
  exact ⟨Z97, Z76⟩
 rw [if_pos c3] at H
 have c3b0 : (a0_2.toList == ([] : List UInt8)) = true := beq_iff_eq.mpr c3
 have c3b1 : (a0_2.toList != ([] : List UInt8)) = false := bne_eq_false_iff_eq.mpr c3
 clear c3
 obtain rfl := Option.some.inj H
 go_enter Tryz.func85, Tryz.ntmps85
 go_wp2_with (first | ((with_reducible refine qi (N := 1) rfl ?_); refine qh ?hg (N := 1) ?hd (cs := #[.string a0_0, .string a0_1, .string a0_2, .string a0_3, .int .i64 a0_4, .int .i64 a0_5, .bool a0_6, .int .i64 a0_7, .bool a0_8]) (t := 53) ?hr ?_; (case hd => rfl); (case hg => rfl); (case hr => exact qC); intro gb156 hg w4 hbox hb; have n0_ := qb.mk (qd qz hb); have n1_ := qb.mk (hbox); have n2_ := qb.mk ((Z66 : w.heap.size ≤ gb156)); have n3_ := n2_; clear HB; have HB := n0_; have BK156 := n1_; have GW156 := n2_; have GE156 := n3_; clear n0_ n1_ n2_ n3_; clear hb hbox hg; obtain ⟨yc5_0, yc5_1, yc5_2, yc5_3, yc5_4, yc5_5, yc5_6, yc5_7, yc5_8, yf5_0, yf5_1, yf5_2, yf5_3, yf5_4, yf5_5, yf5_6, yf5_7, yf5_8⟩ := bf9 BK156.out))
 go_ret
 exact ⟨Z97, Z76⟩
/-! ### r8better: function 51 -/
def r8better.l0 : Nat → List Int → Int → Int → Option (Int)
 | 0, _, _, _ => none
 | k + 1, x22, x23, x24 => if x24 < x23 then (if 0 ≤ x24 then (if x24 < (x22.length : Int) then (if (rd x22 x24) < 0 then (some (-1)) else (if (rd x22 x24) > 0 then (some 1) else (r8better.l0 k x22 x23 (wrap64 (x24 + 1))))) else (none)) else (none)) else (some 0)
def r8better.f (k : Nat) (a0_0 : ByteArray) (a0_1 : ByteArray) (a0_2 : ByteArray) (a0_3 : ByteArray) (a0_4 : Int) (a0_5 : Int) (a0_6 : Bool) (a0_7 : Int) (a0_8 : Bool) (a1_0 : ByteArray) (a1_1 : ByteArray) (a1_2 : ByteArray) (a1_3 : ByteArray) (a1_4 : Int) (a1_5 : Int) (a1_6 : Bool) (a1_7 : Int) (a1_8 : Bool) : Option (Int) := (r8rank.f a1_0 a1_1 a1_2 a1_3 a1_4 a1_5 a1_6 a1_7 a1_8).bind fun t159 => ((r8rank.f a0_0 a0_1 a0_2 a0_3 a0_4 a0_5 a0_6 a0_7 a0_8).bind fun t160 => ((some (([wrap64 (t159 - t160), wrap64 (a1_4 - a0_4), wrap64 (a0_5 - a1_5)] : List Int) : List Int)).bind fun y161 => (r8better.l0 k y161 (y161.length : Int) 0)))
theorem r8better.mono_l : ∀ k, (∀ y0 y1 y2, qv (r8better.l0 k y0 y1 y2) (r8better.l0 (k + 1) y0 y1 y2))
 | 0 => fun _ _ _ r h => by simp [r8better.l0] at h
 | k + 1 => by
  have ih0 := r8better.mono_l k
  ·intro y0 y1 y2
   unfold r8better.l0
   repeat' first
   | (with_reducible apply ih0)
   | (with_reducible exact qv.refl _)
   | (with_reducible exact qv.none _)
   | (with_reducible refine qv.ite ?_ ?_)
   | (with_reducible refine qv.bind ?_ (fun _ => ?_))
   | apply ih0
   | exact qv.none _
   | refine qv.ite ?_ ?_
   | refine qv.bind ?_ (fun _ => ?_)
theorem r8better.mono : ∀ a0 a1 a2 a3 a4 a5 a6 a7 a8 a9 a10 a11 a12 a13 a14 a15 a16 a17 k, qv (r8better.f k a0 a1 a2 a3 a4 a5 a6 a7 a8 a9 a10 a11 a12 a13 a14 a15 a16 a17) (r8better.f (k + 1) a0 a1 a2 a3 a4 a5 a6 a7 a8 a9 a10 a11 a12 a13 a14 a15 a16 a17) := by
 intro a0 a1 a2 a3 a4 a5 a6 a7 a8 a9 a10 a11 a12 a13 a14 a15 a16 a17 k
 have ih0 := r8better.mono_l k
 unfold r8better.f
 repeat' first
   | (with_reducible apply ih0)
   | (with_reducible exact qv.refl _)
   | (with_reducible exact qv.none _)
   | (with_reducible refine qv.ite ?_ ?_)
   | (with_reducible refine qv.bind ?_ (fun _ => ?_))
   | apply ih0
   | exact qv.none _
   | refine qv.ite ?_ ?_
   | refine qv.bind ?_ (fun _ => ?_)
def r8better.T1 : Bool × List (List Nat × List Nat) := (true, [([], []), ([0], [0]), ([], []), ([2, 1], [2]), ([1, 3], [1, 3]), ([], []), ([5], [5]), ([], []), ([7], [7]), ([6, 8], [6, 8]), ([], []), ([10], [10]), ([], []), ([12], [12]), ([11, 13], [11, 13]), ([4, 9, 14], [4, 9, 14]), ([15], [15]), ([], [])])
def r8better.B1 : List Nat := [0, 1, 0, 7, 15, 0, 32, 0, 128, 480, 0, 1024, 0, 4096, 15360, 32767, 65535, 0]
theorem r8better.tab1 : rtab .any (opsOf Tryz.f51 1) = r8better.T1 := by kernel_rfl
theorem r8better.bits1 : waitsOk r8better.T1.2 r8better.B1 = true := by kernel_rfl
set_option maxHeartbeats 8000000 in
set_option maxRecDepth 100000 in
theorem r8better.calls (k : Nat) (a0_0 : ByteArray) (a0_1 : ByteArray) (a0_2 : ByteArray) (a0_3 : ByteArray) (a0_4 : Int) (a0_5 : Int) (a0_6 : Bool) (a0_7 : Int) (a0_8 : Bool) (a1_0 : ByteArray) (a1_1 : ByteArray) (a1_2 : ByteArray) (a1_3 : ByteArray) (a1_4 : Int) (a1_5 : Int) (a1_6 : Bool) (a1_7 : Int) (a1_8 : Bool) (r : Int) (w : World) (h : r8better.f k a0_0 a0_1 a0_2 a0_3 a0_4 a0_5 a0_6 a0_7 a0_8 a1_0 a1_1 a1_2 a1_3 a1_4 a1_5 a1_6 a1_7 a1_8 = some r) :
  Calls Tryz.prog 51 #[.agg #[.string a0_0, .string a0_1, .string a0_2, .string a0_3, .int .i64 a0_4, .int .i64 a0_5, .bool a0_6, .int .i64 a0_7, .bool a0_8], .agg #[.string a1_0, .string a1_1, .string a1_2, .string a1_3, .int .i64 a1_4, .int .i64 a1_5, .bool a1_6, .int .i64 a1_7, .bool a1_8]] w fun e w' => e = .returned (.int .i64 r) ∧ Below w.heap.size w w' := by
 have hu53 := Tryz.underlying53
 have HB := qb.mk (Below.refl w.heap.size w)
 have H : ((r8rank.f a1_0 a1_1 a1_2 a1_3 a1_4 a1_5 a1_6 a1_7 a1_8).bind fun t159 => ((r8rank.f a0_0 a0_1 a0_2 a0_3 a0_4 a0_5 a0_6 a0_7 a0_8).bind fun t160 => ((some (([wrap64 (t159 - t160), wrap64 (a1_4 - a0_4), wrap64 (a0_5 - a1_5)] : List Int) : List Int)).bind fun y161 => (r8better.l0 k y161 (y161.length : Int) 0)))) = some r := h
 clear h
 replace H := Option.bind_eq_some_iff.mp H
 obtain ⟨t159, A30, H⟩ := H
 replace H : ((r8rank.f a0_0 a0_1 a0_2 a0_3 a0_4 a0_5 a0_6 a0_7 a0_8).bind fun t160 => ((some (([wrap64 (t159 - t160), wrap64 (a1_4 - a0_4), wrap64 (a0_5 - a1_5)] : List Int) : List Int)).bind fun y161 => (r8better.l0 k y161 (y161.length : Int) 0))) = some r := H
 have A3 := qb.mk A30
 clear A30
 replace H := Option.bind_eq_some_iff.mp H
 obtain ⟨t160, A40, H⟩ := H
 replace H : ((some (([wrap64 (t159 - t160), wrap64 (a1_4 - a0_4), wrap64 (a0_5 - a1_5)] : List Int) : List Int)).bind fun y161 => (r8better.l0 k y161 (y161.length : Int) 0)) = some r := H
 have A4 := qb.mk A40
 clear A40
 obtain ⟨y161, hy161⟩ : ∃ y_ : List Int, y_ = (([wrap64 (t159 - t160), wrap64 (a1_4 - a0_4), wrap64 (a0_5 - a1_5)] : List Int)) := ⟨_, rfl⟩
 replace H : (r8better.l0 k y161 (y161.length : Int) 0) = some r := by first | (rw [hy161]; with_reducible exact H) | (have H2_ := (Option.bind_some _ _).symm.trans H; rw [hy161]; with_reducible exact H2_) | (have H2_ := (Option.bind_some _ _).symm.trans H; with_reducible exact H2_) | with_reducible exact H | (rw [hy161]; exact H) | exact H
 have Ny161 := qb.mk hy161
 clear hy161
 have H' := qb.mk H
 clear H
 go_enter Tryz.func51, Tryz.ntmps51
 try go_wp2_with (first | ((with_reducible refine qi (N := 2) rfl ?_); refine qh ?hg (N := 2) ?hd (cs := #[.string a0_0, .string a0_1, .string a0_2, .string a0_3, .int .i64 a0_4, .int .i64 a0_5, .bool a0_6, .int .i64 a0_7, .bool a0_8]) (t := 53) ?hr ?_; (case hd => rfl); (case hg => rfl); (case hr => exact qC); intro gb157 hg w5 hbox hb; have n0_ := qb.mk (qd qz hb); have n1_ := qb.mk (hbox); have n2_ := qb.mk ((Z66 : w.heap.size ≤ gb157)); have n3_ := n2_; clear HB; have HB := n0_; have BK157 := n1_; have GW157 := n2_; have GE157 := n3_; clear n0_ n1_ n2_ n3_; clear hb hbox hg) | ((with_reducible refine qi (N := 3) rfl ?_); refine qh ?hg (N := 3) ?hd (cs := #[.string a1_0, .string a1_1, .string a1_2, .string a1_3, .int .i64 a1_4, .int .i64 a1_5, .bool a1_6, .int .i64 a1_7, .bool a1_8]) (t := 53) ?hr ?_; (case hd => rfl); (case hg => rfl); (case hr => exact qC); intro gb158 hg w6 hbox hb; have n0_ := bb BK157 hb; have n1_ := qb.mk (qd (by repeat (first | (with_reducible first | exact HB.out | apply qp | apply qj | apply qo | refine qq ?_ GE157.out) | exact HB.out)) hb); have n2_ := qb.mk (hbox); have n3_ := qb.mk ((by rw [hg]; exact (qx (by repeat (first | (with_reducible first | exact HB.out | apply qp | apply qj | apply qo | refine qq ?_ GE157.out) | exact HB.out))) : w.heap.size ≤ gb158)); have n4_ := n3_; have n5_ := qb.mk ((by rw [hg]; exact Nat.ne_of_lt (bt_ BK157) : gb157 ≠ gb158)); have n6_ := qb.mk ((by rw [hg]; exact Nat.ne_of_gt (bt_ BK157) : gb158 ≠ gb157)); clear BK157 HB; have BK157 := n0_; have HB := n1_; have BK158 := n2_; have GW158 := n3_; have GE158 := n4_; have NB157_158 := n5_; have NB158_157 := n6_; clear n0_ n1_ n2_ n3_ n4_ n5_ n6_; clear hb hbox hg))
 have n0_ := qb.mk (qm BK157.out)
 have n1_ := qb.mk (qm BK158.out)
 have n2_ := qb.mk (qo HB.out)
 clear BK157 BK158 HB
 have BK157 := n0_
 have BK158 := n1_
 have HB := n2_
 clear n0_ n1_ n2_
 refine start_ (n := 18) (S := fun w' => w'.cell? ⟨gb158, 0, none⟩ = some (.string a1_0) ∧ w'.cell? ⟨gb158, 1, none⟩ = some (.string a1_1) ∧ w'.cell? ⟨gb158, 2, none⟩ = some (.string a1_2) ∧ w'.cell? ⟨gb158, 3, none⟩ = some (.string a1_3) ∧ w'.cell? ⟨gb158, 4, none⟩ = some (.int .i64 a1_4) ∧ w'.cell? ⟨gb158, 5, none⟩ = some (.int .i64 a1_5) ∧ w'.cell? ⟨gb158, 6, none⟩ = some (.bool a1_6) ∧ w'.cell? ⟨gb158, 7, none⟩ = some (.int .i64 a1_7) ∧ w'.cell? ⟨gb158, 8, none⟩ = some (.bool a1_8) ∧ w'.cell? ⟨gb157, 0, none⟩ = some (.string a0_0) ∧ w'.cell? ⟨gb157, 1, none⟩ = some (.string a0_1) ∧ w'.cell? ⟨gb157, 2, none⟩ = some (.string a0_2) ∧ w'.cell? ⟨gb157, 3, none⟩ = some (.string a0_3) ∧ w'.cell? ⟨gb157, 4, none⟩ = some (.int .i64 a0_4) ∧ w'.cell? ⟨gb157, 5, none⟩ = some (.int .i64 a0_5) ∧ w'.cell? ⟨gb157, 6, none⟩ = some (.bool a0_6) ∧ w'.cell? ⟨gb157, 7, none⟩ = some (.int .i64 a0_7) ∧ w'.cell? ⟨gb157, 8, none⟩ = some (.bool a0_8)) (ds := []) #[false, false, false, false, false, false, false, false, false, false, false, false, false, false, false, false, false, false] (by kernel_rfl) rfl rfl (bn9 BK158.out (bl9 BK157.out)) (fun hHeld => ?_); refine with_tabW r8better.tab1 r8better.bits1 (fun HT_ HW_ => ?_)
 generalize w6.drew = w7 at BK157 BK158 HB hHeld ⊢
 refine pure_ (i := 5) (N := some 12) (v := ?_) (a' := ?_) #[false, false, false, false, false, true, false, false, false, false, false, false, false, false, false, false, false, false] rfl rfl (qy HT_.out (by kernel_rfl)) (fun _ _ _ h => h) (Or.inl ⟨by rfl, ?_⟩) ?_ ?_
 rotate_left
 ·intro w'
  go_simp
  with_reducible rfl
 rotate_left
 ·simp only [Act.put, sT, s0, s1, qr, qt]
  rfl
 refine pure_ (i := 7) (N := some 14) (v := ?_) (a' := ?_) #[false, false, false, false, false, true, false, true, false, false, false, false, false, false, false, false, false, false] rfl rfl (qy HT_.out (by kernel_rfl)) (fun _ _ _ h => h) (Or.inl ⟨by rfl, ?_⟩) ?_ ?_
 rotate_left
 ·intro w'
  go_simp
  with_reducible rfl
 rotate_left
 ·simp only [Act.put, sT, s0, s1, qr, qt]
  rfl
 refine pure_ (i := 10) (N := some 17) (v := ?_) (a' := ?_) #[false, false, false, false, false, true, false, true, false, false, true, false, false, false, false, false, false, false] rfl rfl (qy HT_.out (by kernel_rfl)) (fun _ _ _ h => h) (Or.inl ⟨by rfl, ?_⟩) ?_ ?_
 rotate_left
 ·intro w'
  go_simp
  with_reducible rfl
 rotate_left
 ·simp only [Act.put, sT, s0, s1, qr, qt]
  rfl
 refine pure_ (i := 12) (N := some 19) (v := ?_) (a' := ?_) #[false, false, false, false, false, true, false, true, false, false, true, false, true, false, false, false, false, false] rfl rfl (qy HT_.out (by kernel_rfl)) (fun _ _ _ h => h) (Or.inl ⟨by rfl, ?_⟩) ?_ ?_
 rotate_left
 ·intro w'
  go_simp
  with_reducible rfl
 rotate_left
 ·simp only [Act.put, sT, s0, s1, qr, qt]
  rfl
 refine pure_ (i := 17) (N := some 24) (v := ?_) (a' := ?_) #[false, false, false, false, false, true, false, true, false, false, true, false, true, false, false, false, false, true] rfl rfl (qy HT_.out (by kernel_rfl)) (fun _ _ _ h => h) (Or.inl ⟨by rfl, ?_⟩) ?_ ?_
 rotate_left
 ·intro w'
  go_simp
  with_reducible rfl
 rotate_left
 ·simp only [Act.put, sT, s0, s1, qr, qt]
  rfl
 refine take_ (i := 0) (N := some 7) (v := ?_) (a' := ?_) #[true, false, false, false, false, true, false, true, false, false, true, false, true, false, false, false, false, true] rfl rfl (qE HT_.out HW_.out (by kernel_rfl)) (fun _ _ _ h => h) (Or.inl ⟨by rfl, ?_⟩) hHeld ?_ ?_
 rotate_left
 ·rintro w' ⟨s0, s1, s2, s3, s4, s5, s6, s7, s8, s9, s10, s11, s12, s13, s14, s15, s16, s17⟩
  go_simp
  with_reducible rfl
 rotate_left
 ·simp only [Act.put, sT, s0, s1, qr, qt]
  rfl
 refine take_ (i := 2) (N := some 9) (v := ?_) (a' := ?_) #[true, false, true, false, false, true, false, true, false, false, true, false, true, false, false, false, false, true] rfl rfl (qE HT_.out HW_.out (by kernel_rfl)) (fun _ _ _ h => h) (Or.inl ⟨by rfl, ?_⟩) hHeld ?_ ?_
 rotate_left
 ·rintro w' ⟨s0, s1, s2, s3, s4, s5, s6, s7, s8, s9, s10, s11, s12, s13, s14, s15, s16, s17⟩
  go_simp
  with_reducible rfl
 rotate_left
 ·simp only [Act.put, sT, s0, s1, qr, qt]
  rfl
 refine take_ (i := 6) (N := some 13) (v := ?_) (a' := ?_) #[true, false, true, false, false, true, true, true, false, false, true, false, true, false, false, false, false, true] rfl rfl (qE HT_.out HW_.out (by kernel_rfl)) (fun _ _ _ h => h) (Or.inl ⟨by rfl, ?_⟩) hHeld ?_ ?_
 rotate_left
 ·rintro w' ⟨s0, s1, s2, s3, s4, s5, s6, s7, s8, s9, s10, s11, s12, s13, s14, s15, s16, s17⟩
  go_simp
  with_reducible rfl
 rotate_left
 ·simp only [Act.put, sT, s0, s1, qr, qt]
  rfl
 refine take_ (i := 8) (N := some 15) (v := ?_) (a' := ?_) #[true, false, true, false, false, true, true, true, true, false, true, false, true, false, false, false, false, true] rfl rfl (qE HT_.out HW_.out (by kernel_rfl)) (fun _ _ _ h => h) (Or.inl ⟨by rfl, ?_⟩) hHeld ?_ ?_
 rotate_left
 ·rintro w' ⟨s0, s1, s2, s3, s4, s5, s6, s7, s8, s9, s10, s11, s12, s13, s14, s15, s16, s17⟩
  go_simp
  with_reducible rfl
 rotate_left
 ·simp only [Act.put, sT, s0, s1, qr, qt]
  rfl
 refine pure_ (i := 9) (N := some 16) (v := ?_) (a' := ?_) #[true, false, true, false, false, true, true, true, true, true, true, false, true, false, false, false, false, true] rfl rfl (qy HT_.out (by kernel_rfl)) (fun _ _ _ h => h) (Or.inl ⟨by rfl, ?_⟩) ?_ ?_
 rotate_left
 ·intro w'
  go_simp
  with_reducible rfl
 rotate_left
 ·simp only [Act.put, sT, s0, s1, qr, qt]
  rfl
 refine take_ (i := 11) (N := some 18) (v := ?_) (a' := ?_) #[true, false, true, false, false, true, true, true, true, true, true, true, true, false, false, false, false, true] rfl rfl (qE HT_.out HW_.out (by kernel_rfl)) (fun _ _ _ h => h) (Or.inl ⟨by rfl, ?_⟩) hHeld ?_ ?_
 rotate_left
 ·rintro w' ⟨s0, s1, s2, s3, s4, s5, s6, s7, s8, s9, s10, s11, s12, s13, s14, s15, s16, s17⟩
  go_simp
  with_reducible rfl
 rotate_left
 ·simp only [Act.put, sT, s0, s1, qr, qt]
  rfl
 refine take_ (i := 13) (N := some 20) (v := ?_) (a' := ?_) #[true, false, true, false, false, true, true, true, true, true, true, true, true, true, false, false, false, true] rfl rfl (qE HT_.out HW_.out (by kernel_rfl)) (fun _ _ _ h => h) (Or.inl ⟨by rfl, ?_⟩) hHeld ?_ ?_
 rotate_left
 ·rintro w' ⟨s0, s1, s2, s3, s4, s5, s6, s7, s8, s9, s10, s11, s12, s13, s14, s15, s16, s17⟩
  go_simp
  with_reducible rfl
 rotate_left
 ·simp only [Act.put, sT, s0, s1, qr, qt]
  rfl
 refine pure_ (i := 14) (N := some 21) (v := ?_) (a' := ?_) #[true, false, true, false, false, true, true, true, true, true, true, true, true, true, true, false, false, true] rfl rfl (qy HT_.out (by kernel_rfl)) (fun _ _ _ h => h) (Or.inl ⟨by rfl, ?_⟩) ?_ ?_
 rotate_left
 ·intro w'
  go_simp
  with_reducible rfl
 rotate_left
 ·simp only [Act.put, sT, s0, s1, qr, qt]
  rfl
 refine one_ (i := 1) (N := some 8) #[true, true, true, false, false, true, true, true, true, true, true, true, true, true, true, false, false, true] rfl rfl (one_of HT_.out (by kernel_rfl)) (by decide) (fun K hK => ?_)
 refine goes_ Tryz.func85 (by kernel_rfl) rfl #[.agg #[.string a1_0, .string a1_1, .string a1_2, .string a1_3, .int .i64 a1_4, .int .i64 a1_5, .bool a1_6, .int .i64 a1_7, .bool a1_8]] (by rfl) rfl rfl Z61 ?_
 with_reducible refine (r8rank.calls a1_0 a1_1 a1_2 a1_3 a1_4 a1_5 a1_6 a1_7 a1_8 t159 _ A3.out).mono ?_
 rintro e w8 ⟨rfl, hb⟩
 refine ⟨_, rfl, ?_⟩
 have n0_ := bb BK157 hb
 have n1_ := bb BK158 hb
 have n2_ := qb.mk (qd Z49 hb)
 clear BK157 BK158 HB
 have BK157 := n0_
 have BK158 := n1_
 have HB := n2_
 clear n0_ n1_ n2_
 (try clear hb)
 (try clear hb2)
 (try clear hk)
 (try clear hi)
 refine hK.out _ _ (bn9 BK158.out (bl9 BK157.out)) (fun hHeld => ?_)
 clear hK K
 refine norm_ (a' := ?_) ?_ ?_
 rotate_left
 ·show Act.put _ (some 8) _ = _
  simp only [Act.put, sT, s0, s1, qr, qt]
  rfl
 refine one_ (i := 3) (N := some 10) #[true, true, true, true, false, true, true, true, true, true, true, true, true, true, true, false, false, true] rfl rfl (one_of HT_.out (by kernel_rfl)) (by decide) (fun K hK => ?_)
 refine goes_ Tryz.func85 (by kernel_rfl) rfl #[.agg #[.string a0_0, .string a0_1, .string a0_2, .string a0_3, .int .i64 a0_4, .int .i64 a0_5, .bool a0_6, .int .i64 a0_7, .bool a0_8]] (by rfl) rfl rfl Z61 ?_
 with_reducible refine (r8rank.calls a0_0 a0_1 a0_2 a0_3 a0_4 a0_5 a0_6 a0_7 a0_8 t160 _ A4.out).mono ?_
 rintro e w9 ⟨rfl, hb⟩
 refine ⟨_, rfl, ?_⟩
 have n0_ := bb BK157 hb
 have n1_ := bb BK158 hb
 have n2_ := qb.mk (qd Z49 hb)
 clear BK157 BK158 HB
 have BK157 := n0_
 have BK158 := n1_
 have HB := n2_
 clear n0_ n1_ n2_
 (try clear hb)
 (try clear hb2)
 (try clear hk)
 (try clear hi)
 refine hK.out _ _ (bn9 BK158.out (bl9 BK157.out)) (fun hHeld => ?_)
 clear hK K
 refine norm_ (a' := ?_) ?_ ?_
 rotate_left
 ·show Act.put _ (some 10) _ = _
  simp only [Act.put, sT, s0, s1, qr, qt]
  rfl
 refine pure_ (i := 4) (N := some 11) (v := ?_) (a' := ?_) #[true, true, true, true, true, true, true, true, true, true, true, true, true, true, true, false, false, true] rfl rfl (qy HT_.out (by kernel_rfl)) (fun _ _ _ h => h) (Or.inl ⟨by rfl, ?_⟩) ?_ ?_
 rotate_left
 ·intro w'
  go_simp
  with_reducible rfl
 rotate_left
 ·simp only [Act.put, sT, s0, s1, qr, qt]
  rfl
 refine one_ (i := 15) (N := some 22) #[true, true, true, true, true, true, true, true, true, true, true, true, true, true, true, true, false, true] rfl rfl (one_of HT_.out (by kernel_rfl)) (by decide) (fun K hK => ?_)
 refine Kd.R_lit_step (Kd.int .i64) _ 3 ?hg (N := 22) ?hd (xs := ([wrap64 (t159 - t160), wrap64 (a1_4 - a0_4), wrap64 (a0_5 - a1_5)] : List Int)) (inner := [.int .i64 (wrap64 (t159 - t160)), .int .i64 (wrap64 (a1_4 - a0_4)), .int .i64 (wrap64 (a0_5 - a1_5))]) (ok := fun _ => True) (okp := fun _ => True) ?hr ?hp (fun _ hk => hk) trivial (Below.refl _ _) (Nat.le_refl _) (by simp) ?_; (case hd => rfl); (case hg => rfl); (case hr => exact qC); (case hp => exact (Reps.one (show Kd.M (Kd.int .i64) _ _ _ (wrap64 (t159 - t160)) [.int .i64 (wrap64 (t159 - t160))] from rfl) (Reps.one (show Kd.M (Kd.int .i64) _ _ _ (wrap64 (a1_4 - a0_4)) [.int .i64 (wrap64 (a1_4 - a0_4))] from rfl) (Reps.one (show Kd.M (Kd.int .i64) _ _ _ (wrap64 (a0_5 - a1_5)) [.int .i64 (wrap64 (a0_5 - a1_5))] from rfl) (Reps.none _ _)))))
 intro v162 w10 ho11 hb hg_ hnew_
 clear hg_ hnew_
 (first | rw [← Ny161.out] at ho11 | (simp only [Int.reduceToNat] at ho11; rw [← Ny161.out] at ho11))
 have n0_ := qb.mk (Kd.R_lower ho11 (qx Z49))
 have n1_ := bb BK157 hb
 have n2_ := bb BK158 hb
 have n3_ := qb.mk (qd Z49 hb)
 clear BK157 BK158 HB
 have HO163 := n0_
 have BK157 := n1_
 have BK158 := n2_
 have HB := n3_
 clear n0_ n1_ n2_ n3_ hb ho11
 obtain ⟨Ao12, co12, eo12⟩ := Kd.R_slice HO163.out
 (first | subst eo12 | (injection eo12 with f1_ f2_ f3_; have f4_ := f1_.symm; have f5_ := f3_.symm; clear f1_ f2_ f3_; subst f4_; subst f5_))
 refine hK.out _ _ (bn9 BK158.out (bl9 BK157.out)) (fun hHeld => ?_)
 clear hK K
 refine norm_ (a' := ?_) ?_ ?_
 rotate_left
 ·show Act.put _ (some 22) _ = _
  simp only [Act.put, sT, s0, s1, qr, qt]
  rfl
 refine pure_ (i := 16) (N := some 23) (v := ?_) (a' := ?_) #[true, true, true, true, true, true, true, true, true, true, true, true, true, true, true, true, true, true] rfl rfl (qy HT_.out (by kernel_rfl)) (fun _ _ _ h => h) (Or.inl ⟨by rfl, ?_⟩) ?_ ?_
 rotate_left
 ·intro w'
  go_simp
  with_reducible rfl
 rotate_left
 ·simp only [Act.put, sT, s0, s1, qr, qt]
  rfl
 refine done_ (done_of HT_.out (by kernel_rfl)) ?_
 try go_wp2
 go_loopg [24] k (fun kq v24 w' => ∃ (x24_1 : Int), v24 = .int .i64 x24_1 ∧ qb (r8better.l0 kq y161 (y161.length : Int) x24_1 = some r) ∧ qb (kq ≤ k) ∧ qb (Kd.R (Kd.int .i64) 3 w' w.heap.size (fun _ => True) (.slice Ao12 y161.length co12) y161) ∧ qb (w'.heap[gb157]? = some (.cells #[.string a0_0, .string a0_1, .string a0_2, .string a0_3, .int .i64 a0_4, .int .i64 a0_5, .bool a0_6, .int .i64 a0_7, .bool a0_8] 53 (0, 0))) ∧ qb (w'.heap[gb158]? = some (.cells #[.string a1_0, .string a1_1, .string a1_2, .string a1_3, .int .i64 a1_4, .int .i64 a1_5, .bool a1_6, .int .i64 a1_7, .bool a1_8] 53 (0, 0))) ∧ qb (Below w.heap.size w w'))
 case atStart => exact ⟨(0), qD, H', ⟨Nat.le_refl _⟩, ⟨by (with_reducible repeat (first | apply Kd.R_alloc | apply Kd.R_drewN | apply Kd.R_drew)); exact HO163.out⟩, ⟨by (with_reducible repeat (first | refine qn ?_ _ | refine qm ?_ | refine ql ?_ _)); exact BK157.out⟩, ⟨by (with_reducible repeat (first | refine qn ?_ _ | refine qm ?_ | refine ql ?_ _)); exact BK158.out⟩, ⟨Z49⟩⟩
 case round =>
  clear H'
  try clear p2; try clear c5; try clear p6; try clear c8
  obtain ⟨x24_1, rfl, HA, HK1, HO_22, BK157, BK158, HB⟩ := hrel
  cases gk with
  | zero => exact absurd HA.out (by simp [r8better.l0])
  | succ k1 =>
   have H := HA.out
   clear HA
   simp only [r8better.l0] at H
   by_cases c13 : x24_1 < (y161.length : Int)
   case neg =>
    rw [if_neg c13] at H
    have c13b0 : decide (x24_1 < (y161.length : Int)) = false := decide_eq_false c13
    clear c13
    obtain rfl := Option.some.inj H
    go_wp2
    go_ret
    exact ⟨Z97, Z49⟩

   rw [if_pos c13] at H
   have c13b0 : decide (x24_1 < (y161.length : Int)) = true := decide_eq_true c13
   clear c13
   by_cases c14 : 0 ≤ x24_1
   case neg =>
    rw [if_neg c14] at H
    exact absurd H (by simp)
   rw [if_pos c14] at H
   have c14b0 : decide (0 ≤ x24_1) = true := decide_eq_true c14
   clear c14
   by_cases c15 : x24_1 < (y161.length : Int)
   case neg =>
    rw [if_neg c15] at H
    exact absurd H (by simp)
   rw [if_pos c15] at H
   have c15b0 : decide (x24_1 < (y161.length : Int)) = true := decide_eq_true c15
   clear c15
   by_cases c16 : (rd y161 x24_1) < 0
   case pos =>
    rw [if_pos c16] at H
    have c16b0 : decide ((rd y161 x24_1) < 0) = true := decide_eq_true c16
    clear c16
    obtain rfl := Option.some.inj H
    have p164 : 0 ≤ (x24_1 : Int) := of_decide_eq_true qB
    have q164 : x24_1 < (y161.length : Int) := of_decide_eq_true qB
    obtain ⟨ad164, e164, hx164_0⟩ := Kd.at_int (Kd.R_reads' HO_22.out).2.2 x24_1 p164 q164
    cases e164
    replace p164 := eq_true p164
    replace q164 := eq_true q164
    go_wp2
    go_ret
    exact ⟨Z97, Z49⟩
   rw [if_neg c16] at H
   have c16b0 : decide ((rd y161 x24_1) < 0) = false := decide_eq_false c16
   clear c16
   by_cases c17 : (rd y161 x24_1) > 0
   case pos =>
    rw [if_pos c17] at H
    have c17b0 : decide (0 < (rd y161 x24_1)) = true := decide_eq_true c17
    clear c17
    obtain rfl := Option.some.inj H
    have p164 : 0 ≤ (x24_1 : Int) := of_decide_eq_true qB
    have q164 : x24_1 < (y161.length : Int) := of_decide_eq_true qB
    obtain ⟨ad164, e164, hx164_0⟩ := Kd.at_int (Kd.R_reads' HO_22.out).2.2 x24_1 p164 q164
    cases e164
    replace p164 := eq_true p164
    replace q164 := eq_true q164
    go_wp2
    go_ret
    exact ⟨Z97, Z49⟩
   rw [if_neg c17] at H
   have c17b0 : decide (0 < (rd y161 x24_1)) = false := decide_eq_false c17
   clear c17
   have H' := qb.mk H
   clear H
   have p164 : 0 ≤ (x24_1 : Int) := of_decide_eq_true qB
   have q164 : x24_1 < (y161.length : Int) := of_decide_eq_true qB
   obtain ⟨ad164, e164, hx164_0⟩ := Kd.at_int (Kd.R_reads' HO_22.out).2.2 x24_1 p164 q164
   cases e164
   replace p164 := eq_true p164
   replace q164 := eq_true q164
   go_wp2
   go_roundg k1
   case measure => have := HK1.out; omega
   case rel => exact ⟨(wrap64 (x24_1 + 1)), qD, H', ⟨Z157⟩, ⟨by (with_reducible repeat (first | apply Kd.R_alloc | apply Kd.R_drewN | apply Kd.R_drew)); exact HO_22.out⟩, ⟨by (with_reducible repeat (first | refine qn ?_ _ | refine qm ?_ | refine ql ?_ _)); exact BK157.out⟩, ⟨by (with_reducible repeat (first | refine qn ?_ _ | refine qm ?_ | refine ql ?_ _)); exact BK158.out⟩, ⟨Z49⟩⟩
end Go.Proofs.YtmmknokdgbgjgaaGreatDoor.XPartnerDaysMatchSpec
