-- Walks of PartnerDaysMatchSpec: written by xprint.py out of the translation (hand-proved functions among them). Lean checks it.
import Derived.Test.YtmmknokdgbgjgaaGreatDoorXPartnerDaysMatchSpecx0
import Derived.Test.YtmmknokdgbgjgaaGreatDoorXPartnerDaysMatchSpecx2
import Derived.Test.YtmmknokdgbgjgaaGreatDoorXPartnerDaysMatchSpecx11
namespace Go.Proofs.YtmmknokdgbgjgaaGreatDoor.XPartnerDaysMatchSpec
open Go.RowKit Go.Proofs.YtmmknokdgbgjgaaGreatDoorW.PrintWords Go.Proofs.YtmmknokdgbgjgaaGreatDoorW.PrintLast Go.Proofs.YtmmknokdgbgjgaaGreatDoorW.PrintMore
attribute [local go_sem] max2_int min2_int max_two min_two max_three min_three max_four min_four   -- for this text's walks alone
set_option linter.unusedVariables false
set_option linter.unusedSimpArgs false

/-! ### partner_alike: function 93 -/
def partner_alike.f (a0_0 : ByteArray) (a0_1 : ByteArray) (a0_2 : ByteArray) (a0_3 : ByteArray) (a0_4 : Int) (a0_5 : Int) (a0_6 : Bool) (a0_7 : Int) (a0_8 : Bool) (a1_0 : ByteArray) (a1_1 : ByteArray) (a1_2 : ByteArray) (a1_3 : ByteArray) (a1_4 : Int) (a1_5 : Bool) : Option (Bool) := if a0_0.toList = a1_0.toList then (if a0_1.toList = a1_1.toList then (if a0_2.toList = ([] : List UInt8) then (if a0_3.toList = ([] : List UInt8) then (some (a0_6 == a1_5)) else (if a0_3.toList = a1_3.toList then (some (a0_6 == a1_5)) else (some false))) else (if a0_2.toList = a1_2.toList then (if a0_3.toList = ([] : List UInt8) then (some (a0_6 == a1_5)) else (if a0_3.toList = a1_3.toList then (some (a0_6 == a1_5)) else (some false))) else (some false))) else (some false)) else (some false)
set_option maxHeartbeats 8000000 in
set_option maxRecDepth 100000 in
theorem partner_alike.calls (a0_0 : ByteArray) (a0_1 : ByteArray) (a0_2 : ByteArray) (a0_3 : ByteArray) (a0_4 : Int) (a0_5 : Int) (a0_6 : Bool) (a0_7 : Int) (a0_8 : Bool) (a1_0 : ByteArray) (a1_1 : ByteArray) (a1_2 : ByteArray) (a1_3 : ByteArray) (a1_4 : Int) (a1_5 : Bool) (r : Bool) (w : World) (h : partner_alike.f a0_0 a0_1 a0_2 a0_3 a0_4 a0_5 a0_6 a0_7 a0_8 a1_0 a1_1 a1_2 a1_3 a1_4 a1_5 = some r) :
  Calls Tryz.prog 93 #[.agg #[.string a0_0, .string a0_1, .string a0_2, .string a0_3, .int .i64 a0_4, .int .i64 a0_5, .bool a0_6, .int .i64 a0_7, .bool a0_8], .agg #[.string a1_0, .string a1_1, .string a1_2, .string a1_3, .int .i64 a1_4, .bool a1_5]] w fun e w' => e = .returned (.bool r) ∧ Below w.heap.size w w' := by
 have hu53 := Tryz.underlying53
 have hu25 := Tryz.underlying25
 have HB := qb.mk (Below.refl w.heap.size w)
 have H : (if a0_0.toList = a1_0.toList then (if a0_1.toList = a1_1.toList then (if a0_2.toList = ([] : List UInt8) then (if a0_3.toList = ([] : List UInt8) then (some (a0_6 == a1_5)) else (if a0_3.toList = a1_3.toList then (some (a0_6 == a1_5)) else (some false))) else (if a0_2.toList = a1_2.toList then (if a0_3.toList = ([] : List UInt8) then (some (a0_6 == a1_5)) else (if a0_3.toList = a1_3.toList then (some (a0_6 == a1_5)) else (some false))) else (some false))) else (some false)) else (some false)) = some r := h
 clear h
 by_cases c3 : a0_0.toList = a1_0.toList
 case neg =>
  rw [if_neg c3] at H
  have c3b0 : (a0_0.toList == a1_0.toList) = false := beq_eq_false_iff_ne.mpr c3
  have c3b1 : (a0_0.toList != a1_0.toList) = true := bne_iff_ne.mpr c3
  obtain rfl := Option.some.inj H
  go_enter Tryz.func93, Tryz.ntmps93
  go_wp2_with (first | ((with_reducible refine qi (N := 2) rfl ?_); refine qh ?hg (N := 2) ?hd (cs := #[.string a0_0, .string a0_1, .string a0_2, .string a0_3, .int .i64 a0_4, .int .i64 a0_5, .bool a0_6, .int .i64 a0_7, .bool a0_8]) (t := 53) ?hr ?_; (case hd => rfl); (case hg => rfl); (case hr => exact qC); intro gb244 hg w51 hbox hb; have n0_ := qb.mk (qd qz hb); have n1_ := qb.mk (hbox); have n2_ := qb.mk ((Z66 : w.heap.size ≤ gb244)); have n3_ := n2_; clear HB; have HB := n0_; have BK244 := n1_; have GW244 := n2_; have GE244 := n3_; clear n0_ n1_ n2_ n3_; clear hb hbox hg) | ((with_reducible refine qi (N := 3) rfl ?_); refine qh ?hg (N := 3) ?hd (cs := #[.string a1_0, .string a1_1, .string a1_2, .string a1_3, .int .i64 a1_4, .bool a1_5]) (t := 25) ?hr ?_; (case hd => rfl); (case hg => rfl); (case hr => exact qC); intro gb245 hg w52 hbox hb; have n0_ := bb BK244 hb; have n1_ := qb.mk (qd Z87 hb); have n2_ := qb.mk (hbox); have n3_ := qb.mk ((Z43 : w.heap.size ≤ gb245)); have n4_ := n3_; have n5_ := qb.mk ((Z150 : gb244 ≠ gb245)); have n6_ := qb.mk ((Z151 : gb245 ≠ gb244)); clear BK244 HB; have BK244 := n0_; have HB := n1_; have BK245 := n2_; have GW245 := n3_; have GE245 := n4_; have NB244_245 := n5_; have NB245_244 := n6_; clear n0_ n1_ n2_ n3_ n4_ n5_ n6_; clear hb hbox hg; have hnb53 := NB244_245.out; have hnc53 := NB245_244.out; obtain ⟨yc54_0, yc54_1, yc54_2, yc54_3, yc54_4, yc54_5, yc54_6, yc54_7, yc54_8, yf54_0, yf54_1, yf54_2, yf54_3, yf54_4, yf54_5, yf54_6, yf54_7, yf54_8⟩ := bf9 BK244.out; obtain ⟨yc55_0, yc55_1, yc55_2, yc55_3, yc55_4, yc55_5, yf55_0, yf55_1, yf55_2, yf55_3, yf55_4, yf55_5⟩ := bf6 BK245.out))
  go_ret
  exact ⟨Z97, Z53⟩

 rw [if_pos c3] at H
 have c3b0 : (a0_0.toList == a1_0.toList) = true := beq_iff_eq.mpr c3
 have c3b1 : (a0_0.toList != a1_0.toList) = false := bne_eq_false_iff_eq.mpr c3
 clear c3
 by_cases c4 : a0_1.toList = a1_1.toList
 case neg =>
  rw [if_neg c4] at H
  have c4b0 : (a0_1.toList == a1_1.toList) = false := beq_eq_false_iff_ne.mpr c4
  have c4b1 : (a0_1.toList != a1_1.toList) = true := bne_iff_ne.mpr c4
  obtain rfl := Option.some.inj H
  go_enter Tryz.func93, Tryz.ntmps93
  go_wp2_with (first | ((with_reducible refine qi (N := 2) rfl ?_); refine qh ?hg (N := 2) ?hd (cs := #[.string a0_0, .string a0_1, .string a0_2, .string a0_3, .int .i64 a0_4, .int .i64 a0_5, .bool a0_6, .int .i64 a0_7, .bool a0_8]) (t := 53) ?hr ?_; (case hd => rfl); (case hg => rfl); (case hr => exact qC); intro gb244 hg w46 hbox hb; have n0_ := qb.mk (qd qz hb); have n1_ := qb.mk (hbox); have n2_ := qb.mk ((Z66 : w.heap.size ≤ gb244)); have n3_ := n2_; clear HB; have HB := n0_; have BK244 := n1_; have GW244 := n2_; have GE244 := n3_; clear n0_ n1_ n2_ n3_; clear hb hbox hg) | ((with_reducible refine qi (N := 3) rfl ?_); refine qh ?hg (N := 3) ?hd (cs := #[.string a1_0, .string a1_1, .string a1_2, .string a1_3, .int .i64 a1_4, .bool a1_5]) (t := 25) ?hr ?_; (case hd => rfl); (case hg => rfl); (case hr => exact qC); intro gb245 hg w47 hbox hb; have n0_ := bb BK244 hb; have n1_ := qb.mk (qd Z87 hb); have n2_ := qb.mk (hbox); have n3_ := qb.mk ((Z43 : w.heap.size ≤ gb245)); have n4_ := n3_; have n5_ := qb.mk ((Z150 : gb244 ≠ gb245)); have n6_ := qb.mk ((Z151 : gb245 ≠ gb244)); clear BK244 HB; have BK244 := n0_; have HB := n1_; have BK245 := n2_; have GW245 := n3_; have GE245 := n4_; have NB244_245 := n5_; have NB245_244 := n6_; clear n0_ n1_ n2_ n3_ n4_ n5_ n6_; clear hb hbox hg; have hnb48 := NB244_245.out; have hnc48 := NB245_244.out; obtain ⟨yc49_0, yc49_1, yc49_2, yc49_3, yc49_4, yc49_5, yc49_6, yc49_7, yc49_8, yf49_0, yf49_1, yf49_2, yf49_3, yf49_4, yf49_5, yf49_6, yf49_7, yf49_8⟩ := bf9 BK244.out; obtain ⟨yc50_0, yc50_1, yc50_2, yc50_3, yc50_4, yc50_5, yf50_0, yf50_1, yf50_2, yf50_3, yf50_4, yf50_5⟩ := bf6 BK245.out))
  go_ret
  exact ⟨Z97, Z53⟩
 rw [if_pos c4] at H
 have c4b0 : (a0_1.toList == a1_1.toList) = true := beq_iff_eq.mpr c4
 have c4b1 : (a0_1.toList != a1_1.toList) = false := bne_eq_false_iff_eq.mpr c4
 clear c4
 by_cases c5 : a0_2.toList = ([] : List UInt8)
 case pos =>
  rw [if_pos c5] at H
  have c5b0 : (a0_2.toList == ([] : List UInt8)) = true := beq_iff_eq.mpr c5
  have c5b1 : (a0_2.toList != ([] : List UInt8)) = false := bne_eq_false_iff_eq.mpr c5
  clear c5
  by_cases c6 : a0_3.toList = ([] : List UInt8)
  case pos =>
   rw [if_pos c6] at H
   have c6b0 : (a0_3.toList == ([] : List UInt8)) = true := beq_iff_eq.mpr c6
   have c6b1 : (a0_3.toList != ([] : List UInt8)) = false := bne_eq_false_iff_eq.mpr c6
   clear c6
   obtain rfl := Option.some.inj H
   go_enter Tryz.func93, Tryz.ntmps93
   go_wp2_with (first | ((with_reducible refine qi (N := 2) rfl ?_); refine qh ?hg (N := 2) ?hd (cs := #[.string a0_0, .string a0_1, .string a0_2, .string a0_3, .int .i64 a0_4, .int .i64 a0_5, .bool a0_6, .int .i64 a0_7, .bool a0_8]) (t := 53) ?hr ?_; (case hd => rfl); (case hg => rfl); (case hr => exact qC); intro gb244 hg w7 hbox hb; have n0_ := qb.mk (qd qz hb); have n1_ := qb.mk (hbox); have n2_ := qb.mk ((Z66 : w.heap.size ≤ gb244)); have n3_ := n2_; clear HB; have HB := n0_; have BK244 := n1_; have GW244 := n2_; have GE244 := n3_; clear n0_ n1_ n2_ n3_; clear hb hbox hg) | ((with_reducible refine qi (N := 3) rfl ?_); refine qh ?hg (N := 3) ?hd (cs := #[.string a1_0, .string a1_1, .string a1_2, .string a1_3, .int .i64 a1_4, .bool a1_5]) (t := 25) ?hr ?_; (case hd => rfl); (case hg => rfl); (case hr => exact qC); intro gb245 hg w8 hbox hb; have n0_ := bb BK244 hb; have n1_ := qb.mk (qd Z87 hb); have n2_ := qb.mk (hbox); have n3_ := qb.mk ((Z43 : w.heap.size ≤ gb245)); have n4_ := n3_; have n5_ := qb.mk ((Z150 : gb244 ≠ gb245)); have n6_ := qb.mk ((Z151 : gb245 ≠ gb244)); clear BK244 HB; have BK244 := n0_; have HB := n1_; have BK245 := n2_; have GW245 := n3_; have GE245 := n4_; have NB244_245 := n5_; have NB245_244 := n6_; clear n0_ n1_ n2_ n3_ n4_ n5_ n6_; clear hb hbox hg; have hnb9 := NB244_245.out; have hnc9 := NB245_244.out; obtain ⟨yc10_0, yc10_1, yc10_2, yc10_3, yc10_4, yc10_5, yc10_6, yc10_7, yc10_8, yf10_0, yf10_1, yf10_2, yf10_3, yf10_4, yf10_5, yf10_6, yf10_7, yf10_8⟩ := bf9 BK244.out; obtain ⟨yc11_0, yc11_1, yc11_2, yc11_3, yc11_4, yc11_5, yf11_0, yf11_1, yf11_2, yf11_3, yf11_4, yf11_5⟩ := bf6 BK245.out))
   go_ret
   exact ⟨Z97, Z53⟩
  rw [if_neg c6] at H
  have c6b0 : (a0_3.toList == ([] : List UInt8)) = false := beq_eq_false_iff_ne.mpr c6
  have c6b1 : (a0_3.toList != ([] : List UInt8)) = true := bne_iff_ne.mpr c6
  by_cases c12 : a0_3.toList = a1_3.toList
  case neg =>
   rw [if_neg c12] at H
   have c12b0 : (a0_3.toList == a1_3.toList) = false := beq_eq_false_iff_ne.mpr c12
   have c12b1 : (a0_3.toList != a1_3.toList) = true := bne_iff_ne.mpr c12
   obtain rfl := Option.some.inj H
   go_enter Tryz.func93, Tryz.ntmps93
   go_wp2_with (first | ((with_reducible refine qi (N := 2) rfl ?_); refine qh ?hg (N := 2) ?hd (cs := #[.string a0_0, .string a0_1, .string a0_2, .string a0_3, .int .i64 a0_4, .int .i64 a0_5, .bool a0_6, .int .i64 a0_7, .bool a0_8]) (t := 53) ?hr ?_; (case hd => rfl); (case hg => rfl); (case hr => exact qC); intro gb244 hg w18 hbox hb; have n0_ := qb.mk (qd qz hb); have n1_ := qb.mk (hbox); have n2_ := qb.mk ((Z66 : w.heap.size ≤ gb244)); have n3_ := n2_; clear HB; have HB := n0_; have BK244 := n1_; have GW244 := n2_; have GE244 := n3_; clear n0_ n1_ n2_ n3_; clear hb hbox hg) | ((with_reducible refine qi (N := 3) rfl ?_); refine qh ?hg (N := 3) ?hd (cs := #[.string a1_0, .string a1_1, .string a1_2, .string a1_3, .int .i64 a1_4, .bool a1_5]) (t := 25) ?hr ?_; (case hd => rfl); (case hg => rfl); (case hr => exact qC); intro gb245 hg w19 hbox hb; have n0_ := bb BK244 hb; have n1_ := qb.mk (qd Z87 hb); have n2_ := qb.mk (hbox); have n3_ := qb.mk ((Z43 : w.heap.size ≤ gb245)); have n4_ := n3_; have n5_ := qb.mk ((Z150 : gb244 ≠ gb245)); have n6_ := qb.mk ((Z151 : gb245 ≠ gb244)); clear BK244 HB; have BK244 := n0_; have HB := n1_; have BK245 := n2_; have GW245 := n3_; have GE245 := n4_; have NB244_245 := n5_; have NB245_244 := n6_; clear n0_ n1_ n2_ n3_ n4_ n5_ n6_; clear hb hbox hg; have hnb20 := NB244_245.out; have hnc20 := NB245_244.out; obtain ⟨yc21_0, yc21_1, yc21_2, yc21_3, yc21_4, yc21_5, yc21_6, yc21_7, yc21_8, yf21_0, yf21_1, yf21_2, yf21_3, yf21_4, yf21_5, yf21_6, yf21_7, yf21_8⟩ := bf9 BK244.out; obtain ⟨yc22_0, yc22_1, yc22_2, yc22_3, yc22_4, yc22_5, yf22_0, yf22_1, yf22_2, yf22_3, yf22_4, yf22_5⟩ := bf6 BK245.out))
   go_ret
   exact ⟨Z97, Z53⟩
  rw [if_pos c12] at H
  have c12b0 : (a0_3.toList == a1_3.toList) = true := beq_iff_eq.mpr c12
  have c12b1 : (a0_3.toList != a1_3.toList) = false := bne_eq_false_iff_eq.mpr c12
  clear c12
  obtain rfl := Option.some.inj H
  go_enter Tryz.func93, Tryz.ntmps93
  go_wp2_with (first | ((with_reducible refine qi (N := 2) rfl ?_); refine qh ?hg (N := 2) ?hd (cs := #[.string a0_0, .string a0_1, .string a0_2, .string a0_3, .int .i64 a0_4, .int .i64 a0_5, .bool a0_6, .int .i64 a0_7, .bool a0_8]) (t := 53) ?hr ?_; (case hd => rfl); (case hg => rfl); (case hr => exact qC); intro gb244 hg w13 hbox hb; have n0_ := qb.mk (qd qz hb); have n1_ := qb.mk (hbox); have n2_ := qb.mk ((Z66 : w.heap.size ≤ gb244)); have n3_ := n2_; clear HB; have HB := n0_; have BK244 := n1_; have GW244 := n2_; have GE244 := n3_; clear n0_ n1_ n2_ n3_; clear hb hbox hg) | ((with_reducible refine qi (N := 3) rfl ?_); refine qh ?hg (N := 3) ?hd (cs := #[.string a1_0, .string a1_1, .string a1_2, .string a1_3, .int .i64 a1_4, .bool a1_5]) (t := 25) ?hr ?_; (case hd => rfl); (case hg => rfl); (case hr => exact qC); intro gb245 hg w14 hbox hb; have n0_ := bb BK244 hb; have n1_ := qb.mk (qd Z87 hb); have n2_ := qb.mk (hbox); have n3_ := qb.mk ((Z43 : w.heap.size ≤ gb245)); have n4_ := n3_; have n5_ := qb.mk ((Z150 : gb244 ≠ gb245)); have n6_ := qb.mk ((Z151 : gb245 ≠ gb244)); clear BK244 HB; have BK244 := n0_; have HB := n1_; have BK245 := n2_; have GW245 := n3_; have GE245 := n4_; have NB244_245 := n5_; have NB245_244 := n6_; clear n0_ n1_ n2_ n3_ n4_ n5_ n6_; clear hb hbox hg; have hnb15 := NB244_245.out; have hnc15 := NB245_244.out; obtain ⟨yc16_0, yc16_1, yc16_2, yc16_3, yc16_4, yc16_5, yc16_6, yc16_7, yc16_8, yf16_0, yf16_1, yf16_2, yf16_3, yf16_4, yf16_5, yf16_6, yf16_7, yf16_8⟩ := bf9 BK244.out; obtain ⟨yc17_0, yc17_1, yc17_2, yc17_3, yc17_4, yc17_5, yf17_0, yf17_1, yf17_2, yf17_3, yf17_4, yf17_5⟩ := bf6 BK245.out))
  go_ret
  exact ⟨Z97, Z53⟩
 rw [if_neg c5] at H
 have c5b0 : (a0_2.toList == ([] : List UInt8)) = false := beq_eq_false_iff_ne.mpr c5
 have c5b1 : (a0_2.toList != ([] : List UInt8)) = true := bne_iff_ne.mpr c5
 by_cases c23 : a0_2.toList = a1_2.toList
 case neg =>
  rw [if_neg c23] at H
  have c23b0 : (a0_2.toList == a1_2.toList) = false := beq_eq_false_iff_ne.mpr c23
  have c23b1 : (a0_2.toList != a1_2.toList) = true := bne_iff_ne.mpr c23
  obtain rfl := Option.some.inj H
  go_enter Tryz.func93, Tryz.ntmps93
  go_wp2_with (first | ((with_reducible refine qi (N := 2) rfl ?_); refine qh ?hg (N := 2) ?hd (cs := #[.string a0_0, .string a0_1, .string a0_2, .string a0_3, .int .i64 a0_4, .int .i64 a0_5, .bool a0_6, .int .i64 a0_7, .bool a0_8]) (t := 53) ?hr ?_; (case hd => rfl); (case hg => rfl); (case hr => exact qC); intro gb244 hg w41 hbox hb; have n0_ := qb.mk (qd qz hb); have n1_ := qb.mk (hbox); have n2_ := qb.mk ((Z66 : w.heap.size ≤ gb244)); have n3_ := n2_; clear HB; have HB := n0_; have BK244 := n1_; have GW244 := n2_; have GE244 := n3_; clear n0_ n1_ n2_ n3_; clear hb hbox hg) | ((with_reducible refine qi (N := 3) rfl ?_); refine qh ?hg (N := 3) ?hd (cs := #[.string a1_0, .string a1_1, .string a1_2, .string a1_3, .int .i64 a1_4, .bool a1_5]) (t := 25) ?hr ?_; (case hd => rfl); (case hg => rfl); (case hr => exact qC); intro gb245 hg w42 hbox hb; have n0_ := bb BK244 hb; have n1_ := qb.mk (qd Z87 hb); have n2_ := qb.mk (hbox); have n3_ := qb.mk ((Z43 : w.heap.size ≤ gb245)); have n4_ := n3_; have n5_ := qb.mk ((Z150 : gb244 ≠ gb245)); have n6_ := qb.mk ((Z151 : gb245 ≠ gb244)); clear BK244 HB; have BK244 := n0_; have HB := n1_; have BK245 := n2_; have GW245 := n3_; have GE245 := n4_; have NB244_245 := n5_; have NB245_244 := n6_; clear n0_ n1_ n2_ n3_ n4_ n5_ n6_; clear hb hbox hg; have hnb43 := NB244_245.out; have hnc43 := NB245_244.out; obtain ⟨yc44_0, yc44_1, yc44_2, yc44_3, yc44_4, yc44_5, yc44_6, yc44_7, yc44_8, yf44_0, yf44_1, yf44_2, yf44_3, yf44_4, yf44_5, yf44_6, yf44_7, yf44_8⟩ := bf9 BK244.out; obtain ⟨yc45_0, yc45_1, yc45_2, yc45_3, yc45_4, yc45_5, yf45_0, yf45_1, yf45_2, yf45_3, yf45_4, yf45_5⟩ := bf6 BK245.out))
  go_ret
  exact ⟨Z97, Z53⟩
 rw [if_pos c23] at H
 have c23b0 : (a0_2.toList == a1_2.toList) = true := beq_iff_eq.mpr c23
 have c23b1 : (a0_2.toList != a1_2.toList) = false := bne_eq_false_iff_eq.mpr c23
 clear c23
 by_cases c24 : a0_3.toList = ([] : List UInt8)
 case pos =>
  rw [if_pos c24] at H
  have c24b0 : (a0_3.toList == ([] : List UInt8)) = true := beq_iff_eq.mpr c24
  have c24b1 : (a0_3.toList != ([] : List UInt8)) = false := bne_eq_false_iff_eq.mpr c24
  clear c24
  obtain rfl := Option.some.inj H
  go_enter Tryz.func93, Tryz.ntmps93
  go_wp2_with (first | ((with_reducible refine qi (N := 2) rfl ?_); refine qh ?hg (N := 2) ?hd (cs := #[.string a0_0, .string a0_1, .string a0_2, .string a0_3, .int .i64 a0_4, .int .i64 a0_5, .bool a0_6, .int .i64 a0_7, .bool a0_8]) (t := 53) ?hr ?_; (case hd => rfl); (case hg => rfl); (case hr => exact qC); intro gb244 hg w25 hbox hb; have n0_ := qb.mk (qd qz hb); have n1_ := qb.mk (hbox); have n2_ := qb.mk ((Z66 : w.heap.size ≤ gb244)); have n3_ := n2_; clear HB; have HB := n0_; have BK244 := n1_; have GW244 := n2_; have GE244 := n3_; clear n0_ n1_ n2_ n3_; clear hb hbox hg) | ((with_reducible refine qi (N := 3) rfl ?_); refine qh ?hg (N := 3) ?hd (cs := #[.string a1_0, .string a1_1, .string a1_2, .string a1_3, .int .i64 a1_4, .bool a1_5]) (t := 25) ?hr ?_; (case hd => rfl); (case hg => rfl); (case hr => exact qC); intro gb245 hg w26 hbox hb; have n0_ := bb BK244 hb; have n1_ := qb.mk (qd Z87 hb); have n2_ := qb.mk (hbox); have n3_ := qb.mk ((Z43 : w.heap.size ≤ gb245)); have n4_ := n3_; have n5_ := qb.mk ((Z150 : gb244 ≠ gb245)); have n6_ := qb.mk ((Z151 : gb245 ≠ gb244)); clear BK244 HB; have BK244 := n0_; have HB := n1_; have BK245 := n2_; have GW245 := n3_; have GE245 := n4_; have NB244_245 := n5_; have NB245_244 := n6_; clear n0_ n1_ n2_ n3_ n4_ n5_ n6_; clear hb hbox hg; have hnb27 := NB244_245.out; have hnc27 := NB245_244.out; obtain ⟨yc28_0, yc28_1, yc28_2, yc28_3, yc28_4, yc28_5, yc28_6, yc28_7, yc28_8, yf28_0, yf28_1, yf28_2, yf28_3, yf28_4, yf28_5, yf28_6, yf28_7, yf28_8⟩ := bf9 BK244.out; obtain ⟨yc29_0, yc29_1, yc29_2, yc29_3, yc29_4, yc29_5, yf29_0, yf29_1, yf29_2, yf29_3, yf29_4, yf29_5⟩ := bf6 BK245.out))
  go_ret
  exact ⟨Z97, Z53⟩
 rw [if_neg c24] at H
 have c24b0 : (a0_3.toList == ([] : List UInt8)) = false := beq_eq_false_iff_ne.mpr c24
 have c24b1 : (a0_3.toList != ([] : List UInt8)) = true := bne_iff_ne.mpr c24
 by_cases c30 : a0_3.toList = a1_3.toList
 case neg =>
  rw [if_neg c30] at H
  have c30b0 : (a0_3.toList == a1_3.toList) = false := beq_eq_false_iff_ne.mpr c30
  have c30b1 : (a0_3.toList != a1_3.toList) = true := bne_iff_ne.mpr c30
  obtain rfl := Option.some.inj H
  go_enter Tryz.func93, Tryz.ntmps93
  go_wp2_with (first | ((with_reducible refine qi (N := 2) rfl ?_); refine qh ?hg (N := 2) ?hd (cs := #[.string a0_0, .string a0_1, .string a0_2, .string a0_3, .int .i64 a0_4, .int .i64 a0_5, .bool a0_6, .int .i64 a0_7, .bool a0_8]) (t := 53) ?hr ?_; (case hd => rfl); (case hg => rfl); (case hr => exact qC); intro gb244 hg w36 hbox hb; have n0_ := qb.mk (qd qz hb); have n1_ := qb.mk (hbox); have n2_ := qb.mk ((Z66 : w.heap.size ≤ gb244)); have n3_ := n2_; clear HB; have HB := n0_; have BK244 := n1_; have GW244 := n2_; have GE244 := n3_; clear n0_ n1_ n2_ n3_; clear hb hbox hg) | ((with_reducible refine qi (N := 3) rfl ?_); refine qh ?hg (N := 3) ?hd (cs := #[.string a1_0, .string a1_1, .string a1_2, .string a1_3, .int .i64 a1_4, .bool a1_5]) (t := 25) ?hr ?_; (case hd => rfl); (case hg => rfl); (case hr => exact qC); intro gb245 hg w37 hbox hb; have n0_ := bb BK244 hb; have n1_ := qb.mk (qd Z87 hb); have n2_ := qb.mk (hbox); have n3_ := qb.mk ((Z43 : w.heap.size ≤ gb245)); have n4_ := n3_; have n5_ := qb.mk ((Z150 : gb244 ≠ gb245)); have n6_ := qb.mk ((Z151 : gb245 ≠ gb244)); clear BK244 HB; have BK244 := n0_; have HB := n1_; have BK245 := n2_; have GW245 := n3_; have GE245 := n4_; have NB244_245 := n5_; have NB245_244 := n6_; clear n0_ n1_ n2_ n3_ n4_ n5_ n6_; clear hb hbox hg; have hnb38 := NB244_245.out; have hnc38 := NB245_244.out; obtain ⟨yc39_0, yc39_1, yc39_2, yc39_3, yc39_4, yc39_5, yc39_6, yc39_7, yc39_8, yf39_0, yf39_1, yf39_2, yf39_3, yf39_4, yf39_5, yf39_6, yf39_7, yf39_8⟩ := bf9 BK244.out; obtain ⟨yc40_0, yc40_1, yc40_2, yc40_3, yc40_4, yc40_5, yf40_0, yf40_1, yf40_2, yf40_3, yf40_4, yf40_5⟩ := bf6 BK245.out))
  go_ret
  exact ⟨Z97, Z53⟩
 rw [if_pos c30] at H
 have c30b0 : (a0_3.toList == a1_3.toList) = true := beq_iff_eq.mpr c30
 have c30b1 : (a0_3.toList != a1_3.toList) = false := bne_eq_false_iff_eq.mpr c30
 clear c30
 obtain rfl := Option.some.inj H
 go_enter Tryz.func93, Tryz.ntmps93
 go_wp2_with (first | ((with_reducible refine qi (N := 2) rfl ?_); refine qh ?hg (N := 2) ?hd (cs := #[.string a0_0, .string a0_1, .string a0_2, .string a0_3, .int .i64 a0_4, .int .i64 a0_5, .bool a0_6, .int .i64 a0_7, .bool a0_8]) (t := 53) ?hr ?_; (case hd => rfl); (case hg => rfl); (case hr => exact qC); intro gb244 hg w31 hbox hb; have n0_ := qb.mk (qd qz hb); have n1_ := qb.mk (hbox); have n2_ := qb.mk ((Z66 : w.heap.size ≤ gb244)); have n3_ := n2_; clear HB; have HB := n0_; have BK244 := n1_; have GW244 := n2_; have GE244 := n3_; clear n0_ n1_ n2_ n3_; clear hb hbox hg) | ((with_reducible refine qi (N := 3) rfl ?_); refine qh ?hg (N := 3) ?hd (cs := #[.string a1_0, .string a1_1, .string a1_2, .string a1_3, .int .i64 a1_4, .bool a1_5]) (t := 25) ?hr ?_; (case hd => rfl); (case hg => rfl); (case hr => exact qC); intro gb245 hg w32 hbox hb; have n0_ := bb BK244 hb; have n1_ := qb.mk (qd Z87 hb); have n2_ := qb.mk (hbox); have n3_ := qb.mk ((Z43 : w.heap.size ≤ gb245)); have n4_ := n3_; have n5_ := qb.mk ((Z150 : gb244 ≠ gb245)); have n6_ := qb.mk ((Z151 : gb245 ≠ gb244)); clear BK244 HB; have BK244 := n0_; have HB := n1_; have BK245 := n2_; have GW245 := n3_; have GE245 := n4_; have NB244_245 := n5_; have NB245_244 := n6_; clear n0_ n1_ n2_ n3_ n4_ n5_ n6_; clear hb hbox hg; have hnb33 := NB244_245.out; have hnc33 := NB245_244.out; obtain ⟨yc34_0, yc34_1, yc34_2, yc34_3, yc34_4, yc34_5, yc34_6, yc34_7, yc34_8, yf34_0, yf34_1, yf34_2, yf34_3, yf34_4, yf34_5, yf34_6, yf34_7, yf34_8⟩ := bf9 BK244.out; obtain ⟨yc35_0, yc35_1, yc35_2, yc35_3, yc35_4, yc35_5, yf35_0, yf35_1, yf35_2, yf35_3, yf35_4, yf35_5⟩ := bf6 BK245.out))
 go_ret
 exact ⟨Z97, Z53⟩
/-! ### partner_applies: function 56 -/
def partner_applies.f (a0_0 : ByteArray) (a0_1 : ByteArray) (a0_2 : ByteArray) (a0_3 : ByteArray) (a0_4 : Int) (a0_5 : Int) (a0_6 : Bool) (a0_7 : Int) (a0_8 : Bool) (a1_0 : ByteArray) (a1_1 : ByteArray) (a1_2 : ByteArray) (a1_3 : ByteArray) (a1_4 : Int) (a1_5 : Bool) : Option (Bool) := (partner_alike.f a0_0 a0_1 a0_2 a0_3 a0_4 a0_5 a0_6 a0_7 a0_8 a1_0 a1_1 a1_2 a1_3 a1_4 a1_5).bind fun t248 => (if t248 = true then ((kit_Outside.f a1_4 a0_4 a0_5).bind fun t249 => (some (!t249))) else (some false))
set_option maxHeartbeats 8000000 in
set_option maxRecDepth 100000 in
theorem partner_applies.calls (a0_0 : ByteArray) (a0_1 : ByteArray) (a0_2 : ByteArray) (a0_3 : ByteArray) (a0_4 : Int) (a0_5 : Int) (a0_6 : Bool) (a0_7 : Int) (a0_8 : Bool) (a1_0 : ByteArray) (a1_1 : ByteArray) (a1_2 : ByteArray) (a1_3 : ByteArray) (a1_4 : Int) (a1_5 : Bool) (r : Bool) (w : World) (h : partner_applies.f a0_0 a0_1 a0_2 a0_3 a0_4 a0_5 a0_6 a0_7 a0_8 a1_0 a1_1 a1_2 a1_3 a1_4 a1_5 = some r) :
  Calls Tryz.prog 56 #[.agg #[.string a0_0, .string a0_1, .string a0_2, .string a0_3, .int .i64 a0_4, .int .i64 a0_5, .bool a0_6, .int .i64 a0_7, .bool a0_8], .agg #[.string a1_0, .string a1_1, .string a1_2, .string a1_3, .int .i64 a1_4, .bool a1_5]] w fun e w' => e = .returned (.bool r) ∧ Below w.heap.size w w' := by
 have hu53 := Tryz.underlying53
 have hu25 := Tryz.underlying25
 have HB := qb.mk (Below.refl w.heap.size w)
 have H : ((partner_alike.f a0_0 a0_1 a0_2 a0_3 a0_4 a0_5 a0_6 a0_7 a0_8 a1_0 a1_1 a1_2 a1_3 a1_4 a1_5).bind fun t248 => (if t248 = true then ((kit_Outside.f a1_4 a0_4 a0_5).bind fun t249 => (some (!t249))) else (some false))) = some r := h
 clear h
 replace H := Option.bind_eq_some_iff.mp H
 obtain ⟨t248, A30, H⟩ := H
 replace H : (if t248 = true then ((kit_Outside.f a1_4 a0_4 a0_5).bind fun t249 => (some (!t249))) else (some false)) = some r := H
 have A3 := qb.mk A30
 clear A30
 by_cases c4 : t248 = true
 case neg =>
  replace c4 := Bool.eq_false_iff.mpr c4
  subst c4
  have H1 : (some false) = some r := by rw [if_neg (show ¬ (false = true) by decide)] at H; exact H
  clear H
  have H := H1
  clear H1
  obtain rfl := Option.some.inj H
  go_enter Tryz.func56, Tryz.ntmps56
  go_wp2_with (first | ((with_reducible refine qi (N := 2) rfl ?_); refine qh ?hg (N := 2) ?hd (cs := #[.string a0_0, .string a0_1, .string a0_2, .string a0_3, .int .i64 a0_4, .int .i64 a0_5, .bool a0_6, .int .i64 a0_7, .bool a0_8]) (t := 53) ?hr ?_; (case hd => rfl); (case hg => rfl); (case hr => exact qC); intro gb246 hg w14 hbox hb; have n0_ := qb.mk (qd qz hb); have n1_ := qb.mk (hbox); have n2_ := qb.mk ((Z66 : w.heap.size ≤ gb246)); have n3_ := n2_; clear HB; have HB := n0_; have BK246 := n1_; have GW246 := n2_; have GE246 := n3_; clear n0_ n1_ n2_ n3_; clear hb hbox hg) | ((with_reducible refine qi (N := 3) rfl ?_); refine qh ?hg (N := 3) ?hd (cs := #[.string a1_0, .string a1_1, .string a1_2, .string a1_3, .int .i64 a1_4, .bool a1_5]) (t := 25) ?hr ?_; (case hd => rfl); (case hg => rfl); (case hr => exact qC); intro gb247 hg w15 hbox hb; have n0_ := bb BK246 hb; have n1_ := qb.mk (qd Z88 hb); have n2_ := qb.mk (hbox); have n3_ := qb.mk ((by rw [hg]; exact (qx Z88) : w.heap.size ≤ gb247)); have n4_ := n3_; have n5_ := qb.mk ((by rw [hg]; exact Nat.ne_of_lt (bt_ BK246) : gb246 ≠ gb247)); have n6_ := qb.mk ((by rw [hg]; exact Nat.ne_of_gt (bt_ BK246) : gb247 ≠ gb246)); clear BK246 HB; have BK246 := n0_; have HB := n1_; have BK247 := n2_; have GW247 := n3_; have GE247 := n4_; have NB246_247 := n5_; have NB247_246 := n6_; clear n0_ n1_ n2_ n3_ n4_ n5_ n6_; clear hb hbox hg; have hnb16 := NB246_247.out; have hnc16 := NB247_246.out; obtain ⟨yc17_0, yc17_1, yc17_2, yc17_3, yc17_4, yc17_5, yc17_6, yc17_7, yc17_8, yf17_0, yf17_1, yf17_2, yf17_3, yf17_4, yf17_5, yf17_6, yf17_7, yf17_8⟩ := bf9 BK246.out; obtain ⟨yc18_0, yc18_1, yc18_2, yc18_3, yc18_4, yc18_5, yf18_0, yf18_1, yf18_2, yf18_3, yf18_4, yf18_5⟩ := bf6 BK247.out) | ((with_reducible refine qg (f := 93) rfl ?_); refine goesL_ (some 7) rfl rfl Tryz.func93 (by kernel_rfl) rfl #[.agg #[.string a0_0, .string a0_1, .string a0_2, .string a0_3, .int .i64 a0_4, .int .i64 a0_5, .bool a0_6, .int .i64 a0_7, .bool a0_8], .agg #[.string a1_0, .string a1_1, .string a1_2, .string a1_3, .int .i64 a1_4, .bool a1_5]] rfl Z61 ?_; (with_reducible refine (partner_alike.calls a0_0 a0_1 a0_2 a0_3 a0_4 a0_5 a0_6 a0_7 a0_8 a1_0 a1_1 a1_2 a1_3 a1_4 a1_5 false _ A3.out).mono ?_); rintro e w19 ⟨rfl, hb⟩; refine ⟨_, rfl, ?_⟩; have n0_ := bb BK246 hb; have n1_ := bb BK247 hb; have n2_ := qb.mk (qd Z54 hb); clear BK246 BK247 HB; have BK246 := n0_; have BK247 := n1_; have HB := n2_; clear n0_ n1_ n2_; (try clear hb); (try clear hb2); (try clear hk); (try clear hi)))
  go_ret
  exact ⟨Z97, Z54⟩

 subst c4
 have H1 : ((kit_Outside.f a1_4 a0_4 a0_5).bind fun t249 => (some (!t249))) = some r := by rw [if_pos rfl] at H; exact H
 clear H
 have H := H1
 clear H1
 replace H := Option.bind_eq_some_iff.mp H
 obtain ⟨t249, A50, H⟩ := H
 replace H : (some (!t249)) = some r := H
 have A5 := qb.mk A50
 clear A50
 obtain rfl := Option.some.inj H
 go_enter Tryz.func56, Tryz.ntmps56
 go_wp2_with (first | ((with_reducible refine qi (N := 2) rfl ?_); refine qh ?hg (N := 2) ?hd (cs := #[.string a0_0, .string a0_1, .string a0_2, .string a0_3, .int .i64 a0_4, .int .i64 a0_5, .bool a0_6, .int .i64 a0_7, .bool a0_8]) (t := 53) ?hr ?_; (case hd => rfl); (case hg => rfl); (case hr => exact qC); intro gb246 hg w6 hbox hb; have n0_ := qb.mk (qd qz hb); have n1_ := qb.mk (hbox); have n2_ := qb.mk ((Z66 : w.heap.size ≤ gb246)); have n3_ := n2_; clear HB; have HB := n0_; have BK246 := n1_; have GW246 := n2_; have GE246 := n3_; clear n0_ n1_ n2_ n3_; clear hb hbox hg) | ((with_reducible refine qi (N := 3) rfl ?_); refine qh ?hg (N := 3) ?hd (cs := #[.string a1_0, .string a1_1, .string a1_2, .string a1_3, .int .i64 a1_4, .bool a1_5]) (t := 25) ?hr ?_; (case hd => rfl); (case hg => rfl); (case hr => exact qC); intro gb247 hg w7 hbox hb; have n0_ := bb BK246 hb; have n1_ := qb.mk (qd Z88 hb); have n2_ := qb.mk (hbox); have n3_ := qb.mk ((by rw [hg]; exact (qx Z88) : w.heap.size ≤ gb247)); have n4_ := n3_; have n5_ := qb.mk ((by rw [hg]; exact Nat.ne_of_lt (bt_ BK246) : gb246 ≠ gb247)); have n6_ := qb.mk ((by rw [hg]; exact Nat.ne_of_gt (bt_ BK246) : gb247 ≠ gb246)); clear BK246 HB; have BK246 := n0_; have HB := n1_; have BK247 := n2_; have GW247 := n3_; have GE247 := n4_; have NB246_247 := n5_; have NB247_246 := n6_; clear n0_ n1_ n2_ n3_ n4_ n5_ n6_; clear hb hbox hg; have hnb8 := NB246_247.out; have hnc8 := NB247_246.out; obtain ⟨yc9_0, yc9_1, yc9_2, yc9_3, yc9_4, yc9_5, yc9_6, yc9_7, yc9_8, yf9_0, yf9_1, yf9_2, yf9_3, yf9_4, yf9_5, yf9_6, yf9_7, yf9_8⟩ := bf9 BK246.out; obtain ⟨yc10_0, yc10_1, yc10_2, yc10_3, yc10_4, yc10_5, yf10_0, yf10_1, yf10_2, yf10_3, yf10_4, yf10_5⟩ := bf6 BK247.out) | ((with_reducible refine qg (f := 93) rfl ?_); refine goesL_ (some 7) rfl rfl Tryz.func93 (by kernel_rfl) rfl #[.agg #[.string a0_0, .string a0_1, .string a0_2, .string a0_3, .int .i64 a0_4, .int .i64 a0_5, .bool a0_6, .int .i64 a0_7, .bool a0_8], .agg #[.string a1_0, .string a1_1, .string a1_2, .string a1_3, .int .i64 a1_4, .bool a1_5]] rfl Z61 ?_; (with_reducible refine (partner_alike.calls a0_0 a0_1 a0_2 a0_3 a0_4 a0_5 a0_6 a0_7 a0_8 a1_0 a1_1 a1_2 a1_3 a1_4 a1_5 true _ A3.out).mono ?_); rintro e w11 ⟨rfl, hb⟩; refine ⟨_, rfl, ?_⟩; have n0_ := bb BK246 hb; have n1_ := bb BK247 hb; have n2_ := qb.mk (qd Z54 hb); clear BK246 BK247 HB; have BK246 := n0_; have BK247 := n1_; have HB := n2_; clear n0_ n1_ n2_; (try clear hb); (try clear hb2); (try clear hk); (try clear hi); obtain ⟨yc12_0, yc12_1, yc12_2, yc12_3, yc12_4, yc12_5, yf12_0, yf12_1, yf12_2, yf12_3, yf12_4, yf12_5⟩ := bf6 BK247.out; obtain ⟨yc13_0, yc13_1, yc13_2, yc13_3, yc13_4, yc13_5, yc13_6, yc13_7, yc13_8, yf13_0, yf13_1, yf13_2, yf13_3, yf13_4, yf13_5, yf13_6, yf13_7, yf13_8⟩ := bf9 BK246.out) | (go_at_call 75; (with_reducible refine (kit_Outside.calls a1_4 a0_4 a0_5 t249 _ A5.out).mono ?_); rintro e w' ⟨rfl, ⟨nd, rfl⟩⟩))
 go_ret
 exact ⟨Z97, Z54⟩
/-! ### partner_flagNumber: function 94 -/
def partner_flagNumber.f (a0 : Bool) : Option (Int) := if a0 = true then (some 1) else (some 0)
set_option maxHeartbeats 8000000 in
set_option maxRecDepth 100000 in
theorem partner_flagNumber.calls (a0 : Bool) (r : Int) (w : World) (h : partner_flagNumber.f a0 = some r) :
  Calls Tryz.prog 94 #[.bool a0] w fun e w' => e = .returned (.int .i64 r) ∧ Drawn0 w w' := by
 have H : (if a0 = true then (some 1) else (some 0)) = some r := h
 clear h
 by_cases c2 : a0 = true
 case pos =>
  subst c2
  have H1 : (some 1) = some r := by rw [if_pos rfl] at H; exact H
  clear H
  have H := H1
  clear H1
  obtain rfl := Option.some.inj H
  go_enter Tryz.func94, Tryz.ntmps94
  go_wp2
  go_ret
  exact ⟨Z141, Z138⟩
 replace c2 := Bool.eq_false_iff.mpr c2
 subst c2
 have H1 : (some 0) = some r := by rw [if_neg (show ¬ (false = true) by decide)] at H; exact H
 clear H
 have H := H1
 clear H1
 obtain rfl := Option.some.inj H
 go_enter Tryz.func94, Tryz.ntmps94
 go_wp2
 go_ret
 exact ⟨Z141, Z138⟩

/-! ### partner_better: function 57 -/
def partner_better.l0 : Nat → List Int → Int → Int → Option (Int)
 | 0, _, _, _ => none
 | k + 1, x35, x36, x37 => if x37 < x36 then (if 0 ≤ x37 then (if x37 < (x35.length : Int) then (if (rd x35 x37) < 0 then (some (-1)) else (if (rd x35 x37) > 0 then (some 1) else (partner_better.l0 k x35 x36 (wrap64 (x37 + 1))))) else (none)) else (none)) else (some 0)
def partner_better.f (k : Nat) (a0_0 : ByteArray) (a0_1 : ByteArray) (a0_2 : ByteArray) (a0_3 : ByteArray) (a0_4 : Int) (a0_5 : Int) (a0_6 : Bool) (a0_7 : Int) (a0_8 : Bool) (a1_0 : ByteArray) (a1_1 : ByteArray) (a1_2 : ByteArray) (a1_3 : ByteArray) (a1_4 : Int) (a1_5 : Int) (a1_6 : Bool) (a1_7 : Int) (a1_8 : Bool) : Option (Int) := (partner_flagNumber.f (a1_2.toList != ([] : List UInt8))).bind fun t252 => ((partner_flagNumber.f (a0_2.toList != ([] : List UInt8))).bind fun t253 => ((partner_flagNumber.f (a1_3.toList != ([] : List UInt8))).bind fun t254 => ((partner_flagNumber.f (a0_3.toList != ([] : List UInt8))).bind fun t255 => ((some (([wrap64 (t252 - t253), wrap64 (t254 - t255), wrap64 (a1_4 - a0_4), wrap64 (a0_5 - a1_5)] : List Int) : List Int)).bind fun y256 => (partner_better.l0 k y256 (y256.length : Int) 0)))))
theorem partner_better.mono_l : ∀ k, (∀ y0 y1 y2, qv (partner_better.l0 k y0 y1 y2) (partner_better.l0 (k + 1) y0 y1 y2))
 | 0 => fun _ _ _ r h => by simp [partner_better.l0] at h
 | k + 1 => by
  have ih0 := partner_better.mono_l k
  ·intro y0 y1 y2
   unfold partner_better.l0
   repeat' first
   | (with_reducible apply ih0)
   | (with_reducible exact qv.refl _)
   | (with_reducible exact qv.none _)
   | (with_reducible refine qv.ite ?_ ?_)
   | (with_reducible refine qv.bind ?_ (fun _ => ?_))
   | apply ih0
   | exact qv.none _
   | refine qv.ite ?_ ?_
   | refine qv.bind ?_ (fun _ => ?_)
theorem partner_better.mono : ∀ a0 a1 a2 a3 a4 a5 a6 a7 a8 a9 a10 a11 a12 a13 a14 a15 a16 a17 k, qv (partner_better.f k a0 a1 a2 a3 a4 a5 a6 a7 a8 a9 a10 a11 a12 a13 a14 a15 a16 a17) (partner_better.f (k + 1) a0 a1 a2 a3 a4 a5 a6 a7 a8 a9 a10 a11 a12 a13 a14 a15 a16 a17) := by
 intro a0 a1 a2 a3 a4 a5 a6 a7 a8 a9 a10 a11 a12 a13 a14 a15 a16 a17 k
 have ih0 := partner_better.mono_l k
 unfold partner_better.f
 repeat' first
   | (with_reducible apply ih0)
   | (with_reducible exact qv.refl _)
   | (with_reducible exact qv.none _)
   | (with_reducible refine qv.ite ?_ ?_)
   | (with_reducible refine qv.bind ?_ (fun _ => ?_))
   | apply ih0
   | exact qv.none _
   | refine qv.ite ?_ ?_
   | refine qv.bind ?_ (fun _ => ?_)
def partner_better.T1 : Bool × List (List Nat × List Nat) := (true, [([], []), ([0], [0]), ([1], [1]), ([2], [2]), ([], []), ([4], [4]), ([5], [5]), ([6, 3], [6]), ([3, 7], [3, 7]), ([], []), ([9], [9]), ([10], [10]), ([11, 7], [11]), ([], []), ([13], [13]), ([14], [14]), ([15, 12], [15]), ([12, 16], [12, 16]), ([], []), ([18], [18]), ([], []), ([20], [20]), ([19, 21], [19, 21]), ([], []), ([23], [23]), ([], []), ([25], [25]), ([24, 26], [24, 26]), ([8, 17, 22, 27], [8, 17, 22, 27]), ([28], [28]), ([], [])])
def partner_better.B1 : List Nat := [0, 1, 3, 7, 0, 16, 48, 127, 255, 0, 512, 1536, 3839, 0, 8192, 24576, 65279, 130815, 0, 262144, 0, 1048576, 3932160, 0, 8388608, 0, 33554432, 125829120, 268435455, 536870911, 0]
theorem partner_better.tab1 : rtab .any (opsOf Tryz.f57 1) = partner_better.T1 := by kernel_rfl
theorem partner_better.bits1 : waitsOk partner_better.T1.2 partner_better.B1 = true := by kernel_rfl
set_option maxHeartbeats 8000000 in
set_option maxRecDepth 100000 in
theorem partner_better.calls (k : Nat) (a0_0 : ByteArray) (a0_1 : ByteArray) (a0_2 : ByteArray) (a0_3 : ByteArray) (a0_4 : Int) (a0_5 : Int) (a0_6 : Bool) (a0_7 : Int) (a0_8 : Bool) (a1_0 : ByteArray) (a1_1 : ByteArray) (a1_2 : ByteArray) (a1_3 : ByteArray) (a1_4 : Int) (a1_5 : Int) (a1_6 : Bool) (a1_7 : Int) (a1_8 : Bool) (r : Int) (w : World) (h : partner_better.f k a0_0 a0_1 a0_2 a0_3 a0_4 a0_5 a0_6 a0_7 a0_8 a1_0 a1_1 a1_2 a1_3 a1_4 a1_5 a1_6 a1_7 a1_8 = some r) :
  Calls Tryz.prog 57 #[.agg #[.string a0_0, .string a0_1, .string a0_2, .string a0_3, .int .i64 a0_4, .int .i64 a0_5, .bool a0_6, .int .i64 a0_7, .bool a0_8], .agg #[.string a1_0, .string a1_1, .string a1_2, .string a1_3, .int .i64 a1_4, .int .i64 a1_5, .bool a1_6, .int .i64 a1_7, .bool a1_8]] w fun e w' => e = .returned (.int .i64 r) ∧ Below w.heap.size w w' := by
 have hu53 := Tryz.underlying53
 have HB := qb.mk (Below.refl w.heap.size w)
 have H : ((partner_flagNumber.f (a1_2.toList != ([] : List UInt8))).bind fun t252 => ((partner_flagNumber.f (a0_2.toList != ([] : List UInt8))).bind fun t253 => ((partner_flagNumber.f (a1_3.toList != ([] : List UInt8))).bind fun t254 => ((partner_flagNumber.f (a0_3.toList != ([] : List UInt8))).bind fun t255 => ((some (([wrap64 (t252 - t253), wrap64 (t254 - t255), wrap64 (a1_4 - a0_4), wrap64 (a0_5 - a1_5)] : List Int) : List Int)).bind fun y256 => (partner_better.l0 k y256 (y256.length : Int) 0)))))) = some r := h
 clear h
 replace H := Option.bind_eq_some_iff.mp H
 obtain ⟨t252, A30, H⟩ := H
 replace H : ((partner_flagNumber.f (a0_2.toList != ([] : List UInt8))).bind fun t253 => ((partner_flagNumber.f (a1_3.toList != ([] : List UInt8))).bind fun t254 => ((partner_flagNumber.f (a0_3.toList != ([] : List UInt8))).bind fun t255 => ((some (([wrap64 (t252 - t253), wrap64 (t254 - t255), wrap64 (a1_4 - a0_4), wrap64 (a0_5 - a1_5)] : List Int) : List Int)).bind fun y256 => (partner_better.l0 k y256 (y256.length : Int) 0))))) = some r := H
 have A3 := qb.mk A30
 clear A30
 replace H := Option.bind_eq_some_iff.mp H
 obtain ⟨t253, A40, H⟩ := H
 replace H : ((partner_flagNumber.f (a1_3.toList != ([] : List UInt8))).bind fun t254 => ((partner_flagNumber.f (a0_3.toList != ([] : List UInt8))).bind fun t255 => ((some (([wrap64 (t252 - t253), wrap64 (t254 - t255), wrap64 (a1_4 - a0_4), wrap64 (a0_5 - a1_5)] : List Int) : List Int)).bind fun y256 => (partner_better.l0 k y256 (y256.length : Int) 0)))) = some r := H
 have A4 := qb.mk A40
 clear A40
 replace H := Option.bind_eq_some_iff.mp H
 obtain ⟨t254, A50, H⟩ := H
 replace H : ((partner_flagNumber.f (a0_3.toList != ([] : List UInt8))).bind fun t255 => ((some (([wrap64 (t252 - t253), wrap64 (t254 - t255), wrap64 (a1_4 - a0_4), wrap64 (a0_5 - a1_5)] : List Int) : List Int)).bind fun y256 => (partner_better.l0 k y256 (y256.length : Int) 0))) = some r := H
 have A5 := qb.mk A50
 clear A50
 replace H := Option.bind_eq_some_iff.mp H
 obtain ⟨t255, A60, H⟩ := H
 replace H : ((some (([wrap64 (t252 - t253), wrap64 (t254 - t255), wrap64 (a1_4 - a0_4), wrap64 (a0_5 - a1_5)] : List Int) : List Int)).bind fun y256 => (partner_better.l0 k y256 (y256.length : Int) 0)) = some r := H
 have A6 := qb.mk A60
 clear A60
 obtain ⟨y256, hy256⟩ : ∃ y_ : List Int, y_ = (([wrap64 (t252 - t253), wrap64 (t254 - t255), wrap64 (a1_4 - a0_4), wrap64 (a0_5 - a1_5)] : List Int)) := ⟨_, rfl⟩
 replace H : (partner_better.l0 k y256 (y256.length : Int) 0) = some r := by first | (rw [hy256]; with_reducible exact H) | (have H2_ := (Option.bind_some _ _).symm.trans H; rw [hy256]; with_reducible exact H2_) | (have H2_ := (Option.bind_some _ _).symm.trans H; with_reducible exact H2_) | with_reducible exact H | (rw [hy256]; exact H) | exact H
 have Ny256 := qb.mk hy256
 clear hy256
 have H' := qb.mk H
 clear H
 go_enter Tryz.func57, Tryz.ntmps57
 try go_wp2_with (first | ((with_reducible refine qi (N := 2) rfl ?_); refine qh ?hg (N := 2) ?hd (cs := #[.string a0_0, .string a0_1, .string a0_2, .string a0_3, .int .i64 a0_4, .int .i64 a0_5, .bool a0_6, .int .i64 a0_7, .bool a0_8]) (t := 53) ?hr ?_; (case hd => rfl); (case hg => rfl); (case hr => exact qC); intro gb250 hg w7 hbox hb; have n0_ := qb.mk (qd qz hb); have n1_ := qb.mk (hbox); have n2_ := qb.mk ((Z66 : w.heap.size ≤ gb250)); have n3_ := n2_; clear HB; have HB := n0_; have BK250 := n1_; have GW250 := n2_; have GE250 := n3_; clear n0_ n1_ n2_ n3_; clear hb hbox hg) | ((with_reducible refine qi (N := 3) rfl ?_); refine qh ?hg (N := 3) ?hd (cs := #[.string a1_0, .string a1_1, .string a1_2, .string a1_3, .int .i64 a1_4, .int .i64 a1_5, .bool a1_6, .int .i64 a1_7, .bool a1_8]) (t := 53) ?hr ?_; (case hd => rfl); (case hg => rfl); (case hr => exact qC); intro gb251 hg w8 hbox hb; have n0_ := bb BK250 hb; have n1_ := qb.mk (qd (by repeat (first | (with_reducible first | exact HB.out | apply qp | apply qj | apply qo | refine qq ?_ GE250.out) | exact HB.out)) hb); have n2_ := qb.mk (hbox); have n3_ := qb.mk ((by rw [hg]; exact (qx (by repeat (first | (with_reducible first | exact HB.out | apply qp | apply qj | apply qo | refine qq ?_ GE250.out) | exact HB.out))) : w.heap.size ≤ gb251)); have n4_ := n3_; have n5_ := qb.mk ((by rw [hg]; exact Nat.ne_of_lt (bt_ BK250) : gb250 ≠ gb251)); have n6_ := qb.mk ((by rw [hg]; exact Nat.ne_of_gt (bt_ BK250) : gb251 ≠ gb250)); clear BK250 HB; have BK250 := n0_; have HB := n1_; have BK251 := n2_; have GW251 := n3_; have GE251 := n4_; have NB250_251 := n5_; have NB251_250 := n6_; clear n0_ n1_ n2_ n3_ n4_ n5_ n6_; clear hb hbox hg))
 have n0_ := qb.mk (qm BK250.out)
 have n1_ := qb.mk (qm BK251.out)
 have n2_ := qb.mk (qo HB.out)
 clear BK250 BK251 HB
 have BK250 := n0_
 have BK251 := n1_
 have HB := n2_
 clear n0_ n1_ n2_
 refine start_ (n := 31) (S := fun w' => w'.cell? ⟨gb251, 0, none⟩ = some (.string a1_0) ∧ w'.cell? ⟨gb251, 1, none⟩ = some (.string a1_1) ∧ w'.cell? ⟨gb251, 2, none⟩ = some (.string a1_2) ∧ w'.cell? ⟨gb251, 3, none⟩ = some (.string a1_3) ∧ w'.cell? ⟨gb251, 4, none⟩ = some (.int .i64 a1_4) ∧ w'.cell? ⟨gb251, 5, none⟩ = some (.int .i64 a1_5) ∧ w'.cell? ⟨gb251, 6, none⟩ = some (.bool a1_6) ∧ w'.cell? ⟨gb251, 7, none⟩ = some (.int .i64 a1_7) ∧ w'.cell? ⟨gb251, 8, none⟩ = some (.bool a1_8) ∧ w'.cell? ⟨gb250, 0, none⟩ = some (.string a0_0) ∧ w'.cell? ⟨gb250, 1, none⟩ = some (.string a0_1) ∧ w'.cell? ⟨gb250, 2, none⟩ = some (.string a0_2) ∧ w'.cell? ⟨gb250, 3, none⟩ = some (.string a0_3) ∧ w'.cell? ⟨gb250, 4, none⟩ = some (.int .i64 a0_4) ∧ w'.cell? ⟨gb250, 5, none⟩ = some (.int .i64 a0_5) ∧ w'.cell? ⟨gb250, 6, none⟩ = some (.bool a0_6) ∧ w'.cell? ⟨gb250, 7, none⟩ = some (.int .i64 a0_7) ∧ w'.cell? ⟨gb250, 8, none⟩ = some (.bool a0_8)) (ds := []) #[false, false, false, false, false, false, false, false, false, false, false, false, false, false, false, false, false, false, false, false, false, false, false, false, false, false, false, false, false, false, false] (by kernel_rfl) rfl rfl (bn9 BK251.out (bl9 BK250.out)) (fun hHeld => ?_); refine with_tabW partner_better.tab1 partner_better.bits1 (fun HT_ HW_ => ?_)
 generalize w8.drew = w9 at BK250 BK251 HB hHeld ⊢
 refine pure_ (i := 0) (N := some 7) (v := ?_) (a' := ?_) #[true, false, false, false, false, false, false, false, false, false, false, false, false, false, false, false, false, false, false, false, false, false, false, false, false, false, false, false, false, false, false] rfl rfl (qy HT_.out (by kernel_rfl)) (fun _ _ _ h => h) (Or.inl ⟨by rfl, ?_⟩) ?_ ?_
 rotate_left
 ·intro w'
  go_simp
  with_reducible rfl
 rotate_left
 ·simp only [Act.put, sT, s0, s1, qr, qt]
  rfl
 refine pure_ (i := 4) (N := some 11) (v := ?_) (a' := ?_) #[true, false, false, false, true, false, false, false, false, false, false, false, false, false, false, false, false, false, false, false, false, false, false, false, false, false, false, false, false, false, false] rfl rfl (qy HT_.out (by kernel_rfl)) (fun _ _ _ h => h) (Or.inl ⟨by rfl, ?_⟩) ?_ ?_
 rotate_left
 ·intro w'
  go_simp
  with_reducible rfl
 rotate_left
 ·simp only [Act.put, sT, s0, s1, qr, qt]
  rfl
 refine pure_ (i := 9) (N := some 16) (v := ?_) (a' := ?_) #[true, false, false, false, true, false, false, false, false, true, false, false, false, false, false, false, false, false, false, false, false, false, false, false, false, false, false, false, false, false, false] rfl rfl (qy HT_.out (by kernel_rfl)) (fun _ _ _ h => h) (Or.inl ⟨by rfl, ?_⟩) ?_ ?_
 rotate_left
 ·intro w'
  go_simp
  with_reducible rfl
 rotate_left
 ·simp only [Act.put, sT, s0, s1, qr, qt]
  rfl
 refine pure_ (i := 13) (N := some 20) (v := ?_) (a' := ?_) #[true, false, false, false, true, false, false, false, false, true, false, false, false, true, false, false, false, false, false, false, false, false, false, false, false, false, false, false, false, false, false] rfl rfl (qy HT_.out (by kernel_rfl)) (fun _ _ _ h => h) (Or.inl ⟨by rfl, ?_⟩) ?_ ?_
 rotate_left
 ·intro w'
  go_simp
  with_reducible rfl
 rotate_left
 ·simp only [Act.put, sT, s0, s1, qr, qt]
  rfl
 refine pure_ (i := 18) (N := some 25) (v := ?_) (a' := ?_) #[true, false, false, false, true, false, false, false, false, true, false, false, false, true, false, false, false, false, true, false, false, false, false, false, false, false, false, false, false, false, false] rfl rfl (qy HT_.out (by kernel_rfl)) (fun _ _ _ h => h) (Or.inl ⟨by rfl, ?_⟩) ?_ ?_
 rotate_left
 ·intro w'
  go_simp
  with_reducible rfl
 rotate_left
 ·simp only [Act.put, sT, s0, s1, qr, qt]
  rfl
 refine pure_ (i := 20) (N := some 27) (v := ?_) (a' := ?_) #[true, false, false, false, true, false, false, false, false, true, false, false, false, true, false, false, false, false, true, false, true, false, false, false, false, false, false, false, false, false, false] rfl rfl (qy HT_.out (by kernel_rfl)) (fun _ _ _ h => h) (Or.inl ⟨by rfl, ?_⟩) ?_ ?_
 rotate_left
 ·intro w'
  go_simp
  with_reducible rfl
 rotate_left
 ·simp only [Act.put, sT, s0, s1, qr, qt]
  rfl
 refine pure_ (i := 23) (N := some 30) (v := ?_) (a' := ?_) #[true, false, false, false, true, false, false, false, false, true, false, false, false, true, false, false, false, false, true, false, true, false, false, true, false, false, false, false, false, false, false] rfl rfl (qy HT_.out (by kernel_rfl)) (fun _ _ _ h => h) (Or.inl ⟨by rfl, ?_⟩) ?_ ?_
 rotate_left
 ·intro w'
  go_simp
  with_reducible rfl
 rotate_left
 ·simp only [Act.put, sT, s0, s1, qr, qt]
  rfl
 refine pure_ (i := 25) (N := some 32) (v := ?_) (a' := ?_) #[true, false, false, false, true, false, false, false, false, true, false, false, false, true, false, false, false, false, true, false, true, false, false, true, false, true, false, false, false, false, false] rfl rfl (qy HT_.out (by kernel_rfl)) (fun _ _ _ h => h) (Or.inl ⟨by rfl, ?_⟩) ?_ ?_
 rotate_left
 ·intro w'
  go_simp
  with_reducible rfl
 rotate_left
 ·simp only [Act.put, sT, s0, s1, qr, qt]
  rfl
 refine pure_ (i := 30) (N := some 37) (v := ?_) (a' := ?_) #[true, false, false, false, true, false, false, false, false, true, false, false, false, true, false, false, false, false, true, false, true, false, false, true, false, true, false, false, false, false, true] rfl rfl (qy HT_.out (by kernel_rfl)) (fun _ _ _ h => h) (Or.inl ⟨by rfl, ?_⟩) ?_ ?_
 rotate_left
 ·intro w'
  go_simp
  with_reducible rfl
 rotate_left
 ·simp only [Act.put, sT, s0, s1, qr, qt]
  rfl
 refine take_ (i := 1) (N := some 8) (v := ?_) (a' := ?_) #[true, true, false, false, true, false, false, false, false, true, false, false, false, true, false, false, false, false, true, false, true, false, false, true, false, true, false, false, false, false, true] rfl rfl (qE HT_.out HW_.out (by kernel_rfl)) (fun _ _ _ h => h) (Or.inl ⟨by rfl, ?_⟩) hHeld ?_ ?_
 rotate_left
 ·rintro w' ⟨s0, s1, s2, s3, s4, s5, s6, s7, s8, s9, s10, s11, s12, s13, s14, s15, s16, s17⟩
  go_simp
  with_reducible rfl
 rotate_left
 ·simp only [Act.put, sT, s0, s1, qr, qt]
  rfl
 refine pure_ (i := 2) (N := some 9) (v := ?_) (a' := ?_) #[true, true, true, false, true, false, false, false, false, true, false, false, false, true, false, false, false, false, true, false, true, false, false, true, false, true, false, false, false, false, true] rfl rfl (qy HT_.out (by kernel_rfl)) (fun _ _ _ h => h) (Or.inl ⟨by rfl, ?_⟩) ?_ ?_
 rotate_left
 ·intro w'
  go_simp
  with_reducible rfl
 rotate_left
 ·simp only [Act.put, sT, s0, s1, qr, qt]
  rfl
 refine take_ (i := 5) (N := some 12) (v := ?_) (a' := ?_) #[true, true, true, false, true, true, false, false, false, true, false, false, false, true, false, false, false, false, true, false, true, false, false, true, false, true, false, false, false, false, true] rfl rfl (qE HT_.out HW_.out (by kernel_rfl)) (fun _ _ _ h => h) (Or.inl ⟨by rfl, ?_⟩) hHeld ?_ ?_
 rotate_left
 ·rintro w' ⟨s0, s1, s2, s3, s4, s5, s6, s7, s8, s9, s10, s11, s12, s13, s14, s15, s16, s17⟩
  go_simp
  with_reducible rfl
 rotate_left
 ·simp only [Act.put, sT, s0, s1, qr, qt]
  rfl
 refine pure_ (i := 6) (N := some 13) (v := ?_) (a' := ?_) #[true, true, true, false, true, true, true, false, false, true, false, false, false, true, false, false, false, false, true, false, true, false, false, true, false, true, false, false, false, false, true] rfl rfl (qy HT_.out (by kernel_rfl)) (fun _ _ _ h => h) (Or.inl ⟨by rfl, ?_⟩) ?_ ?_
 rotate_left
 ·intro w'
  go_simp
  with_reducible rfl
 rotate_left
 ·simp only [Act.put, sT, s0, s1, qr, qt]
  rfl
 refine take_ (i := 10) (N := some 17) (v := ?_) (a' := ?_) #[true, true, true, false, true, true, true, false, false, true, true, false, false, true, false, false, false, false, true, false, true, false, false, true, false, true, false, false, false, false, true] rfl rfl (qE HT_.out HW_.out (by kernel_rfl)) (fun _ _ _ h => h) (Or.inl ⟨by rfl, ?_⟩) hHeld ?_ ?_
 rotate_left
 ·rintro w' ⟨s0, s1, s2, s3, s4, s5, s6, s7, s8, s9, s10, s11, s12, s13, s14, s15, s16, s17⟩
  go_simp
  with_reducible rfl
 rotate_left
 ·simp only [Act.put, sT, s0, s1, qr, qt]
  rfl
 refine pure_ (i := 11) (N := some 18) (v := ?_) (a' := ?_) #[true, true, true, false, true, true, true, false, false, true, true, true, false, true, false, false, false, false, true, false, true, false, false, true, false, true, false, false, false, false, true] rfl rfl (qy HT_.out (by kernel_rfl)) (fun _ _ _ h => h) (Or.inl ⟨by rfl, ?_⟩) ?_ ?_
 rotate_left
 ·intro w'
  go_simp
  with_reducible rfl
 rotate_left
 ·simp only [Act.put, sT, s0, s1, qr, qt]
  rfl
 refine take_ (i := 14) (N := some 21) (v := ?_) (a' := ?_) #[true, true, true, false, true, true, true, false, false, true, true, true, false, true, true, false, false, false, true, false, true, false, false, true, false, true, false, false, false, false, true] rfl rfl (qE HT_.out HW_.out (by kernel_rfl)) (fun _ _ _ h => h) (Or.inl ⟨by rfl, ?_⟩) hHeld ?_ ?_
 rotate_left
 ·rintro w' ⟨s0, s1, s2, s3, s4, s5, s6, s7, s8, s9, s10, s11, s12, s13, s14, s15, s16, s17⟩
  go_simp
  with_reducible rfl
 rotate_left
 ·simp only [Act.put, sT, s0, s1, qr, qt]
  rfl
 refine pure_ (i := 15) (N := some 22) (v := ?_) (a' := ?_) #[true, true, true, false, true, true, true, false, false, true, true, true, false, true, true, true, false, false, true, false, true, false, false, true, false, true, false, false, false, false, true] rfl rfl (qy HT_.out (by kernel_rfl)) (fun _ _ _ h => h) (Or.inl ⟨by rfl, ?_⟩) ?_ ?_
 rotate_left
 ·intro w'
  go_simp
  with_reducible rfl
 rotate_left
 ·simp only [Act.put, sT, s0, s1, qr, qt]
  rfl
 refine take_ (i := 19) (N := some 26) (v := ?_) (a' := ?_) #[true, true, true, false, true, true, true, false, false, true, true, true, false, true, true, true, false, false, true, true, true, false, false, true, false, true, false, false, false, false, true] rfl rfl (qE HT_.out HW_.out (by kernel_rfl)) (fun _ _ _ h => h) (Or.inl ⟨by rfl, ?_⟩) hHeld ?_ ?_
 rotate_left
 ·rintro w' ⟨s0, s1, s2, s3, s4, s5, s6, s7, s8, s9, s10, s11, s12, s13, s14, s15, s16, s17⟩
  go_simp
  with_reducible rfl
 rotate_left
 ·simp only [Act.put, sT, s0, s1, qr, qt]
  rfl
 refine take_ (i := 21) (N := some 28) (v := ?_) (a' := ?_) #[true, true, true, false, true, true, true, false, false, true, true, true, false, true, true, true, false, false, true, true, true, true, false, true, false, true, false, false, false, false, true] rfl rfl (qE HT_.out HW_.out (by kernel_rfl)) (fun _ _ _ h => h) (Or.inl ⟨by rfl, ?_⟩) hHeld ?_ ?_
 rotate_left
 ·rintro w' ⟨s0, s1, s2, s3, s4, s5, s6, s7, s8, s9, s10, s11, s12, s13, s14, s15, s16, s17⟩
  go_simp
  with_reducible rfl
 rotate_left
 ·simp only [Act.put, sT, s0, s1, qr, qt]
  rfl
 refine pure_ (i := 22) (N := some 29) (v := ?_) (a' := ?_) #[true, true, true, false, true, true, true, false, false, true, true, true, false, true, true, true, false, false, true, true, true, true, true, true, false, true, false, false, false, false, true] rfl rfl (qy HT_.out (by kernel_rfl)) (fun _ _ _ h => h) (Or.inl ⟨by rfl, ?_⟩) ?_ ?_
 rotate_left
 ·intro w'
  go_simp
  with_reducible rfl
 rotate_left
 ·simp only [Act.put, sT, s0, s1, qr, qt]
  rfl
 refine take_ (i := 24) (N := some 31) (v := ?_) (a' := ?_) #[true, true, true, false, true, true, true, false, false, true, true, true, false, true, true, true, false, false, true, true, true, true, true, true, true, true, false, false, false, false, true] rfl rfl (qE HT_.out HW_.out (by kernel_rfl)) (fun _ _ _ h => h) (Or.inl ⟨by rfl, ?_⟩) hHeld ?_ ?_
 rotate_left
 ·rintro w' ⟨s0, s1, s2, s3, s4, s5, s6, s7, s8, s9, s10, s11, s12, s13, s14, s15, s16, s17⟩
  go_simp
  with_reducible rfl
 rotate_left
 ·simp only [Act.put, sT, s0, s1, qr, qt]
  rfl
 refine take_ (i := 26) (N := some 33) (v := ?_) (a' := ?_) #[true, true, true, false, true, true, true, false, false, true, true, true, false, true, true, true, false, false, true, true, true, true, true, true, true, true, true, false, false, false, true] rfl rfl (qE HT_.out HW_.out (by kernel_rfl)) (fun _ _ _ h => h) (Or.inl ⟨by rfl, ?_⟩) hHeld ?_ ?_
 rotate_left
 ·rintro w' ⟨s0, s1, s2, s3, s4, s5, s6, s7, s8, s9, s10, s11, s12, s13, s14, s15, s16, s17⟩
  go_simp
  with_reducible rfl
 rotate_left
 ·simp only [Act.put, sT, s0, s1, qr, qt]
  rfl
 refine pure_ (i := 27) (N := some 34) (v := ?_) (a' := ?_) #[true, true, true, false, true, true, true, false, false, true, true, true, false, true, true, true, false, false, true, true, true, true, true, true, true, true, true, true, false, false, true] rfl rfl (qy HT_.out (by kernel_rfl)) (fun _ _ _ h => h) (Or.inl ⟨by rfl, ?_⟩) ?_ ?_
 rotate_left
 ·intro w'
  go_simp
  with_reducible rfl
 rotate_left
 ·simp only [Act.put, sT, s0, s1, qr, qt]
  rfl
 refine one_ (i := 3) (N := some 10) #[true, true, true, true, true, true, true, false, false, true, true, true, false, true, true, true, false, false, true, true, true, true, true, true, true, true, true, true, false, false, true] rfl rfl (one_of HT_.out (by kernel_rfl)) (by decide) (fun K hK => ?_)
 refine goes_ Tryz.func94 (by kernel_rfl) rfl #[.bool (a1_2.toList != ([] : List UInt8))] (by rfl) rfl rfl Z61 ?_
 with_reducible refine (partner_flagNumber.calls (a1_2.toList != ([] : List UInt8)) t252 _ A3.out).mono ?_
 rintro e w' ⟨rfl, ⟨nd, rfl⟩⟩
 refine ⟨_, rfl, ?_⟩
 refine hK.out _ _ (bn9 BK251.out (bl9 BK250.out)) (fun hHeld => ?_)
 clear hK K
 refine norm_ (a' := ?_) ?_ ?_
 rotate_left
 ·show Act.put _ (some 10) _ = _
  simp only [Act.put, sT, s0, s1, qr, qt]
  rfl
 refine one_ (i := 7) (N := some 14) #[true, true, true, true, true, true, true, true, false, true, true, true, false, true, true, true, false, false, true, true, true, true, true, true, true, true, true, true, false, false, true] rfl rfl (one_of HT_.out (by kernel_rfl)) (by decide) (fun K hK => ?_)
 refine goes_ Tryz.func94 (by kernel_rfl) rfl #[.bool (a0_2.toList != ([] : List UInt8))] (by rfl) rfl rfl Z61 ?_
 with_reducible refine (partner_flagNumber.calls (a0_2.toList != ([] : List UInt8)) t253 _ A4.out).mono ?_
 rintro e w' ⟨rfl, ⟨nd, rfl⟩⟩
 refine ⟨_, rfl, ?_⟩
 refine hK.out _ _ (bn9 BK251.out (bl9 BK250.out)) (fun hHeld => ?_)
 clear hK K
 refine norm_ (a' := ?_) ?_ ?_
 rotate_left
 ·show Act.put _ (some 14) _ = _
  simp only [Act.put, sT, s0, s1, qr, qt]
  rfl
 refine pure_ (i := 8) (N := some 15) (v := ?_) (a' := ?_) #[true, true, true, true, true, true, true, true, true, true, true, true, false, true, true, true, false, false, true, true, true, true, true, true, true, true, true, true, false, false, true] rfl rfl (qy HT_.out (by kernel_rfl)) (fun _ _ _ h => h) (Or.inl ⟨by rfl, ?_⟩) ?_ ?_
 rotate_left
 ·intro w'
  go_simp
  with_reducible rfl
 rotate_left
 ·simp only [Act.put, sT, s0, s1, qr, qt]
  rfl
 refine one_ (i := 12) (N := some 19) #[true, true, true, true, true, true, true, true, true, true, true, true, true, true, true, true, false, false, true, true, true, true, true, true, true, true, true, true, false, false, true] rfl rfl (one_of HT_.out (by kernel_rfl)) (by decide) (fun K hK => ?_)
 refine goes_ Tryz.func94 (by kernel_rfl) rfl #[.bool (a1_3.toList != ([] : List UInt8))] (by rfl) rfl rfl Z61 ?_
 with_reducible refine (partner_flagNumber.calls (a1_3.toList != ([] : List UInt8)) t254 _ A5.out).mono ?_
 rintro e w' ⟨rfl, ⟨nd, rfl⟩⟩
 refine ⟨_, rfl, ?_⟩
 refine hK.out _ _ (bn9 BK251.out (bl9 BK250.out)) (fun hHeld => ?_)
 clear hK K
 refine norm_ (a' := ?_) ?_ ?_
 rotate_left
 ·show Act.put _ (some 19) _ = _
  simp only [Act.put, sT, s0, s1, qr, qt]
  rfl
 refine one_ (i := 16) (N := some 23) #[true, true, true, true, true, true, true, true, true, true, true, true, true, true, true, true, true, false, true, true, true, true, true, true, true, true, true, true, false, false, true] rfl rfl (one_of HT_.out (by kernel_rfl)) (by decide) (fun K hK => ?_)
 refine goes_ Tryz.func94 (by kernel_rfl) rfl #[.bool (a0_3.toList != ([] : List UInt8))] (by rfl) rfl rfl Z61 ?_
 with_reducible refine (partner_flagNumber.calls (a0_3.toList != ([] : List UInt8)) t255 _ A6.out).mono ?_
 rintro e w' ⟨rfl, ⟨nd, rfl⟩⟩
 refine ⟨_, rfl, ?_⟩
 refine hK.out _ _ (bn9 BK251.out (bl9 BK250.out)) (fun hHeld => ?_)
 clear hK K
 refine norm_ (a' := ?_) ?_ ?_
 rotate_left
 ·show Act.put _ (some 23) _ = _
  simp only [Act.put, sT, s0, s1, qr, qt]
  rfl
 refine pure_ (i := 17) (N := some 24) (v := ?_) (a' := ?_) #[true, true, true, true, true, true, true, true, true, true, true, true, true, true, true, true, true, true, true, true, true, true, true, true, true, true, true, true, false, false, true] rfl rfl (qy HT_.out (by kernel_rfl)) (fun _ _ _ h => h) (Or.inl ⟨by rfl, ?_⟩) ?_ ?_
 rotate_left
 ·intro w'
  go_simp
  with_reducible rfl
 rotate_left
 ·simp only [Act.put, sT, s0, s1, qr, qt]
  rfl
 refine one_ (i := 28) (N := some 35) #[true, true, true, true, true, true, true, true, true, true, true, true, true, true, true, true, true, true, true, true, true, true, true, true, true, true, true, true, true, false, true] rfl rfl (one_of HT_.out (by kernel_rfl)) (by decide) (fun K hK => ?_)
 refine Kd.R_lit_step (Kd.int .i64) _ 3 ?hg (N := 35) ?hd (xs := ([wrap64 (t252 - t253), wrap64 (t254 - t255), wrap64 (a1_4 - a0_4), wrap64 (a0_5 - a1_5)] : List Int)) (inner := [.int .i64 (wrap64 (t252 - t253)), .int .i64 (wrap64 (t254 - t255)), .int .i64 (wrap64 (a1_4 - a0_4)), .int .i64 (wrap64 (a0_5 - a1_5))]) (ok := fun _ => True) (okp := fun _ => True) ?hr ?hp (fun _ hk => hk) trivial (Below.refl _ _) (Nat.le_refl _) (by simp) ?_; (case hd => rfl); (case hg => rfl); (case hr => exact qC); (case hp => exact (Reps.one (show Kd.M (Kd.int .i64) _ _ _ (wrap64 (t252 - t253)) [.int .i64 (wrap64 (t252 - t253))] from rfl) (Reps.one (show Kd.M (Kd.int .i64) _ _ _ (wrap64 (t254 - t255)) [.int .i64 (wrap64 (t254 - t255))] from rfl) (Reps.one (show Kd.M (Kd.int .i64) _ _ _ (wrap64 (a1_4 - a0_4)) [.int .i64 (wrap64 (a1_4 - a0_4))] from rfl) (Reps.one (show Kd.M (Kd.int .i64) _ _ _ (wrap64 (a0_5 - a1_5)) [.int .i64 (wrap64 (a0_5 - a1_5))] from rfl) (Reps.none _ _))))))
 intro v257 w10 ho11 hb hg_ hnew_
 clear hg_ hnew_
 (first | rw [← Ny256.out] at ho11 | (simp only [Int.reduceToNat] at ho11; rw [← Ny256.out] at ho11))
 have n0_ := qb.mk (Kd.R_lower ho11 (qx Z55))
 have n1_ := bb BK250 hb
 have n2_ := bb BK251 hb
 have n3_ := qb.mk (qd Z55 hb)
 clear BK250 BK251 HB
 have HO258 := n0_
 have BK250 := n1_
 have BK251 := n2_
 have HB := n3_
 clear n0_ n1_ n2_ n3_ hb ho11
 obtain ⟨Ao12, co12, eo12⟩ := Kd.R_slice HO258.out
 (first | subst eo12 | (injection eo12 with f1_ f2_ f3_; have f4_ := f1_.symm; have f5_ := f3_.symm; clear f1_ f2_ f3_; subst f4_; subst f5_))
 refine hK.out _ _ (bn9 BK251.out (bl9 BK250.out)) (fun hHeld => ?_)
 clear hK K
 refine norm_ (a' := ?_) ?_ ?_
 rotate_left
 ·show Act.put _ (some 35) _ = _
  simp only [Act.put, sT, s0, s1, qr, qt]
  rfl
 refine pure_ (i := 29) (N := some 36) (v := ?_) (a' := ?_) #[true, true, true, true, true, true, true, true, true, true, true, true, true, true, true, true, true, true, true, true, true, true, true, true, true, true, true, true, true, true, true] rfl rfl (qy HT_.out (by kernel_rfl)) (fun _ _ _ h => h) (Or.inl ⟨by rfl, ?_⟩) ?_ ?_
 rotate_left
 ·intro w'
  go_simp
  with_reducible rfl
 rotate_left
 ·simp only [Act.put, sT, s0, s1, qr, qt]
  rfl
 refine done_ (done_of HT_.out (by kernel_rfl)) ?_
 try go_wp2
 go_loopg [37] k (fun kq v37 w' => ∃ (x37_1 : Int), v37 = .int .i64 x37_1 ∧ qb (partner_better.l0 kq y256 (y256.length : Int) x37_1 = some r) ∧ qb (kq ≤ k) ∧ qb (Kd.R (Kd.int .i64) 3 w' w.heap.size (fun _ => True) (.slice Ao12 y256.length co12) y256) ∧ qb (w'.heap[gb250]? = some (.cells #[.string a0_0, .string a0_1, .string a0_2, .string a0_3, .int .i64 a0_4, .int .i64 a0_5, .bool a0_6, .int .i64 a0_7, .bool a0_8] 53 (0, 0))) ∧ qb (w'.heap[gb251]? = some (.cells #[.string a1_0, .string a1_1, .string a1_2, .string a1_3, .int .i64 a1_4, .int .i64 a1_5, .bool a1_6, .int .i64 a1_7, .bool a1_8] 53 (0, 0))) ∧ qb (Below w.heap.size w w'))
 case atStart => exact ⟨(0), qD, H', ⟨Nat.le_refl _⟩, ⟨by (with_reducible repeat (first | apply Kd.R_alloc | apply Kd.R_drewN | apply Kd.R_drew)); exact HO258.out⟩, ⟨by (with_reducible repeat (first | refine qn ?_ _ | refine qm ?_ | refine ql ?_ _)); exact BK250.out⟩, ⟨by (with_reducible repeat (first | refine qn ?_ _ | refine qm ?_ | refine ql ?_ _)); exact BK251.out⟩, ⟨Z55⟩⟩
 case round =>
  clear H'
  try clear p2; try clear c5; try clear p6; try clear c9
  obtain ⟨x37_1, rfl, HA, HK1, HO_35, BK250, BK251, HB⟩ := hrel
  cases gk with
  | zero => exact absurd HA.out (by simp [partner_better.l0])
  | succ k1 =>
   have H := HA.out
   clear HA
   simp only [partner_better.l0] at H
   by_cases c13 : x37_1 < (y256.length : Int)
   case neg =>
    rw [if_neg c13] at H
    have c13b0 : decide (x37_1 < (y256.length : Int)) = false := decide_eq_false c13
    clear c13
    obtain rfl := Option.some.inj H
    go_wp2
    go_ret
    exact ⟨Z97, Z55⟩

   rw [if_pos c13] at H
   have c13b0 : decide (x37_1 < (y256.length : Int)) = true := decide_eq_true c13
   clear c13
   by_cases c14 : 0 ≤ x37_1
   case neg =>
    rw [if_neg c14] at H
    exact absurd H (by simp)
   rw [if_pos c14] at H
   have c14b0 : decide (0 ≤ x37_1) = true := decide_eq_true c14
   clear c14
   by_cases c15 : x37_1 < (y256.length : Int)
   case neg =>
    rw [if_neg c15] at H
    exact absurd H (by simp)
   rw [if_pos c15] at H
   have c15b0 : decide (x37_1 < (y256.length : Int)) = true := decide_eq_true c15
   clear c15
   by_cases c16 : (rd y256 x37_1) < 0
   case pos =>
    rw [if_pos c16] at H
    have c16b0 : decide ((rd y256 x37_1) < 0) = true := decide_eq_true c16
    clear c16
    obtain rfl := Option.some.inj H
    have p259 : 0 ≤ (x37_1 : Int) := of_decide_eq_true qB
    have q259 : x37_1 < (y256.length : Int) := of_decide_eq_true qB
    obtain ⟨ad259, e259, hx259_0⟩ := Kd.at_int (Kd.R_reads' HO_35.out).2.2 x37_1 p259 q259
    cases e259
    replace p259 := eq_true p259
    replace q259 := eq_true q259
    go_wp2
    go_ret
    exact ⟨Z97, Z55⟩
   rw [if_neg c16] at H
   have c16b0 : decide ((rd y256 x37_1) < 0) = false := decide_eq_false c16
   clear c16
   by_cases c17 : (rd y256 x37_1) > 0
   case pos =>
    rw [if_pos c17] at H
    have c17b0 : decide (0 < (rd y256 x37_1)) = true := decide_eq_true c17
    clear c17
    obtain rfl := Option.some.inj H
    have p259 : 0 ≤ (x37_1 : Int) := of_decide_eq_true qB
    have q259 : x37_1 < (y256.length : Int) := of_decide_eq_true qB
    obtain ⟨ad259, e259, hx259_0⟩ := Kd.at_int (Kd.R_reads' HO_35.out).2.2 x37_1 p259 q259
    cases e259
    replace p259 := eq_true p259
    replace q259 := eq_true q259
    go_wp2
    go_ret
    exact ⟨Z97, Z55⟩
   rw [if_neg c17] at H
   have c17b0 : decide (0 < (rd y256 x37_1)) = false := decide_eq_false c17
   clear c17
   have H' := qb.mk H
   clear H
   have p259 : 0 ≤ (x37_1 : Int) := of_decide_eq_true qB
   have q259 : x37_1 < (y256.length : Int) := of_decide_eq_true qB
   obtain ⟨ad259, e259, hx259_0⟩ := Kd.at_int (Kd.R_reads' HO_35.out).2.2 x37_1 p259 q259
   cases e259
   replace p259 := eq_true p259
   replace q259 := eq_true q259
   go_wp2
   go_roundg k1
   case measure => have := HK1.out; omega
   case rel => exact ⟨(wrap64 (x37_1 + 1)), qD, H', ⟨Z157⟩, ⟨by (with_reducible repeat (first | apply Kd.R_alloc | apply Kd.R_drewN | apply Kd.R_drew)); exact HO_35.out⟩, ⟨by (with_reducible repeat (first | refine qn ?_ _ | refine qm ?_ | refine ql ?_ _)); exact BK250.out⟩, ⟨by (with_reducible repeat (first | refine qn ?_ _ | refine qm ?_ | refine ql ?_ _)); exact BK251.out⟩, ⟨Z55⟩⟩
end Go.Proofs.YtmmknokdgbgjgaaGreatDoor.XPartnerDaysMatchSpec
