-- Walks of PartnerFindsMatchSpec: written by xprint.py out of the translation (hand-proved functions among them). Lean checks it.
import Derived.Test.YtdlgohhecicnoaaDoorXPartnerFindsMatchSpecx0
import Derived.Test.YtdlgohhecicnoaaDoorXPartnerFindsMatchSpecx2
import Derived.Test.YtdlgohhecicnoaaDoorXPartnerFindsMatchSpecx8
namespace Go.Proofs.YtdlgohhecicnoaaDoor.XPartnerFindsMatchSpec
open Go.RowKit Go.Proofs.YtdlgohhecicnoaaDoorW.PrintWords Go.Proofs.YtdlgohhecicnoaaDoorW.PrintLast Go.Proofs.YtdlgohhecicnoaaDoorW.PrintMore
attribute [local go_sem] max2_int min2_int max_two min_two max_three min_three max_four min_four   -- for this text's walks alone
set_option linter.unusedVariables false
set_option linter.unusedSimpArgs false

/-! ### interchangeref8_applies: function 55 -/
def interchangeref8_applies.f (a0_0 : ByteArray) (a0_1 : ByteArray) (a0_2 : ByteArray) (a0_3 : ByteArray) (a0_4 : Int) (a0_5 : Int) (a0_6 : Bool) (a0_7 : Int) (a0_8 : Bool) (a1_0 : ByteArray) (a1_1 : ByteArray) (a1_2 : ByteArray) (a1_3 : ByteArray) (a1_4 : Int) (a1_5 : Bool) : Option (Bool) := if a0_0.toList = a1_0.toList then (if a0_1.toList = a1_1.toList then (if (a0_6 == a1_5) = true then (if a0_2.toList = ([] : List UInt8) then (if a0_3.toList = ([] : List UInt8) then ((interchangeref8_within.f a1_4 a0_4 a0_5).bind fun t239 => (some t239)) else (if a0_3.toList = a1_3.toList then ((interchangeref8_within.f a1_4 a0_4 a0_5).bind fun t240 => (some t240)) else (some false))) else (if a0_2.toList = a1_2.toList then (if a0_3.toList = ([] : List UInt8) then ((interchangeref8_within.f a1_4 a0_4 a0_5).bind fun t241 => (some t241)) else (if a0_3.toList = a1_3.toList then ((interchangeref8_within.f a1_4 a0_4 a0_5).bind fun t242 => (some t242)) else (some false))) else (some false))) else (some false)) else (some false)) else (some false)
set_option maxHeartbeats 8000000 in
set_option maxRecDepth 100000 in
theorem interchangeref8_applies.calls (a0_0 : ByteArray) (a0_1 : ByteArray) (a0_2 : ByteArray) (a0_3 : ByteArray) (a0_4 : Int) (a0_5 : Int) (a0_6 : Bool) (a0_7 : Int) (a0_8 : Bool) (a1_0 : ByteArray) (a1_1 : ByteArray) (a1_2 : ByteArray) (a1_3 : ByteArray) (a1_4 : Int) (a1_5 : Bool) (r : Bool) (w : World) (h : interchangeref8_applies.f a0_0 a0_1 a0_2 a0_3 a0_4 a0_5 a0_6 a0_7 a0_8 a1_0 a1_1 a1_2 a1_3 a1_4 a1_5 = some r) :
  Calls Tryd.prog 55 #[.agg #[.string a0_0, .string a0_1, .string a0_2, .string a0_3, .int .i64 a0_4, .int .i64 a0_5, .bool a0_6, .int .i64 a0_7, .bool a0_8], .agg #[.string a1_0, .string a1_1, .string a1_2, .string a1_3, .int .i64 a1_4, .bool a1_5]] w fun e w' => e = .returned (.bool r) ∧ Below w.heap.size w w' := by
 have hu23 := Tryd.underlying23
 have hu37 := Tryd.underlying37
 have HB := Aside0.mk (Below.refl w.heap.size w)
 have H : (if a0_0.toList = a1_0.toList then (if a0_1.toList = a1_1.toList then (if (a0_6 == a1_5) = true then (if a0_2.toList = ([] : List UInt8) then (if a0_3.toList = ([] : List UInt8) then ((interchangeref8_within.f a1_4 a0_4 a0_5).bind fun t239 => (some t239)) else (if a0_3.toList = a1_3.toList then ((interchangeref8_within.f a1_4 a0_4 a0_5).bind fun t240 => (some t240)) else (some false))) else (if a0_2.toList = a1_2.toList then (if a0_3.toList = ([] : List UInt8) then ((interchangeref8_within.f a1_4 a0_4 a0_5).bind fun t241 => (some t241)) else (if a0_3.toList = a1_3.toList then ((interchangeref8_within.f a1_4 a0_4 a0_5).bind fun t242 => (some t242)) else (some false))) else (some false))) else (some false)) else (some false)) else (some false)) = some r := h
 clear h
 by_cases c3 : a0_0.toList = a1_0.toList
 ·rw [if_pos c3] at H
  have c3b0 : (a0_0.toList == a1_0.toList) = true := beq_iff_eq.mpr c3
  have c3b1 : (a0_0.toList != a1_0.toList) = false := bne_eq_false_iff_eq.mpr c3
  clear c3
  by_cases c4 : a0_1.toList = a1_1.toList
  ·rw [if_pos c4] at H
   have c4b0 : (a0_1.toList == a1_1.toList) = true := beq_iff_eq.mpr c4
   have c4b1 : (a0_1.toList != a1_1.toList) = false := bne_eq_false_iff_eq.mpr c4
   clear c4
   by_cases c5 : (a0_6 == a1_5) = true
   ·rw [if_pos c5] at H
    have c5b0 : (a0_6 == a1_5) = true := c5
    (try (have c5b1 : decide (a0_6 = a1_5) = true := by simpa using c5))
    (try (have c5b2 : (a0_6 == a1_5) = true := by simpa using c5))
    clear c5
    by_cases c6 : a0_2.toList = ([] : List UInt8)
    ·rw [if_pos c6] at H
     have c6b0 : (a0_2.toList == ([] : List UInt8)) = true := beq_iff_eq.mpr c6
     have c6b1 : (a0_2.toList != ([] : List UInt8)) = false := bne_eq_false_iff_eq.mpr c6
     clear c6
     by_cases c7 : a0_3.toList = ([] : List UInt8)
     ·rw [if_pos c7] at H
      have c7b0 : (a0_3.toList == ([] : List UInt8)) = true := beq_iff_eq.mpr c7
      have c7b1 : (a0_3.toList != ([] : List UInt8)) = false := bne_eq_false_iff_eq.mpr c7
      clear c7
      replace H := Option.bind_eq_some_iff.mp H
      obtain ⟨t239, A80, H⟩ := H
      replace H : (some t239) = some r := H
      have A8 := Aside0.mk A80
      clear A80
      obtain rfl := Option.some.inj H
      go_enter Tryd.func55, Tryd.ntmps55
      go_wp2_with (first | ((with_reducible refine gate_dst (N := 2) rfl ?_); refine box_event ?hg (N := 2) ?hd (cs := #[.string a0_0, .string a0_1, .string a0_2, .string a0_3, .int .i64 a0_4, .int .i64 a0_5, .bool a0_6, .int .i64 a0_7, .bool a0_8]) (t := 23) ?hr ?_; (case hd => rfl); (case hg => rfl); (case hr => exact Z188); intro gb237 hg w9 hbox hb; have n0_ := Aside0.mk (below_step Z140 hb); have n1_ := Aside0.mk (hbox); have n2_ := Aside0.mk ((Z108 : w.heap.size ≤ gb237)); have n3_ := Aside0.mk ((Z108 : w.heap.size ≤ gb237)); clear HB; have HB := n0_; have BK237 := n1_; have GW237 := n2_; have GE237 := n3_; clear n0_ n1_ n2_ n3_; clear hb hbox hg) | ((with_reducible refine gate_dst (N := 3) rfl ?_); refine box_event ?hg (N := 3) ?hd (cs := #[.string a1_0, .string a1_1, .string a1_2, .string a1_3, .int .i64 a1_4, .bool a1_5]) (t := 37) ?hr ?_; (case hd => rfl); (case hg => rfl); (case hr => exact Z188); intro gb238 hg w10 hbox hb; have n0_ := Aside0.mk (blk_below (g := gb237) (o := .cells #[.string a0_0, .string a0_1, .string a0_2, .string a0_3, .int .i64 a0_4, .int .i64 a0_5, .bool a0_6, .int .i64 a0_7, .bool a0_8] 23 (0, 0)) Z163 hb); have n1_ := Aside0.mk (below_step Z130 hb); have n2_ := Aside0.mk (hbox); have n3_ := Aside0.mk ((Z87 : w.heap.size ≤ gb238)); have n4_ := Aside0.mk ((Z87 : w.heap.size ≤ gb238)); have n5_ := Aside0.mk ((Z37 : gb237 ≠ gb238)); have n6_ := Aside0.mk ((Z38 : gb238 ≠ gb237)); clear BK237; clear HB; have BK237 := n0_; have HB := n1_; have BK238 := n2_; have GW238 := n3_; have GE238 := n4_; have NB237_238 := n5_; have NB238_237 := n6_; clear n0_ n1_ n2_ n3_ n4_ n5_ n6_; clear hb hbox hg; have hnb11 := NB237_238.out; have hnc11 := NB238_237.out; obtain ⟨hcz12_0, hcz12_1, hcz12_2, hcz12_3, hcz12_4, hcz12_5, hcz12_6, hcz12_7, hcz12_8, hfz12_0, hfz12_1, hfz12_2, hfz12_3, hfz12_4, hfz12_5, hfz12_6, hfz12_7, hfz12_8⟩ := bf9 BK237.out; obtain ⟨hcz13_0, hcz13_1, hcz13_2, hcz13_3, hcz13_4, hcz13_5, hfz13_0, hfz13_1, hfz13_2, hfz13_3, hfz13_4, hfz13_5⟩ := bf6 BK238.out) | (go_at_call 63; (with_reducible refine (interchangeref8_within.calls a1_4 a0_4 a0_5 t239 _ A8.out).mono ?_); rintro e w' ⟨rfl, ⟨nd, rfl⟩⟩))
      go_ret
      exact ⟨Z138, Z99⟩
     ·rw [if_neg c7] at H
      have c7b0 : (a0_3.toList == ([] : List UInt8)) = false := beq_eq_false_iff_ne.mpr c7
      have c7b1 : (a0_3.toList != ([] : List UInt8)) = true := bne_iff_ne.mpr c7
      by_cases c14 : a0_3.toList = a1_3.toList
      ·rw [if_pos c14] at H
       have c14b0 : (a0_3.toList == a1_3.toList) = true := beq_iff_eq.mpr c14
       have c14b1 : (a0_3.toList != a1_3.toList) = false := bne_eq_false_iff_eq.mpr c14
       clear c14
       replace H := Option.bind_eq_some_iff.mp H
       obtain ⟨t240, A150, H⟩ := H
       replace H : (some t240) = some r := H
       have A15 := Aside0.mk A150
       clear A150
       obtain rfl := Option.some.inj H
       go_enter Tryd.func55, Tryd.ntmps55
       go_wp2_with (first | ((with_reducible refine gate_dst (N := 2) rfl ?_); refine box_event ?hg (N := 2) ?hd (cs := #[.string a0_0, .string a0_1, .string a0_2, .string a0_3, .int .i64 a0_4, .int .i64 a0_5, .bool a0_6, .int .i64 a0_7, .bool a0_8]) (t := 23) ?hr ?_; (case hd => rfl); (case hg => rfl); (case hr => exact Z188); intro gb237 hg w16 hbox hb; have n0_ := Aside0.mk (below_step Z140 hb); have n1_ := Aside0.mk (hbox); have n2_ := Aside0.mk ((Z108 : w.heap.size ≤ gb237)); have n3_ := Aside0.mk ((Z108 : w.heap.size ≤ gb237)); clear HB; have HB := n0_; have BK237 := n1_; have GW237 := n2_; have GE237 := n3_; clear n0_ n1_ n2_ n3_; clear hb hbox hg) | ((with_reducible refine gate_dst (N := 3) rfl ?_); refine box_event ?hg (N := 3) ?hd (cs := #[.string a1_0, .string a1_1, .string a1_2, .string a1_3, .int .i64 a1_4, .bool a1_5]) (t := 37) ?hr ?_; (case hd => rfl); (case hg => rfl); (case hr => exact Z188); intro gb238 hg w17 hbox hb; have n0_ := Aside0.mk (blk_below (g := gb237) (o := .cells #[.string a0_0, .string a0_1, .string a0_2, .string a0_3, .int .i64 a0_4, .int .i64 a0_5, .bool a0_6, .int .i64 a0_7, .bool a0_8] 23 (0, 0)) Z163 hb); have n1_ := Aside0.mk (below_step Z130 hb); have n2_ := Aside0.mk (hbox); have n3_ := Aside0.mk ((Z87 : w.heap.size ≤ gb238)); have n4_ := Aside0.mk ((Z87 : w.heap.size ≤ gb238)); have n5_ := Aside0.mk ((Z37 : gb237 ≠ gb238)); have n6_ := Aside0.mk ((Z38 : gb238 ≠ gb237)); clear BK237; clear HB; have BK237 := n0_; have HB := n1_; have BK238 := n2_; have GW238 := n3_; have GE238 := n4_; have NB237_238 := n5_; have NB238_237 := n6_; clear n0_ n1_ n2_ n3_ n4_ n5_ n6_; clear hb hbox hg; have hnb18 := NB237_238.out; have hnc18 := NB238_237.out; obtain ⟨hcz19_0, hcz19_1, hcz19_2, hcz19_3, hcz19_4, hcz19_5, hcz19_6, hcz19_7, hcz19_8, hfz19_0, hfz19_1, hfz19_2, hfz19_3, hfz19_4, hfz19_5, hfz19_6, hfz19_7, hfz19_8⟩ := bf9 BK237.out; obtain ⟨hcz20_0, hcz20_1, hcz20_2, hcz20_3, hcz20_4, hcz20_5, hfz20_0, hfz20_1, hfz20_2, hfz20_3, hfz20_4, hfz20_5⟩ := bf6 BK238.out) | (go_at_call 63; (with_reducible refine (interchangeref8_within.calls a1_4 a0_4 a0_5 t240 _ A15.out).mono ?_); rintro e w' ⟨rfl, ⟨nd, rfl⟩⟩))
       go_ret
       exact ⟨Z138, Z99⟩
      ·rw [if_neg c14] at H
       have c14b0 : (a0_3.toList == a1_3.toList) = false := beq_eq_false_iff_ne.mpr c14
       have c14b1 : (a0_3.toList != a1_3.toList) = true := bne_iff_ne.mpr c14
       obtain rfl := Option.some.inj H
       go_enter Tryd.func55, Tryd.ntmps55
       go_wp2_with (first | ((with_reducible refine gate_dst (N := 2) rfl ?_); refine box_event ?hg (N := 2) ?hd (cs := #[.string a0_0, .string a0_1, .string a0_2, .string a0_3, .int .i64 a0_4, .int .i64 a0_5, .bool a0_6, .int .i64 a0_7, .bool a0_8]) (t := 23) ?hr ?_; (case hd => rfl); (case hg => rfl); (case hr => exact Z188); intro gb237 hg w21 hbox hb; have n0_ := Aside0.mk (below_step Z140 hb); have n1_ := Aside0.mk (hbox); have n2_ := Aside0.mk ((Z108 : w.heap.size ≤ gb237)); have n3_ := Aside0.mk ((Z108 : w.heap.size ≤ gb237)); clear HB; have HB := n0_; have BK237 := n1_; have GW237 := n2_; have GE237 := n3_; clear n0_ n1_ n2_ n3_; clear hb hbox hg) | ((with_reducible refine gate_dst (N := 3) rfl ?_); refine box_event ?hg (N := 3) ?hd (cs := #[.string a1_0, .string a1_1, .string a1_2, .string a1_3, .int .i64 a1_4, .bool a1_5]) (t := 37) ?hr ?_; (case hd => rfl); (case hg => rfl); (case hr => exact Z188); intro gb238 hg w22 hbox hb; have n0_ := Aside0.mk (blk_below (g := gb237) (o := .cells #[.string a0_0, .string a0_1, .string a0_2, .string a0_3, .int .i64 a0_4, .int .i64 a0_5, .bool a0_6, .int .i64 a0_7, .bool a0_8] 23 (0, 0)) Z163 hb); have n1_ := Aside0.mk (below_step Z130 hb); have n2_ := Aside0.mk (hbox); have n3_ := Aside0.mk ((Z87 : w.heap.size ≤ gb238)); have n4_ := Aside0.mk ((Z87 : w.heap.size ≤ gb238)); have n5_ := Aside0.mk ((Z37 : gb237 ≠ gb238)); have n6_ := Aside0.mk ((Z38 : gb238 ≠ gb237)); clear BK237; clear HB; have BK237 := n0_; have HB := n1_; have BK238 := n2_; have GW238 := n3_; have GE238 := n4_; have NB237_238 := n5_; have NB238_237 := n6_; clear n0_ n1_ n2_ n3_ n4_ n5_ n6_; clear hb hbox hg; have hnb23 := NB237_238.out; have hnc23 := NB238_237.out; obtain ⟨hcz24_0, hcz24_1, hcz24_2, hcz24_3, hcz24_4, hcz24_5, hcz24_6, hcz24_7, hcz24_8, hfz24_0, hfz24_1, hfz24_2, hfz24_3, hfz24_4, hfz24_5, hfz24_6, hfz24_7, hfz24_8⟩ := bf9 BK237.out; obtain ⟨hcz25_0, hcz25_1, hcz25_2, hcz25_3, hcz25_4, hcz25_5, hfz25_0, hfz25_1, hfz25_2, hfz25_3, hfz25_4, hfz25_5⟩ := bf6 BK238.out))
       go_ret
       exact ⟨Z138, Z99⟩
    ·rw [if_neg c6] at H
     have c6b0 : (a0_2.toList == ([] : List UInt8)) = false := beq_eq_false_iff_ne.mpr c6
     have c6b1 : (a0_2.toList != ([] : List UInt8)) = true := bne_iff_ne.mpr c6
     by_cases c26 : a0_2.toList = a1_2.toList
     ·rw [if_pos c26] at H
      have c26b0 : (a0_2.toList == a1_2.toList) = true := beq_iff_eq.mpr c26
      have c26b1 : (a0_2.toList != a1_2.toList) = false := bne_eq_false_iff_eq.mpr c26
      clear c26
      by_cases c27 : a0_3.toList = ([] : List UInt8)
      ·rw [if_pos c27] at H
       have c27b0 : (a0_3.toList == ([] : List UInt8)) = true := beq_iff_eq.mpr c27
       have c27b1 : (a0_3.toList != ([] : List UInt8)) = false := bne_eq_false_iff_eq.mpr c27
       clear c27
       replace H := Option.bind_eq_some_iff.mp H
       obtain ⟨t241, A280, H⟩ := H
       replace H : (some t241) = some r := H
       have A28 := Aside0.mk A280
       clear A280
       obtain rfl := Option.some.inj H
       go_enter Tryd.func55, Tryd.ntmps55
       go_wp2_with (first | ((with_reducible refine gate_dst (N := 2) rfl ?_); refine box_event ?hg (N := 2) ?hd (cs := #[.string a0_0, .string a0_1, .string a0_2, .string a0_3, .int .i64 a0_4, .int .i64 a0_5, .bool a0_6, .int .i64 a0_7, .bool a0_8]) (t := 23) ?hr ?_; (case hd => rfl); (case hg => rfl); (case hr => exact Z188); intro gb237 hg w29 hbox hb; have n0_ := Aside0.mk (below_step Z140 hb); have n1_ := Aside0.mk (hbox); have n2_ := Aside0.mk ((Z108 : w.heap.size ≤ gb237)); have n3_ := Aside0.mk ((Z108 : w.heap.size ≤ gb237)); clear HB; have HB := n0_; have BK237 := n1_; have GW237 := n2_; have GE237 := n3_; clear n0_ n1_ n2_ n3_; clear hb hbox hg) | ((with_reducible refine gate_dst (N := 3) rfl ?_); refine box_event ?hg (N := 3) ?hd (cs := #[.string a1_0, .string a1_1, .string a1_2, .string a1_3, .int .i64 a1_4, .bool a1_5]) (t := 37) ?hr ?_; (case hd => rfl); (case hg => rfl); (case hr => exact Z188); intro gb238 hg w30 hbox hb; have n0_ := Aside0.mk (blk_below (g := gb237) (o := .cells #[.string a0_0, .string a0_1, .string a0_2, .string a0_3, .int .i64 a0_4, .int .i64 a0_5, .bool a0_6, .int .i64 a0_7, .bool a0_8] 23 (0, 0)) Z163 hb); have n1_ := Aside0.mk (below_step Z130 hb); have n2_ := Aside0.mk (hbox); have n3_ := Aside0.mk ((Z87 : w.heap.size ≤ gb238)); have n4_ := Aside0.mk ((Z87 : w.heap.size ≤ gb238)); have n5_ := Aside0.mk ((Z37 : gb237 ≠ gb238)); have n6_ := Aside0.mk ((Z38 : gb238 ≠ gb237)); clear BK237; clear HB; have BK237 := n0_; have HB := n1_; have BK238 := n2_; have GW238 := n3_; have GE238 := n4_; have NB237_238 := n5_; have NB238_237 := n6_; clear n0_ n1_ n2_ n3_ n4_ n5_ n6_; clear hb hbox hg; have hnb31 := NB237_238.out; have hnc31 := NB238_237.out; obtain ⟨hcz32_0, hcz32_1, hcz32_2, hcz32_3, hcz32_4, hcz32_5, hcz32_6, hcz32_7, hcz32_8, hfz32_0, hfz32_1, hfz32_2, hfz32_3, hfz32_4, hfz32_5, hfz32_6, hfz32_7, hfz32_8⟩ := bf9 BK237.out; obtain ⟨hcz33_0, hcz33_1, hcz33_2, hcz33_3, hcz33_4, hcz33_5, hfz33_0, hfz33_1, hfz33_2, hfz33_3, hfz33_4, hfz33_5⟩ := bf6 BK238.out) | (go_at_call 63; (with_reducible refine (interchangeref8_within.calls a1_4 a0_4 a0_5 t241 _ A28.out).mono ?_); rintro e w' ⟨rfl, ⟨nd, rfl⟩⟩))
       go_ret
       exact ⟨Z138, Z99⟩
      ·rw [if_neg c27] at H
       have c27b0 : (a0_3.toList == ([] : List UInt8)) = false := beq_eq_false_iff_ne.mpr c27
       have c27b1 : (a0_3.toList != ([] : List UInt8)) = true := bne_iff_ne.mpr c27
       by_cases c34 : a0_3.toList = a1_3.toList
       ·rw [if_pos c34] at H
        have c34b0 : (a0_3.toList == a1_3.toList) = true := beq_iff_eq.mpr c34
        have c34b1 : (a0_3.toList != a1_3.toList) = false := bne_eq_false_iff_eq.mpr c34
        clear c34
        replace H := Option.bind_eq_some_iff.mp H
        obtain ⟨t242, A350, H⟩ := H
        replace H : (some t242) = some r := H
        have A35 := Aside0.mk A350
        clear A350
        obtain rfl := Option.some.inj H
        go_enter Tryd.func55, Tryd.ntmps55
        go_wp2_with (first | ((with_reducible refine gate_dst (N := 2) rfl ?_); refine box_event ?hg (N := 2) ?hd (cs := #[.string a0_0, .string a0_1, .string a0_2, .string a0_3, .int .i64 a0_4, .int .i64 a0_5, .bool a0_6, .int .i64 a0_7, .bool a0_8]) (t := 23) ?hr ?_; (case hd => rfl); (case hg => rfl); (case hr => exact Z188); intro gb237 hg w36 hbox hb; have n0_ := Aside0.mk (below_step Z140 hb); have n1_ := Aside0.mk (hbox); have n2_ := Aside0.mk ((Z108 : w.heap.size ≤ gb237)); have n3_ := Aside0.mk ((Z108 : w.heap.size ≤ gb237)); clear HB; have HB := n0_; have BK237 := n1_; have GW237 := n2_; have GE237 := n3_; clear n0_ n1_ n2_ n3_; clear hb hbox hg) | ((with_reducible refine gate_dst (N := 3) rfl ?_); refine box_event ?hg (N := 3) ?hd (cs := #[.string a1_0, .string a1_1, .string a1_2, .string a1_3, .int .i64 a1_4, .bool a1_5]) (t := 37) ?hr ?_; (case hd => rfl); (case hg => rfl); (case hr => exact Z188); intro gb238 hg w37 hbox hb; have n0_ := Aside0.mk (blk_below (g := gb237) (o := .cells #[.string a0_0, .string a0_1, .string a0_2, .string a0_3, .int .i64 a0_4, .int .i64 a0_5, .bool a0_6, .int .i64 a0_7, .bool a0_8] 23 (0, 0)) Z163 hb); have n1_ := Aside0.mk (below_step Z130 hb); have n2_ := Aside0.mk (hbox); have n3_ := Aside0.mk ((Z87 : w.heap.size ≤ gb238)); have n4_ := Aside0.mk ((Z87 : w.heap.size ≤ gb238)); have n5_ := Aside0.mk ((Z37 : gb237 ≠ gb238)); have n6_ := Aside0.mk ((Z38 : gb238 ≠ gb237)); clear BK237; clear HB; have BK237 := n0_; have HB := n1_; have BK238 := n2_; have GW238 := n3_; have GE238 := n4_; have NB237_238 := n5_; have NB238_237 := n6_; clear n0_ n1_ n2_ n3_ n4_ n5_ n6_; clear hb hbox hg; have hnb38 := NB237_238.out; have hnc38 := NB238_237.out; obtain ⟨hcz39_0, hcz39_1, hcz39_2, hcz39_3, hcz39_4, hcz39_5, hcz39_6, hcz39_7, hcz39_8, hfz39_0, hfz39_1, hfz39_2, hfz39_3, hfz39_4, hfz39_5, hfz39_6, hfz39_7, hfz39_8⟩ := bf9 BK237.out; obtain ⟨hcz40_0, hcz40_1, hcz40_2, hcz40_3, hcz40_4, hcz40_5, hfz40_0, hfz40_1, hfz40_2, hfz40_3, hfz40_4, hfz40_5⟩ := bf6 BK238.out) | (go_at_call 63; (with_reducible refine (interchangeref8_within.calls a1_4 a0_4 a0_5 t242 _ A35.out).mono ?_); rintro e w' ⟨rfl, ⟨nd, rfl⟩⟩))
        go_ret
        exact ⟨Z138, Z99⟩
       ·rw [if_neg c34] at H
        have c34b0 : (a0_3.toList == a1_3.toList) = false := beq_eq_false_iff_ne.mpr c34
        have c34b1 : (a0_3.toList != a1_3.toList) = true := bne_iff_ne.mpr c34
        obtain rfl := Option.some.inj H
        go_enter Tryd.func55, Tryd.ntmps55
        go_wp2_with (first | ((with_reducible refine gate_dst (N := 2) rfl ?_); refine box_event ?hg (N := 2) ?hd (cs := #[.string a0_0, .string a0_1, .string a0_2, .string a0_3, .int .i64 a0_4, .int .i64 a0_5, .bool a0_6, .int .i64 a0_7, .bool a0_8]) (t := 23) ?hr ?_; (case hd => rfl); (case hg => rfl); (case hr => exact Z188); intro gb237 hg w41 hbox hb; have n0_ := Aside0.mk (below_step Z140 hb); have n1_ := Aside0.mk (hbox); have n2_ := Aside0.mk ((Z108 : w.heap.size ≤ gb237)); have n3_ := Aside0.mk ((Z108 : w.heap.size ≤ gb237)); clear HB; have HB := n0_; have BK237 := n1_; have GW237 := n2_; have GE237 := n3_; clear n0_ n1_ n2_ n3_; clear hb hbox hg) | ((with_reducible refine gate_dst (N := 3) rfl ?_); refine box_event ?hg (N := 3) ?hd (cs := #[.string a1_0, .string a1_1, .string a1_2, .string a1_3, .int .i64 a1_4, .bool a1_5]) (t := 37) ?hr ?_; (case hd => rfl); (case hg => rfl); (case hr => exact Z188); intro gb238 hg w42 hbox hb; have n0_ := Aside0.mk (blk_below (g := gb237) (o := .cells #[.string a0_0, .string a0_1, .string a0_2, .string a0_3, .int .i64 a0_4, .int .i64 a0_5, .bool a0_6, .int .i64 a0_7, .bool a0_8] 23 (0, 0)) Z163 hb); have n1_ := Aside0.mk (below_step Z130 hb); have n2_ := Aside0.mk (hbox); have n3_ := Aside0.mk ((Z87 : w.heap.size ≤ gb238)); have n4_ := Aside0.mk ((Z87 : w.heap.size ≤ gb238)); have n5_ := Aside0.mk ((Z37 : gb237 ≠ gb238)); have n6_ := Aside0.mk ((Z38 : gb238 ≠ gb237)); clear BK237; clear HB; have BK237 := n0_; have HB := n1_; have BK238 := n2_; have GW238 := n3_; have GE238 := n4_; have NB237_238 := n5_; have NB238_237 := n6_; clear n0_ n1_ n2_ n3_ n4_ n5_ n6_; clear hb hbox hg; have hnb43 := NB237_238.out; have hnc43 := NB238_237.out; obtain ⟨hcz44_0, hcz44_1, hcz44_2, hcz44_3, hcz44_4, hcz44_5, hcz44_6, hcz44_7, hcz44_8, hfz44_0, hfz44_1, hfz44_2, hfz44_3, hfz44_4, hfz44_5, hfz44_6, hfz44_7, hfz44_8⟩ := bf9 BK237.out; obtain ⟨hcz45_0, hcz45_1, hcz45_2, hcz45_3, hcz45_4, hcz45_5, hfz45_0, hfz45_1, hfz45_2, hfz45_3, hfz45_4, hfz45_5⟩ := bf6 BK238.out))
        go_ret
        exact ⟨Z138, Z99⟩
     ·rw [if_neg c26] at H
      have c26b0 : (a0_2.toList == a1_2.toList) = false := beq_eq_false_iff_ne.mpr c26
      have c26b1 : (a0_2.toList != a1_2.toList) = true := bne_iff_ne.mpr c26
      obtain rfl := Option.some.inj H
      go_enter Tryd.func55, Tryd.ntmps55
      go_wp2_with (first | ((with_reducible refine gate_dst (N := 2) rfl ?_); refine box_event ?hg (N := 2) ?hd (cs := #[.string a0_0, .string a0_1, .string a0_2, .string a0_3, .int .i64 a0_4, .int .i64 a0_5, .bool a0_6, .int .i64 a0_7, .bool a0_8]) (t := 23) ?hr ?_; (case hd => rfl); (case hg => rfl); (case hr => exact Z188); intro gb237 hg w46 hbox hb; have n0_ := Aside0.mk (below_step Z140 hb); have n1_ := Aside0.mk (hbox); have n2_ := Aside0.mk ((Z108 : w.heap.size ≤ gb237)); have n3_ := Aside0.mk ((Z108 : w.heap.size ≤ gb237)); clear HB; have HB := n0_; have BK237 := n1_; have GW237 := n2_; have GE237 := n3_; clear n0_ n1_ n2_ n3_; clear hb hbox hg) | ((with_reducible refine gate_dst (N := 3) rfl ?_); refine box_event ?hg (N := 3) ?hd (cs := #[.string a1_0, .string a1_1, .string a1_2, .string a1_3, .int .i64 a1_4, .bool a1_5]) (t := 37) ?hr ?_; (case hd => rfl); (case hg => rfl); (case hr => exact Z188); intro gb238 hg w47 hbox hb; have n0_ := Aside0.mk (blk_below (g := gb237) (o := .cells #[.string a0_0, .string a0_1, .string a0_2, .string a0_3, .int .i64 a0_4, .int .i64 a0_5, .bool a0_6, .int .i64 a0_7, .bool a0_8] 23 (0, 0)) Z163 hb); have n1_ := Aside0.mk (below_step Z130 hb); have n2_ := Aside0.mk (hbox); have n3_ := Aside0.mk ((Z87 : w.heap.size ≤ gb238)); have n4_ := Aside0.mk ((Z87 : w.heap.size ≤ gb238)); have n5_ := Aside0.mk ((Z37 : gb237 ≠ gb238)); have n6_ := Aside0.mk ((Z38 : gb238 ≠ gb237)); clear BK237; clear HB; have BK237 := n0_; have HB := n1_; have BK238 := n2_; have GW238 := n3_; have GE238 := n4_; have NB237_238 := n5_; have NB238_237 := n6_; clear n0_ n1_ n2_ n3_ n4_ n5_ n6_; clear hb hbox hg; have hnb48 := NB237_238.out; have hnc48 := NB238_237.out; obtain ⟨hcz49_0, hcz49_1, hcz49_2, hcz49_3, hcz49_4, hcz49_5, hcz49_6, hcz49_7, hcz49_8, hfz49_0, hfz49_1, hfz49_2, hfz49_3, hfz49_4, hfz49_5, hfz49_6, hfz49_7, hfz49_8⟩ := bf9 BK237.out; obtain ⟨hcz50_0, hcz50_1, hcz50_2, hcz50_3, hcz50_4, hcz50_5, hfz50_0, hfz50_1, hfz50_2, hfz50_3, hfz50_4, hfz50_5⟩ := bf6 BK238.out))
      go_ret
      exact ⟨Z138, Z99⟩
   ·rw [if_neg c5] at H
    have c5b0 : (a0_6 == a1_5) = false := by simpa using c5
    (try (have c5b1 : decide (a0_6 = a1_5) = false := by simpa using c5))
    (try (have c5b2 : (a0_6 == a1_5) = false := by simpa using c5))
    (try (have c5b3 : ¬ (a0_6 = a1_5) := by simpa using c5))
    clear c5
    obtain rfl := Option.some.inj H
    go_enter Tryd.func55, Tryd.ntmps55
    go_wp2_with (first | ((with_reducible refine gate_dst (N := 2) rfl ?_); refine box_event ?hg (N := 2) ?hd (cs := #[.string a0_0, .string a0_1, .string a0_2, .string a0_3, .int .i64 a0_4, .int .i64 a0_5, .bool a0_6, .int .i64 a0_7, .bool a0_8]) (t := 23) ?hr ?_; (case hd => rfl); (case hg => rfl); (case hr => exact Z188); intro gb237 hg w51 hbox hb; have n0_ := Aside0.mk (below_step Z140 hb); have n1_ := Aside0.mk (hbox); have n2_ := Aside0.mk ((Z108 : w.heap.size ≤ gb237)); have n3_ := Aside0.mk ((Z108 : w.heap.size ≤ gb237)); clear HB; have HB := n0_; have BK237 := n1_; have GW237 := n2_; have GE237 := n3_; clear n0_ n1_ n2_ n3_; clear hb hbox hg) | ((with_reducible refine gate_dst (N := 3) rfl ?_); refine box_event ?hg (N := 3) ?hd (cs := #[.string a1_0, .string a1_1, .string a1_2, .string a1_3, .int .i64 a1_4, .bool a1_5]) (t := 37) ?hr ?_; (case hd => rfl); (case hg => rfl); (case hr => exact Z188); intro gb238 hg w52 hbox hb; have n0_ := Aside0.mk (blk_below (g := gb237) (o := .cells #[.string a0_0, .string a0_1, .string a0_2, .string a0_3, .int .i64 a0_4, .int .i64 a0_5, .bool a0_6, .int .i64 a0_7, .bool a0_8] 23 (0, 0)) Z163 hb); have n1_ := Aside0.mk (below_step Z130 hb); have n2_ := Aside0.mk (hbox); have n3_ := Aside0.mk ((Z87 : w.heap.size ≤ gb238)); have n4_ := Aside0.mk ((Z87 : w.heap.size ≤ gb238)); have n5_ := Aside0.mk ((Z37 : gb237 ≠ gb238)); have n6_ := Aside0.mk ((Z38 : gb238 ≠ gb237)); clear BK237; clear HB; have BK237 := n0_; have HB := n1_; have BK238 := n2_; have GW238 := n3_; have GE238 := n4_; have NB237_238 := n5_; have NB238_237 := n6_; clear n0_ n1_ n2_ n3_ n4_ n5_ n6_; clear hb hbox hg; have hnb53 := NB237_238.out; have hnc53 := NB238_237.out; obtain ⟨hcz54_0, hcz54_1, hcz54_2, hcz54_3, hcz54_4, hcz54_5, hcz54_6, hcz54_7, hcz54_8, hfz54_0, hfz54_1, hfz54_2, hfz54_3, hfz54_4, hfz54_5, hfz54_6, hfz54_7, hfz54_8⟩ := bf9 BK237.out; obtain ⟨hcz55_0, hcz55_1, hcz55_2, hcz55_3, hcz55_4, hcz55_5, hfz55_0, hfz55_1, hfz55_2, hfz55_3, hfz55_4, hfz55_5⟩ := bf6 BK238.out))
    go_ret
    exact ⟨Z138, Z99⟩
  ·rw [if_neg c4] at H
   have c4b0 : (a0_1.toList == a1_1.toList) = false := beq_eq_false_iff_ne.mpr c4
   have c4b1 : (a0_1.toList != a1_1.toList) = true := bne_iff_ne.mpr c4
   obtain rfl := Option.some.inj H
   go_enter Tryd.func55, Tryd.ntmps55
   go_wp2_with (first | ((with_reducible refine gate_dst (N := 2) rfl ?_); refine box_event ?hg (N := 2) ?hd (cs := #[.string a0_0, .string a0_1, .string a0_2, .string a0_3, .int .i64 a0_4, .int .i64 a0_5, .bool a0_6, .int .i64 a0_7, .bool a0_8]) (t := 23) ?hr ?_; (case hd => rfl); (case hg => rfl); (case hr => exact Z188); intro gb237 hg w56 hbox hb; have n0_ := Aside0.mk (below_step Z140 hb); have n1_ := Aside0.mk (hbox); have n2_ := Aside0.mk ((Z108 : w.heap.size ≤ gb237)); have n3_ := Aside0.mk ((Z108 : w.heap.size ≤ gb237)); clear HB; have HB := n0_; have BK237 := n1_; have GW237 := n2_; have GE237 := n3_; clear n0_ n1_ n2_ n3_; clear hb hbox hg) | ((with_reducible refine gate_dst (N := 3) rfl ?_); refine box_event ?hg (N := 3) ?hd (cs := #[.string a1_0, .string a1_1, .string a1_2, .string a1_3, .int .i64 a1_4, .bool a1_5]) (t := 37) ?hr ?_; (case hd => rfl); (case hg => rfl); (case hr => exact Z188); intro gb238 hg w57 hbox hb; have n0_ := Aside0.mk (blk_below (g := gb237) (o := .cells #[.string a0_0, .string a0_1, .string a0_2, .string a0_3, .int .i64 a0_4, .int .i64 a0_5, .bool a0_6, .int .i64 a0_7, .bool a0_8] 23 (0, 0)) Z163 hb); have n1_ := Aside0.mk (below_step Z130 hb); have n2_ := Aside0.mk (hbox); have n3_ := Aside0.mk ((Z87 : w.heap.size ≤ gb238)); have n4_ := Aside0.mk ((Z87 : w.heap.size ≤ gb238)); have n5_ := Aside0.mk ((Z37 : gb237 ≠ gb238)); have n6_ := Aside0.mk ((Z38 : gb238 ≠ gb237)); clear BK237; clear HB; have BK237 := n0_; have HB := n1_; have BK238 := n2_; have GW238 := n3_; have GE238 := n4_; have NB237_238 := n5_; have NB238_237 := n6_; clear n0_ n1_ n2_ n3_ n4_ n5_ n6_; clear hb hbox hg; have hnb58 := NB237_238.out; have hnc58 := NB238_237.out; obtain ⟨hcz59_0, hcz59_1, hcz59_2, hcz59_3, hcz59_4, hcz59_5, hcz59_6, hcz59_7, hcz59_8, hfz59_0, hfz59_1, hfz59_2, hfz59_3, hfz59_4, hfz59_5, hfz59_6, hfz59_7, hfz59_8⟩ := bf9 BK237.out; obtain ⟨hcz60_0, hcz60_1, hcz60_2, hcz60_3, hcz60_4, hcz60_5, hfz60_0, hfz60_1, hfz60_2, hfz60_3, hfz60_4, hfz60_5⟩ := bf6 BK238.out))
   go_ret
   exact ⟨Z138, Z99⟩
 ·rw [if_neg c3] at H
  have c3b0 : (a0_0.toList == a1_0.toList) = false := beq_eq_false_iff_ne.mpr c3
  have c3b1 : (a0_0.toList != a1_0.toList) = true := bne_iff_ne.mpr c3
  obtain rfl := Option.some.inj H
  go_enter Tryd.func55, Tryd.ntmps55
  go_wp2_with (first | ((with_reducible refine gate_dst (N := 2) rfl ?_); refine box_event ?hg (N := 2) ?hd (cs := #[.string a0_0, .string a0_1, .string a0_2, .string a0_3, .int .i64 a0_4, .int .i64 a0_5, .bool a0_6, .int .i64 a0_7, .bool a0_8]) (t := 23) ?hr ?_; (case hd => rfl); (case hg => rfl); (case hr => exact Z188); intro gb237 hg w61 hbox hb; have n0_ := Aside0.mk (below_step Z140 hb); have n1_ := Aside0.mk (hbox); have n2_ := Aside0.mk ((Z108 : w.heap.size ≤ gb237)); have n3_ := Aside0.mk ((Z108 : w.heap.size ≤ gb237)); clear HB; have HB := n0_; have BK237 := n1_; have GW237 := n2_; have GE237 := n3_; clear n0_ n1_ n2_ n3_; clear hb hbox hg) | ((with_reducible refine gate_dst (N := 3) rfl ?_); refine box_event ?hg (N := 3) ?hd (cs := #[.string a1_0, .string a1_1, .string a1_2, .string a1_3, .int .i64 a1_4, .bool a1_5]) (t := 37) ?hr ?_; (case hd => rfl); (case hg => rfl); (case hr => exact Z188); intro gb238 hg w62 hbox hb; have n0_ := Aside0.mk (blk_below (g := gb237) (o := .cells #[.string a0_0, .string a0_1, .string a0_2, .string a0_3, .int .i64 a0_4, .int .i64 a0_5, .bool a0_6, .int .i64 a0_7, .bool a0_8] 23 (0, 0)) Z163 hb); have n1_ := Aside0.mk (below_step Z130 hb); have n2_ := Aside0.mk (hbox); have n3_ := Aside0.mk ((Z87 : w.heap.size ≤ gb238)); have n4_ := Aside0.mk ((Z87 : w.heap.size ≤ gb238)); have n5_ := Aside0.mk ((Z37 : gb237 ≠ gb238)); have n6_ := Aside0.mk ((Z38 : gb238 ≠ gb237)); clear BK237; clear HB; have BK237 := n0_; have HB := n1_; have BK238 := n2_; have GW238 := n3_; have GE238 := n4_; have NB237_238 := n5_; have NB238_237 := n6_; clear n0_ n1_ n2_ n3_ n4_ n5_ n6_; clear hb hbox hg; have hnb63 := NB237_238.out; have hnc63 := NB238_237.out; obtain ⟨hcz64_0, hcz64_1, hcz64_2, hcz64_3, hcz64_4, hcz64_5, hcz64_6, hcz64_7, hcz64_8, hfz64_0, hfz64_1, hfz64_2, hfz64_3, hfz64_4, hfz64_5, hfz64_6, hfz64_7, hfz64_8⟩ := bf9 BK237.out; obtain ⟨hcz65_0, hcz65_1, hcz65_2, hcz65_3, hcz65_4, hcz65_5, hfz65_0, hfz65_1, hfz65_2, hfz65_3, hfz65_4, hfz65_5⟩ := bf6 BK238.out))
  go_ret
  exact ⟨Z138, Z99⟩

/-! ### interchangeref8_rank: function 97 -/
def interchangeref8_rank.f (a0_0 : ByteArray) (a0_1 : ByteArray) (a0_2 : ByteArray) (a0_3 : ByteArray) (a0_4 : Int) (a0_5 : Int) (a0_6 : Bool) (a0_7 : Int) (a0_8 : Bool) : Option (Int) := if a0_3.toList = ([] : List UInt8) then (if a0_2.toList = ([] : List UInt8) then (some 0) else (some 1)) else (some 2)
set_option maxHeartbeats 8000000 in
set_option maxRecDepth 100000 in
theorem interchangeref8_rank.calls (a0_0 : ByteArray) (a0_1 : ByteArray) (a0_2 : ByteArray) (a0_3 : ByteArray) (a0_4 : Int) (a0_5 : Int) (a0_6 : Bool) (a0_7 : Int) (a0_8 : Bool) (r : Int) (w : World) (h : interchangeref8_rank.f a0_0 a0_1 a0_2 a0_3 a0_4 a0_5 a0_6 a0_7 a0_8 = some r) :
  Calls Tryd.prog 97 #[.agg #[.string a0_0, .string a0_1, .string a0_2, .string a0_3, .int .i64 a0_4, .int .i64 a0_5, .bool a0_6, .int .i64 a0_7, .bool a0_8]] w fun e w' => e = .returned (.int .i64 r) ∧ Below w.heap.size w w' := by
 have hu23 := Tryd.underlying23
 have HB := Aside0.mk (Below.refl w.heap.size w)
 have H : (if a0_3.toList = ([] : List UInt8) then (if a0_2.toList = ([] : List UInt8) then (some 0) else (some 1)) else (some 2)) = some r := h
 clear h
 by_cases c2 : a0_3.toList = ([] : List UInt8)
 ·rw [if_pos c2] at H
  have c2b0 : (a0_3.toList == ([] : List UInt8)) = true := beq_iff_eq.mpr c2
  have c2b1 : (a0_3.toList != ([] : List UInt8)) = false := bne_eq_false_iff_eq.mpr c2
  clear c2
  by_cases c3 : a0_2.toList = ([] : List UInt8)
  ·rw [if_pos c3] at H
   have c3b0 : (a0_2.toList == ([] : List UInt8)) = true := beq_iff_eq.mpr c3
   have c3b1 : (a0_2.toList != ([] : List UInt8)) = false := bne_eq_false_iff_eq.mpr c3
   clear c3
   obtain rfl := Option.some.inj H
   go_enter Tryd.func97, Tryd.ntmps97
   go_wp2_with (first | ((with_reducible refine gate_dst (N := 1) rfl ?_); refine box_event ?hg (N := 1) ?hd (cs := #[.string a0_0, .string a0_1, .string a0_2, .string a0_3, .int .i64 a0_4, .int .i64 a0_5, .bool a0_6, .int .i64 a0_7, .bool a0_8]) (t := 23) ?hr ?_; (case hd => rfl); (case hg => rfl); (case hr => exact Z188); intro gb243 hg w4 hbox hb; have n0_ := Aside0.mk (below_step Z140 hb); have n1_ := Aside0.mk (hbox); have n2_ := Aside0.mk ((Z108 : w.heap.size ≤ gb243)); have n3_ := Aside0.mk ((Z108 : w.heap.size ≤ gb243)); clear HB; have HB := n0_; have BK243 := n1_; have GW243 := n2_; have GE243 := n3_; clear n0_ n1_ n2_ n3_; clear hb hbox hg; obtain ⟨hcz5_0, hcz5_1, hcz5_2, hcz5_3, hcz5_4, hcz5_5, hcz5_6, hcz5_7, hcz5_8, hfz5_0, hfz5_1, hfz5_2, hfz5_3, hfz5_4, hfz5_5, hfz5_6, hfz5_7, hfz5_8⟩ := bf9 BK243.out))
   go_ret
   exact ⟨Z138, Z131⟩
  ·rw [if_neg c3] at H
   have c3b0 : (a0_2.toList == ([] : List UInt8)) = false := beq_eq_false_iff_ne.mpr c3
   have c3b1 : (a0_2.toList != ([] : List UInt8)) = true := bne_iff_ne.mpr c3
   obtain rfl := Option.some.inj H
   go_enter Tryd.func97, Tryd.ntmps97
   go_wp2_with (first | ((with_reducible refine gate_dst (N := 1) rfl ?_); refine box_event ?hg (N := 1) ?hd (cs := #[.string a0_0, .string a0_1, .string a0_2, .string a0_3, .int .i64 a0_4, .int .i64 a0_5, .bool a0_6, .int .i64 a0_7, .bool a0_8]) (t := 23) ?hr ?_; (case hd => rfl); (case hg => rfl); (case hr => exact Z188); intro gb243 hg w6 hbox hb; have n0_ := Aside0.mk (below_step Z140 hb); have n1_ := Aside0.mk (hbox); have n2_ := Aside0.mk ((Z108 : w.heap.size ≤ gb243)); have n3_ := Aside0.mk ((Z108 : w.heap.size ≤ gb243)); clear HB; have HB := n0_; have BK243 := n1_; have GW243 := n2_; have GE243 := n3_; clear n0_ n1_ n2_ n3_; clear hb hbox hg; obtain ⟨hcz7_0, hcz7_1, hcz7_2, hcz7_3, hcz7_4, hcz7_5, hcz7_6, hcz7_7, hcz7_8, hfz7_0, hfz7_1, hfz7_2, hfz7_3, hfz7_4, hfz7_5, hfz7_6, hfz7_7, hfz7_8⟩ := bf9 BK243.out))
   go_ret
   exact ⟨Z138, Z131⟩
 ·rw [if_neg c2] at H
  have c2b0 : (a0_3.toList == ([] : List UInt8)) = false := beq_eq_false_iff_ne.mpr c2
  have c2b1 : (a0_3.toList != ([] : List UInt8)) = true := bne_iff_ne.mpr c2
  obtain rfl := Option.some.inj H
  go_enter Tryd.func97, Tryd.ntmps97
  go_wp2_with (first | ((with_reducible refine gate_dst (N := 1) rfl ?_); refine box_event ?hg (N := 1) ?hd (cs := #[.string a0_0, .string a0_1, .string a0_2, .string a0_3, .int .i64 a0_4, .int .i64 a0_5, .bool a0_6, .int .i64 a0_7, .bool a0_8]) (t := 23) ?hr ?_; (case hd => rfl); (case hg => rfl); (case hr => exact Z188); intro gb243 hg w8 hbox hb; have n0_ := Aside0.mk (below_step Z140 hb); have n1_ := Aside0.mk (hbox); have n2_ := Aside0.mk ((Z108 : w.heap.size ≤ gb243)); have n3_ := Aside0.mk ((Z108 : w.heap.size ≤ gb243)); clear HB; have HB := n0_; have BK243 := n1_; have GW243 := n2_; have GE243 := n3_; clear n0_ n1_ n2_ n3_; clear hb hbox hg; obtain ⟨hcz9_0, hcz9_1, hcz9_2, hcz9_3, hcz9_4, hcz9_5, hcz9_6, hcz9_7, hcz9_8, hfz9_0, hfz9_1, hfz9_2, hfz9_3, hfz9_4, hfz9_5, hfz9_6, hfz9_7, hfz9_8⟩ := bf9 BK243.out))
  go_ret
  exact ⟨Z138, Z131⟩

/-! ### interchangeref8_better: function 58 -/
def interchangeref8_better.l0 : Nat → List Int → Int → Int → Option (Int)
 | 0, _, _, _ => none
 | k + 1, x22, x23, x24 => if x24 < x23 then (if 0 ≤ x24 then (if x24 < (x22.length : Int) then (if (rd x22 x24) < 0 then (some (-1)) else (if (rd x22 x24) > 0 then (some 1) else (interchangeref8_better.l0 k x22 x23 (wrap64 (x24 + 1))))) else (none)) else (none)) else (some 0)
def interchangeref8_better.f (k : Nat) (a0_0 : ByteArray) (a0_1 : ByteArray) (a0_2 : ByteArray) (a0_3 : ByteArray) (a0_4 : Int) (a0_5 : Int) (a0_6 : Bool) (a0_7 : Int) (a0_8 : Bool) (a1_0 : ByteArray) (a1_1 : ByteArray) (a1_2 : ByteArray) (a1_3 : ByteArray) (a1_4 : Int) (a1_5 : Int) (a1_6 : Bool) (a1_7 : Int) (a1_8 : Bool) : Option (Int) := (interchangeref8_rank.f a1_0 a1_1 a1_2 a1_3 a1_4 a1_5 a1_6 a1_7 a1_8).bind fun t246 => ((interchangeref8_rank.f a0_0 a0_1 a0_2 a0_3 a0_4 a0_5 a0_6 a0_7 a0_8).bind fun t247 => ((some (([wrap64 (t246 - t247), wrap64 (a1_4 - a0_4), wrap64 (a0_5 - a1_5)] : List Int) : List Int)).bind fun y248 => (interchangeref8_better.l0 k y248 (y248.length : Int) 0)))
theorem interchangeref8_better.mono_l : ∀ k, (∀ y0 y1 y2, LeO (interchangeref8_better.l0 k y0 y1 y2) (interchangeref8_better.l0 (k + 1) y0 y1 y2))
 | 0 => fun _ _ _ r h => by simp [interchangeref8_better.l0] at h
 | k + 1 => by
  have ih0 := interchangeref8_better.mono_l k
  ·intro y0 y1 y2
   unfold interchangeref8_better.l0
   repeat' first
   | (with_reducible exact ih0 _ _ _)
   | (with_reducible exact LeO.refl _)
   | (with_reducible exact LeO.none _)
   | (with_reducible refine LeO.ite ?_ ?_)
   | (with_reducible refine LeO.bind ?_ (fun _ => ?_))
   | exact ih0 _ _ _
   | exact LeO.none _
   | refine LeO.ite ?_ ?_
   | refine LeO.bind ?_ (fun _ => ?_)
theorem interchangeref8_better.mono : ∀ a0 a1 a2 a3 a4 a5 a6 a7 a8 a9 a10 a11 a12 a13 a14 a15 a16 a17 k, LeO (interchangeref8_better.f k a0 a1 a2 a3 a4 a5 a6 a7 a8 a9 a10 a11 a12 a13 a14 a15 a16 a17) (interchangeref8_better.f (k + 1) a0 a1 a2 a3 a4 a5 a6 a7 a8 a9 a10 a11 a12 a13 a14 a15 a16 a17) := by
 intro a0 a1 a2 a3 a4 a5 a6 a7 a8 a9 a10 a11 a12 a13 a14 a15 a16 a17 k
 have ih0 := interchangeref8_better.mono_l k
 unfold interchangeref8_better.f
 repeat' first
   | (with_reducible exact ih0 _ _ _)
   | (with_reducible exact LeO.refl _)
   | (with_reducible exact LeO.none _)
   | (with_reducible refine LeO.ite ?_ ?_)
   | (with_reducible refine LeO.bind ?_ (fun _ => ?_))
   | exact ih0 _ _ _
   | exact LeO.none _
   | refine LeO.ite ?_ ?_
   | refine LeO.bind ?_ (fun _ => ?_)
def interchangeref8_better.T1 : Bool × List (List Nat × List Nat) := (true, [([], []), ([0], [0]), ([], []), ([2, 1], [2]), ([1, 3], [1, 3]), ([], []), ([5], [5]), ([], []), ([7], [7]), ([6, 8], [6, 8]), ([], []), ([10], [10]), ([], []), ([12], [12]), ([11, 13], [11, 13]), ([4, 9, 14], [4, 9, 14]), ([15], [15]), ([], [])])
def interchangeref8_better.B1 : List Nat := [0, 1, 0, 7, 15, 0, 32, 0, 128, 480, 0, 1024, 0, 4096, 15360, 32767, 65535, 0]
theorem interchangeref8_better.tab1 : rtab .any (opsOf Tryd.f58 1) = interchangeref8_better.T1 := by kernel_rfl
theorem interchangeref8_better.bits1 : waitsOk interchangeref8_better.T1.2 interchangeref8_better.B1 = true := by kernel_rfl
set_option maxHeartbeats 8000000 in
set_option maxRecDepth 100000 in
theorem interchangeref8_better.calls (k : Nat) (a0_0 : ByteArray) (a0_1 : ByteArray) (a0_2 : ByteArray) (a0_3 : ByteArray) (a0_4 : Int) (a0_5 : Int) (a0_6 : Bool) (a0_7 : Int) (a0_8 : Bool) (a1_0 : ByteArray) (a1_1 : ByteArray) (a1_2 : ByteArray) (a1_3 : ByteArray) (a1_4 : Int) (a1_5 : Int) (a1_6 : Bool) (a1_7 : Int) (a1_8 : Bool) (r : Int) (w : World) (h : interchangeref8_better.f k a0_0 a0_1 a0_2 a0_3 a0_4 a0_5 a0_6 a0_7 a0_8 a1_0 a1_1 a1_2 a1_3 a1_4 a1_5 a1_6 a1_7 a1_8 = some r) :
  Calls Tryd.prog 58 #[.agg #[.string a0_0, .string a0_1, .string a0_2, .string a0_3, .int .i64 a0_4, .int .i64 a0_5, .bool a0_6, .int .i64 a0_7, .bool a0_8], .agg #[.string a1_0, .string a1_1, .string a1_2, .string a1_3, .int .i64 a1_4, .int .i64 a1_5, .bool a1_6, .int .i64 a1_7, .bool a1_8]] w fun e w' => e = .returned (.int .i64 r) ∧ Below w.heap.size w w' := by
 have hu23 := Tryd.underlying23
 have HB := Aside0.mk (Below.refl w.heap.size w)
 have H : ((interchangeref8_rank.f a1_0 a1_1 a1_2 a1_3 a1_4 a1_5 a1_6 a1_7 a1_8).bind fun t246 => ((interchangeref8_rank.f a0_0 a0_1 a0_2 a0_3 a0_4 a0_5 a0_6 a0_7 a0_8).bind fun t247 => ((some (([wrap64 (t246 - t247), wrap64 (a1_4 - a0_4), wrap64 (a0_5 - a1_5)] : List Int) : List Int)).bind fun y248 => (interchangeref8_better.l0 k y248 (y248.length : Int) 0)))) = some r := h
 clear h
 replace H := Option.bind_eq_some_iff.mp H
 obtain ⟨t246, A30, H⟩ := H
 replace H : ((interchangeref8_rank.f a0_0 a0_1 a0_2 a0_3 a0_4 a0_5 a0_6 a0_7 a0_8).bind fun t247 => ((some (([wrap64 (t246 - t247), wrap64 (a1_4 - a0_4), wrap64 (a0_5 - a1_5)] : List Int) : List Int)).bind fun y248 => (interchangeref8_better.l0 k y248 (y248.length : Int) 0))) = some r := H
 have A3 := Aside0.mk A30
 clear A30
 replace H := Option.bind_eq_some_iff.mp H
 obtain ⟨t247, A40, H⟩ := H
 replace H : ((some (([wrap64 (t246 - t247), wrap64 (a1_4 - a0_4), wrap64 (a0_5 - a1_5)] : List Int) : List Int)).bind fun y248 => (interchangeref8_better.l0 k y248 (y248.length : Int) 0)) = some r := H
 have A4 := Aside0.mk A40
 clear A40
 obtain ⟨y248, hy248⟩ : ∃ y_ : List Int, y_ = (([wrap64 (t246 - t247), wrap64 (a1_4 - a0_4), wrap64 (a0_5 - a1_5)] : List Int)) := ⟨_, rfl⟩
 replace H : (interchangeref8_better.l0 k y248 (y248.length : Int) 0) = some r := by first | (rw [hy248]; with_reducible exact H) | (have H2_ := (Option.bind_some _ _).symm.trans H; rw [hy248]; with_reducible exact H2_) | (have H2_ := (Option.bind_some _ _).symm.trans H; with_reducible exact H2_) | with_reducible exact H | (rw [hy248]; exact H) | exact H
 have Ny248 := Aside0.mk hy248
 clear hy248
 have H' := Aside0.mk H
 clear H
 go_enter Tryd.func58, Tryd.ntmps58
 try go_wp2_with (first | ((with_reducible refine gate_dst (N := 2) rfl ?_); refine box_event ?hg (N := 2) ?hd (cs := #[.string a0_0, .string a0_1, .string a0_2, .string a0_3, .int .i64 a0_4, .int .i64 a0_5, .bool a0_6, .int .i64 a0_7, .bool a0_8]) (t := 23) ?hr ?_; (case hd => rfl); (case hg => rfl); (case hr => exact Z188); intro gb244 hg w5 hbox hb; have n0_ := Aside0.mk (below_step Z140 hb); have n1_ := Aside0.mk (hbox); have n2_ := Aside0.mk ((Z108 : w.heap.size ≤ gb244)); have n3_ := Aside0.mk ((Z108 : w.heap.size ≤ gb244)); clear HB; have HB := n0_; have BK244 := n1_; have GW244 := n2_; have GE244 := n3_; clear n0_ n1_ n2_ n3_; clear hb hbox hg) | ((with_reducible refine gate_dst (N := 3) rfl ?_); refine box_event ?hg (N := 3) ?hd (cs := #[.string a1_0, .string a1_1, .string a1_2, .string a1_3, .int .i64 a1_4, .int .i64 a1_5, .bool a1_6, .int .i64 a1_7, .bool a1_8]) (t := 23) ?hr ?_; (case hd => rfl); (case hg => rfl); (case hr => exact Z188); intro gb245 hg w6 hbox hb; have n0_ := Aside0.mk (blk_below (g := gb244) (o := .cells #[.string a0_0, .string a0_1, .string a0_2, .string a0_3, .int .i64 a0_4, .int .i64 a0_5, .bool a0_6, .int .i64 a0_7, .bool a0_8] 23 (0, 0)) Z164 hb); have n1_ := Aside0.mk (below_step Z132 hb); have n2_ := Aside0.mk (hbox); have n3_ := Aside0.mk ((by rw [hg]; exact (below_size Z132) : w.heap.size ≤ gb245)); have n4_ := Aside0.mk ((by rw [hg]; exact (below_size Z132) : w.heap.size ≤ gb245)); have n5_ := Aside0.mk ((by rw [hg]; exact Nat.ne_of_lt (blk_lt (g := gb244) (o := .cells #[.string a0_0, .string a0_1, .string a0_2, .string a0_3, .int .i64 a0_4, .int .i64 a0_5, .bool a0_6, .int .i64 a0_7, .bool a0_8] 23 (0, 0)) Z164) : gb244 ≠ gb245)); have n6_ := Aside0.mk ((by rw [hg]; exact Nat.ne_of_gt (blk_lt (g := gb244) (o := .cells #[.string a0_0, .string a0_1, .string a0_2, .string a0_3, .int .i64 a0_4, .int .i64 a0_5, .bool a0_6, .int .i64 a0_7, .bool a0_8] 23 (0, 0)) Z164) : gb245 ≠ gb244)); clear BK244; clear HB; have BK244 := n0_; have HB := n1_; have BK245 := n2_; have GW245 := n3_; have GE245 := n4_; have NB244_245 := n5_; have NB245_244 := n6_; clear n0_ n1_ n2_ n3_ n4_ n5_ n6_; clear hb hbox hg))
 have n0_ := Aside0.mk (blk_drew BK244.out)
 have n1_ := Aside0.mk (blk_drew BK245.out)
 have n2_ := Aside0.mk (below_drew1 HB.out)
 clear BK244
 clear BK245
 clear HB
 have BK244 := n0_
 have BK245 := n1_
 have HB := n2_
 clear n0_ n1_ n2_
 refine start_ (n := 18) (S := fun w' => w'.cell? ⟨gb245, 0, none⟩ = some (.string a1_0) ∧ w'.cell? ⟨gb245, 1, none⟩ = some (.string a1_1) ∧ w'.cell? ⟨gb245, 2, none⟩ = some (.string a1_2) ∧ w'.cell? ⟨gb245, 3, none⟩ = some (.string a1_3) ∧ w'.cell? ⟨gb245, 4, none⟩ = some (.int .i64 a1_4) ∧ w'.cell? ⟨gb245, 5, none⟩ = some (.int .i64 a1_5) ∧ w'.cell? ⟨gb245, 6, none⟩ = some (.bool a1_6) ∧ w'.cell? ⟨gb245, 7, none⟩ = some (.int .i64 a1_7) ∧ w'.cell? ⟨gb245, 8, none⟩ = some (.bool a1_8) ∧ w'.cell? ⟨gb244, 0, none⟩ = some (.string a0_0) ∧ w'.cell? ⟨gb244, 1, none⟩ = some (.string a0_1) ∧ w'.cell? ⟨gb244, 2, none⟩ = some (.string a0_2) ∧ w'.cell? ⟨gb244, 3, none⟩ = some (.string a0_3) ∧ w'.cell? ⟨gb244, 4, none⟩ = some (.int .i64 a0_4) ∧ w'.cell? ⟨gb244, 5, none⟩ = some (.int .i64 a0_5) ∧ w'.cell? ⟨gb244, 6, none⟩ = some (.bool a0_6) ∧ w'.cell? ⟨gb244, 7, none⟩ = some (.int .i64 a0_7) ∧ w'.cell? ⟨gb244, 8, none⟩ = some (.bool a0_8)) (ds := []) #[false, false, false, false, false, false, false, false, false, false, false, false, false, false, false, false, false, false] (by kernel_rfl) rfl rfl ⟨(blk_cell BK245.out 0).trans rfl, (blk_cell BK245.out 1).trans rfl, (blk_cell BK245.out 2).trans rfl, (blk_cell BK245.out 3).trans rfl, (blk_cell BK245.out 4).trans rfl, (blk_cell BK245.out 5).trans rfl, (blk_cell BK245.out 6).trans rfl, (blk_cell BK245.out 7).trans rfl, (blk_cell BK245.out 8).trans rfl, (blk_cell BK244.out 0).trans rfl, (blk_cell BK244.out 1).trans rfl, (blk_cell BK244.out 2).trans rfl, (blk_cell BK244.out 3).trans rfl, (blk_cell BK244.out 4).trans rfl, (blk_cell BK244.out 5).trans rfl, (blk_cell BK244.out 6).trans rfl, (blk_cell BK244.out 7).trans rfl, (blk_cell BK244.out 8).trans rfl⟩ (fun hHeld => ?_); refine with_tabW interchangeref8_better.tab1 interchangeref8_better.bits1 (fun HT_ HW_ => ?_)
 generalize w6.drew = w7 at BK244 BK245 HB hHeld ⊢
 refine pure_ (i := 5) (N := some 12) (v := ?_) (a' := ?_) #[false, false, false, false, false, true, false, false, false, false, false, false, false, false, false, false, false, false] rfl rfl (any_of HT_.out (by kernel_rfl)) (fun _ _ _ h => h) (Or.inl ⟨by rfl, ?_⟩) ?_ ?_
 rotate_left
 ·intro w'
  go_simp
  with_reducible rfl
 rotate_left
 ·simp only [Act.put, List.setIfInBounds_toArray, List.set_cons_zero, List.set_cons_succ, i64_w, i32_w]
  rfl
 refine pure_ (i := 7) (N := some 14) (v := ?_) (a' := ?_) #[false, false, false, false, false, true, false, true, false, false, false, false, false, false, false, false, false, false] rfl rfl (any_of HT_.out (by kernel_rfl)) (fun _ _ _ h => h) (Or.inl ⟨by rfl, ?_⟩) ?_ ?_
 rotate_left
 ·intro w'
  go_simp
  with_reducible rfl
 rotate_left
 ·simp only [Act.put, List.setIfInBounds_toArray, List.set_cons_zero, List.set_cons_succ, i64_w, i32_w]
  rfl
 refine pure_ (i := 10) (N := some 17) (v := ?_) (a' := ?_) #[false, false, false, false, false, true, false, true, false, false, true, false, false, false, false, false, false, false] rfl rfl (any_of HT_.out (by kernel_rfl)) (fun _ _ _ h => h) (Or.inl ⟨by rfl, ?_⟩) ?_ ?_
 rotate_left
 ·intro w'
  go_simp
  with_reducible rfl
 rotate_left
 ·simp only [Act.put, List.setIfInBounds_toArray, List.set_cons_zero, List.set_cons_succ, i64_w, i32_w]
  rfl
 refine pure_ (i := 12) (N := some 19) (v := ?_) (a' := ?_) #[false, false, false, false, false, true, false, true, false, false, true, false, true, false, false, false, false, false] rfl rfl (any_of HT_.out (by kernel_rfl)) (fun _ _ _ h => h) (Or.inl ⟨by rfl, ?_⟩) ?_ ?_
 rotate_left
 ·intro w'
  go_simp
  with_reducible rfl
 rotate_left
 ·simp only [Act.put, List.setIfInBounds_toArray, List.set_cons_zero, List.set_cons_succ, i64_w, i32_w]
  rfl
 refine pure_ (i := 17) (N := some 24) (v := ?_) (a' := ?_) #[false, false, false, false, false, true, false, true, false, false, true, false, true, false, false, false, false, true] rfl rfl (any_of HT_.out (by kernel_rfl)) (fun _ _ _ h => h) (Or.inl ⟨by rfl, ?_⟩) ?_ ?_
 rotate_left
 ·intro w'
  go_simp
  with_reducible rfl
 rotate_left
 ·simp only [Act.put, List.setIfInBounds_toArray, List.set_cons_zero, List.set_cons_succ, i64_w, i32_w]
  rfl
 refine take_ (i := 0) (N := some 7) (v := ?_) (a' := ?_) #[true, false, false, false, false, true, false, true, false, false, true, false, true, false, false, false, false, true] rfl rfl (take_ofW HT_.out HW_.out (by kernel_rfl)) (fun _ _ _ h => h) (Or.inl ⟨by rfl, ?_⟩) hHeld ?_ ?_
 rotate_left
 ·rintro w' ⟨s0, s1, s2, s3, s4, s5, s6, s7, s8, s9, s10, s11, s12, s13, s14, s15, s16, s17⟩
  go_simp
  with_reducible rfl
 rotate_left
 ·simp only [Act.put, List.setIfInBounds_toArray, List.set_cons_zero, List.set_cons_succ, i64_w, i32_w]
  rfl
 refine take_ (i := 2) (N := some 9) (v := ?_) (a' := ?_) #[true, false, true, false, false, true, false, true, false, false, true, false, true, false, false, false, false, true] rfl rfl (take_ofW HT_.out HW_.out (by kernel_rfl)) (fun _ _ _ h => h) (Or.inl ⟨by rfl, ?_⟩) hHeld ?_ ?_
 rotate_left
 ·rintro w' ⟨s0, s1, s2, s3, s4, s5, s6, s7, s8, s9, s10, s11, s12, s13, s14, s15, s16, s17⟩
  go_simp
  with_reducible rfl
 rotate_left
 ·simp only [Act.put, List.setIfInBounds_toArray, List.set_cons_zero, List.set_cons_succ, i64_w, i32_w]
  rfl
 refine take_ (i := 6) (N := some 13) (v := ?_) (a' := ?_) #[true, false, true, false, false, true, true, true, false, false, true, false, true, false, false, false, false, true] rfl rfl (take_ofW HT_.out HW_.out (by kernel_rfl)) (fun _ _ _ h => h) (Or.inl ⟨by rfl, ?_⟩) hHeld ?_ ?_
 rotate_left
 ·rintro w' ⟨s0, s1, s2, s3, s4, s5, s6, s7, s8, s9, s10, s11, s12, s13, s14, s15, s16, s17⟩
  go_simp
  with_reducible rfl
 rotate_left
 ·simp only [Act.put, List.setIfInBounds_toArray, List.set_cons_zero, List.set_cons_succ, i64_w, i32_w]
  rfl
 refine take_ (i := 8) (N := some 15) (v := ?_) (a' := ?_) #[true, false, true, false, false, true, true, true, true, false, true, false, true, false, false, false, false, true] rfl rfl (take_ofW HT_.out HW_.out (by kernel_rfl)) (fun _ _ _ h => h) (Or.inl ⟨by rfl, ?_⟩) hHeld ?_ ?_
 rotate_left
 ·rintro w' ⟨s0, s1, s2, s3, s4, s5, s6, s7, s8, s9, s10, s11, s12, s13, s14, s15, s16, s17⟩
  go_simp
  with_reducible rfl
 rotate_left
 ·simp only [Act.put, List.setIfInBounds_toArray, List.set_cons_zero, List.set_cons_succ, i64_w, i32_w]
  rfl
 refine pure_ (i := 9) (N := some 16) (v := ?_) (a' := ?_) #[true, false, true, false, false, true, true, true, true, true, true, false, true, false, false, false, false, true] rfl rfl (any_of HT_.out (by kernel_rfl)) (fun _ _ _ h => h) (Or.inl ⟨by rfl, ?_⟩) ?_ ?_
 rotate_left
 ·intro w'
  go_simp
  with_reducible rfl
 rotate_left
 ·simp only [Act.put, List.setIfInBounds_toArray, List.set_cons_zero, List.set_cons_succ, i64_w, i32_w]
  rfl
 refine take_ (i := 11) (N := some 18) (v := ?_) (a' := ?_) #[true, false, true, false, false, true, true, true, true, true, true, true, true, false, false, false, false, true] rfl rfl (take_ofW HT_.out HW_.out (by kernel_rfl)) (fun _ _ _ h => h) (Or.inl ⟨by rfl, ?_⟩) hHeld ?_ ?_
 rotate_left
 ·rintro w' ⟨s0, s1, s2, s3, s4, s5, s6, s7, s8, s9, s10, s11, s12, s13, s14, s15, s16, s17⟩
  go_simp
  with_reducible rfl
 rotate_left
 ·simp only [Act.put, List.setIfInBounds_toArray, List.set_cons_zero, List.set_cons_succ, i64_w, i32_w]
  rfl
 refine take_ (i := 13) (N := some 20) (v := ?_) (a' := ?_) #[true, false, true, false, false, true, true, true, true, true, true, true, true, true, false, false, false, true] rfl rfl (take_ofW HT_.out HW_.out (by kernel_rfl)) (fun _ _ _ h => h) (Or.inl ⟨by rfl, ?_⟩) hHeld ?_ ?_
 rotate_left
 ·rintro w' ⟨s0, s1, s2, s3, s4, s5, s6, s7, s8, s9, s10, s11, s12, s13, s14, s15, s16, s17⟩
  go_simp
  with_reducible rfl
 rotate_left
 ·simp only [Act.put, List.setIfInBounds_toArray, List.set_cons_zero, List.set_cons_succ, i64_w, i32_w]
  rfl
 refine pure_ (i := 14) (N := some 21) (v := ?_) (a' := ?_) #[true, false, true, false, false, true, true, true, true, true, true, true, true, true, true, false, false, true] rfl rfl (any_of HT_.out (by kernel_rfl)) (fun _ _ _ h => h) (Or.inl ⟨by rfl, ?_⟩) ?_ ?_
 rotate_left
 ·intro w'
  go_simp
  with_reducible rfl
 rotate_left
 ·simp only [Act.put, List.setIfInBounds_toArray, List.set_cons_zero, List.set_cons_succ, i64_w, i32_w]
  rfl
 refine one_ (i := 1) (N := some 8) #[true, true, true, false, false, true, true, true, true, true, true, true, true, true, true, false, false, true] rfl rfl (one_of HT_.out (by kernel_rfl)) (by decide) (fun K hK => ?_)
 refine goes_ Tryd.func97 (by kernel_rfl) rfl #[.agg #[.string a1_0, .string a1_1, .string a1_2, .string a1_3, .int .i64 a1_4, .int .i64 a1_5, .bool a1_6, .int .i64 a1_7, .bool a1_8]] (by rfl) rfl rfl Z104 ?_
 with_reducible refine (interchangeref8_rank.calls a1_0 a1_1 a1_2 a1_3 a1_4 a1_5 a1_6 a1_7 a1_8 t246 _ A3.out).mono ?_
 rintro e w8 ⟨rfl, hb⟩
 refine ⟨_, rfl, ?_⟩
 have n0_ := Aside0.mk (blk_below (g := gb244) (o := .cells #[.string a0_0, .string a0_1, .string a0_2, .string a0_3, .int .i64 a0_4, .int .i64 a0_5, .bool a0_6, .int .i64 a0_7, .bool a0_8] 23 (0, 0)) Z164 hb)
 have n1_ := Aside0.mk (blk_below (g := gb245) (o := .cells #[.string a1_0, .string a1_1, .string a1_2, .string a1_3, .int .i64 a1_4, .int .i64 a1_5, .bool a1_6, .int .i64 a1_7, .bool a1_8] 23 (0, 0)) Z165 hb)
 have n2_ := Aside0.mk (below_step Z100 hb)
 clear BK244
 clear BK245
 clear HB
 have BK244 := n0_
 have BK245 := n1_
 have HB := n2_
 clear n0_ n1_ n2_
 (try clear hb)
 (try clear hb2)
 (try clear hk)
 (try clear hi)
 refine hK.out _ _ ⟨(blk_cell BK245.out 0).trans rfl, (blk_cell BK245.out 1).trans rfl, (blk_cell BK245.out 2).trans rfl, (blk_cell BK245.out 3).trans rfl, (blk_cell BK245.out 4).trans rfl, (blk_cell BK245.out 5).trans rfl, (blk_cell BK245.out 6).trans rfl, (blk_cell BK245.out 7).trans rfl, (blk_cell BK245.out 8).trans rfl, (blk_cell BK244.out 0).trans rfl, (blk_cell BK244.out 1).trans rfl, (blk_cell BK244.out 2).trans rfl, (blk_cell BK244.out 3).trans rfl, (blk_cell BK244.out 4).trans rfl, (blk_cell BK244.out 5).trans rfl, (blk_cell BK244.out 6).trans rfl, (blk_cell BK244.out 7).trans rfl, (blk_cell BK244.out 8).trans rfl⟩ (fun hHeld => ?_)
 clear hK K
 refine norm_ (a' := ?_) ?_ ?_
 rotate_left
 ·show Act.put _ (some 8) _ = _
  simp only [Act.put, List.setIfInBounds_toArray, List.set_cons_zero, List.set_cons_succ, i64_w, i32_w]
  rfl
 refine one_ (i := 3) (N := some 10) #[true, true, true, true, false, true, true, true, true, true, true, true, true, true, true, false, false, true] rfl rfl (one_of HT_.out (by kernel_rfl)) (by decide) (fun K hK => ?_)
 refine goes_ Tryd.func97 (by kernel_rfl) rfl #[.agg #[.string a0_0, .string a0_1, .string a0_2, .string a0_3, .int .i64 a0_4, .int .i64 a0_5, .bool a0_6, .int .i64 a0_7, .bool a0_8]] (by rfl) rfl rfl Z104 ?_
 with_reducible refine (interchangeref8_rank.calls a0_0 a0_1 a0_2 a0_3 a0_4 a0_5 a0_6 a0_7 a0_8 t247 _ A4.out).mono ?_
 rintro e w9 ⟨rfl, hb⟩
 refine ⟨_, rfl, ?_⟩
 have n0_ := Aside0.mk (blk_below (g := gb244) (o := .cells #[.string a0_0, .string a0_1, .string a0_2, .string a0_3, .int .i64 a0_4, .int .i64 a0_5, .bool a0_6, .int .i64 a0_7, .bool a0_8] 23 (0, 0)) Z164 hb)
 have n1_ := Aside0.mk (blk_below (g := gb245) (o := .cells #[.string a1_0, .string a1_1, .string a1_2, .string a1_3, .int .i64 a1_4, .int .i64 a1_5, .bool a1_6, .int .i64 a1_7, .bool a1_8] 23 (0, 0)) Z165 hb)
 have n2_ := Aside0.mk (below_step Z100 hb)
 clear BK244
 clear BK245
 clear HB
 have BK244 := n0_
 have BK245 := n1_
 have HB := n2_
 clear n0_ n1_ n2_
 (try clear hb)
 (try clear hb2)
 (try clear hk)
 (try clear hi)
 refine hK.out _ _ ⟨(blk_cell BK245.out 0).trans rfl, (blk_cell BK245.out 1).trans rfl, (blk_cell BK245.out 2).trans rfl, (blk_cell BK245.out 3).trans rfl, (blk_cell BK245.out 4).trans rfl, (blk_cell BK245.out 5).trans rfl, (blk_cell BK245.out 6).trans rfl, (blk_cell BK245.out 7).trans rfl, (blk_cell BK245.out 8).trans rfl, (blk_cell BK244.out 0).trans rfl, (blk_cell BK244.out 1).trans rfl, (blk_cell BK244.out 2).trans rfl, (blk_cell BK244.out 3).trans rfl, (blk_cell BK244.out 4).trans rfl, (blk_cell BK244.out 5).trans rfl, (blk_cell BK244.out 6).trans rfl, (blk_cell BK244.out 7).trans rfl, (blk_cell BK244.out 8).trans rfl⟩ (fun hHeld => ?_)
 clear hK K
 refine norm_ (a' := ?_) ?_ ?_
 rotate_left
 ·show Act.put _ (some 10) _ = _
  simp only [Act.put, List.setIfInBounds_toArray, List.set_cons_zero, List.set_cons_succ, i64_w, i32_w]
  rfl
 refine pure_ (i := 4) (N := some 11) (v := ?_) (a' := ?_) #[true, true, true, true, true, true, true, true, true, true, true, true, true, true, true, false, false, true] rfl rfl (any_of HT_.out (by kernel_rfl)) (fun _ _ _ h => h) (Or.inl ⟨by rfl, ?_⟩) ?_ ?_
 rotate_left
 ·intro w'
  go_simp
  with_reducible rfl
 rotate_left
 ·simp only [Act.put, List.setIfInBounds_toArray, List.set_cons_zero, List.set_cons_succ, i64_w, i32_w]
  rfl
 refine one_ (i := 15) (N := some 22) #[true, true, true, true, true, true, true, true, true, true, true, true, true, true, true, true, false, true] rfl rfl (one_of HT_.out (by kernel_rfl)) (by decide) (fun K hK => ?_)
 refine Kd.R_lit_step (Kd.int .i64) _ 3 ?hg (N := 22) ?hd (xs := ([wrap64 (t246 - t247), wrap64 (a1_4 - a0_4), wrap64 (a0_5 - a1_5)] : List Int)) (inner := [.int .i64 (wrap64 (t246 - t247)), .int .i64 (wrap64 (a1_4 - a0_4)), .int .i64 (wrap64 (a0_5 - a1_5))]) (ok := fun _ => True) (okp := fun _ => True) ?hr ?hp (fun _ hk => hk) trivial (Below.refl _ _) (Nat.le_refl _) (by simp) ?_; (case hd => rfl); (case hg => rfl); (case hr => exact Z188); (case hp => exact (Reps.one (show Kd.M (Kd.int .i64) _ _ _ (wrap64 (t246 - t247)) [.int .i64 (wrap64 (t246 - t247))] from rfl) (Reps.one (show Kd.M (Kd.int .i64) _ _ _ (wrap64 (a1_4 - a0_4)) [.int .i64 (wrap64 (a1_4 - a0_4))] from rfl) (Reps.one (show Kd.M (Kd.int .i64) _ _ _ (wrap64 (a0_5 - a1_5)) [.int .i64 (wrap64 (a0_5 - a1_5))] from rfl) (Reps.none _ _)))))
 intro v249 w10 ho11 hb hg_ hnew_
 clear hg_ hnew_
 (first | rw [← Ny248.out] at ho11 | (simp only [Int.reduceToNat] at ho11; rw [← Ny248.out] at ho11))
 have n0_ := Aside0.mk (Kd.R_lower ho11 (below_size Z100))
 have n1_ := Aside0.mk (blk_below (g := gb244) (o := .cells #[.string a0_0, .string a0_1, .string a0_2, .string a0_3, .int .i64 a0_4, .int .i64 a0_5, .bool a0_6, .int .i64 a0_7, .bool a0_8] 23 (0, 0)) Z164 hb)
 have n2_ := Aside0.mk (blk_below (g := gb245) (o := .cells #[.string a1_0, .string a1_1, .string a1_2, .string a1_3, .int .i64 a1_4, .int .i64 a1_5, .bool a1_6, .int .i64 a1_7, .bool a1_8] 23 (0, 0)) Z165 hb)
 have n3_ := Aside0.mk (below_step Z100 hb)
 clear BK244
 clear BK245
 clear HB
 have HO250 := n0_
 have BK244 := n1_
 have BK245 := n2_
 have HB := n3_
 clear n0_ n1_ n2_ n3_
 clear hb ho11
 obtain ⟨Ao12, co12, eo12⟩ := Kd.R_slice HO250.out
 (first | subst eo12 | (injection eo12 with f1_ f2_ f3_; have f4_ := f1_.symm; have f5_ := f3_.symm; clear f1_ f2_ f3_; subst f4_; subst f5_))
 refine hK.out _ _ ⟨(blk_cell BK245.out 0).trans rfl, (blk_cell BK245.out 1).trans rfl, (blk_cell BK245.out 2).trans rfl, (blk_cell BK245.out 3).trans rfl, (blk_cell BK245.out 4).trans rfl, (blk_cell BK245.out 5).trans rfl, (blk_cell BK245.out 6).trans rfl, (blk_cell BK245.out 7).trans rfl, (blk_cell BK245.out 8).trans rfl, (blk_cell BK244.out 0).trans rfl, (blk_cell BK244.out 1).trans rfl, (blk_cell BK244.out 2).trans rfl, (blk_cell BK244.out 3).trans rfl, (blk_cell BK244.out 4).trans rfl, (blk_cell BK244.out 5).trans rfl, (blk_cell BK244.out 6).trans rfl, (blk_cell BK244.out 7).trans rfl, (blk_cell BK244.out 8).trans rfl⟩ (fun hHeld => ?_)
 clear hK K
 refine norm_ (a' := ?_) ?_ ?_
 rotate_left
 ·show Act.put _ (some 22) _ = _
  simp only [Act.put, List.setIfInBounds_toArray, List.set_cons_zero, List.set_cons_succ, i64_w, i32_w]
  rfl
 refine pure_ (i := 16) (N := some 23) (v := ?_) (a' := ?_) #[true, true, true, true, true, true, true, true, true, true, true, true, true, true, true, true, true, true] rfl rfl (any_of HT_.out (by kernel_rfl)) (fun _ _ _ h => h) (Or.inl ⟨by rfl, ?_⟩) ?_ ?_
 rotate_left
 ·intro w'
  go_simp
  with_reducible rfl
 rotate_left
 ·simp only [Act.put, List.setIfInBounds_toArray, List.set_cons_zero, List.set_cons_succ, i64_w, i32_w]
  rfl
 refine done_ (done_of HT_.out (by kernel_rfl)) ?_
 try go_wp2
 go_loopg [24] k (fun kq v24 w' => ∃ (x24_1 : Int), v24 = .int .i64 x24_1 ∧ Aside0 (interchangeref8_better.l0 kq y248 (y248.length : Int) x24_1 = some r) ∧ Aside0 (kq ≤ k) ∧ Aside0 (Kd.R (Kd.int .i64) 3 w' w.heap.size (fun _ => True) (.slice Ao12 y248.length co12) y248) ∧ Aside0 (w'.heap[gb244]? = some (.cells #[.string a0_0, .string a0_1, .string a0_2, .string a0_3, .int .i64 a0_4, .int .i64 a0_5, .bool a0_6, .int .i64 a0_7, .bool a0_8] 23 (0, 0))) ∧ Aside0 (w'.heap[gb245]? = some (.cells #[.string a1_0, .string a1_1, .string a1_2, .string a1_3, .int .i64 a1_4, .int .i64 a1_5, .bool a1_6, .int .i64 a1_7, .bool a1_8] 23 (0, 0))) ∧ Aside0 (Below w.heap.size w w'))
 case atStart => exact ⟨(0), Z183, H', ⟨Nat.le_refl _⟩, ⟨by (with_reducible repeat (first | apply Kd.R_alloc | apply Kd.R_drewN | apply Kd.R_drew)); exact HO250.out⟩, ⟨Z164⟩, ⟨Z165⟩, ⟨Z100⟩⟩
 case round =>
  clear H'
  try clear p2
  try clear c5
  try clear p6
  try clear c9
  obtain ⟨x24_1, rfl, HA, HK1, HO_22, BK244, BK245, HB⟩ := hrel
  cases gk with
  | zero => exact absurd HA.out (by simp [interchangeref8_better.l0])
  | succ k1 =>
   have H := HA.out
   clear HA
   simp only [interchangeref8_better.l0] at H
   by_cases c13 : x24_1 < (y248.length : Int)
   ·rw [if_pos c13] at H
    have c13b0 : decide (x24_1 < (y248.length : Int)) = true := decide_eq_true c13
    clear c13
    by_cases c14 : 0 ≤ x24_1
    ·rw [if_pos c14] at H
     have c14b0 : decide (0 ≤ x24_1) = true := decide_eq_true c14
     clear c14
     by_cases c15 : x24_1 < (y248.length : Int)
     ·rw [if_pos c15] at H
      have c15b0 : decide (x24_1 < (y248.length : Int)) = true := decide_eq_true c15
      clear c15
      by_cases c16 : (rd y248 x24_1) < 0
      ·rw [if_pos c16] at H
       have c16b0 : decide ((rd y248 x24_1) < 0) = true := decide_eq_true c16
       clear c16
       obtain rfl := Option.some.inj H
       have p251 : 0 ≤ (x24_1 : Int) := of_decide_eq_true Z186
       have q251 : x24_1 < (y248.length : Int) := of_decide_eq_true Z186
       obtain ⟨ad251, e251, hx251_0⟩ := Kd.at_int (Kd.R_reads' HO_22.out).2.2 x24_1 p251 q251
       cases e251
       replace p251 := eq_true p251
       replace q251 := eq_true q251
       go_wp2
       go_ret
       exact ⟨Z138, Z100⟩
      ·rw [if_neg c16] at H
       have c16b0 : decide ((rd y248 x24_1) < 0) = false := decide_eq_false c16
       clear c16
       by_cases c17 : (rd y248 x24_1) > 0
       ·rw [if_pos c17] at H
        have c17b0 : decide (0 < (rd y248 x24_1)) = true := decide_eq_true c17
        clear c17
        obtain rfl := Option.some.inj H
        have p251 : 0 ≤ (x24_1 : Int) := of_decide_eq_true Z186
        have q251 : x24_1 < (y248.length : Int) := of_decide_eq_true Z186
        obtain ⟨ad251, e251, hx251_0⟩ := Kd.at_int (Kd.R_reads' HO_22.out).2.2 x24_1 p251 q251
        cases e251
        replace p251 := eq_true p251
        replace q251 := eq_true q251
        go_wp2
        go_ret
        exact ⟨Z138, Z100⟩
       ·rw [if_neg c17] at H
        have c17b0 : decide (0 < (rd y248 x24_1)) = false := decide_eq_false c17
        clear c17
        have H' := Aside0.mk H
        clear H
        have p251 : 0 ≤ (x24_1 : Int) := of_decide_eq_true Z186
        have q251 : x24_1 < (y248.length : Int) := of_decide_eq_true Z186
        obtain ⟨ad251, e251, hx251_0⟩ := Kd.at_int (Kd.R_reads' HO_22.out).2.2 x24_1 p251 q251
        cases e251
        replace p251 := eq_true p251
        replace q251 := eq_true q251
        go_wp2
        go_roundg k1
        case measure => have := HK1.out; omega
        case rel => exact ⟨(wrap64 (x24_1 + 1)), Z183, H', ⟨Z192⟩, ⟨by (with_reducible repeat (first | apply Kd.R_alloc | apply Kd.R_drewN | apply Kd.R_drew)); exact HO_22.out⟩, ⟨Z164⟩, ⟨Z165⟩, ⟨Z100⟩⟩
     ·rw [if_neg c15] at H
      exact absurd H (by simp)
    ·rw [if_neg c14] at H
     exact absurd H (by simp)
   ·rw [if_neg c13] at H
    have c13b0 : decide (x24_1 < (y248.length : Int)) = false := decide_eq_false c13
    clear c13
    obtain rfl := Option.some.inj H
    go_wp2
    go_ret
    exact ⟨Z138, Z100⟩

end Go.Proofs.YtdlgohhecicnoaaDoor.XPartnerFindsMatchSpec
