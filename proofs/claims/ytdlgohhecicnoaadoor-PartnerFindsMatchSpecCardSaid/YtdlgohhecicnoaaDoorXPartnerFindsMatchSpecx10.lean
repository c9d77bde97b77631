-- Walks of PartnerFindsMatchSpec: written by xprint.py out of the translation (hand-proved functions among them). Lean checks it.
import Derived.Test.YtdlgohhecicnoaaDoorXPartnerFindsMatchSpecx0
import Derived.Test.YtdlgohhecicnoaaDoorXPartnerFindsMatchSpecx2
import Derived.Test.YtdlgohhecicnoaaDoorXPartnerFindsMatchSpecx8
import Derived.Test.YtdlgohhecicnoaaDoorXPartnerFindsMatchSpecx9
namespace Go.Proofs.YtdlgohhecicnoaaDoor.XPartnerFindsMatchSpec
open Go.RowKit Go.Proofs.YtdlgohhecicnoaaDoorW.PrintWords Go.Proofs.YtdlgohhecicnoaaDoorW.PrintLast Go.Proofs.YtdlgohhecicnoaaDoorW.PrintMore
attribute [local go_sem] max2_int min2_int max_two min_two max_three min_three max_four min_four   -- for this text's walks alone
set_option linter.unusedVariables false
set_option linter.unusedSimpArgs false

/-! ### interchangeref8_checkAgreement: function 53 -/
mutual
def interchangeref8_checkAgreement.j0 : Nat → Bool → ByteArray → ByteArray → ByteArray → ByteArray → Int → Int → Bool → Int → Bool → Option (Int)
 | 0, _, _, _, _, _, _, _, _, _, _ => none
 | k + 1, x9, x211000, x211001, x211002, x211003, x211004, x211005, x211006, x211007, x211008 => if x9 = true then (some 5) else (if x211003.toList = ([] : List UInt8) then (interchangeref8_checkAgreement.j1 k false x211000 x211001 x211002 x211003 x211004 x211005 x211006 x211007 x211008) else (interchangeref8_checkAgreement.j1 k (x211002.toList == ([] : List UInt8)) x211000 x211001 x211002 x211003 x211004 x211005 x211006 x211007 x211008))
def interchangeref8_checkAgreement.j1 : Nat → Bool → ByteArray → ByteArray → ByteArray → ByteArray → Int → Int → Bool → Int → Bool → Option (Int)
 | 0, _, _, _, _, _, _, _, _, _, _ => none
 | k + 1, x20, x211000, x211001, x211002, x211003, x211004, x211005, x211006, x211007, x211008 => if x20 = true then (some 3) else ((interchangeref1_IsDay.f x211004).bind fun t213 => (if t213 = true then ((interchangeref8_within.f x211005 x211004 3652059).bind fun t214 => (if t214 = true then ((interchangeref8_within.f x211007 0 100000000).bind fun t215 => (if t215 = true then (some 0) else (some 1))) else (some 1))) else (some 1)))
end
def interchangeref8_checkAgreement.f (k : Nat) (a0_0 : ByteArray) (a0_1 : ByteArray) (a0_2 : ByteArray) (a0_3 : ByteArray) (a0_4 : Int) (a0_5 : Int) (a0_6 : Bool) (a0_7 : Int) (a0_8 : Bool) : Option (Int) := if a0_0.toList = a0_1.toList then (some 12) else ((interchangeref8_isAny.f k a0_2).bind fun t211 => (if t211 = true then ((interchangeref8_isAny.f k a0_3).bind fun t212 => (interchangeref8_checkAgreement.j0 k (!t212) a0_0 a0_1 a0_2 a0_3 a0_4 a0_5 a0_6 a0_7 a0_8)) else (interchangeref8_checkAgreement.j0 k true a0_0 a0_1 a0_2 a0_3 a0_4 a0_5 a0_6 a0_7 a0_8)))
theorem interchangeref8_checkAgreement.mono_l : ∀ k, (∀ y0 y1 y2 y3 y4 y5 y6 y7 y8 y9, LeO (interchangeref8_checkAgreement.j0 k y0 y1 y2 y3 y4 y5 y6 y7 y8 y9) (interchangeref8_checkAgreement.j0 (k + 1) y0 y1 y2 y3 y4 y5 y6 y7 y8 y9)) ∧ (∀ y0 y1 y2 y3 y4 y5 y6 y7 y8 y9, LeO (interchangeref8_checkAgreement.j1 k y0 y1 y2 y3 y4 y5 y6 y7 y8 y9) (interchangeref8_checkAgreement.j1 (k + 1) y0 y1 y2 y3 y4 y5 y6 y7 y8 y9))
 | 0 => ⟨fun _ _ _ _ _ _ _ _ _ _ r h => by simp [interchangeref8_checkAgreement.j0] at h, fun _ _ _ _ _ _ _ _ _ _ r h => by simp [interchangeref8_checkAgreement.j1] at h⟩
 | k + 1 => by
  obtain ⟨ih0, ih1⟩ := interchangeref8_checkAgreement.mono_l k
  refine ⟨?_, ?_⟩
  ·intro y0 y1 y2 y3 y4 y5 y6 y7 y8 y9
   unfold interchangeref8_checkAgreement.j0
   repeat' first
   | (with_reducible exact ih0 _ _ _ _ _ _ _ _ _ _)
   | (with_reducible exact ih1 _ _ _ _ _ _ _ _ _ _)
   | (with_reducible exact interchangeref8_isAny.mono _ _)
   | (with_reducible exact LeO.refl _)
   | (with_reducible exact LeO.none _)
   | (with_reducible refine LeO.ite ?_ ?_)
   | (with_reducible refine LeO.bind ?_ (fun _ => ?_))
   | exact ih0 _ _ _ _ _ _ _ _ _ _
   | exact ih1 _ _ _ _ _ _ _ _ _ _
   | exact interchangeref8_isAny.mono _ _
   | exact LeO.none _
   | refine LeO.ite ?_ ?_
   | refine LeO.bind ?_ (fun _ => ?_)
  ·intro y0 y1 y2 y3 y4 y5 y6 y7 y8 y9
   unfold interchangeref8_checkAgreement.j1
   repeat' first
   | (with_reducible exact ih0 _ _ _ _ _ _ _ _ _ _)
   | (with_reducible exact ih1 _ _ _ _ _ _ _ _ _ _)
   | (with_reducible exact interchangeref8_isAny.mono _ _)
   | (with_reducible exact LeO.refl _)
   | (with_reducible exact LeO.none _)
   | (with_reducible refine LeO.ite ?_ ?_)
   | (with_reducible refine LeO.bind ?_ (fun _ => ?_))
   | exact ih0 _ _ _ _ _ _ _ _ _ _
   | exact ih1 _ _ _ _ _ _ _ _ _ _
   | exact interchangeref8_isAny.mono _ _
   | exact LeO.none _
   | refine LeO.ite ?_ ?_
   | refine LeO.bind ?_ (fun _ => ?_)
theorem interchangeref8_checkAgreement.mono : ∀ a0 a1 a2 a3 a4 a5 a6 a7 a8 k, LeO (interchangeref8_checkAgreement.f k a0 a1 a2 a3 a4 a5 a6 a7 a8) (interchangeref8_checkAgreement.f (k + 1) a0 a1 a2 a3 a4 a5 a6 a7 a8) := by
 intro a0 a1 a2 a3 a4 a5 a6 a7 a8 k
 obtain ⟨ih0, ih1⟩ := interchangeref8_checkAgreement.mono_l k
 unfold interchangeref8_checkAgreement.f
 repeat' first
   | (with_reducible exact ih0 _ _ _ _ _ _ _ _ _ _)
   | (with_reducible exact ih1 _ _ _ _ _ _ _ _ _ _)
   | (with_reducible exact interchangeref8_isAny.mono _ _)
   | (with_reducible exact LeO.refl _)
   | (with_reducible exact LeO.none _)
   | (with_reducible refine LeO.ite ?_ ?_)
   | (with_reducible refine LeO.bind ?_ (fun _ => ?_))
   | exact ih0 _ _ _ _ _ _ _ _ _ _
   | exact ih1 _ _ _ _ _ _ _ _ _ _
   | exact interchangeref8_isAny.mono _ _
   | exact LeO.none _
   | refine LeO.ite ?_ ?_
   | refine LeO.bind ?_ (fun _ => ?_)
set_option maxHeartbeats 8000000 in
set_option maxRecDepth 100000 in
theorem interchangeref8_checkAgreement.calls (k : Nat) (a0_0 : ByteArray) (a0_1 : ByteArray) (a0_2 : ByteArray) (a0_3 : ByteArray) (a0_4 : Int) (a0_5 : Int) (a0_6 : Bool) (a0_7 : Int) (a0_8 : Bool) (r : Int) (w : World) (h : interchangeref8_checkAgreement.f k a0_0 a0_1 a0_2 a0_3 a0_4 a0_5 a0_6 a0_7 a0_8 = some r) :
  Calls Tryd.prog 53 #[.agg #[.string a0_0, .string a0_1, .string a0_2, .string a0_3, .int .i64 a0_4, .int .i64 a0_5, .bool a0_6, .int .i64 a0_7, .bool a0_8]] w fun e w' => e = .returned (.int .i64 r) ∧ Below w.heap.size w w' := by
 have hu23 := Tryd.underlying23
 have HB := Aside0.mk (Below.refl w.heap.size w)
 have H : (if a0_0.toList = a0_1.toList then (some 12) else ((interchangeref8_isAny.f k a0_2).bind fun t211 => (if t211 = true then ((interchangeref8_isAny.f k a0_3).bind fun t212 => (interchangeref8_checkAgreement.j0 k (!t212) a0_0 a0_1 a0_2 a0_3 a0_4 a0_5 a0_6 a0_7 a0_8)) else (interchangeref8_checkAgreement.j0 k true a0_0 a0_1 a0_2 a0_3 a0_4 a0_5 a0_6 a0_7 a0_8)))) = some r := h
 clear h
 by_cases c2 : a0_0.toList = a0_1.toList
 ·rw [if_pos c2] at H
  have c2b0 : (a0_0.toList == a0_1.toList) = true := beq_iff_eq.mpr c2
  have c2b1 : (a0_0.toList != a0_1.toList) = false := bne_eq_false_iff_eq.mpr c2
  clear c2
  obtain rfl := Option.some.inj H
  go_enter Tryd.func53, Tryd.ntmps53
  go_wp2_with (first | ((with_reducible refine gate_dst (N := 1) rfl ?_); refine box_event ?hg (N := 1) ?hd (cs := #[.string a0_0, .string a0_1, .string a0_2, .string a0_3, .int .i64 a0_4, .int .i64 a0_5, .bool a0_6, .int .i64 a0_7, .bool a0_8]) (t := 23) ?hr ?_; (case hd => rfl); (case hg => rfl); (case hr => exact Z188); intro gb210 hg w3 hbox hb; have n0_ := Aside0.mk (below_step Z140 hb); have n1_ := Aside0.mk (hbox); have n2_ := Aside0.mk ((Z108 : w.heap.size ≤ gb210)); have n3_ := Aside0.mk ((Z108 : w.heap.size ≤ gb210)); clear HB; have HB := n0_; have BK210 := n1_; have GW210 := n2_; have GE210 := n3_; clear n0_ n1_ n2_ n3_; clear hb hbox hg; obtain ⟨hcz4_0, hcz4_1, hcz4_2, hcz4_3, hcz4_4, hcz4_5, hcz4_6, hcz4_7, hcz4_8, hfz4_0, hfz4_1, hfz4_2, hfz4_3, hfz4_4, hfz4_5, hfz4_6, hfz4_7, hfz4_8⟩ := bf9 BK210.out))
  go_ret
  exact ⟨Z138, Z125⟩
 ·rw [if_neg c2] at H
  have c2b0 : (a0_0.toList == a0_1.toList) = false := beq_eq_false_iff_ne.mpr c2
  have c2b1 : (a0_0.toList != a0_1.toList) = true := bne_iff_ne.mpr c2
  have HC5 := Aside0.mk H
  clear H
  go_enter Tryd.func53, Tryd.ntmps53
  go_upto_region 3 with (first | ((with_reducible refine gate_dst (N := 1) rfl ?_); refine box_event ?hg (N := 1) ?hd (cs := #[.string a0_0, .string a0_1, .string a0_2, .string a0_3, .int .i64 a0_4, .int .i64 a0_5, .bool a0_6, .int .i64 a0_7, .bool a0_8]) (t := 23) ?hr ?_; (case hd => rfl); (case hg => rfl); (case hr => exact Z188); intro gb210 hg w6 hbox hb; have n0_ := Aside0.mk (below_step Z140 hb); have n1_ := Aside0.mk (hbox); have n2_ := Aside0.mk ((Z108 : w.heap.size ≤ gb210)); have n3_ := Aside0.mk ((Z108 : w.heap.size ≤ gb210)); clear HB; have HB := n0_; have BK210 := n1_; have GW210 := n2_; have GE210 := n3_; clear n0_ n1_ n2_ n3_; clear hb hbox hg; obtain ⟨hcz7_0, hcz7_1, hcz7_2, hcz7_3, hcz7_4, hcz7_5, hcz7_6, hcz7_7, hcz7_8, hfz7_0, hfz7_1, hfz7_2, hfz7_3, hfz7_4, hfz7_5, hfz7_6, hfz7_7, hfz7_8⟩ := bf9 BK210.out))
  (try simp only [Act.put, List.setIfInBounds_toArray, List.set_cons_zero, List.set_cons_succ])
  go_cut [9] (fun v9 wc => ∃ (kq : Nat) (x9_4 : Bool), v9 = .bool x9_4 ∧ Aside0 (interchangeref8_checkAgreement.j0 kq x9_4 a0_0 a0_1 a0_2 a0_3 a0_4 a0_5 a0_6 a0_7 a0_8 = some r) ∧ Aside0 (kq ≤ k) ∧ Aside0 (wc.heap[gb210]? = some (.cells #[.string a0_0, .string a0_1, .string a0_2, .string a0_3, .int .i64 a0_4, .int .i64 a0_5, .bool a0_6, .int .i64 a0_7, .bool a0_8] 23 (0, 0))) ∧ Aside0 (Below w.heap.size w wc))
  case first =>
   have H := HC5.out
   clear HC5
   replace H := Option.bind_eq_some_iff.mp H
   obtain ⟨t211, A80, H⟩ := H
   replace H : (if t211 = true then ((interchangeref8_isAny.f k a0_3).bind fun t212 => (interchangeref8_checkAgreement.j0 k (!t212) a0_0 a0_1 a0_2 a0_3 a0_4 a0_5 a0_6 a0_7 a0_8)) else (interchangeref8_checkAgreement.j0 k true a0_0 a0_1 a0_2 a0_3 a0_4 a0_5 a0_6 a0_7 a0_8)) = some r := H
   have A8 := Aside0.mk A80
   clear A80
   by_cases c9 : t211 = true
   ·subst c9
    have H1 : ((interchangeref8_isAny.f k a0_3).bind fun t212 => (interchangeref8_checkAgreement.j0 k (!t212) a0_0 a0_1 a0_2 a0_3 a0_4 a0_5 a0_6 a0_7 a0_8)) = some r := by rw [if_pos rfl] at H; exact H
    clear H
    have H := H1
    clear H1
    replace H := Option.bind_eq_some_iff.mp H
    obtain ⟨t212, A100, H⟩ := H
    replace H : (interchangeref8_checkAgreement.j0 k (!t212) a0_0 a0_1 a0_2 a0_3 a0_4 a0_5 a0_6 a0_7 a0_8) = some r := H
    have A10 := Aside0.mk A100
    clear A100
    have H' := Aside0.mk H
    clear H
    obtain ⟨hcz11_0, hcz11_1, hcz11_2, hcz11_3, hcz11_4, hcz11_5, hcz11_6, hcz11_7, hcz11_8, hfz11_0, hfz11_1, hfz11_2, hfz11_3, hfz11_4, hfz11_5, hfz11_6, hfz11_7, hfz11_8⟩ := bf9 BK210.out
    go_wp2_with (first | ((with_reducible refine gate_callee (f := 94) rfl ?_); refine goesL_ (some 12) rfl rfl Tryd.func94 (by kernel_rfl) rfl #[.string a0_2] rfl Z104 ?_; (with_reducible refine (interchangeref8_isAny.calls k a0_2 true _ A8.out).mono ?_); rintro e w' ⟨rfl, ⟨nd, rfl⟩⟩; refine ⟨_, rfl, ?_⟩) | (go_at_call 94; (with_reducible refine (interchangeref8_isAny.calls k a0_3 t212 _ A10.out).mono ?_); rintro e w' ⟨rfl, ⟨nd, rfl⟩⟩))
    go_meet
    case rel => exact ⟨_, (!t212), Z183, H', ⟨Z190⟩, ⟨Z160⟩, ⟨Z125⟩⟩
   ·replace c9 := Bool.eq_false_iff.mpr c9
    subst c9
    have H1 : (interchangeref8_checkAgreement.j0 k true a0_0 a0_1 a0_2 a0_3 a0_4 a0_5 a0_6 a0_7 a0_8) = some r := by rw [if_neg (show ¬ (false = true) by decide)] at H; exact H
    clear H
    have H := H1
    clear H1
    have H' := Aside0.mk H
    clear H
    obtain ⟨hcz12_0, hcz12_1, hcz12_2, hcz12_3, hcz12_4, hcz12_5, hcz12_6, hcz12_7, hcz12_8, hfz12_0, hfz12_1, hfz12_2, hfz12_3, hfz12_4, hfz12_5, hfz12_6, hfz12_7, hfz12_8⟩ := bf9 BK210.out
    go_wp2_with (first | ((with_reducible refine gate_callee (f := 94) rfl ?_); refine goesL_ (some 12) rfl rfl Tryd.func94 (by kernel_rfl) rfl #[.string a0_2] rfl Z104 ?_; (with_reducible refine (interchangeref8_isAny.calls k a0_2 false _ A8.out).mono ?_); rintro e w' ⟨rfl, ⟨nd, rfl⟩⟩; refine ⟨_, rfl, ?_⟩))
    go_meet
    case rel => exact ⟨_, (true), Z183, H', ⟨Z190⟩, ⟨Z160⟩, ⟨Z125⟩⟩
  case rest =>
   clear HC5
   try clear c2
   try clear c2b0
   try clear c2b1
   try clear p2
   try clear c5
   try clear c9
   try clear hcz11_0
   try clear hcz11_1
   try clear hcz11_2
   try clear hcz11_3
   try clear hcz11_4
   try clear hcz11_5
   try clear hcz11_6
   try clear hcz11_7
   try clear hcz11_8
   try clear hcz12_0
   try clear hcz12_1
   try clear hcz12_2
   try clear hcz12_3
   try clear hcz12_4
   try clear hcz12_5
   try clear hcz12_6
   try clear hcz12_7
   try clear hcz12_8
   try clear hcz4_0
   try clear hcz4_1
   try clear hcz4_2
   try clear hcz4_3
   try clear hcz4_4
   try clear hcz4_5
   try clear hcz4_6
   try clear hcz4_7
   try clear hcz4_8
   try clear hcz7_0
   try clear hcz7_1
   try clear hcz7_2
   try clear hcz7_3
   try clear hcz7_4
   try clear hcz7_5
   try clear hcz7_6
   try clear hcz7_7
   try clear hcz7_8
   try clear hfz11_0
   try clear hfz11_1
   try clear hfz11_2
   try clear hfz11_3
   try clear hfz11_4
   try clear hfz11_5
   try clear hfz11_6
   try clear hfz11_7
   try clear hfz11_8
   try clear hfz12_0
   try clear hfz12_1
   try clear hfz12_2
   try clear hfz12_3
   try clear hfz12_4
   try clear hfz12_5
   try clear hfz12_6
   try clear hfz12_7
   try clear hfz12_8
   try clear hfz4_0
   try clear hfz4_1
   try clear hfz4_2
   try clear hfz4_3
   try clear hfz4_4
   try clear hfz4_5
   try clear hfz4_6
   try clear hfz4_7
   try clear hfz4_8
   try clear hfz7_0
   try clear hfz7_1
   try clear hfz7_2
   try clear hfz7_3
   try clear hfz7_4
   try clear hfz7_5
   try clear hfz7_6
   try clear hfz7_7
   try clear hfz7_8
   obtain ⟨kq, x9_4, rfl, HA, HJ4, BK210, HB⟩ := hcut
   cases kq with
   | zero => exact absurd HA.out (by simp [interchangeref8_checkAgreement.j0])
   | succ kj4 =>
    have H := HA.out
    clear HA
    simp only [interchangeref8_checkAgreement.j0] at H
    by_cases c13 : x9_4 = true
    ·subst c13
     have H1 : (some 5) = some r := by rw [if_pos rfl] at H; exact H
     clear H
     have H := H1
     clear H1
     obtain rfl := Option.some.inj H
     go_wp2
     go_ret
     exact ⟨Z138, Z125⟩
    ·replace c13 := Bool.eq_false_iff.mpr c13
     subst c13
     have H1 : (if a0_3.toList = ([] : List UInt8) then (interchangeref8_checkAgreement.j1 kj4 false a0_0 a0_1 a0_2 a0_3 a0_4 a0_5 a0_6 a0_7 a0_8) else (interchangeref8_checkAgreement.j1 kj4 (a0_2.toList == ([] : List UInt8)) a0_0 a0_1 a0_2 a0_3 a0_4 a0_5 a0_6 a0_7 a0_8)) = some r := by rw [if_neg (show ¬ (false = true) by decide)] at H; exact H
     clear H
     have H := H1
     clear H1
     have HC14 := Aside0.mk H
     clear H
     go_upto_region 5 with (fail)
     go_cut [20] (fun v20 wc => ∃ (kq : Nat) (x20_13 : Bool), v20 = .bool x20_13 ∧ Aside0 (interchangeref8_checkAgreement.j1 kq x20_13 a0_0 a0_1 a0_2 a0_3 a0_4 a0_5 a0_6 a0_7 a0_8 = some r) ∧ Aside0 (kq ≤ kj4) ∧ Aside0 (wc.heap[gb210]? = some (.cells #[.string a0_0, .string a0_1, .string a0_2, .string a0_3, .int .i64 a0_4, .int .i64 a0_5, .bool a0_6, .int .i64 a0_7, .bool a0_8] 23 (0, 0))) ∧ Aside0 (Below w.heap.size w wc))
     case first =>
      have H := HC14.out
      clear HC14
      by_cases c15 : a0_3.toList = ([] : List UInt8)
      ·rw [if_pos c15] at H
       have c15b0 : (a0_3.toList == ([] : List UInt8)) = true := beq_iff_eq.mpr c15
       have c15b1 : (a0_3.toList != ([] : List UInt8)) = false := bne_eq_false_iff_eq.mpr c15
       clear c15
       (first | rw [c15b0] | (simp only [i64_w, i32_w]; rw [c15b0]) | skip)
       have H' := Aside0.mk H
       clear H
       have hcz16_0 : wc.cell? ⟨gb210, 0, none⟩ = some (.string a0_0) := (blk_cell BK210.out 0).trans rfl
       have hcz16_1 : wc.cell? ⟨gb210, 1, none⟩ = some (.string a0_1) := (blk_cell BK210.out 1).trans rfl
       have hcz16_2 : wc.cell? ⟨gb210, 2, none⟩ = some (.string a0_2) := (blk_cell BK210.out 2).trans rfl
       have hcz16_3 : wc.cell? ⟨gb210, 3, none⟩ = some (.string a0_3) := (blk_cell BK210.out 3).trans rfl
       have hcz16_4 : wc.cell? ⟨gb210, 4, none⟩ = some (.int .i64 a0_4) := (blk_cell BK210.out 4).trans rfl
       have hcz16_5 : wc.cell? ⟨gb210, 5, none⟩ = some (.int .i64 a0_5) := (blk_cell BK210.out 5).trans rfl
       have hcz16_6 : wc.cell? ⟨gb210, 6, none⟩ = some (.bool a0_6) := (blk_cell BK210.out 6).trans rfl
       have hcz16_7 : wc.cell? ⟨gb210, 7, none⟩ = some (.int .i64 a0_7) := (blk_cell BK210.out 7).trans rfl
       have hcz16_8 : wc.cell? ⟨gb210, 8, none⟩ = some (.bool a0_8) := (blk_cell BK210.out 8).trans rfl
       have hfz16_0 := blk_frozen BK210.out 0
       have hfz16_1 := blk_frozen BK210.out 1
       have hfz16_2 := blk_frozen BK210.out 2
       have hfz16_3 := blk_frozen BK210.out 3
       have hfz16_4 := blk_frozen BK210.out 4
       have hfz16_5 := blk_frozen BK210.out 5
       have hfz16_6 := blk_frozen BK210.out 6
       have hfz16_7 := blk_frozen BK210.out 7
       have hfz16_8 := blk_frozen BK210.out 8
       go_wp2
       go_meet
       case rel => exact ⟨_, (false), Z183, H', ⟨by have := HJ4.out; first | omega | exact Nat.le_refl _⟩, ⟨Z160⟩, ⟨Z125⟩⟩
      ·rw [if_neg c15] at H
       have c15b0 : (a0_3.toList == ([] : List UInt8)) = false := beq_eq_false_iff_ne.mpr c15
       have c15b1 : (a0_3.toList != ([] : List UInt8)) = true := bne_iff_ne.mpr c15
       (first | rw [c15b0] | (simp only [i64_w, i32_w]; rw [c15b0]) | skip)
       have H' := Aside0.mk H
       clear H
       have hcz17_0 : wc.cell? ⟨gb210, 0, none⟩ = some (.string a0_0) := (blk_cell BK210.out 0).trans rfl
       have hcz17_1 : wc.cell? ⟨gb210, 1, none⟩ = some (.string a0_1) := (blk_cell BK210.out 1).trans rfl
       have hcz17_2 : wc.cell? ⟨gb210, 2, none⟩ = some (.string a0_2) := (blk_cell BK210.out 2).trans rfl
       have hcz17_3 : wc.cell? ⟨gb210, 3, none⟩ = some (.string a0_3) := (blk_cell BK210.out 3).trans rfl
       have hcz17_4 : wc.cell? ⟨gb210, 4, none⟩ = some (.int .i64 a0_4) := (blk_cell BK210.out 4).trans rfl
       have hcz17_5 : wc.cell? ⟨gb210, 5, none⟩ = some (.int .i64 a0_5) := (blk_cell BK210.out 5).trans rfl
       have hcz17_6 : wc.cell? ⟨gb210, 6, none⟩ = some (.bool a0_6) := (blk_cell BK210.out 6).trans rfl
       have hcz17_7 : wc.cell? ⟨gb210, 7, none⟩ = some (.int .i64 a0_7) := (blk_cell BK210.out 7).trans rfl
       have hcz17_8 : wc.cell? ⟨gb210, 8, none⟩ = some (.bool a0_8) := (blk_cell BK210.out 8).trans rfl
       have hfz17_0 := blk_frozen BK210.out 0
       have hfz17_1 := blk_frozen BK210.out 1
       have hfz17_2 := blk_frozen BK210.out 2
       have hfz17_3 := blk_frozen BK210.out 3
       have hfz17_4 := blk_frozen BK210.out 4
       have hfz17_5 := blk_frozen BK210.out 5
       have hfz17_6 := blk_frozen BK210.out 6
       have hfz17_7 := blk_frozen BK210.out 7
       have hfz17_8 := blk_frozen BK210.out 8
       go_wp2
       go_meet
       case rel => exact ⟨_, ((a0_2.toList == ([] : List UInt8))), Z183, H', ⟨by have := HJ4.out; first | omega | exact Nat.le_refl _⟩, ⟨Z160⟩, ⟨Z125⟩⟩
     case rest =>
      clear HC14
      try clear c1
      try clear c2
      try clear c2b0
      try clear c2b1
      try clear p2
      try clear c5
      try clear c9
      try clear c13
      try clear c15
      try clear c15b0
      try clear c15b1
      try clear hcz11_0
      try clear hcz11_1
      try clear hcz11_2
      try clear hcz11_3
      try clear hcz11_4
      try clear hcz11_5
      try clear hcz11_6
      try clear hcz11_7
      try clear hcz11_8
      try clear hcz12_0
      try clear hcz12_1
      try clear hcz12_2
      try clear hcz12_3
      try clear hcz12_4
      try clear hcz12_5
      try clear hcz12_6
      try clear hcz12_7
      try clear hcz12_8
      try clear hcz16_0
      try clear hcz16_1
      try clear hcz16_2
      try clear hcz16_3
      try clear hcz16_4
      try clear hcz16_5
      try clear hcz16_6
      try clear hcz16_7
      try clear hcz16_8
      try clear hcz17_0
      try clear hcz17_1
      try clear hcz17_2
      try clear hcz17_3
      try clear hcz17_4
      try clear hcz17_5
      try clear hcz17_6
      try clear hcz17_7
      try clear hcz17_8
      try clear hcz4_0
      try clear hcz4_1
      try clear hcz4_2
      try clear hcz4_3
      try clear hcz4_4
      try clear hcz4_5
      try clear hcz4_6
      try clear hcz4_7
      try clear hcz4_8
      try clear hcz7_0
      try clear hcz7_1
      try clear hcz7_2
      try clear hcz7_3
      try clear hcz7_4
      try clear hcz7_5
      try clear hcz7_6
      try clear hcz7_7
      try clear hcz7_8
      try clear hfz11_0
      try clear hfz11_1
      try clear hfz11_2
      try clear hfz11_3
      try clear hfz11_4
      try clear hfz11_5
      try clear hfz11_6
      try clear hfz11_7
      try clear hfz11_8
      try clear hfz12_0
      try clear hfz12_1
      try clear hfz12_2
      try clear hfz12_3
      try clear hfz12_4
      try clear hfz12_5
      try clear hfz12_6
      try clear hfz12_7
      try clear hfz12_8
      try clear hfz16_0
      try clear hfz16_1
      try clear hfz16_2
      try clear hfz16_3
      try clear hfz16_4
      try clear hfz16_5
      try clear hfz16_6
      try clear hfz16_7
      try clear hfz16_8
      try clear hfz17_0
      try clear hfz17_1
      try clear hfz17_2
      try clear hfz17_3
      try clear hfz17_4
      try clear hfz17_5
      try clear hfz17_6
      try clear hfz17_7
      try clear hfz17_8
      try clear hfz4_0
      try clear hfz4_1
      try clear hfz4_2
      try clear hfz4_3
      try clear hfz4_4
      try clear hfz4_5
      try clear hfz4_6
      try clear hfz4_7
      try clear hfz4_8
      try clear hfz7_0
      try clear hfz7_1
      try clear hfz7_2
      try clear hfz7_3
      try clear hfz7_4
      try clear hfz7_5
      try clear hfz7_6
      try clear hfz7_7
      try clear hfz7_8
      try clear p2
      obtain ⟨kq, x20_13, rfl, HA, HJ13, BK210, HB⟩ := hcut
      cases kq with
      | zero => exact absurd HA.out (by simp [interchangeref8_checkAgreement.j1])
      | succ kj13 =>
       have H := HA.out
       clear HA
       simp only [interchangeref8_checkAgreement.j1] at H
       by_cases c18 : x20_13 = true
       ·subst c18
        have H1 : (some 3) = some r := by rw [if_pos rfl] at H; exact H
        clear H
        have H := H1
        clear H1
        obtain rfl := Option.some.inj H
        go_wp2
        go_ret
        exact ⟨Z138, Z125⟩
       ·replace c18 := Bool.eq_false_iff.mpr c18
        subst c18
        have H1 : ((interchangeref1_IsDay.f a0_4).bind fun t213 => (if t213 = true then ((interchangeref8_within.f a0_5 a0_4 3652059).bind fun t214 => (if t214 = true then ((interchangeref8_within.f a0_7 0 100000000).bind fun t215 => (if t215 = true then (some 0) else (some 1))) else (some 1))) else (some 1))) = some r := by rw [if_neg (show ¬ (false = true) by decide)] at H; exact H
        clear H
        have H := H1
        clear H1
        replace H := Option.bind_eq_some_iff.mp H
        obtain ⟨t213, A190, H⟩ := H
        replace H : (if t213 = true then ((interchangeref8_within.f a0_5 a0_4 3652059).bind fun t214 => (if t214 = true then ((interchangeref8_within.f a0_7 0 100000000).bind fun t215 => (if t215 = true then (some 0) else (some 1))) else (some 1))) else (some 1)) = some r := H
        have A19 := Aside0.mk A190
        clear A190
        by_cases c20 : t213 = true
        ·subst c20
         have H1 : ((interchangeref8_within.f a0_5 a0_4 3652059).bind fun t214 => (if t214 = true then ((interchangeref8_within.f a0_7 0 100000000).bind fun t215 => (if t215 = true then (some 0) else (some 1))) else (some 1))) = some r := by rw [if_pos rfl] at H; exact H
         clear H
         have H := H1
         clear H1
         replace H := Option.bind_eq_some_iff.mp H
         obtain ⟨t214, A210, H⟩ := H
         replace H : (if t214 = true then ((interchangeref8_within.f a0_7 0 100000000).bind fun t215 => (if t215 = true then (some 0) else (some 1))) else (some 1)) = some r := H
         have A21 := Aside0.mk A210
         clear A210
         by_cases c22 : t214 = true
         ·subst c22
          have H1 : ((interchangeref8_within.f a0_7 0 100000000).bind fun t215 => (if t215 = true then (some 0) else (some 1))) = some r := by rw [if_pos rfl] at H; exact H
          clear H
          have H := H1
          clear H1
          replace H := Option.bind_eq_some_iff.mp H
          obtain ⟨t215, A230, H⟩ := H
          replace H : (if t215 = true then (some 0) else (some 1)) = some r := H
          have A23 := Aside0.mk A230
          clear A230
          by_cases c24 : t215 = true
          ·subst c24
           have H1 : (some 0) = some r := by rw [if_pos rfl] at H; exact H
           clear H
           have H := H1
           clear H1
           obtain rfl := Option.some.inj H
           have hcz25_0 : wc.cell? ⟨gb210, 0, none⟩ = some (.string a0_0) := (blk_cell BK210.out 0).trans rfl
           have hcz25_1 : wc.cell? ⟨gb210, 1, none⟩ = some (.string a0_1) := (blk_cell BK210.out 1).trans rfl
           have hcz25_2 : wc.cell? ⟨gb210, 2, none⟩ = some (.string a0_2) := (blk_cell BK210.out 2).trans rfl
           have hcz25_3 : wc.cell? ⟨gb210, 3, none⟩ = some (.string a0_3) := (blk_cell BK210.out 3).trans rfl
           have hcz25_4 : wc.cell? ⟨gb210, 4, none⟩ = some (.int .i64 a0_4) := (blk_cell BK210.out 4).trans rfl
           have hcz25_5 : wc.cell? ⟨gb210, 5, none⟩ = some (.int .i64 a0_5) := (blk_cell BK210.out 5).trans rfl
           have hcz25_6 : wc.cell? ⟨gb210, 6, none⟩ = some (.bool a0_6) := (blk_cell BK210.out 6).trans rfl
           have hcz25_7 : wc.cell? ⟨gb210, 7, none⟩ = some (.int .i64 a0_7) := (blk_cell BK210.out 7).trans rfl
           have hcz25_8 : wc.cell? ⟨gb210, 8, none⟩ = some (.bool a0_8) := (blk_cell BK210.out 8).trans rfl
           have hfz25_0 := blk_frozen BK210.out 0
           have hfz25_1 := blk_frozen BK210.out 1
           have hfz25_2 := blk_frozen BK210.out 2
           have hfz25_3 := blk_frozen BK210.out 3
           have hfz25_4 := blk_frozen BK210.out 4
           have hfz25_5 := blk_frozen BK210.out 5
           have hfz25_6 := blk_frozen BK210.out 6
           have hfz25_7 := blk_frozen BK210.out 7
           have hfz25_8 := blk_frozen BK210.out 8
           go_wp2_with (first | ((with_reducible refine gate_callee (f := 95) rfl ?_); refine goesL_ (some 32) rfl rfl Tryd.func95 (by kernel_rfl) rfl #[.int .i64 a0_4] rfl Z104 ?_; (with_reducible refine (interchangeref1_IsDay.calls a0_4 true _ A19.out).mono ?_); rintro e w' ⟨rfl, ⟨nd, rfl⟩⟩; refine ⟨_, rfl, ?_⟩) | (go_at_call 63; (with_reducible refine (interchangeref8_within.calls a0_5 a0_4 3652059 true _ A21.out).mono ?_); rintro e w' ⟨rfl, ⟨nd, rfl⟩⟩) | (go_at_call 63; (with_reducible refine (interchangeref8_within.calls a0_7 0 100000000 true _ A23.out).mono ?_); rintro e w' ⟨rfl, ⟨nd, rfl⟩⟩))
           go_ret
           exact ⟨Z138, Z125⟩
          ·replace c24 := Bool.eq_false_iff.mpr c24
           subst c24
           have H1 : (some 1) = some r := by rw [if_neg (show ¬ (false = true) by decide)] at H; exact H
           clear H
           have H := H1
           clear H1
           obtain rfl := Option.some.inj H
           have hcz26_0 : wc.cell? ⟨gb210, 0, none⟩ = some (.string a0_0) := (blk_cell BK210.out 0).trans rfl
           have hcz26_1 : wc.cell? ⟨gb210, 1, none⟩ = some (.string a0_1) := (blk_cell BK210.out 1).trans rfl
           have hcz26_2 : wc.cell? ⟨gb210, 2, none⟩ = some (.string a0_2) := (blk_cell BK210.out 2).trans rfl
           have hcz26_3 : wc.cell? ⟨gb210, 3, none⟩ = some (.string a0_3) := (blk_cell BK210.out 3).trans rfl
           have hcz26_4 : wc.cell? ⟨gb210, 4, none⟩ = some (.int .i64 a0_4) := (blk_cell BK210.out 4).trans rfl
           have hcz26_5 : wc.cell? ⟨gb210, 5, none⟩ = some (.int .i64 a0_5) := (blk_cell BK210.out 5).trans rfl
           have hcz26_6 : wc.cell? ⟨gb210, 6, none⟩ = some (.bool a0_6) := (blk_cell BK210.out 6).trans rfl
           have hcz26_7 : wc.cell? ⟨gb210, 7, none⟩ = some (.int .i64 a0_7) := (blk_cell BK210.out 7).trans rfl
           have hcz26_8 : wc.cell? ⟨gb210, 8, none⟩ = some (.bool a0_8) := (blk_cell BK210.out 8).trans rfl
           have hfz26_0 := blk_frozen BK210.out 0
           have hfz26_1 := blk_frozen BK210.out 1
           have hfz26_2 := blk_frozen BK210.out 2
           have hfz26_3 := blk_frozen BK210.out 3
           have hfz26_4 := blk_frozen BK210.out 4
           have hfz26_5 := blk_frozen BK210.out 5
           have hfz26_6 := blk_frozen BK210.out 6
           have hfz26_7 := blk_frozen BK210.out 7
           have hfz26_8 := blk_frozen BK210.out 8
           go_wp2_with (first | ((with_reducible refine gate_callee (f := 95) rfl ?_); refine goesL_ (some 32) rfl rfl Tryd.func95 (by kernel_rfl) rfl #[.int .i64 a0_4] rfl Z104 ?_; (with_reducible refine (interchangeref1_IsDay.calls a0_4 true _ A19.out).mono ?_); rintro e w' ⟨rfl, ⟨nd, rfl⟩⟩; refine ⟨_, rfl, ?_⟩) | (go_at_call 63; (with_reducible refine (interchangeref8_within.calls a0_5 a0_4 3652059 true _ A21.out).mono ?_); rintro e w' ⟨rfl, ⟨nd, rfl⟩⟩) | (go_at_call 63; (with_reducible refine (interchangeref8_within.calls a0_7 0 100000000 false _ A23.out).mono ?_); rintro e w' ⟨rfl, ⟨nd, rfl⟩⟩))
           go_ret
           exact ⟨Z138, Z125⟩
         ·replace c22 := Bool.eq_false_iff.mpr c22
          subst c22
          have H1 : (some 1) = some r := by rw [if_neg (show ¬ (false = true) by decide)] at H; exact H
          clear H
          have H := H1
          clear H1
          obtain rfl := Option.some.inj H
          have hcz27_0 : wc.cell? ⟨gb210, 0, none⟩ = some (.string a0_0) := (blk_cell BK210.out 0).trans rfl
          have hcz27_1 : wc.cell? ⟨gb210, 1, none⟩ = some (.string a0_1) := (blk_cell BK210.out 1).trans rfl
          have hcz27_2 : wc.cell? ⟨gb210, 2, none⟩ = some (.string a0_2) := (blk_cell BK210.out 2).trans rfl
          have hcz27_3 : wc.cell? ⟨gb210, 3, none⟩ = some (.string a0_3) := (blk_cell BK210.out 3).trans rfl
          have hcz27_4 : wc.cell? ⟨gb210, 4, none⟩ = some (.int .i64 a0_4) := (blk_cell BK210.out 4).trans rfl
          have hcz27_5 : wc.cell? ⟨gb210, 5, none⟩ = some (.int .i64 a0_5) := (blk_cell BK210.out 5).trans rfl
          have hcz27_6 : wc.cell? ⟨gb210, 6, none⟩ = some (.bool a0_6) := (blk_cell BK210.out 6).trans rfl
          have hcz27_7 : wc.cell? ⟨gb210, 7, none⟩ = some (.int .i64 a0_7) := (blk_cell BK210.out 7).trans rfl
          have hcz27_8 : wc.cell? ⟨gb210, 8, none⟩ = some (.bool a0_8) := (blk_cell BK210.out 8).trans rfl
          have hfz27_0 := blk_frozen BK210.out 0
          have hfz27_1 := blk_frozen BK210.out 1
          have hfz27_2 := blk_frozen BK210.out 2
          have hfz27_3 := blk_frozen BK210.out 3
          have hfz27_4 := blk_frozen BK210.out 4
          have hfz27_5 := blk_frozen BK210.out 5
          have hfz27_6 := blk_frozen BK210.out 6
          have hfz27_7 := blk_frozen BK210.out 7
          have hfz27_8 := blk_frozen BK210.out 8
          go_wp2_with (first | ((with_reducible refine gate_callee (f := 95) rfl ?_); refine goesL_ (some 32) rfl rfl Tryd.func95 (by kernel_rfl) rfl #[.int .i64 a0_4] rfl Z104 ?_; (with_reducible refine (interchangeref1_IsDay.calls a0_4 true _ A19.out).mono ?_); rintro e w' ⟨rfl, ⟨nd, rfl⟩⟩; refine ⟨_, rfl, ?_⟩) | (go_at_call 63; (with_reducible refine (interchangeref8_within.calls a0_5 a0_4 3652059 false _ A21.out).mono ?_); rintro e w' ⟨rfl, ⟨nd, rfl⟩⟩))
          go_ret
          exact ⟨Z138, Z125⟩
        ·replace c20 := Bool.eq_false_iff.mpr c20
         subst c20
         have H1 : (some 1) = some r := by rw [if_neg (show ¬ (false = true) by decide)] at H; exact H
         clear H
         have H := H1
         clear H1
         obtain rfl := Option.some.inj H
         have hcz28_0 : wc.cell? ⟨gb210, 0, none⟩ = some (.string a0_0) := (blk_cell BK210.out 0).trans rfl
         have hcz28_1 : wc.cell? ⟨gb210, 1, none⟩ = some (.string a0_1) := (blk_cell BK210.out 1).trans rfl
         have hcz28_2 : wc.cell? ⟨gb210, 2, none⟩ = some (.string a0_2) := (blk_cell BK210.out 2).trans rfl
         have hcz28_3 : wc.cell? ⟨gb210, 3, none⟩ = some (.string a0_3) := (blk_cell BK210.out 3).trans rfl
         have hcz28_4 : wc.cell? ⟨gb210, 4, none⟩ = some (.int .i64 a0_4) := (blk_cell BK210.out 4).trans rfl
         have hcz28_5 : wc.cell? ⟨gb210, 5, none⟩ = some (.int .i64 a0_5) := (blk_cell BK210.out 5).trans rfl
         have hcz28_6 : wc.cell? ⟨gb210, 6, none⟩ = some (.bool a0_6) := (blk_cell BK210.out 6).trans rfl
         have hcz28_7 : wc.cell? ⟨gb210, 7, none⟩ = some (.int .i64 a0_7) := (blk_cell BK210.out 7).trans rfl
         have hcz28_8 : wc.cell? ⟨gb210, 8, none⟩ = some (.bool a0_8) := (blk_cell BK210.out 8).trans rfl
         have hfz28_0 := blk_frozen BK210.out 0
         have hfz28_1 := blk_frozen BK210.out 1
         have hfz28_2 := blk_frozen BK210.out 2
         have hfz28_3 := blk_frozen BK210.out 3
         have hfz28_4 := blk_frozen BK210.out 4
         have hfz28_5 := blk_frozen BK210.out 5
         have hfz28_6 := blk_frozen BK210.out 6
         have hfz28_7 := blk_frozen BK210.out 7
         have hfz28_8 := blk_frozen BK210.out 8
         go_wp2_with (first | ((with_reducible refine gate_callee (f := 95) rfl ?_); refine goesL_ (some 32) rfl rfl Tryd.func95 (by kernel_rfl) rfl #[.int .i64 a0_4] rfl Z104 ?_; (with_reducible refine (interchangeref1_IsDay.calls a0_4 false _ A19.out).mono ?_); rintro e w' ⟨rfl, ⟨nd, rfl⟩⟩; refine ⟨_, rfl, ?_⟩))
         go_ret
         exact ⟨Z138, Z125⟩

/-! ### interchangeref8_isPartner: function 76 -/
def interchangeref8_isPartner.l0 : Nat → ByteArray → List (S86) → Int → Int → Option (Bool)
 | 0, _, _, _, _ => none
 | k + 1, x1, x7, x8, x9 => if x9 < x8 then (if 0 ≤ x9 then (if x9 < (x7.length : Int) then (if ((rd_T86 x7 x9).f0).toList = x1.toList then (some true) else (interchangeref8_isPartner.l0 k x1 x7 x8 (wrap64 (x9 + 1)))) else (none)) else (none)) else (some false)
def interchangeref8_isPartner.f (k : Nat) (l0 : List (S86)) (a1 : ByteArray) : Option (Bool) := interchangeref8_isPartner.l0 k a1 l0 (l0.length : Int) 0
theorem interchangeref8_isPartner.mono_l : ∀ k, (∀ y0 y1 y2 y3, LeO (interchangeref8_isPartner.l0 k y0 y1 y2 y3) (interchangeref8_isPartner.l0 (k + 1) y0 y1 y2 y3))
 | 0 => fun _ _ _ _ r h => by simp [interchangeref8_isPartner.l0] at h
 | k + 1 => by
  have ih0 := interchangeref8_isPartner.mono_l k
  ·intro y0 y1 y2 y3
   unfold interchangeref8_isPartner.l0
   repeat' first
   | (with_reducible exact ih0 _ _ _ _)
   | (with_reducible exact LeO.refl _)
   | (with_reducible exact LeO.none _)
   | (with_reducible refine LeO.ite ?_ ?_)
   | (with_reducible refine LeO.bind ?_ (fun _ => ?_))
   | exact ih0 _ _ _ _
   | exact LeO.none _
   | refine LeO.ite ?_ ?_
   | refine LeO.bind ?_ (fun _ => ?_)
theorem interchangeref8_isPartner.mono : ∀ a0 a1 k, LeO (interchangeref8_isPartner.f k a0 a1) (interchangeref8_isPartner.f (k + 1) a0 a1) := by
 intro a0 a1 k
 have ih0 := interchangeref8_isPartner.mono_l k
 unfold interchangeref8_isPartner.f
 repeat' first
   | (with_reducible exact ih0 _ _ _ _)
   | (with_reducible exact LeO.refl _)
   | (with_reducible exact LeO.none _)
   | (with_reducible refine LeO.ite ?_ ?_)
   | (with_reducible refine LeO.bind ?_ (fun _ => ?_))
   | exact ih0 _ _ _ _
   | exact LeO.none _
   | refine LeO.ite ?_ ?_
   | refine LeO.bind ?_ (fun _ => ?_)
set_option maxHeartbeats 8000000 in
set_option maxRecDepth 100000 in
theorem interchangeref8_isPartner.calls (k : Nat) (A0 : Option Addr) (c0 : Nat) (l0 : List (S86)) (a1 : ByteArray) (r : Bool) (w : World) (hr0 : Kd.C k86 w A0 l0.length l0) (hc0 : l0.length ≤ c0) (h : interchangeref8_isPartner.f k l0 a1 = some r) :
  Calls Tryd.prog 76 #[.slice A0 l0.length c0, .string a1] w fun e w' => e = .returned (.bool r) ∧ Below w.heap.size w w' := by
 have hu86 := Tryd.underlying86
 have HR0 := Aside0.mk hr0
 have HC0 := Aside0.mk hc0
 clear hr0 hc0
 have HB := Aside0.mk (Below.refl w.heap.size w)
 have H : (interchangeref8_isPartner.l0 k a1 l0 (l0.length : Int) 0) = some r := h
 clear h
 have H' := Aside0.mk H
 clear H
 go_enter Tryd.func76, Tryd.ntmps76
 go_wp2
 go_loopg [9] k (fun kq v9 w' => ∃ (x9_1 : Int), v9 = .int .i64 x9_1 ∧ Aside0 (interchangeref8_isPartner.l0 kq a1 l0 (l0.length : Int) x9_1 = some r) ∧ Aside0 (kq ≤ k) ∧ Aside0 (Below w.heap.size w w'))
 case atStart => exact ⟨(0), Z183, H', ⟨Nat.le_refl _⟩, ⟨Z140⟩⟩
 case round =>
  clear H'
  try clear p2
  obtain ⟨x9_1, rfl, HA, HK1, HB⟩ := hrel
  cases gk with
  | zero => exact absurd HA.out (by simp [interchangeref8_isPartner.l0])
  | succ k1 =>
   have H := HA.out
   clear HA
   simp only [interchangeref8_isPartner.l0] at H
   by_cases c3 : x9_1 < (l0.length : Int)
   ·rw [if_pos c3] at H
    have c3b0 : decide (x9_1 < (l0.length : Int)) = true := decide_eq_true c3
    clear c3
    by_cases c4 : 0 ≤ x9_1
    ·rw [if_pos c4] at H
     have c4b0 : decide (0 ≤ x9_1) = true := decide_eq_true c4
     clear c4
     by_cases c5 : x9_1 < (l0.length : Int)
     ·rw [if_pos c5] at H
      have c5b0 : decide (x9_1 < (l0.length : Int)) = true := decide_eq_true c5
      clear c5
      by_cases c6 : ((rd_T86 l0 x9_1).f0).toList = a1.toList
      ·rw [if_pos c6] at H
       have c6b0 : (((rd_T86 l0 x9_1).f0).toList == a1.toList) = true := beq_iff_eq.mpr c6
       have c6b1 : (((rd_T86 l0 x9_1).f0).toList != a1.toList) = false := bne_eq_false_iff_eq.mpr c6
       clear c6
       obtain rfl := Option.some.inj H
       have p216 : 0 ≤ (x9_1 : Int) := of_decide_eq_true Z186
       have q216 : x9_1 < (l0.length : Int) := of_decide_eq_true Z186
       obtain ⟨ad216, A216_1, c216_1, e216, hx216_0, hx216_1, hl216_1, hi216_1⟩ := at_T86 HR0.out x9_1 p216 q216
       cases e216
       replace hx216_0 := (HB.out.cell (World.block_lt_of_cell? w _ hx216_0)).trans hx216_0
       replace hx216_1 := (HB.out.cell (World.block_lt_of_cell? w _ hx216_1)).trans hx216_1
       have HR216_1 := Aside0.mk hi216_1
       have HC216_1 := Aside0.mk hl216_1
       clear hi216_1 hl216_1
       replace p216 := eq_true p216
       replace q216 := eq_true q216
       go_wp2_with (first | ((with_reducible refine gate_dst (N := 6) rfl ?_); refine box_event ?hg (N := 6) ?hd (cs := #[.string (⟨#[]⟩ : ByteArray), .slice none 0 0]) (t := 86) ?hr ?_; (case hd => rfl); (case hg => rfl); (case hr => exact Z188); intro gb217 hg w7 hbox hb; have n0_ := Aside0.mk (below_step Z140 hb); have n1_ := Aside0.mk (hbox); have n2_ := Aside0.mk ((Z108 : w.heap.size ≤ gb217)); have n3_ := Aside0.mk ((Z108 : w.heap.size ≤ gb217)); clear HB; have HB := n0_; have BK217 := n1_; have GW217 := n2_; have GE217 := n3_; clear n0_ n1_ n2_ n3_; clear hb hbox hg; obtain ⟨hcz8_0, hcz8_1, hfz8_0, hfz8_1⟩ := bf2 BK217.out))
       go_ret
       exact ⟨Z138, by repeat (first | (with_reducible first | exact HB.out | apply below_alloc | apply pw_below_drewN | apply below_drew1 | refine below_set ?_ GE217.out) | exact HB.out)⟩
      ·rw [if_neg c6] at H
       have c6b0 : (((rd_T86 l0 x9_1).f0).toList == a1.toList) = false := beq_eq_false_iff_ne.mpr c6
       have c6b1 : (((rd_T86 l0 x9_1).f0).toList != a1.toList) = true := bne_iff_ne.mpr c6
       have H' := Aside0.mk H
       clear H
       have p216 : 0 ≤ (x9_1 : Int) := of_decide_eq_true Z186
       have q216 : x9_1 < (l0.length : Int) := of_decide_eq_true Z186
       obtain ⟨ad216, A216_1, c216_1, e216, hx216_0, hx216_1, hl216_1, hi216_1⟩ := at_T86 HR0.out x9_1 p216 q216
       cases e216
       replace hx216_0 := (HB.out.cell (World.block_lt_of_cell? w _ hx216_0)).trans hx216_0
       replace hx216_1 := (HB.out.cell (World.block_lt_of_cell? w _ hx216_1)).trans hx216_1
       have HR216_1 := Aside0.mk hi216_1
       have HC216_1 := Aside0.mk hl216_1
       clear hi216_1 hl216_1
       replace p216 := eq_true p216
       replace q216 := eq_true q216
       go_wp2_with (first | ((with_reducible refine gate_dst (N := 6) rfl ?_); refine box_event ?hg (N := 6) ?hd (cs := #[.string (⟨#[]⟩ : ByteArray), .slice none 0 0]) (t := 86) ?hr ?_; (case hd => rfl); (case hg => rfl); (case hr => exact Z188); intro gb217 hg w9 hbox hb; have n0_ := Aside0.mk (below_step Z140 hb); have n1_ := Aside0.mk (hbox); have n2_ := Aside0.mk ((Z108 : w.heap.size ≤ gb217)); have n3_ := Aside0.mk ((Z108 : w.heap.size ≤ gb217)); clear HB; have HB := n0_; have BK217 := n1_; have GW217 := n2_; have GE217 := n3_; clear n0_ n1_ n2_ n3_; clear hb hbox hg; obtain ⟨hcz10_0, hcz10_1, hfz10_0, hfz10_1⟩ := bf2 BK217.out))
       go_roundg k1
       case measure => have := HK1.out; omega
       case rel => exact ⟨(wrap64 (x9_1 + 1)), Z183, H', ⟨Z192⟩, ⟨by repeat (first | (with_reducible first | exact HB.out | apply below_alloc | apply pw_below_drewN | apply below_drew1 | refine below_set ?_ GE217.out) | exact HB.out)⟩⟩
     ·rw [if_neg c5] at H
      exact absurd H (by simp)
    ·rw [if_neg c4] at H
     exact absurd H (by simp)
   ·rw [if_neg c3] at H
    have c3b0 : decide (x9_1 < (l0.length : Int)) = false := decide_eq_false c3
    clear c3
    obtain rfl := Option.some.inj H
    go_wp2
    go_ret
    exact ⟨Z138, Z140⟩

end Go.Proofs.YtdlgohhecicnoaaDoor.XPartnerFindsMatchSpec
