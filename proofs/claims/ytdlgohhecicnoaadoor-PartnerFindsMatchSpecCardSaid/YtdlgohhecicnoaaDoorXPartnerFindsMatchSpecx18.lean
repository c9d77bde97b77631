-- Walks of PartnerFindsMatchSpec: written by xprint.py out of the translation (hand-proved functions among them). Lean checks it.
import Derived.Test.YtdlgohhecicnoaaDoorXPartnerFindsMatchSpecx0
import Derived.Test.YtdlgohhecicnoaaDoorXPartnerFindsMatchSpecx2
import Derived.Test.YtdlgohhecicnoaaDoorXPartnerFindsMatchSpecx5
import Derived.Test.YtdlgohhecicnoaaDoorXPartnerFindsMatchSpecx8
import Derived.Test.YtdlgohhecicnoaaDoorXPartnerFindsMatchSpecx11
import Derived.Test.YtdlgohhecicnoaaDoorXPartnerFindsMatchSpecx14
import Derived.Test.YtdlgohhecicnoaaDoorXPartnerFindsMatchSpecx15
import Derived.Test.YtdlgohhecicnoaaDoorXPartnerFindsMatchSpecx17
namespace Go.Proofs.YtdlgohhecicnoaaDoor.XPartnerFindsMatchSpec
open Go.RowKit Go.Proofs.YtdlgohhecicnoaaDoorW.PrintWords Go.Proofs.YtdlgohhecicnoaaDoorW.PrintLast Go.Proofs.YtdlgohhecicnoaaDoorW.PrintMore
attribute [local go_sem] max2_int min2_int max_two min_two max_three min_three max_four min_four   -- for this text's walks alone
set_option linter.unusedVariables false
set_option linter.unusedSimpArgs false

/-! ### interchangelaw8_PartnerFindsMatchSpec: function 10 -/
mutual
def interchangelaw8_PartnerFindsMatchSpec.j0 : Nat → List (S86) → List (S23) → Bool → ByteArray → ByteArray → ByteArray → ByteArray → ByteArray → ByteArray → ByteArray → ByteArray → Int → Bool → Option (Bool)
 | 0, _, _, _, _, _, _, _, _, _, _, _, _, _ => none
 | k + 1, x0, x1, x54, x298000, x298001, x299000, x299001, x300000, x300001, x300002, x300003, x300004, x300005 => if x54 = true then (some false) else ((interchangeref8_Found.f k x0 x1 x298000 x298001 x299000 x299001 x300000 x300001 x300002 x300003 x300004 x300005).bind fun bt308 => ((partner_Found.f k x0 x1 x298000 x298001 x299000 x299001 x300000 x300001 x300002 x300003 x300004 x300005).bind fun bt311 => (if bt311.2.2 = bt308.2.2 then (if bt311.1 = bt308.1 then (interchangelaw8_PartnerFindsMatchSpec.j1 k x0 x1 (bt311.2.1 != bt308.2.1) x298000 x298001 x299000 x299001 x300000 x300001 x300002 x300003 x300004 x300005) else (interchangelaw8_PartnerFindsMatchSpec.j1 k x0 x1 true x298000 x298001 x299000 x299001 x300000 x300001 x300002 x300003 x300004 x300005)) else (interchangelaw8_PartnerFindsMatchSpec.j1 k x0 x1 true x298000 x298001 x299000 x299001 x300000 x300001 x300002 x300003 x300004 x300005))))
def interchangelaw8_PartnerFindsMatchSpec.j1 : Nat → List (S86) → List (S23) → Bool → ByteArray → ByteArray → ByteArray → ByteArray → ByteArray → ByteArray → ByteArray → ByteArray → Int → Bool → Option (Bool)
 | 0, _, _, _, _, _, _, _, _, _, _, _, _, _ => none
 | k + 1, x0, x1, x87, x298000, x298001, x299000, x299001, x300000, x300001, x300002, x300003, x300004, x300005 => if x87 = true then (some false) else ((interchangeref8_Found.f k x0 x1 x298000 x298001 x299000 x299001 (⟨#[]⟩ : ByteArray) (⟨#[]⟩ : ByteArray) x300002 x300003 x300004 x300005).bind fun bt314 => ((partner_Found.f k x0 x1 x298000 x298001 x299000 x299001 (⟨#[]⟩ : ByteArray) (⟨#[]⟩ : ByteArray) x300002 x300003 x300004 x300005).bind fun bt317 => (if bt317.2.2 = bt314.2.2 then (if bt317.1 = bt314.1 then (if (bt317.2.1 == bt314.2.1) = true then ((interchangelaw8_awake.f).bind fun t320 => (some t320)) else (some false)) else (some false)) else (some false))))
end
def interchangelaw8_PartnerFindsMatchSpec.f (k : Nat) (l0 : List (S86)) (l1 : List (S23)) (a2_0 : ByteArray) (a2_1 : ByteArray) (a3_0 : ByteArray) (a3_1 : ByteArray) (a4_0 : ByteArray) (a4_1 : ByteArray) (a4_2 : ByteArray) (a4_3 : ByteArray) (a4_4 : Int) (a4_5 : Bool) : Option (Bool) := (interchangeref8_Find.f k l0 l1 a4_0 a4_1 a4_2 a4_3 a4_4 a4_5).bind fun bt300 => ((partner_Find.f k l0 l1 a4_0 a4_1 a4_2 a4_3 a4_4 a4_5).bind fun bt303 => ((interchangeref8_CheckAgreements.f k l0 l1).bind fun t306 => ((partner_CheckAgreements.f k l0 l1).bind fun t307 => (if t306 = t307 then (if bt303.2.2 = bt300.2.2 then (if bt303.1 = bt300.1 then (interchangelaw8_PartnerFindsMatchSpec.j0 k l0 l1 (bt303.2.1 != bt300.2.1) a2_0 a2_1 a3_0 a3_1 a4_0 a4_1 a4_2 a4_3 a4_4 a4_5) else (interchangelaw8_PartnerFindsMatchSpec.j0 k l0 l1 true a2_0 a2_1 a3_0 a3_1 a4_0 a4_1 a4_2 a4_3 a4_4 a4_5)) else (interchangelaw8_PartnerFindsMatchSpec.j0 k l0 l1 true a2_0 a2_1 a3_0 a3_1 a4_0 a4_1 a4_2 a4_3 a4_4 a4_5)) else (interchangelaw8_PartnerFindsMatchSpec.j0 k l0 l1 true a2_0 a2_1 a3_0 a3_1 a4_0 a4_1 a4_2 a4_3 a4_4 a4_5)))))
theorem interchangelaw8_PartnerFindsMatchSpec.mono_l : ∀ k, (∀ y0 y1 y2 y3 y4 y5 y6 y7 y8 y9 y10 y11 y12, LeO (interchangelaw8_PartnerFindsMatchSpec.j0 k y0 y1 y2 y3 y4 y5 y6 y7 y8 y9 y10 y11 y12) (interchangelaw8_PartnerFindsMatchSpec.j0 (k + 1) y0 y1 y2 y3 y4 y5 y6 y7 y8 y9 y10 y11 y12)) ∧ (∀ y0 y1 y2 y3 y4 y5 y6 y7 y8 y9 y10 y11 y12, LeO (interchangelaw8_PartnerFindsMatchSpec.j1 k y0 y1 y2 y3 y4 y5 y6 y7 y8 y9 y10 y11 y12) (interchangelaw8_PartnerFindsMatchSpec.j1 (k + 1) y0 y1 y2 y3 y4 y5 y6 y7 y8 y9 y10 y11 y12))
 | 0 => ⟨fun _ _ _ _ _ _ _ _ _ _ _ _ _ r h => by simp [interchangelaw8_PartnerFindsMatchSpec.j0] at h, fun _ _ _ _ _ _ _ _ _ _ _ _ _ r h => by simp [interchangelaw8_PartnerFindsMatchSpec.j1] at h⟩
 | k + 1 => by
  obtain ⟨ih0, ih1⟩ := interchangelaw8_PartnerFindsMatchSpec.mono_l k
  refine ⟨?_, ?_⟩
  ·intro y0 y1 y2 y3 y4 y5 y6 y7 y8 y9 y10 y11 y12
   unfold interchangelaw8_PartnerFindsMatchSpec.j0
   repeat' first
   | (with_reducible exact ih0 _ _ _ _ _ _ _ _ _ _ _ _ _)
   | (with_reducible exact ih1 _ _ _ _ _ _ _ _ _ _ _ _ _)
   | (with_reducible exact interchangeref8_CheckAgreements.mono _ _ _)
   | (with_reducible exact interchangeref8_Find.mono _ _ _ _ _ _ _ _ _)
   | (with_reducible exact interchangeref8_Found.mono _ _ _ _ _ _ _ _ _ _ _ _ _)
   | (with_reducible exact partner_CheckAgreements.mono _ _ _)
   | (with_reducible exact partner_Find.mono _ _ _ _ _ _ _ _ _)
   | (with_reducible exact partner_Found.mono _ _ _ _ _ _ _ _ _ _ _ _ _)
   | (with_reducible exact LeO.refl _)
   | (with_reducible exact LeO.none _)
   | (with_reducible refine LeO.ite ?_ ?_)
   | (with_reducible refine LeO.bind ?_ (fun _ => ?_))
   | exact ih0 _ _ _ _ _ _ _ _ _ _ _ _ _
   | exact ih1 _ _ _ _ _ _ _ _ _ _ _ _ _
   | exact interchangeref8_CheckAgreements.mono _ _ _
   | exact interchangeref8_Find.mono _ _ _ _ _ _ _ _ _
   | exact interchangeref8_Found.mono _ _ _ _ _ _ _ _ _ _ _ _ _
   | exact partner_CheckAgreements.mono _ _ _
   | exact partner_Find.mono _ _ _ _ _ _ _ _ _
   | exact partner_Found.mono _ _ _ _ _ _ _ _ _ _ _ _ _
   | exact LeO.none _
   | refine LeO.ite ?_ ?_
   | refine LeO.bind ?_ (fun _ => ?_)
  ·intro y0 y1 y2 y3 y4 y5 y6 y7 y8 y9 y10 y11 y12
   unfold interchangelaw8_PartnerFindsMatchSpec.j1
   repeat' first
   | (with_reducible exact ih0 _ _ _ _ _ _ _ _ _ _ _ _ _)
   | (with_reducible exact ih1 _ _ _ _ _ _ _ _ _ _ _ _ _)
   | (with_reducible exact interchangeref8_CheckAgreements.mono _ _ _)
   | (with_reducible exact interchangeref8_Find.mono _ _ _ _ _ _ _ _ _)
   | (with_reducible exact interchangeref8_Found.mono _ _ _ _ _ _ _ _ _ _ _ _ _)
   | (with_reducible exact partner_CheckAgreements.mono _ _ _)
   | (with_reducible exact partner_Find.mono _ _ _ _ _ _ _ _ _)
   | (with_reducible exact partner_Found.mono _ _ _ _ _ _ _ _ _ _ _ _ _)
   | (with_reducible exact LeO.refl _)
   | (with_reducible exact LeO.none _)
   | (with_reducible refine LeO.ite ?_ ?_)
   | (with_reducible refine LeO.bind ?_ (fun _ => ?_))
   | exact ih0 _ _ _ _ _ _ _ _ _ _ _ _ _
   | exact ih1 _ _ _ _ _ _ _ _ _ _ _ _ _
   | exact interchangeref8_CheckAgreements.mono _ _ _
   | exact interchangeref8_Find.mono _ _ _ _ _ _ _ _ _
   | exact interchangeref8_Found.mono _ _ _ _ _ _ _ _ _ _ _ _ _
   | exact partner_CheckAgreements.mono _ _ _
   | exact partner_Find.mono _ _ _ _ _ _ _ _ _
   | exact partner_Found.mono _ _ _ _ _ _ _ _ _ _ _ _ _
   | exact LeO.none _
   | refine LeO.ite ?_ ?_
   | refine LeO.bind ?_ (fun _ => ?_)
theorem interchangelaw8_PartnerFindsMatchSpec.mono : ∀ a0 a1 a2 a3 a4 a5 a6 a7 a8 a9 a10 a11 k, LeO (interchangelaw8_PartnerFindsMatchSpec.f k a0 a1 a2 a3 a4 a5 a6 a7 a8 a9 a10 a11) (interchangelaw8_PartnerFindsMatchSpec.f (k + 1) a0 a1 a2 a3 a4 a5 a6 a7 a8 a9 a10 a11) := by
 intro a0 a1 a2 a3 a4 a5 a6 a7 a8 a9 a10 a11 k
 obtain ⟨ih0, ih1⟩ := interchangelaw8_PartnerFindsMatchSpec.mono_l k
 unfold interchangelaw8_PartnerFindsMatchSpec.f
 repeat' first
   | (with_reducible exact ih0 _ _ _ _ _ _ _ _ _ _ _ _ _)
   | (with_reducible exact ih1 _ _ _ _ _ _ _ _ _ _ _ _ _)
   | (with_reducible exact interchangeref8_CheckAgreements.mono _ _ _)
   | (with_reducible exact interchangeref8_Find.mono _ _ _ _ _ _ _ _ _)
   | (with_reducible exact interchangeref8_Found.mono _ _ _ _ _ _ _ _ _ _ _ _ _)
   | (with_reducible exact partner_CheckAgreements.mono _ _ _)
   | (with_reducible exact partner_Find.mono _ _ _ _ _ _ _ _ _)
   | (with_reducible exact partner_Found.mono _ _ _ _ _ _ _ _ _ _ _ _ _)
   | (with_reducible exact LeO.refl _)
   | (with_reducible exact LeO.none _)
   | (with_reducible refine LeO.ite ?_ ?_)
   | (with_reducible refine LeO.bind ?_ (fun _ => ?_))
   | exact ih0 _ _ _ _ _ _ _ _ _ _ _ _ _
   | exact ih1 _ _ _ _ _ _ _ _ _ _ _ _ _
   | exact interchangeref8_CheckAgreements.mono _ _ _
   | exact interchangeref8_Find.mono _ _ _ _ _ _ _ _ _
   | exact interchangeref8_Found.mono _ _ _ _ _ _ _ _ _ _ _ _ _
   | exact partner_CheckAgreements.mono _ _ _
   | exact partner_Find.mono _ _ _ _ _ _ _ _ _
   | exact partner_Found.mono _ _ _ _ _ _ _ _ _ _ _ _ _
   | exact LeO.none _
   | refine LeO.ite ?_ ?_
   | refine LeO.bind ?_ (fun _ => ?_)
set_option maxHeartbeats 8000000 in
set_option maxRecDepth 100000 in
theorem interchangelaw8_PartnerFindsMatchSpec.calls (k : Nat) (A0 : Option Addr) (c0 : Nat) (l0 : List (S86)) (A1 : Option Addr) (c1 : Nat) (l1 : List (S23)) (a2_0 : ByteArray) (a2_1 : ByteArray) (a3_0 : ByteArray) (a3_1 : ByteArray) (a4_0 : ByteArray) (a4_1 : ByteArray) (a4_2 : ByteArray) (a4_3 : ByteArray) (a4_4 : Int) (a4_5 : Bool) (r : Bool) (w : World) (hr0 : Kd.C k86 w A0 l0.length l0) (hc0 : l0.length ≤ c0) (hr1 : Kd.C k23 w A1 l1.length l1) (hc1 : l1.length ≤ c1) (h : interchangelaw8_PartnerFindsMatchSpec.f k l0 l1 a2_0 a2_1 a3_0 a3_1 a4_0 a4_1 a4_2 a4_3 a4_4 a4_5 = some r) :
  Calls Tryd.prog 10 #[.slice A0 l0.length c0, .slice A1 l1.length c1, .agg #[.string a2_0, .string a2_1], .agg #[.string a3_0, .string a3_1], .agg #[.string a4_0, .string a4_1, .string a4_2, .string a4_3, .int .i64 a4_4, .bool a4_5]] w fun e w' => e = .returned (.bool r) ∧ Below w.heap.size w w' := by
 have hu31 := Tryd.underlying31
 have hu37 := Tryd.underlying37
 have HR0 := Aside0.mk hr0
 have HC0 := Aside0.mk hc0
 clear hr0 hc0
 have HR1 := Aside0.mk hr1
 have HC1 := Aside0.mk hc1
 clear hr1 hc1
 have HB := Aside0.mk (Below.refl w.heap.size w)
 have H : ((interchangeref8_Find.f k l0 l1 a4_0 a4_1 a4_2 a4_3 a4_4 a4_5).bind fun bt300 => ((partner_Find.f k l0 l1 a4_0 a4_1 a4_2 a4_3 a4_4 a4_5).bind fun bt303 => ((interchangeref8_CheckAgreements.f k l0 l1).bind fun t306 => ((partner_CheckAgreements.f k l0 l1).bind fun t307 => (if t306 = t307 then (if bt303.2.2 = bt300.2.2 then (if bt303.1 = bt300.1 then (interchangelaw8_PartnerFindsMatchSpec.j0 k l0 l1 (bt303.2.1 != bt300.2.1) a2_0 a2_1 a3_0 a3_1 a4_0 a4_1 a4_2 a4_3 a4_4 a4_5) else (interchangelaw8_PartnerFindsMatchSpec.j0 k l0 l1 true a2_0 a2_1 a3_0 a3_1 a4_0 a4_1 a4_2 a4_3 a4_4 a4_5)) else (interchangelaw8_PartnerFindsMatchSpec.j0 k l0 l1 true a2_0 a2_1 a3_0 a3_1 a4_0 a4_1 a4_2 a4_3 a4_4 a4_5)) else (interchangelaw8_PartnerFindsMatchSpec.j0 k l0 l1 true a2_0 a2_1 a3_0 a3_1 a4_0 a4_1 a4_2 a4_3 a4_4 a4_5)))))) = some r := h
 clear h
 replace H := Option.bind_eq_some_iff.mp H
 obtain ⟨⟨t300, t301, t302⟩, A60, H⟩ := H
 replace H : ((partner_Find.f k l0 l1 a4_0 a4_1 a4_2 a4_3 a4_4 a4_5).bind fun bt303 => ((interchangeref8_CheckAgreements.f k l0 l1).bind fun t306 => ((partner_CheckAgreements.f k l0 l1).bind fun t307 => (if t306 = t307 then (if bt303.2.2 = t302 then (if bt303.1 = t300 then (interchangelaw8_PartnerFindsMatchSpec.j0 k l0 l1 (bt303.2.1 != t301) a2_0 a2_1 a3_0 a3_1 a4_0 a4_1 a4_2 a4_3 a4_4 a4_5) else (interchangelaw8_PartnerFindsMatchSpec.j0 k l0 l1 true a2_0 a2_1 a3_0 a3_1 a4_0 a4_1 a4_2 a4_3 a4_4 a4_5)) else (interchangelaw8_PartnerFindsMatchSpec.j0 k l0 l1 true a2_0 a2_1 a3_0 a3_1 a4_0 a4_1 a4_2 a4_3 a4_4 a4_5)) else (interchangelaw8_PartnerFindsMatchSpec.j0 k l0 l1 true a2_0 a2_1 a3_0 a3_1 a4_0 a4_1 a4_2 a4_3 a4_4 a4_5))))) = some r := H
 have A6 := Aside0.mk A60
 clear A60
 replace H := Option.bind_eq_some_iff.mp H
 obtain ⟨⟨t303, t304, t305⟩, A70, H⟩ := H
 replace H : ((interchangeref8_CheckAgreements.f k l0 l1).bind fun t306 => ((partner_CheckAgreements.f k l0 l1).bind fun t307 => (if t306 = t307 then (if t305 = t302 then (if t303 = t300 then (interchangelaw8_PartnerFindsMatchSpec.j0 k l0 l1 (t304 != t301) a2_0 a2_1 a3_0 a3_1 a4_0 a4_1 a4_2 a4_3 a4_4 a4_5) else (interchangelaw8_PartnerFindsMatchSpec.j0 k l0 l1 true a2_0 a2_1 a3_0 a3_1 a4_0 a4_1 a4_2 a4_3 a4_4 a4_5)) else (interchangelaw8_PartnerFindsMatchSpec.j0 k l0 l1 true a2_0 a2_1 a3_0 a3_1 a4_0 a4_1 a4_2 a4_3 a4_4 a4_5)) else (interchangelaw8_PartnerFindsMatchSpec.j0 k l0 l1 true a2_0 a2_1 a3_0 a3_1 a4_0 a4_1 a4_2 a4_3 a4_4 a4_5)))) = some r := H
 have A7 := Aside0.mk A70
 clear A70
 have HC8 := Aside0.mk H
 clear H
 go_enter Tryd.func10, Tryd.ntmps10
 go_upto_region 3 with (first | ((with_reducible refine gate_dst (N := 7) rfl ?_); refine box_event ?hg (N := 7) ?hd (cs := #[.string a2_0, .string a2_1]) (t := 31) ?hr ?_; (case hd => rfl); (case hg => rfl); (case hr => exact Z188); intro gb297 hg w9 hbox hb; have n0_ := Aside0.mk (below_step Z140 hb); have n1_ := Aside0.mk (hbox); have n2_ := Aside0.mk ((Z108 : w.heap.size ≤ gb297)); have n3_ := Aside0.mk ((Z108 : w.heap.size ≤ gb297)); clear HB; have HB := n0_; have BK297 := n1_; have GW297 := n2_; have GE297 := n3_; clear n0_ n1_ n2_ n3_; clear hb hbox hg) | ((with_reducible refine gate_dst (N := 8) rfl ?_); refine box_event ?hg (N := 8) ?hd (cs := #[.string a3_0, .string a3_1]) (t := 31) ?hr ?_; (case hd => rfl); (case hg => rfl); (case hr => exact Z188); intro gb298 hg w10 hbox hb; have n0_ := Aside0.mk (blk_below (g := gb297) (o := .cells #[.string a2_0, .string a2_1] 31 (0, 0)) Z177 hb); have n1_ := Aside0.mk (below_step Z137 hb); have n2_ := Aside0.mk (hbox); have n3_ := Aside0.mk ((by rw [hg]; exact (below_size Z137) : w.heap.size ≤ gb298)); have n4_ := Aside0.mk ((by rw [hg]; exact (below_size Z137) : w.heap.size ≤ gb298)); have n5_ := Aside0.mk ((Z80 : gb297 ≠ gb298)); have n6_ := Aside0.mk ((Z81 : gb298 ≠ gb297)); clear BK297; clear HB; have BK297 := n0_; have HB := n1_; have BK298 := n2_; have GW298 := n3_; have GE298 := n4_; have NB297_298 := n5_; have NB298_297 := n6_; clear n0_ n1_ n2_ n3_ n4_ n5_ n6_; clear hb hbox hg) | ((with_reducible refine gate_dst (N := 9) rfl ?_); refine box_event ?hg (N := 9) ?hd (cs := #[.string a4_0, .string a4_1, .string a4_2, .string a4_3, .int .i64 a4_4, .bool a4_5]) (t := 37) ?hr ?_; (case hd => rfl); (case hg => rfl); (case hr => exact Z188); intro gb299 hg w11 hbox hb; have n0_ := Aside0.mk (blk_below (g := gb297) (o := .cells #[.string a2_0, .string a2_1] 31 (0, 0)) Z177 hb); have n1_ := Aside0.mk (blk_below (g := gb298) (o := .cells #[.string a3_0, .string a3_1] 31 (0, 0)) Z178 hb); have n2_ := Aside0.mk (below_step (by repeat (first | (with_reducible first | exact HB.out | apply below_alloc | apply pw_below_drewN | apply below_drew1 | refine below_set ?_ GE297.out | refine below_set ?_ GE298.out) | exact HB.out)) hb); have n3_ := Aside0.mk (hbox); have n4_ := Aside0.mk ((Z64 : w.heap.size ≤ gb299)); have n5_ := Aside0.mk ((Z64 : w.heap.size ≤ gb299)); have n6_ := Aside0.mk ((Z80 : gb297 ≠ gb299)); have n7_ := Aside0.mk ((Z81 : gb299 ≠ gb297)); have n8_ := Aside0.mk ((by rw [hg]; exact Nat.ne_of_lt (blk_lt (g := gb298) (o := .cells #[.string a3_0, .string a3_1] 31 (0, 0)) Z178) : gb298 ≠ gb299)); have n9_ := Aside0.mk ((by rw [hg]; exact Nat.ne_of_gt (blk_lt (g := gb298) (o := .cells #[.string a3_0, .string a3_1] 31 (0, 0)) Z178) : gb299 ≠ gb298)); clear BK297; clear BK298; clear HB; have BK297 := n0_; have BK298 := n1_; have HB := n2_; have BK299 := n3_; have GW299 := n4_; have GE299 := n5_; have NB297_299 := n6_; have NB299_297 := n7_; have NB298_299 := n8_; have NB299_298 := n9_; clear n0_ n1_ n2_ n3_ n4_ n5_ n6_ n7_ n8_ n9_; clear hb hbox hg; have hnb12 := NB299_297.out; have hnc12 := NB297_299.out; have hnb13 := NB299_298.out; have hnc13 := NB298_299.out; obtain ⟨hcz14_0, hcz14_1, hcz14_2, hcz14_3, hcz14_4, hcz14_5, hfz14_0, hfz14_1, hfz14_2, hfz14_3, hfz14_4, hfz14_5⟩ := bf6 BK299.out) | ((with_reducible refine gate_callee (f := 34) rfl ?_); refine goesL_ (some 21) rfl rfl Tryd.func34 (by kernel_rfl) rfl #[.slice A0 l0.length c0, .slice A1 l1.length c1, .agg #[.string a4_0, .string a4_1, .string a4_2, .string a4_3, .int .i64 a4_4, .bool a4_5]] rfl Z104 ?_; (with_reducible refine (interchangeref8_Find.calls k _ _ l0 _ _ l1 a4_0 a4_1 a4_2 a4_3 a4_4 a4_5 t300 t301 t302 _ ?side1 ?side2 ?side3 ?side4 A6.out).mono ?_); (case side1 => exact Z105); (case side2 => exact Z193); (case side3 => exact Z106); (case side4 => exact Z194); rintro e w15 ⟨rfl, hb⟩; refine ⟨_, rfl, ?_⟩; have n0_ := Aside0.mk (blk_below (g := gb297) (o := .cells #[.string a2_0, .string a2_1] 31 (0, 0)) Z177 hb); have n1_ := Aside0.mk (blk_below (g := gb298) (o := .cells #[.string a3_0, .string a3_1] 31 (0, 0)) Z178 hb); have n2_ := Aside0.mk (blk_below (g := gb299) (o := .cells #[.string a4_0, .string a4_1, .string a4_2, .string a4_3, .int .i64 a4_4, .bool a4_5] 37 (0, 0)) Z179 hb); have n3_ := Aside0.mk (below_step Z67 hb); clear BK297; clear BK298; clear BK299; clear HB; have BK297 := n0_; have BK298 := n1_; have BK299 := n2_; have HB := n3_; clear n0_ n1_ n2_ n3_; (try clear hb); (try clear hb2); (try clear hk); (try clear hi); obtain ⟨hcz16_0, hcz16_1, hcz16_2, hcz16_3, hcz16_4, hcz16_5, hfz16_0, hfz16_1, hfz16_2, hfz16_3, hfz16_4, hfz16_5⟩ := bf6 BK299.out) | ((with_reducible refine gate_callee (f := 29) rfl ?_); refine goesL_ (some 29) rfl rfl Tryd.func29 (by kernel_rfl) rfl #[.slice A0 l0.length c0, .slice A1 l1.length c1, .agg #[.string a4_0, .string a4_1, .string a4_2, .string a4_3, .int .i64 a4_4, .bool a4_5]] rfl Z104 ?_; (with_reducible refine (partner_Find.calls k _ _ l0 _ _ l1 a4_0 a4_1 a4_2 a4_3 a4_4 a4_5 t303 t304 t305 _ ?side1 ?side2 ?side3 ?side4 A7.out).mono ?_); (case side1 => exact Z105); (case side2 => exact Z193); (case side3 => exact Z106); (case side4 => exact Z194); rintro e w17 ⟨rfl, hb⟩; refine ⟨_, rfl, ?_⟩; have n0_ := Aside0.mk (blk_below (g := gb297) (o := .cells #[.string a2_0, .string a2_1] 31 (0, 0)) Z177 hb); have n1_ := Aside0.mk (blk_below (g := gb298) (o := .cells #[.string a3_0, .string a3_1] 31 (0, 0)) Z178 hb); have n2_ := Aside0.mk (blk_below (g := gb299) (o := .cells #[.string a4_0, .string a4_1, .string a4_2, .string a4_3, .int .i64 a4_4, .bool a4_5] 37 (0, 0)) Z179 hb); have n3_ := Aside0.mk (below_step Z67 hb); clear BK297; clear BK298; clear BK299; clear HB; have BK297 := n0_; have BK298 := n1_; have BK299 := n2_; have HB := n3_; clear n0_ n1_ n2_ n3_; (try clear hb); (try clear hb2); (try clear hk); (try clear hi)))
 (try simp only [Act.put, List.setIfInBounds_toArray, List.set_cons_zero, List.set_cons_succ])
 go_cut [54] (fun v54 wc => ∃ (kq : Nat) (x54_7 : Bool), v54 = .bool x54_7 ∧ Aside0 (interchangelaw8_PartnerFindsMatchSpec.j0 kq l0 l1 x54_7 a2_0 a2_1 a3_0 a3_1 a4_0 a4_1 a4_2 a4_3 a4_4 a4_5 = some r) ∧ Aside0 (kq ≤ k) ∧ Aside0 (wc.heap[gb297]? = some (.cells #[.string a2_0, .string a2_1] 31 (0, 0))) ∧ Aside0 (wc.heap[gb298]? = some (.cells #[.string a3_0, .string a3_1] 31 (0, 0))) ∧ Aside0 (wc.heap[gb299]? = some (.cells #[.string a4_0, .string a4_1, .string a4_2, .string a4_3, .int .i64 a4_4, .bool a4_5] 37 (0, 0))) ∧ Aside0 (Below w.heap.size w wc))
 case first =>
  have H := HC8.out
  clear HC8
  replace H := Option.bind_eq_some_iff.mp H
  obtain ⟨t306, A180, H⟩ := H
  replace H : ((partner_CheckAgreements.f k l0 l1).bind fun t307 => (if t306 = t307 then (if t305 = t302 then (if t303 = t300 then (interchangelaw8_PartnerFindsMatchSpec.j0 k l0 l1 (t304 != t301) a2_0 a2_1 a3_0 a3_1 a4_0 a4_1 a4_2 a4_3 a4_4 a4_5) else (interchangelaw8_PartnerFindsMatchSpec.j0 k l0 l1 true a2_0 a2_1 a3_0 a3_1 a4_0 a4_1 a4_2 a4_3 a4_4 a4_5)) else (interchangelaw8_PartnerFindsMatchSpec.j0 k l0 l1 true a2_0 a2_1 a3_0 a3_1 a4_0 a4_1 a4_2 a4_3 a4_4 a4_5)) else (interchangelaw8_PartnerFindsMatchSpec.j0 k l0 l1 true a2_0 a2_1 a3_0 a3_1 a4_0 a4_1 a4_2 a4_3 a4_4 a4_5))) = some r := H
  have A18 := Aside0.mk A180
  clear A180
  replace H := Option.bind_eq_some_iff.mp H
  obtain ⟨t307, A190, H⟩ := H
  replace H : (if t306 = t307 then (if t305 = t302 then (if t303 = t300 then (interchangelaw8_PartnerFindsMatchSpec.j0 k l0 l1 (t304 != t301) a2_0 a2_1 a3_0 a3_1 a4_0 a4_1 a4_2 a4_3 a4_4 a4_5) else (interchangelaw8_PartnerFindsMatchSpec.j0 k l0 l1 true a2_0 a2_1 a3_0 a3_1 a4_0 a4_1 a4_2 a4_3 a4_4 a4_5)) else (interchangelaw8_PartnerFindsMatchSpec.j0 k l0 l1 true a2_0 a2_1 a3_0 a3_1 a4_0 a4_1 a4_2 a4_3 a4_4 a4_5)) else (interchangelaw8_PartnerFindsMatchSpec.j0 k l0 l1 true a2_0 a2_1 a3_0 a3_1 a4_0 a4_1 a4_2 a4_3 a4_4 a4_5)) = some r := H
  have A19 := Aside0.mk A190
  clear A190
  by_cases c20 : t306 = t307
  ·rw [if_pos c20] at H
   have c20b0 : (t306 == t307) = true := beq_iff_eq.mpr c20
   have c20b1 : (t306 != t307) = false := bne_eq_false_iff_eq.mpr c20
   clear c20
   (first | rw [c20b0] | (simp only [i64_w, i32_w]; rw [c20b0]) | skip)
   by_cases c21 : t305 = t302
   ·rw [if_pos c21] at H
    have c21b0 : (t305 == t302) = true := beq_iff_eq.mpr c21
    have c21b1 : (t305 != t302) = false := bne_eq_false_iff_eq.mpr c21
    clear c21
    by_cases c22 : t303 = t300
    ·rw [if_pos c22] at H
     have c22b0 : (t303 == t300) = true := beq_iff_eq.mpr c22
     have c22b1 : (t303 != t300) = false := bne_eq_false_iff_eq.mpr c22
     clear c22
     have H' := Aside0.mk H
     clear H
     go_wp2_with (first | ((with_reducible refine gate_callee (f := 35) rfl ?_); refine goesL_ (some 35) rfl rfl Tryd.func35 (by kernel_rfl) rfl #[.slice A0 l0.length c0, .slice A1 l1.length c1] rfl Z104 ?_; (with_reducible refine (interchangeref8_CheckAgreements.calls k _ _ l0 _ _ l1 t306 _ ?side1 ?side2 ?side3 ?side4 A18.out).mono ?_); (case side1 => exact Z105); (case side2 => exact Z193); (case side3 => exact Z106); (case side4 => exact Z194); rintro e w23 ⟨rfl, hb⟩; refine ⟨_, rfl, ?_⟩; have n0_ := Aside0.mk (blk_below (g := gb297) (o := .cells #[.string a2_0, .string a2_1] 31 (0, 0)) Z177 hb); have n1_ := Aside0.mk (blk_below (g := gb298) (o := .cells #[.string a3_0, .string a3_1] 31 (0, 0)) Z178 hb); have n2_ := Aside0.mk (blk_below (g := gb299) (o := .cells #[.string a4_0, .string a4_1, .string a4_2, .string a4_3, .int .i64 a4_4, .bool a4_5] 37 (0, 0)) Z179 hb); have n3_ := Aside0.mk (below_step Z67 hb); clear BK297; clear BK298; clear BK299; clear HB; have BK297 := n0_; have BK298 := n1_; have BK299 := n2_; have HB := n3_; clear n0_ n1_ n2_ n3_; (try clear hb); (try clear hb2); (try clear hk); (try clear hi)) | ((with_reducible refine gate_callee (f := 36) rfl ?_); refine goesL_ (some 38) rfl rfl Tryd.func36 (by kernel_rfl) rfl #[.slice A0 l0.length c0, .slice A1 l1.length c1] rfl Z104 ?_; (with_reducible refine (partner_CheckAgreements.calls k _ _ l0 _ _ l1 t307 _ ?side1 ?side2 ?side3 ?side4 A19.out).mono ?_); (case side1 => exact Z105); (case side2 => exact Z193); (case side3 => exact Z106); (case side4 => exact Z194); rintro e w24 ⟨rfl, hb⟩; refine ⟨_, rfl, ?_⟩; have n0_ := Aside0.mk (blk_below (g := gb297) (o := .cells #[.string a2_0, .string a2_1] 31 (0, 0)) Z177 hb); have n1_ := Aside0.mk (blk_below (g := gb298) (o := .cells #[.string a3_0, .string a3_1] 31 (0, 0)) Z178 hb); have n2_ := Aside0.mk (blk_below (g := gb299) (o := .cells #[.string a4_0, .string a4_1, .string a4_2, .string a4_3, .int .i64 a4_4, .bool a4_5] 37 (0, 0)) Z179 hb); have n3_ := Aside0.mk (below_step Z67 hb); clear BK297; clear BK298; clear BK299; clear HB; have BK297 := n0_; have BK298 := n1_; have BK299 := n2_; have HB := n3_; clear n0_ n1_ n2_ n3_; (try clear hb); (try clear hb2); (try clear hk); (try clear hi)))
     go_meet
     case rel => exact ⟨_, ((t304 != t301)), Z183, H', ⟨Z190⟩, ⟨Z177⟩, ⟨Z178⟩, ⟨Z179⟩, ⟨Z67⟩⟩
    ·rw [if_neg c22] at H
     have c22b0 : (t303 == t300) = false := beq_eq_false_iff_ne.mpr c22
     have c22b1 : (t303 != t300) = true := bne_iff_ne.mpr c22
     have H' := Aside0.mk H
     clear H
     go_wp2_with (first | ((with_reducible refine gate_callee (f := 35) rfl ?_); refine goesL_ (some 35) rfl rfl Tryd.func35 (by kernel_rfl) rfl #[.slice A0 l0.length c0, .slice A1 l1.length c1] rfl Z104 ?_; (with_reducible refine (interchangeref8_CheckAgreements.calls k _ _ l0 _ _ l1 t306 _ ?side1 ?side2 ?side3 ?side4 A18.out).mono ?_); (case side1 => exact Z105); (case side2 => exact Z193); (case side3 => exact Z106); (case side4 => exact Z194); rintro e w25 ⟨rfl, hb⟩; refine ⟨_, rfl, ?_⟩; have n0_ := Aside0.mk (blk_below (g := gb297) (o := .cells #[.string a2_0, .string a2_1] 31 (0, 0)) Z177 hb); have n1_ := Aside0.mk (blk_below (g := gb298) (o := .cells #[.string a3_0, .string a3_1] 31 (0, 0)) Z178 hb); have n2_ := Aside0.mk (blk_below (g := gb299) (o := .cells #[.string a4_0, .string a4_1, .string a4_2, .string a4_3, .int .i64 a4_4, .bool a4_5] 37 (0, 0)) Z179 hb); have n3_ := Aside0.mk (below_step Z67 hb); clear BK297; clear BK298; clear BK299; clear HB; have BK297 := n0_; have BK298 := n1_; have BK299 := n2_; have HB := n3_; clear n0_ n1_ n2_ n3_; (try clear hb); (try clear hb2); (try clear hk); (try clear hi)) | ((with_reducible refine gate_callee (f := 36) rfl ?_); refine goesL_ (some 38) rfl rfl Tryd.func36 (by kernel_rfl) rfl #[.slice A0 l0.length c0, .slice A1 l1.length c1] rfl Z104 ?_; (with_reducible refine (partner_CheckAgreements.calls k _ _ l0 _ _ l1 t307 _ ?side1 ?side2 ?side3 ?side4 A19.out).mono ?_); (case side1 => exact Z105); (case side2 => exact Z193); (case side3 => exact Z106); (case side4 => exact Z194); rintro e w26 ⟨rfl, hb⟩; refine ⟨_, rfl, ?_⟩; have n0_ := Aside0.mk (blk_below (g := gb297) (o := .cells #[.string a2_0, .string a2_1] 31 (0, 0)) Z177 hb); have n1_ := Aside0.mk (blk_below (g := gb298) (o := .cells #[.string a3_0, .string a3_1] 31 (0, 0)) Z178 hb); have n2_ := Aside0.mk (blk_below (g := gb299) (o := .cells #[.string a4_0, .string a4_1, .string a4_2, .string a4_3, .int .i64 a4_4, .bool a4_5] 37 (0, 0)) Z179 hb); have n3_ := Aside0.mk (below_step Z67 hb); clear BK297; clear BK298; clear BK299; clear HB; have BK297 := n0_; have BK298 := n1_; have BK299 := n2_; have HB := n3_; clear n0_ n1_ n2_ n3_; (try clear hb); (try clear hb2); (try clear hk); (try clear hi)))
     go_meet
     case rel => exact ⟨_, (true), Z183, H', ⟨Z190⟩, ⟨Z177⟩, ⟨Z178⟩, ⟨Z179⟩, ⟨Z67⟩⟩
   ·rw [if_neg c21] at H
    have c21b0 : (t305 == t302) = false := beq_eq_false_iff_ne.mpr c21
    have c21b1 : (t305 != t302) = true := bne_iff_ne.mpr c21
    have H' := Aside0.mk H
    clear H
    go_wp2_with (first | ((with_reducible refine gate_callee (f := 35) rfl ?_); refine goesL_ (some 35) rfl rfl Tryd.func35 (by kernel_rfl) rfl #[.slice A0 l0.length c0, .slice A1 l1.length c1] rfl Z104 ?_; (with_reducible refine (interchangeref8_CheckAgreements.calls k _ _ l0 _ _ l1 t306 _ ?side1 ?side2 ?side3 ?side4 A18.out).mono ?_); (case side1 => exact Z105); (case side2 => exact Z193); (case side3 => exact Z106); (case side4 => exact Z194); rintro e w27 ⟨rfl, hb⟩; refine ⟨_, rfl, ?_⟩; have n0_ := Aside0.mk (blk_below (g := gb297) (o := .cells #[.string a2_0, .string a2_1] 31 (0, 0)) Z177 hb); have n1_ := Aside0.mk (blk_below (g := gb298) (o := .cells #[.string a3_0, .string a3_1] 31 (0, 0)) Z178 hb); have n2_ := Aside0.mk (blk_below (g := gb299) (o := .cells #[.string a4_0, .string a4_1, .string a4_2, .string a4_3, .int .i64 a4_4, .bool a4_5] 37 (0, 0)) Z179 hb); have n3_ := Aside0.mk (below_step Z67 hb); clear BK297; clear BK298; clear BK299; clear HB; have BK297 := n0_; have BK298 := n1_; have BK299 := n2_; have HB := n3_; clear n0_ n1_ n2_ n3_; (try clear hb); (try clear hb2); (try clear hk); (try clear hi)) | ((with_reducible refine gate_callee (f := 36) rfl ?_); refine goesL_ (some 38) rfl rfl Tryd.func36 (by kernel_rfl) rfl #[.slice A0 l0.length c0, .slice A1 l1.length c1] rfl Z104 ?_; (with_reducible refine (partner_CheckAgreements.calls k _ _ l0 _ _ l1 t307 _ ?side1 ?side2 ?side3 ?side4 A19.out).mono ?_); (case side1 => exact Z105); (case side2 => exact Z193); (case side3 => exact Z106); (case side4 => exact Z194); rintro e w28 ⟨rfl, hb⟩; refine ⟨_, rfl, ?_⟩; have n0_ := Aside0.mk (blk_below (g := gb297) (o := .cells #[.string a2_0, .string a2_1] 31 (0, 0)) Z177 hb); have n1_ := Aside0.mk (blk_below (g := gb298) (o := .cells #[.string a3_0, .string a3_1] 31 (0, 0)) Z178 hb); have n2_ := Aside0.mk (blk_below (g := gb299) (o := .cells #[.string a4_0, .string a4_1, .string a4_2, .string a4_3, .int .i64 a4_4, .bool a4_5] 37 (0, 0)) Z179 hb); have n3_ := Aside0.mk (below_step Z67 hb); clear BK297; clear BK298; clear BK299; clear HB; have BK297 := n0_; have BK298 := n1_; have BK299 := n2_; have HB := n3_; clear n0_ n1_ n2_ n3_; (try clear hb); (try clear hb2); (try clear hk); (try clear hi)))
    go_meet
    case rel => exact ⟨_, (true), Z183, H', ⟨Z190⟩, ⟨Z177⟩, ⟨Z178⟩, ⟨Z179⟩, ⟨Z67⟩⟩
  ·rw [if_neg c20] at H
   have c20b0 : (t306 == t307) = false := beq_eq_false_iff_ne.mpr c20
   have c20b1 : (t306 != t307) = true := bne_iff_ne.mpr c20
   (first | rw [c20b0] | (simp only [i64_w, i32_w]; rw [c20b0]) | skip)
   have H' := Aside0.mk H
   clear H
   go_wp2_with (first | ((with_reducible refine gate_callee (f := 35) rfl ?_); refine goesL_ (some 35) rfl rfl Tryd.func35 (by kernel_rfl) rfl #[.slice A0 l0.length c0, .slice A1 l1.length c1] rfl Z104 ?_; (with_reducible refine (interchangeref8_CheckAgreements.calls k _ _ l0 _ _ l1 t306 _ ?side1 ?side2 ?side3 ?side4 A18.out).mono ?_); (case side1 => exact Z105); (case side2 => exact Z193); (case side3 => exact Z106); (case side4 => exact Z194); rintro e w29 ⟨rfl, hb⟩; refine ⟨_, rfl, ?_⟩; have n0_ := Aside0.mk (blk_below (g := gb297) (o := .cells #[.string a2_0, .string a2_1] 31 (0, 0)) Z177 hb); have n1_ := Aside0.mk (blk_below (g := gb298) (o := .cells #[.string a3_0, .string a3_1] 31 (0, 0)) Z178 hb); have n2_ := Aside0.mk (blk_below (g := gb299) (o := .cells #[.string a4_0, .string a4_1, .string a4_2, .string a4_3, .int .i64 a4_4, .bool a4_5] 37 (0, 0)) Z179 hb); have n3_ := Aside0.mk (below_step Z67 hb); clear BK297; clear BK298; clear BK299; clear HB; have BK297 := n0_; have BK298 := n1_; have BK299 := n2_; have HB := n3_; clear n0_ n1_ n2_ n3_; (try clear hb); (try clear hb2); (try clear hk); (try clear hi)) | ((with_reducible refine gate_callee (f := 36) rfl ?_); refine goesL_ (some 38) rfl rfl Tryd.func36 (by kernel_rfl) rfl #[.slice A0 l0.length c0, .slice A1 l1.length c1] rfl Z104 ?_; (with_reducible refine (partner_CheckAgreements.calls k _ _ l0 _ _ l1 t307 _ ?side1 ?side2 ?side3 ?side4 A19.out).mono ?_); (case side1 => exact Z105); (case side2 => exact Z193); (case side3 => exact Z106); (case side4 => exact Z194); rintro e w30 ⟨rfl, hb⟩; refine ⟨_, rfl, ?_⟩; have n0_ := Aside0.mk (blk_below (g := gb297) (o := .cells #[.string a2_0, .string a2_1] 31 (0, 0)) Z177 hb); have n1_ := Aside0.mk (blk_below (g := gb298) (o := .cells #[.string a3_0, .string a3_1] 31 (0, 0)) Z178 hb); have n2_ := Aside0.mk (blk_below (g := gb299) (o := .cells #[.string a4_0, .string a4_1, .string a4_2, .string a4_3, .int .i64 a4_4, .bool a4_5] 37 (0, 0)) Z179 hb); have n3_ := Aside0.mk (below_step Z67 hb); clear BK297; clear BK298; clear BK299; clear HB; have BK297 := n0_; have BK298 := n1_; have BK299 := n2_; have HB := n3_; clear n0_ n1_ n2_ n3_; (try clear hb); (try clear hb2); (try clear hk); (try clear hi)))
   go_meet
   case rel => exact ⟨_, (true), Z183, H', ⟨Z190⟩, ⟨Z177⟩, ⟨Z178⟩, ⟨Z179⟩, ⟨Z67⟩⟩
 case rest =>
  clear HC8
  try clear c1
  try clear c2
  try clear p2
  try clear c3
  try clear c10
  try clear c12
  try clear c13
  try clear c20
  try clear c20b0
  try clear c20b1
  try clear c21
  try clear c21b0
  try clear c21b1
  try clear c22
  try clear c22b0
  try clear c22b1
  try clear c29
  try clear hcz14_0
  try clear hcz14_1
  try clear hcz14_2
  try clear hcz14_3
  try clear hcz14_4
  try clear hcz14_5
  try clear hcz16_0
  try clear hcz16_1
  try clear hcz16_2
  try clear hcz16_3
  try clear hcz16_4
  try clear hcz16_5
  try clear hfz14_0
  try clear hfz14_1
  try clear hfz14_2
  try clear hfz14_3
  try clear hfz14_4
  try clear hfz14_5
  try clear hfz16_0
  try clear hfz16_1
  try clear hfz16_2
  try clear hfz16_3
  try clear hfz16_4
  try clear hfz16_5
  obtain ⟨kq, x54_7, rfl, HA, HJ7, BK297, BK298, BK299, HB⟩ := hcut
  cases kq with
  | zero => exact absurd HA.out (by simp [interchangelaw8_PartnerFindsMatchSpec.j0])
  | succ kj7 =>
   have H := HA.out
   clear HA
   simp only [interchangelaw8_PartnerFindsMatchSpec.j0] at H
   by_cases c31 : x54_7 = true
   ·subst c31
    have H1 : (some false) = some r := by rw [if_pos rfl] at H; exact H
    clear H
    have H := H1
    clear H1
    obtain rfl := Option.some.inj H
    go_wp2
    go_ret
    exact ⟨Z138, Z67⟩
   ·replace c31 := Bool.eq_false_iff.mpr c31
    subst c31
    have H1 : ((interchangeref8_Found.f kj7 l0 l1 a2_0 a2_1 a3_0 a3_1 a4_0 a4_1 a4_2 a4_3 a4_4 a4_5).bind fun bt308 => ((partner_Found.f kj7 l0 l1 a2_0 a2_1 a3_0 a3_1 a4_0 a4_1 a4_2 a4_3 a4_4 a4_5).bind fun bt311 => (if bt311.2.2 = bt308.2.2 then (if bt311.1 = bt308.1 then (interchangelaw8_PartnerFindsMatchSpec.j1 kj7 l0 l1 (bt311.2.1 != bt308.2.1) a2_0 a2_1 a3_0 a3_1 a4_0 a4_1 a4_2 a4_3 a4_4 a4_5) else (interchangelaw8_PartnerFindsMatchSpec.j1 kj7 l0 l1 true a2_0 a2_1 a3_0 a3_1 a4_0 a4_1 a4_2 a4_3 a4_4 a4_5)) else (interchangelaw8_PartnerFindsMatchSpec.j1 kj7 l0 l1 true a2_0 a2_1 a3_0 a3_1 a4_0 a4_1 a4_2 a4_3 a4_4 a4_5)))) = some r := by rw [if_neg (show ¬ (false = true) by decide)] at H; exact H
    clear H
    have H := H1
    clear H1
    replace H := Option.bind_eq_some_iff.mp H
    obtain ⟨⟨t308, t309, t310⟩, A320, H⟩ := H
    replace H : ((partner_Found.f kj7 l0 l1 a2_0 a2_1 a3_0 a3_1 a4_0 a4_1 a4_2 a4_3 a4_4 a4_5).bind fun bt311 => (if bt311.2.2 = t310 then (if bt311.1 = t308 then (interchangelaw8_PartnerFindsMatchSpec.j1 kj7 l0 l1 (bt311.2.1 != t309) a2_0 a2_1 a3_0 a3_1 a4_0 a4_1 a4_2 a4_3 a4_4 a4_5) else (interchangelaw8_PartnerFindsMatchSpec.j1 kj7 l0 l1 true a2_0 a2_1 a3_0 a3_1 a4_0 a4_1 a4_2 a4_3 a4_4 a4_5)) else (interchangelaw8_PartnerFindsMatchSpec.j1 kj7 l0 l1 true a2_0 a2_1 a3_0 a3_1 a4_0 a4_1 a4_2 a4_3 a4_4 a4_5))) = some r := H
    have A32 := Aside0.mk A320
    clear A320
    replace H := Option.bind_eq_some_iff.mp H
    obtain ⟨⟨t311, t312, t313⟩, A330, H⟩ := H
    replace H : (if t313 = t310 then (if t311 = t308 then (interchangelaw8_PartnerFindsMatchSpec.j1 kj7 l0 l1 (t312 != t309) a2_0 a2_1 a3_0 a3_1 a4_0 a4_1 a4_2 a4_3 a4_4 a4_5) else (interchangelaw8_PartnerFindsMatchSpec.j1 kj7 l0 l1 true a2_0 a2_1 a3_0 a3_1 a4_0 a4_1 a4_2 a4_3 a4_4 a4_5)) else (interchangelaw8_PartnerFindsMatchSpec.j1 kj7 l0 l1 true a2_0 a2_1 a3_0 a3_1 a4_0 a4_1 a4_2 a4_3 a4_4 a4_5)) = some r := H
    have A33 := Aside0.mk A330
    clear A330
    have HC34 := Aside0.mk H
    clear H
    have hnb35 := NB297_298.out
    have hnc35 := NB298_297.out
    have hnb36 := NB297_299.out
    have hnc36 := NB299_297.out
    have hcz37_0 : wc.cell? ⟨gb297, 0, none⟩ = some (.string a2_0) := (blk_cell BK297.out 0).trans rfl
    have hcz37_1 : wc.cell? ⟨gb297, 1, none⟩ = some (.string a2_1) := (blk_cell BK297.out 1).trans rfl
    have hfz37_0 := blk_frozen BK297.out 0
    have hfz37_1 := blk_frozen BK297.out 1
    have hnb38 := NB298_299.out
    have hnc38 := NB299_298.out
    have hcz39_0 : wc.cell? ⟨gb298, 0, none⟩ = some (.string a3_0) := (blk_cell BK298.out 0).trans rfl
    have hcz39_1 : wc.cell? ⟨gb298, 1, none⟩ = some (.string a3_1) := (blk_cell BK298.out 1).trans rfl
    have hfz39_0 := blk_frozen BK298.out 0
    have hfz39_1 := blk_frozen BK298.out 1
    have hcz40_0 : wc.cell? ⟨gb299, 0, none⟩ = some (.string a4_0) := (blk_cell BK299.out 0).trans rfl
    have hcz40_1 : wc.cell? ⟨gb299, 1, none⟩ = some (.string a4_1) := (blk_cell BK299.out 1).trans rfl
    have hcz40_2 : wc.cell? ⟨gb299, 2, none⟩ = some (.string a4_2) := (blk_cell BK299.out 2).trans rfl
    have hcz40_3 : wc.cell? ⟨gb299, 3, none⟩ = some (.string a4_3) := (blk_cell BK299.out 3).trans rfl
    have hcz40_4 : wc.cell? ⟨gb299, 4, none⟩ = some (.int .i64 a4_4) := (blk_cell BK299.out 4).trans rfl
    have hcz40_5 : wc.cell? ⟨gb299, 5, none⟩ = some (.bool a4_5) := (blk_cell BK299.out 5).trans rfl
    have hfz40_0 := blk_frozen BK299.out 0
    have hfz40_1 := blk_frozen BK299.out 1
    have hfz40_2 := blk_frozen BK299.out 2
    have hfz40_3 := blk_frozen BK299.out 3
    have hfz40_4 := blk_frozen BK299.out 4
    have hfz40_5 := blk_frozen BK299.out 5
    go_upto_region 7 with (first | ((with_reducible refine gate_callee (f := 37) rfl ?_); refine goesL_ (some 61) rfl rfl Tryd.func37 (by kernel_rfl) rfl #[.slice A0 l0.length c0, .slice A1 l1.length c1, .agg #[.string a2_0, .string a2_1], .agg #[.string a3_0, .string a3_1], .agg #[.string a4_0, .string a4_1, .string a4_2, .string a4_3, .int .i64 a4_4, .bool a4_5]] rfl Z104 ?_; (with_reducible refine (interchangeref8_Found.calls kj7 _ _ l0 _ _ l1 a2_0 a2_1 a3_0 a3_1 a4_0 a4_1 a4_2 a4_3 a4_4 a4_5 t308 t309 t310 _ ?side1 ?side2 ?side3 ?side4 A32.out).mono ?_); (case side1 => exact Z105); (case side2 => exact Z193); (case side3 => exact Z106); (case side4 => exact Z194); rintro e w41 ⟨rfl, hb⟩; refine ⟨_, rfl, ?_⟩; have n0_ := Aside0.mk (blk_below (g := gb297) (o := .cells #[.string a2_0, .string a2_1] 31 (0, 0)) Z177 hb); have n1_ := Aside0.mk (blk_below (g := gb298) (o := .cells #[.string a3_0, .string a3_1] 31 (0, 0)) Z178 hb); have n2_ := Aside0.mk (blk_below (g := gb299) (o := .cells #[.string a4_0, .string a4_1, .string a4_2, .string a4_3, .int .i64 a4_4, .bool a4_5] 37 (0, 0)) Z179 hb); have n3_ := Aside0.mk (below_step Z67 hb); clear BK297; clear BK298; clear BK299; clear HB; have BK297 := n0_; have BK298 := n1_; have BK299 := n2_; have HB := n3_; clear n0_ n1_ n2_ n3_; (try clear hb); (try clear hb2); (try clear hk); (try clear hi); obtain ⟨hcz42_0, hcz42_1, hfz42_0, hfz42_1⟩ := bf2 BK297.out; obtain ⟨hcz43_0, hcz43_1, hfz43_0, hfz43_1⟩ := bf2 BK298.out; obtain ⟨hcz44_0, hcz44_1, hcz44_2, hcz44_3, hcz44_4, hcz44_5, hfz44_0, hfz44_1, hfz44_2, hfz44_3, hfz44_4, hfz44_5⟩ := bf6 BK299.out) | ((with_reducible refine gate_callee (f := 38) rfl ?_); refine goesL_ (some 71) rfl rfl Tryd.func38 (by kernel_rfl) rfl #[.slice A0 l0.length c0, .slice A1 l1.length c1, .agg #[.string a2_0, .string a2_1], .agg #[.string a3_0, .string a3_1], .agg #[.string a4_0, .string a4_1, .string a4_2, .string a4_3, .int .i64 a4_4, .bool a4_5]] rfl Z104 ?_; (with_reducible refine (partner_Found.calls kj7 _ _ l0 _ _ l1 a2_0 a2_1 a3_0 a3_1 a4_0 a4_1 a4_2 a4_3 a4_4 a4_5 t311 t312 t313 _ ?side1 ?side2 ?side3 ?side4 A33.out).mono ?_); (case side1 => exact Z105); (case side2 => exact Z193); (case side3 => exact Z106); (case side4 => exact Z194); rintro e w45 ⟨rfl, hb⟩; refine ⟨_, rfl, ?_⟩; have n0_ := Aside0.mk (blk_below (g := gb297) (o := .cells #[.string a2_0, .string a2_1] 31 (0, 0)) Z177 hb); have n1_ := Aside0.mk (blk_below (g := gb298) (o := .cells #[.string a3_0, .string a3_1] 31 (0, 0)) Z178 hb); have n2_ := Aside0.mk (blk_below (g := gb299) (o := .cells #[.string a4_0, .string a4_1, .string a4_2, .string a4_3, .int .i64 a4_4, .bool a4_5] 37 (0, 0)) Z179 hb); have n3_ := Aside0.mk (below_step Z67 hb); clear BK297; clear BK298; clear BK299; clear HB; have BK297 := n0_; have BK298 := n1_; have BK299 := n2_; have HB := n3_; clear n0_ n1_ n2_ n3_; (try clear hb); (try clear hb2); (try clear hk); (try clear hi)))
    (try simp only [Act.put, List.setIfInBounds_toArray, List.set_cons_zero, List.set_cons_succ])
    go_cut [87] (fun v87 wc => ∃ (kq : Nat) (x87_33 : Bool), v87 = .bool x87_33 ∧ Aside0 (interchangelaw8_PartnerFindsMatchSpec.j1 kq l0 l1 x87_33 a2_0 a2_1 a3_0 a3_1 a4_0 a4_1 a4_2 a4_3 a4_4 a4_5 = some r) ∧ Aside0 (kq ≤ kj7) ∧ Aside0 (wc.heap[gb297]? = some (.cells #[.string a2_0, .string a2_1] 31 (0, 0))) ∧ Aside0 (wc.heap[gb298]? = some (.cells #[.string a3_0, .string a3_1] 31 (0, 0))) ∧ Aside0 (wc.heap[gb299]? = some (.cells #[.string a4_0, .string a4_1, .string a4_2, .string a4_3, .int .i64 a4_4, .bool a4_5] 37 (0, 0))) ∧ Aside0 (Below w.heap.size w wc))
    case first =>
     have H := HC34.out
     clear HC34
     by_cases c46 : t313 = t310
     ·rw [if_pos c46] at H
      have c46b0 : (t313 == t310) = true := beq_iff_eq.mpr c46
      have c46b1 : (t313 != t310) = false := bne_eq_false_iff_eq.mpr c46
      clear c46
      (first | rw [c46b0] | (simp only [i64_w, i32_w]; rw [c46b0]) | skip)
      by_cases c47 : t311 = t308
      ·rw [if_pos c47] at H
       have c47b0 : (t311 == t308) = true := beq_iff_eq.mpr c47
       have c47b1 : (t311 != t308) = false := bne_eq_false_iff_eq.mpr c47
       clear c47
       have H' := Aside0.mk H
       clear H
       go_wp2
       go_meet
       case rel => exact ⟨_, ((t312 != t309)), Z183, H', ⟨by have := HJ7.out; first | omega | exact Nat.le_refl _⟩, ⟨Z177⟩, ⟨Z178⟩, ⟨Z179⟩, ⟨Z67⟩⟩
      ·rw [if_neg c47] at H
       have c47b0 : (t311 == t308) = false := beq_eq_false_iff_ne.mpr c47
       have c47b1 : (t311 != t308) = true := bne_iff_ne.mpr c47
       have H' := Aside0.mk H
       clear H
       go_wp2
       go_meet
       case rel => exact ⟨_, (true), Z183, H', ⟨by have := HJ7.out; first | omega | exact Nat.le_refl _⟩, ⟨Z177⟩, ⟨Z178⟩, ⟨Z179⟩, ⟨Z67⟩⟩
     ·rw [if_neg c46] at H
      have c46b0 : (t313 == t310) = false := beq_eq_false_iff_ne.mpr c46
      have c46b1 : (t313 != t310) = true := bne_iff_ne.mpr c46
      (first | rw [c46b0] | (simp only [i64_w, i32_w]; rw [c46b0]) | skip)
      have H' := Aside0.mk H
      clear H
      go_wp2
      go_meet
      case rel => exact ⟨_, (true), Z183, H', ⟨by have := HJ7.out; first | omega | exact Nat.le_refl _⟩, ⟨Z177⟩, ⟨Z178⟩, ⟨Z179⟩, ⟨Z67⟩⟩
    case rest =>
     clear HC34
     try clear c1
     try clear c2
     try clear p2
     try clear c3
     try clear c4
     try clear c10
     try clear c12
     try clear c13
     try clear c20
     try clear c20b0
     try clear c20b1
     try clear c21
     try clear c21b0
     try clear c21b1
     try clear c22
     try clear c22b0
     try clear c22b1
     try clear c29
     try clear c31
     try clear c34
     try clear c35
     try clear c36
     try clear c37
     try clear c38
     try clear c46
     try clear c46b0
     try clear c46b1
     try clear c47
     try clear c47b0
     try clear c47b1
     try clear hcz14_0
     try clear hcz14_1
     try clear hcz14_2
     try clear hcz14_3
     try clear hcz14_4
     try clear hcz14_5
     try clear hcz16_0
     try clear hcz16_1
     try clear hcz16_2
     try clear hcz16_3
     try clear hcz16_4
     try clear hcz16_5
     try clear hcz37_0
     try clear hcz37_1
     try clear hcz39_0
     try clear hcz39_1
     try clear hcz40_0
     try clear hcz40_1
     try clear hcz40_2
     try clear hcz40_3
     try clear hcz40_4
     try clear hcz40_5
     try clear hcz42_0
     try clear hcz42_1
     try clear hcz43_0
     try clear hcz43_1
     try clear hcz44_0
     try clear hcz44_1
     try clear hcz44_2
     try clear hcz44_3
     try clear hcz44_4
     try clear hcz44_5
     try clear hfz14_0
     try clear hfz14_1
     try clear hfz14_2
     try clear hfz14_3
     try clear hfz14_4
     try clear hfz14_5
     try clear hfz16_0
     try clear hfz16_1
     try clear hfz16_2
     try clear hfz16_3
     try clear hfz16_4
     try clear hfz16_5
     try clear hfz37_0
     try clear hfz37_1
     try clear hfz39_0
     try clear hfz39_1
     try clear hfz40_0
     try clear hfz40_1
     try clear hfz40_2
     try clear hfz40_3
     try clear hfz40_4
     try clear hfz40_5
     try clear hfz42_0
     try clear hfz42_1
     try clear hfz43_0
     try clear hfz43_1
     try clear hfz44_0
     try clear hfz44_1
     try clear hfz44_2
     try clear hfz44_3
     try clear hfz44_4
     try clear hfz44_5
     try clear p2
     obtain ⟨kq, x87_33, rfl, HA, HJ33, BK297, BK298, BK299, HB⟩ := hcut
     cases kq with
     | zero => exact absurd HA.out (by simp [interchangelaw8_PartnerFindsMatchSpec.j1])
     | succ kj33 =>
      have H := HA.out
      clear HA
      simp only [interchangelaw8_PartnerFindsMatchSpec.j1] at H
      by_cases c48 : x87_33 = true
      ·subst c48
       have H1 : (some false) = some r := by rw [if_pos rfl] at H; exact H
       clear H
       have H := H1
       clear H1
       obtain rfl := Option.some.inj H
       go_wp2
       go_ret
       exact ⟨Z138, Z67⟩
      ·replace c48 := Bool.eq_false_iff.mpr c48
       subst c48
       have H1 : ((interchangeref8_Found.f kj33 l0 l1 a2_0 a2_1 a3_0 a3_1 (⟨#[]⟩ : ByteArray) (⟨#[]⟩ : ByteArray) a4_2 a4_3 a4_4 a4_5).bind fun bt314 => ((partner_Found.f kj33 l0 l1 a2_0 a2_1 a3_0 a3_1 (⟨#[]⟩ : ByteArray) (⟨#[]⟩ : ByteArray) a4_2 a4_3 a4_4 a4_5).bind fun bt317 => (if bt317.2.2 = bt314.2.2 then (if bt317.1 = bt314.1 then (if (bt317.2.1 == bt314.2.1) = true then ((interchangelaw8_awake.f).bind fun t320 => (some t320)) else (some false)) else (some false)) else (some false)))) = some r := by rw [if_neg (show ¬ (false = true) by decide)] at H; exact H
       clear H
       have H := H1
       clear H1
       replace H := Option.bind_eq_some_iff.mp H
       obtain ⟨⟨t314, t315, t316⟩, A490, H⟩ := H
       replace H : ((partner_Found.f kj33 l0 l1 a2_0 a2_1 a3_0 a3_1 (⟨#[]⟩ : ByteArray) (⟨#[]⟩ : ByteArray) a4_2 a4_3 a4_4 a4_5).bind fun bt317 => (if bt317.2.2 = t316 then (if bt317.1 = t314 then (if (bt317.2.1 == t315) = true then ((interchangelaw8_awake.f).bind fun t320 => (some t320)) else (some false)) else (some false)) else (some false))) = some r := H
       have A49 := Aside0.mk A490
       clear A490
       replace H := Option.bind_eq_some_iff.mp H
       obtain ⟨⟨t317, t318, t319⟩, A500, H⟩ := H
       replace H : (if t319 = t316 then (if t317 = t314 then (if (t318 == t315) = true then ((interchangelaw8_awake.f).bind fun t320 => (some t320)) else (some false)) else (some false)) else (some false)) = some r := H
       have A50 := Aside0.mk A500
       clear A500
       by_cases c51 : t319 = t316
       ·rw [if_pos c51] at H
        have c51b0 : (t319 == t316) = true := beq_iff_eq.mpr c51
        have c51b1 : (t319 != t316) = false := bne_eq_false_iff_eq.mpr c51
        clear c51
        by_cases c52 : t317 = t314
        ·rw [if_pos c52] at H
         have c52b0 : (t317 == t314) = true := beq_iff_eq.mpr c52
         have c52b1 : (t317 != t314) = false := bne_eq_false_iff_eq.mpr c52
         clear c52
         by_cases c53 : (t318 == t315) = true
         ·rw [if_pos c53] at H
          have c53b0 : (t318 == t315) = true := c53
          (try (have c53b1 : decide (t318 = t315) = true := by simpa using c53))
          (try (have c53b2 : (t318 == t315) = true := by simpa using c53))
          clear c53
          replace H := Option.bind_eq_some_iff.mp H
          obtain ⟨t320, A540, H⟩ := H
          replace H : (some t320) = some r := H
          have A54 := Aside0.mk A540
          clear A540
          obtain rfl := Option.some.inj H
          have hnb55 := NB299_297.out
          have hnc55 := NB297_299.out
          have hnb56 := NB299_298.out
          have hnc56 := NB298_299.out
          have hcz57_0 : wc.cell? ⟨gb299, 0, none⟩ = some (.string a4_0) := (blk_cell BK299.out 0).trans rfl
          have hcz57_1 : wc.cell? ⟨gb299, 1, none⟩ = some (.string a4_1) := (blk_cell BK299.out 1).trans rfl
          have hcz57_2 : wc.cell? ⟨gb299, 2, none⟩ = some (.string a4_2) := (blk_cell BK299.out 2).trans rfl
          have hcz57_3 : wc.cell? ⟨gb299, 3, none⟩ = some (.string a4_3) := (blk_cell BK299.out 3).trans rfl
          have hcz57_4 : wc.cell? ⟨gb299, 4, none⟩ = some (.int .i64 a4_4) := (blk_cell BK299.out 4).trans rfl
          have hcz57_5 : wc.cell? ⟨gb299, 5, none⟩ = some (.bool a4_5) := (blk_cell BK299.out 5).trans rfl
          have hfz57_0 := blk_frozen BK299.out 0
          have hfz57_1 := blk_frozen BK299.out 1
          have hfz57_2 := blk_frozen BK299.out 2
          have hfz57_3 := blk_frozen BK299.out 3
          have hfz57_4 := blk_frozen BK299.out 4
          have hfz57_5 := blk_frozen BK299.out 5
          have hnb58 := NB297_298.out
          have hnc58 := NB298_297.out
          have hcz59_0 : wc.cell? ⟨gb297, 0, none⟩ = some (.string a2_0) := (blk_cell BK297.out 0).trans rfl
          have hcz59_1 : wc.cell? ⟨gb297, 1, none⟩ = some (.string a2_1) := (blk_cell BK297.out 1).trans rfl
          have hfz59_0 := blk_frozen BK297.out 0
          have hfz59_1 := blk_frozen BK297.out 1
          have hcz60_0 : wc.cell? ⟨gb298, 0, none⟩ = some (.string a3_0) := (blk_cell BK298.out 0).trans rfl
          have hcz60_1 : wc.cell? ⟨gb298, 1, none⟩ = some (.string a3_1) := (blk_cell BK298.out 1).trans rfl
          have hfz60_0 := blk_frozen BK298.out 0
          have hfz60_1 := blk_frozen BK298.out 1
          go_wp2_with (first | ((with_reducible refine gate_callee (f := 37) rfl ?_); refine goesL_ (some 96) rfl rfl Tryd.func37 (by kernel_rfl) rfl #[.slice A0 l0.length c0, .slice A1 l1.length c1, .agg #[.string a2_0, .string a2_1], .agg #[.string a3_0, .string a3_1], .agg #[.string (⟨#[]⟩ : ByteArray), .string (⟨#[]⟩ : ByteArray), .string a4_2, .string a4_3, .int .i64 a4_4, .bool a4_5]] rfl Z104 ?_; (with_reducible refine (interchangeref8_Found.calls kj33 _ _ l0 _ _ l1 a2_0 a2_1 a3_0 a3_1 (⟨#[]⟩ : ByteArray) (⟨#[]⟩ : ByteArray) a4_2 a4_3 a4_4 a4_5 t314 t315 t316 _ ?side1 ?side2 ?side3 ?side4 A49.out).mono ?_); (case side1 => exact Z56); (case side2 => exact Z193); (case side3 => exact Z57); (case side4 => exact Z194); rintro e w61 ⟨rfl, hb⟩; refine ⟨_, rfl, ?_⟩; have n0_ := Aside0.mk (blk_below (g := gb297) (o := .cells #[.string a2_0, .string a2_1] 31 (0, 0)) Z27 hb); have n1_ := Aside0.mk (blk_below (g := gb298) (o := .cells #[.string a3_0, .string a3_1] 31 (0, 0)) Z28 hb); have n2_ := Aside0.mk (blk_below (g := gb299) (o := .cells #[.string (⟨#[]⟩ : ByteArray), .string (⟨#[]⟩ : ByteArray), .string a4_2, .string a4_3, .int .i64 a4_4, .bool a4_5] 37 (0, 0)) Z6 hb); have n3_ := Aside0.mk (below_step Z67 hb); clear BK297; clear BK298; clear BK299; clear HB; have BK297 := n0_; have BK298 := n1_; have BK299 := n2_; have HB := n3_; clear n0_ n1_ n2_ n3_; (try clear hb); (try clear hb2); (try clear hk); (try clear hi); obtain ⟨hcz62_0, hcz62_1, hfz62_0, hfz62_1⟩ := bf2 BK297.out; obtain ⟨hcz63_0, hcz63_1, hfz63_0, hfz63_1⟩ := bf2 BK298.out; obtain ⟨hcz64_0, hcz64_1, hcz64_2, hcz64_3, hcz64_4, hcz64_5, hfz64_0, hfz64_1, hfz64_2, hfz64_3, hfz64_4, hfz64_5⟩ := bf6 BK299.out) | ((with_reducible refine gate_callee (f := 38) rfl ?_); refine goesL_ (some 106) rfl rfl Tryd.func38 (by kernel_rfl) rfl #[.slice A0 l0.length c0, .slice A1 l1.length c1, .agg #[.string a2_0, .string a2_1], .agg #[.string a3_0, .string a3_1], .agg #[.string (⟨#[]⟩ : ByteArray), .string (⟨#[]⟩ : ByteArray), .string a4_2, .string a4_3, .int .i64 a4_4, .bool a4_5]] rfl Z104 ?_; (with_reducible refine (partner_Found.calls kj33 _ _ l0 _ _ l1 a2_0 a2_1 a3_0 a3_1 (⟨#[]⟩ : ByteArray) (⟨#[]⟩ : ByteArray) a4_2 a4_3 a4_4 a4_5 t317 t318 t319 _ ?side1 ?side2 ?side3 ?side4 A50.out).mono ?_); (case side1 => exact Z105); (case side2 => exact Z193); (case side3 => exact Z106); (case side4 => exact Z194); rintro e w65 ⟨rfl, hb⟩; refine ⟨_, rfl, ?_⟩; have n0_ := Aside0.mk (blk_below (g := gb297) (o := .cells #[.string a2_0, .string a2_1] 31 (0, 0)) Z177 hb); have n1_ := Aside0.mk (blk_below (g := gb298) (o := .cells #[.string a3_0, .string a3_1] 31 (0, 0)) Z178 hb); have n2_ := Aside0.mk (blk_below (g := gb299) (o := .cells #[.string (⟨#[]⟩ : ByteArray), .string (⟨#[]⟩ : ByteArray), .string a4_2, .string a4_3, .int .i64 a4_4, .bool a4_5] 37 (0, 0)) Z179 hb); have n3_ := Aside0.mk (below_step Z67 hb); clear BK297; clear BK298; clear BK299; clear HB; have BK297 := n0_; have BK298 := n1_; have BK299 := n2_; have HB := n3_; clear n0_ n1_ n2_ n3_; (try clear hb); (try clear hb2); (try clear hk); (try clear hi)) | (go_at_call 14; (with_reducible refine (interchangelaw8_awake.calls  t320 _ A54.out).mono ?_); rintro e w66 ⟨rfl, hb⟩; have n0_ := Aside0.mk (blk_below (g := gb297) (o := .cells #[.string a2_0, .string a2_1] 31 (0, 0)) Z177 hb); have n1_ := Aside0.mk (blk_below (g := gb298) (o := .cells #[.string a3_0, .string a3_1] 31 (0, 0)) Z178 hb); have n2_ := Aside0.mk (blk_below (g := gb299) (o := .cells #[.string (⟨#[]⟩ : ByteArray), .string (⟨#[]⟩ : ByteArray), .string a4_2, .string a4_3, .int .i64 a4_4, .bool a4_5] 37 (0, 0)) Z179 hb); have n3_ := Aside0.mk (below_step Z67 hb); clear BK297; clear BK298; clear BK299; clear HB; have BK297 := n0_; have BK298 := n1_; have BK299 := n2_; have HB := n3_; clear n0_ n1_ n2_ n3_; (try clear hb); (try clear hb2); (try clear hk); (try clear hi)))
          go_ret
          exact ⟨Z138, Z67⟩
         ·rw [if_neg c53] at H
          have c53b0 : (t318 == t315) = false := by simpa using c53
          (try (have c53b1 : decide (t318 = t315) = false := by simpa using c53))
          (try (have c53b2 : (t318 == t315) = false := by simpa using c53))
          (try (have c53b3 : ¬ (t318 = t315) := by simpa using c53))
          clear c53
          obtain rfl := Option.some.inj H
          have hnb67 := NB299_297.out
          have hnc67 := NB297_299.out
          have hnb68 := NB299_298.out
          have hnc68 := NB298_299.out
          have hcz69_0 : wc.cell? ⟨gb299, 0, none⟩ = some (.string a4_0) := (blk_cell BK299.out 0).trans rfl
          have hcz69_1 : wc.cell? ⟨gb299, 1, none⟩ = some (.string a4_1) := (blk_cell BK299.out 1).trans rfl
          have hcz69_2 : wc.cell? ⟨gb299, 2, none⟩ = some (.string a4_2) := (blk_cell BK299.out 2).trans rfl
          have hcz69_3 : wc.cell? ⟨gb299, 3, none⟩ = some (.string a4_3) := (blk_cell BK299.out 3).trans rfl
          have hcz69_4 : wc.cell? ⟨gb299, 4, none⟩ = some (.int .i64 a4_4) := (blk_cell BK299.out 4).trans rfl
          have hcz69_5 : wc.cell? ⟨gb299, 5, none⟩ = some (.bool a4_5) := (blk_cell BK299.out 5).trans rfl
          have hfz69_0 := blk_frozen BK299.out 0
          have hfz69_1 := blk_frozen BK299.out 1
          have hfz69_2 := blk_frozen BK299.out 2
          have hfz69_3 := blk_frozen BK299.out 3
          have hfz69_4 := blk_frozen BK299.out 4
          have hfz69_5 := blk_frozen BK299.out 5
          have hnb70 := NB297_298.out
          have hnc70 := NB298_297.out
          have hcz71_0 : wc.cell? ⟨gb297, 0, none⟩ = some (.string a2_0) := (blk_cell BK297.out 0).trans rfl
          have hcz71_1 : wc.cell? ⟨gb297, 1, none⟩ = some (.string a2_1) := (blk_cell BK297.out 1).trans rfl
          have hfz71_0 := blk_frozen BK297.out 0
          have hfz71_1 := blk_frozen BK297.out 1
          have hcz72_0 : wc.cell? ⟨gb298, 0, none⟩ = some (.string a3_0) := (blk_cell BK298.out 0).trans rfl
          have hcz72_1 : wc.cell? ⟨gb298, 1, none⟩ = some (.string a3_1) := (blk_cell BK298.out 1).trans rfl
          have hfz72_0 := blk_frozen BK298.out 0
          have hfz72_1 := blk_frozen BK298.out 1
          go_wp2_with (first | ((with_reducible refine gate_callee (f := 37) rfl ?_); refine goesL_ (some 96) rfl rfl Tryd.func37 (by kernel_rfl) rfl #[.slice A0 l0.length c0, .slice A1 l1.length c1, .agg #[.string a2_0, .string a2_1], .agg #[.string a3_0, .string a3_1], .agg #[.string (⟨#[]⟩ : ByteArray), .string (⟨#[]⟩ : ByteArray), .string a4_2, .string a4_3, .int .i64 a4_4, .bool a4_5]] rfl Z104 ?_; (with_reducible refine (interchangeref8_Found.calls kj33 _ _ l0 _ _ l1 a2_0 a2_1 a3_0 a3_1 (⟨#[]⟩ : ByteArray) (⟨#[]⟩ : ByteArray) a4_2 a4_3 a4_4 a4_5 t314 t315 t316 _ ?side1 ?side2 ?side3 ?side4 A49.out).mono ?_); (case side1 => exact Z56); (case side2 => exact Z193); (case side3 => exact Z57); (case side4 => exact Z194); rintro e w73 ⟨rfl, hb⟩; refine ⟨_, rfl, ?_⟩; have n0_ := Aside0.mk (blk_below (g := gb297) (o := .cells #[.string a2_0, .string a2_1] 31 (0, 0)) Z27 hb); have n1_ := Aside0.mk (blk_below (g := gb298) (o := .cells #[.string a3_0, .string a3_1] 31 (0, 0)) Z28 hb); have n2_ := Aside0.mk (blk_below (g := gb299) (o := .cells #[.string (⟨#[]⟩ : ByteArray), .string (⟨#[]⟩ : ByteArray), .string a4_2, .string a4_3, .int .i64 a4_4, .bool a4_5] 37 (0, 0)) Z6 hb); have n3_ := Aside0.mk (below_step Z67 hb); clear BK297; clear BK298; clear BK299; clear HB; have BK297 := n0_; have BK298 := n1_; have BK299 := n2_; have HB := n3_; clear n0_ n1_ n2_ n3_; (try clear hb); (try clear hb2); (try clear hk); (try clear hi); obtain ⟨hcz74_0, hcz74_1, hfz74_0, hfz74_1⟩ := bf2 BK297.out; obtain ⟨hcz75_0, hcz75_1, hfz75_0, hfz75_1⟩ := bf2 BK298.out; obtain ⟨hcz76_0, hcz76_1, hcz76_2, hcz76_3, hcz76_4, hcz76_5, hfz76_0, hfz76_1, hfz76_2, hfz76_3, hfz76_4, hfz76_5⟩ := bf6 BK299.out) | ((with_reducible refine gate_callee (f := 38) rfl ?_); refine goesL_ (some 106) rfl rfl Tryd.func38 (by kernel_rfl) rfl #[.slice A0 l0.length c0, .slice A1 l1.length c1, .agg #[.string a2_0, .string a2_1], .agg #[.string a3_0, .string a3_1], .agg #[.string (⟨#[]⟩ : ByteArray), .string (⟨#[]⟩ : ByteArray), .string a4_2, .string a4_3, .int .i64 a4_4, .bool a4_5]] rfl Z104 ?_; (with_reducible refine (partner_Found.calls kj33 _ _ l0 _ _ l1 a2_0 a2_1 a3_0 a3_1 (⟨#[]⟩ : ByteArray) (⟨#[]⟩ : ByteArray) a4_2 a4_3 a4_4 a4_5 t317 t318 t319 _ ?side1 ?side2 ?side3 ?side4 A50.out).mono ?_); (case side1 => exact Z105); (case side2 => exact Z193); (case side3 => exact Z106); (case side4 => exact Z194); rintro e w77 ⟨rfl, hb⟩; refine ⟨_, rfl, ?_⟩; have n0_ := Aside0.mk (blk_below (g := gb297) (o := .cells #[.string a2_0, .string a2_1] 31 (0, 0)) Z177 hb); have n1_ := Aside0.mk (blk_below (g := gb298) (o := .cells #[.string a3_0, .string a3_1] 31 (0, 0)) Z178 hb); have n2_ := Aside0.mk (blk_below (g := gb299) (o := .cells #[.string (⟨#[]⟩ : ByteArray), .string (⟨#[]⟩ : ByteArray), .string a4_2, .string a4_3, .int .i64 a4_4, .bool a4_5] 37 (0, 0)) Z179 hb); have n3_ := Aside0.mk (below_step Z67 hb); clear BK297; clear BK298; clear BK299; clear HB; have BK297 := n0_; have BK298 := n1_; have BK299 := n2_; have HB := n3_; clear n0_ n1_ n2_ n3_; (try clear hb); (try clear hb2); (try clear hk); (try clear hi)))
          go_ret
          exact ⟨Z138, Z67⟩
        ·rw [if_neg c52] at H
         have c52b0 : (t317 == t314) = false := beq_eq_false_iff_ne.mpr c52
         have c52b1 : (t317 != t314) = true := bne_iff_ne.mpr c52
         obtain rfl := Option.some.inj H
         have hnb78 := NB299_297.out
         have hnc78 := NB297_299.out
         have hnb79 := NB299_298.out
         have hnc79 := NB298_299.out
         have hcz80_0 : wc.cell? ⟨gb299, 0, none⟩ = some (.string a4_0) := (blk_cell BK299.out 0).trans rfl
         have hcz80_1 : wc.cell? ⟨gb299, 1, none⟩ = some (.string a4_1) := (blk_cell BK299.out 1).trans rfl
         have hcz80_2 : wc.cell? ⟨gb299, 2, none⟩ = some (.string a4_2) := (blk_cell BK299.out 2).trans rfl
         have hcz80_3 : wc.cell? ⟨gb299, 3, none⟩ = some (.string a4_3) := (blk_cell BK299.out 3).trans rfl
         have hcz80_4 : wc.cell? ⟨gb299, 4, none⟩ = some (.int .i64 a4_4) := (blk_cell BK299.out 4).trans rfl
         have hcz80_5 : wc.cell? ⟨gb299, 5, none⟩ = some (.bool a4_5) := (blk_cell BK299.out 5).trans rfl
         have hfz80_0 := blk_frozen BK299.out 0
         have hfz80_1 := blk_frozen BK299.out 1
         have hfz80_2 := blk_frozen BK299.out 2
         have hfz80_3 := blk_frozen BK299.out 3
         have hfz80_4 := blk_frozen BK299.out 4
         have hfz80_5 := blk_frozen BK299.out 5
         have hnb81 := NB297_298.out
         have hnc81 := NB298_297.out
         have hcz82_0 : wc.cell? ⟨gb297, 0, none⟩ = some (.string a2_0) := (blk_cell BK297.out 0).trans rfl
         have hcz82_1 : wc.cell? ⟨gb297, 1, none⟩ = some (.string a2_1) := (blk_cell BK297.out 1).trans rfl
         have hfz82_0 := blk_frozen BK297.out 0
         have hfz82_1 := blk_frozen BK297.out 1
         have hcz83_0 : wc.cell? ⟨gb298, 0, none⟩ = some (.string a3_0) := (blk_cell BK298.out 0).trans rfl
         have hcz83_1 : wc.cell? ⟨gb298, 1, none⟩ = some (.string a3_1) := (blk_cell BK298.out 1).trans rfl
         have hfz83_0 := blk_frozen BK298.out 0
         have hfz83_1 := blk_frozen BK298.out 1
         go_wp2_with (first | ((with_reducible refine gate_callee (f := 37) rfl ?_); refine goesL_ (some 96) rfl rfl Tryd.func37 (by kernel_rfl) rfl #[.slice A0 l0.length c0, .slice A1 l1.length c1, .agg #[.string a2_0, .string a2_1], .agg #[.string a3_0, .string a3_1], .agg #[.string (⟨#[]⟩ : ByteArray), .string (⟨#[]⟩ : ByteArray), .string a4_2, .string a4_3, .int .i64 a4_4, .bool a4_5]] rfl Z104 ?_; (with_reducible refine (interchangeref8_Found.calls kj33 _ _ l0 _ _ l1 a2_0 a2_1 a3_0 a3_1 (⟨#[]⟩ : ByteArray) (⟨#[]⟩ : ByteArray) a4_2 a4_3 a4_4 a4_5 t314 t315 t316 _ ?side1 ?side2 ?side3 ?side4 A49.out).mono ?_); (case side1 => exact Z56); (case side2 => exact Z193); (case side3 => exact Z57); (case side4 => exact Z194); rintro e w84 ⟨rfl, hb⟩; refine ⟨_, rfl, ?_⟩; have n0_ := Aside0.mk (blk_below (g := gb297) (o := .cells #[.string a2_0, .string a2_1] 31 (0, 0)) Z27 hb); have n1_ := Aside0.mk (blk_below (g := gb298) (o := .cells #[.string a3_0, .string a3_1] 31 (0, 0)) Z28 hb); have n2_ := Aside0.mk (blk_below (g := gb299) (o := .cells #[.string (⟨#[]⟩ : ByteArray), .string (⟨#[]⟩ : ByteArray), .string a4_2, .string a4_3, .int .i64 a4_4, .bool a4_5] 37 (0, 0)) Z6 hb); have n3_ := Aside0.mk (below_step Z67 hb); clear BK297; clear BK298; clear BK299; clear HB; have BK297 := n0_; have BK298 := n1_; have BK299 := n2_; have HB := n3_; clear n0_ n1_ n2_ n3_; (try clear hb); (try clear hb2); (try clear hk); (try clear hi); obtain ⟨hcz85_0, hcz85_1, hfz85_0, hfz85_1⟩ := bf2 BK297.out; obtain ⟨hcz86_0, hcz86_1, hfz86_0, hfz86_1⟩ := bf2 BK298.out; obtain ⟨hcz87_0, hcz87_1, hcz87_2, hcz87_3, hcz87_4, hcz87_5, hfz87_0, hfz87_1, hfz87_2, hfz87_3, hfz87_4, hfz87_5⟩ := bf6 BK299.out) | ((with_reducible refine gate_callee (f := 38) rfl ?_); refine goesL_ (some 106) rfl rfl Tryd.func38 (by kernel_rfl) rfl #[.slice A0 l0.length c0, .slice A1 l1.length c1, .agg #[.string a2_0, .string a2_1], .agg #[.string a3_0, .string a3_1], .agg #[.string (⟨#[]⟩ : ByteArray), .string (⟨#[]⟩ : ByteArray), .string a4_2, .string a4_3, .int .i64 a4_4, .bool a4_5]] rfl Z104 ?_; (with_reducible refine (partner_Found.calls kj33 _ _ l0 _ _ l1 a2_0 a2_1 a3_0 a3_1 (⟨#[]⟩ : ByteArray) (⟨#[]⟩ : ByteArray) a4_2 a4_3 a4_4 a4_5 t317 t318 t319 _ ?side1 ?side2 ?side3 ?side4 A50.out).mono ?_); (case side1 => exact Z105); (case side2 => exact Z193); (case side3 => exact Z106); (case side4 => exact Z194); rintro e w88 ⟨rfl, hb⟩; refine ⟨_, rfl, ?_⟩; have n0_ := Aside0.mk (blk_below (g := gb297) (o := .cells #[.string a2_0, .string a2_1] 31 (0, 0)) Z177 hb); have n1_ := Aside0.mk (blk_below (g := gb298) (o := .cells #[.string a3_0, .string a3_1] 31 (0, 0)) Z178 hb); have n2_ := Aside0.mk (blk_below (g := gb299) (o := .cells #[.string (⟨#[]⟩ : ByteArray), .string (⟨#[]⟩ : ByteArray), .string a4_2, .string a4_3, .int .i64 a4_4, .bool a4_5] 37 (0, 0)) Z179 hb); have n3_ := Aside0.mk (below_step Z67 hb); clear BK297; clear BK298; clear BK299; clear HB; have BK297 := n0_; have BK298 := n1_; have BK299 := n2_; have HB := n3_; clear n0_ n1_ n2_ n3_; (try clear hb); (try clear hb2); (try clear hk); (try clear hi)))
         go_ret
         exact ⟨Z138, Z67⟩
       ·rw [if_neg c51] at H
        have c51b0 : (t319 == t316) = false := beq_eq_false_iff_ne.mpr c51
        have c51b1 : (t319 != t316) = true := bne_iff_ne.mpr c51
        obtain rfl := Option.some.inj H
        have hnb89 := NB299_297.out
        have hnc89 := NB297_299.out
        have hnb90 := NB299_298.out
        have hnc90 := NB298_299.out
        have hcz91_0 : wc.cell? ⟨gb299, 0, none⟩ = some (.string a4_0) := (blk_cell BK299.out 0).trans rfl
        have hcz91_1 : wc.cell? ⟨gb299, 1, none⟩ = some (.string a4_1) := (blk_cell BK299.out 1).trans rfl
        have hcz91_2 : wc.cell? ⟨gb299, 2, none⟩ = some (.string a4_2) := (blk_cell BK299.out 2).trans rfl
        have hcz91_3 : wc.cell? ⟨gb299, 3, none⟩ = some (.string a4_3) := (blk_cell BK299.out 3).trans rfl
        have hcz91_4 : wc.cell? ⟨gb299, 4, none⟩ = some (.int .i64 a4_4) := (blk_cell BK299.out 4).trans rfl
        have hcz91_5 : wc.cell? ⟨gb299, 5, none⟩ = some (.bool a4_5) := (blk_cell BK299.out 5).trans rfl
        have hfz91_0 := blk_frozen BK299.out 0
        have hfz91_1 := blk_frozen BK299.out 1
        have hfz91_2 := blk_frozen BK299.out 2
        have hfz91_3 := blk_frozen BK299.out 3
        have hfz91_4 := blk_frozen BK299.out 4
        have hfz91_5 := blk_frozen BK299.out 5
        have hnb92 := NB297_298.out
        have hnc92 := NB298_297.out
        have hcz93_0 : wc.cell? ⟨gb297, 0, none⟩ = some (.string a2_0) := (blk_cell BK297.out 0).trans rfl
        have hcz93_1 : wc.cell? ⟨gb297, 1, none⟩ = some (.string a2_1) := (blk_cell BK297.out 1).trans rfl
        have hfz93_0 := blk_frozen BK297.out 0
        have hfz93_1 := blk_frozen BK297.out 1
        have hcz94_0 : wc.cell? ⟨gb298, 0, none⟩ = some (.string a3_0) := (blk_cell BK298.out 0).trans rfl
        have hcz94_1 : wc.cell? ⟨gb298, 1, none⟩ = some (.string a3_1) := (blk_cell BK298.out 1).trans rfl
        have hfz94_0 := blk_frozen BK298.out 0
        have hfz94_1 := blk_frozen BK298.out 1
        go_wp2_with (first | ((with_reducible refine gate_callee (f := 37) rfl ?_); refine goesL_ (some 96) rfl rfl Tryd.func37 (by kernel_rfl) rfl #[.slice A0 l0.length c0, .slice A1 l1.length c1, .agg #[.string a2_0, .string a2_1], .agg #[.string a3_0, .string a3_1], .agg #[.string (⟨#[]⟩ : ByteArray), .string (⟨#[]⟩ : ByteArray), .string a4_2, .string a4_3, .int .i64 a4_4, .bool a4_5]] rfl Z104 ?_; (with_reducible refine (interchangeref8_Found.calls kj33 _ _ l0 _ _ l1 a2_0 a2_1 a3_0 a3_1 (⟨#[]⟩ : ByteArray) (⟨#[]⟩ : ByteArray) a4_2 a4_3 a4_4 a4_5 t314 t315 t316 _ ?side1 ?side2 ?side3 ?side4 A49.out).mono ?_); (case side1 => exact Z56); (case side2 => exact Z193); (case side3 => exact Z57); (case side4 => exact Z194); rintro e w95 ⟨rfl, hb⟩; refine ⟨_, rfl, ?_⟩; have n0_ := Aside0.mk (blk_below (g := gb297) (o := .cells #[.string a2_0, .string a2_1] 31 (0, 0)) Z27 hb); have n1_ := Aside0.mk (blk_below (g := gb298) (o := .cells #[.string a3_0, .string a3_1] 31 (0, 0)) Z28 hb); have n2_ := Aside0.mk (blk_below (g := gb299) (o := .cells #[.string (⟨#[]⟩ : ByteArray), .string (⟨#[]⟩ : ByteArray), .string a4_2, .string a4_3, .int .i64 a4_4, .bool a4_5] 37 (0, 0)) Z6 hb); have n3_ := Aside0.mk (below_step Z67 hb); clear BK297; clear BK298; clear BK299; clear HB; have BK297 := n0_; have BK298 := n1_; have BK299 := n2_; have HB := n3_; clear n0_ n1_ n2_ n3_; (try clear hb); (try clear hb2); (try clear hk); (try clear hi); obtain ⟨hcz96_0, hcz96_1, hfz96_0, hfz96_1⟩ := bf2 BK297.out; obtain ⟨hcz97_0, hcz97_1, hfz97_0, hfz97_1⟩ := bf2 BK298.out; obtain ⟨hcz98_0, hcz98_1, hcz98_2, hcz98_3, hcz98_4, hcz98_5, hfz98_0, hfz98_1, hfz98_2, hfz98_3, hfz98_4, hfz98_5⟩ := bf6 BK299.out) | ((with_reducible refine gate_callee (f := 38) rfl ?_); refine goesL_ (some 106) rfl rfl Tryd.func38 (by kernel_rfl) rfl #[.slice A0 l0.length c0, .slice A1 l1.length c1, .agg #[.string a2_0, .string a2_1], .agg #[.string a3_0, .string a3_1], .agg #[.string (⟨#[]⟩ : ByteArray), .string (⟨#[]⟩ : ByteArray), .string a4_2, .string a4_3, .int .i64 a4_4, .bool a4_5]] rfl Z104 ?_; (with_reducible refine (partner_Found.calls kj33 _ _ l0 _ _ l1 a2_0 a2_1 a3_0 a3_1 (⟨#[]⟩ : ByteArray) (⟨#[]⟩ : ByteArray) a4_2 a4_3 a4_4 a4_5 t317 t318 t319 _ ?side1 ?side2 ?side3 ?side4 A50.out).mono ?_); (case side1 => exact Z105); (case side2 => exact Z193); (case side3 => exact Z106); (case side4 => exact Z194); rintro e w99 ⟨rfl, hb⟩; refine ⟨_, rfl, ?_⟩; have n0_ := Aside0.mk (blk_below (g := gb297) (o := .cells #[.string a2_0, .string a2_1] 31 (0, 0)) Z177 hb); have n1_ := Aside0.mk (blk_below (g := gb298) (o := .cells #[.string a3_0, .string a3_1] 31 (0, 0)) Z178 hb); have n2_ := Aside0.mk (blk_below (g := gb299) (o := .cells #[.string (⟨#[]⟩ : ByteArray), .string (⟨#[]⟩ : ByteArray), .string a4_2, .string a4_3, .int .i64 a4_4, .bool a4_5] 37 (0, 0)) Z179 hb); have n3_ := Aside0.mk (below_step Z67 hb); clear BK297; clear BK298; clear BK299; clear HB; have BK297 := n0_; have BK298 := n1_; have BK299 := n2_; have HB := n3_; clear n0_ n1_ n2_ n3_; (try clear hb); (try clear hb2); (try clear hk); (try clear hi)))
        go_ret
        exact ⟨Z138, Z67⟩

end Go.Proofs.YtdlgohhecicnoaaDoor.XPartnerFindsMatchSpec
