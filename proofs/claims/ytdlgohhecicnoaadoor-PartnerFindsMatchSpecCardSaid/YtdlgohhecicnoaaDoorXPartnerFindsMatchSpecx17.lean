-- Walks of PartnerFindsMatchSpec: written by xprint.py out of the translation (hand-proved functions among them). Lean checks it.
import Derived.Test.YtdlgohhecicnoaaDoorXPartnerFindsMatchSpecx0
import Derived.Test.YtdlgohhecicnoaaDoorXPartnerFindsMatchSpecx2
import Derived.Test.YtdlgohhecicnoaaDoorXPartnerFindsMatchSpecx5
import Derived.Test.YtdlgohhecicnoaaDoorXPartnerFindsMatchSpecx7
import Derived.Test.YtdlgohhecicnoaaDoorXPartnerFindsMatchSpecx16
namespace Go.Proofs.YtdlgohhecicnoaaDoor.XPartnerFindsMatchSpec
open Go.RowKit Go.Proofs.YtdlgohhecicnoaaDoorW.PrintWords Go.Proofs.YtdlgohhecicnoaaDoorW.PrintLast Go.Proofs.YtdlgohhecicnoaaDoorW.PrintMore
attribute [local go_sem] max2_int min2_int max_two min_two max_three min_three max_four min_four   -- for this text's walks alone
set_option linter.unusedVariables false
set_option linter.unusedSimpArgs false

/-! ### partner_Found: function 38 -/
mutual
def partner_Found.l0 : Nat → List (S86) → List (S23) → List (S31) → Int → Int → ByteArray → ByteArray → ByteArray → ByteArray → ByteArray → ByteArray → ByteArray → ByteArray → Int → Bool → Option (Int × Bool × Int)
 | 0, _, _, _, _, _, _, _, _, _, _, _, _, _, _, _ => none
 | k + 1, x0, x1, x27, x28, x29, x284000, x284001, x285000, x285001, x286000, x286001, x286002, x286003, x286004, x286005 => if x29 < x28 then (if 0 ≤ x29 then (if x29 < (x27.length : Int) then ((partner_addressFault.f k ((rd_T31 x27 x29).f0) ((rd_T31 x27 x29).f1)).bind fun t292 => (if t292 = 0 then (partner_Found.l0 k x0 x1 x27 x28 (wrap64 (x29 + 1)) x284000 x284001 x285000 x285001 x286000 x286001 x286002 x286003 x286004 x286005) else (some (0, false, t292)))) else (none)) else (none)) else (if x286000.toList = ([] : List UInt8) then (partner_Found.j1 k x0 x1 (x286001.toList != ([] : List UInt8)) x284000 x284001 x285000 x285001 x286000 x286001 x286002 x286003 x286004 x286005) else (partner_Found.j1 k x0 x1 true x284000 x284001 x285000 x285001 x286000 x286001 x286002 x286003 x286004 x286005))
def partner_Found.j1 : Nat → List (S86) → List (S23) → Bool → ByteArray → ByteArray → ByteArray → ByteArray → ByteArray → ByteArray → ByteArray → ByteArray → Int → Bool → Option (Int × Bool × Int)
 | 0, _, _, _, _, _, _, _, _, _, _, _, _, _ => none
 | k + 1, x0, x1, x46, x284000, x284001, x285000, x285001, x286000, x286001, x286002, x286003, x286004, x286005 => if x46 = true then (some (0, false, 3)) else ((partner_restFault.f k x286000 x286001 x286002 x286003 x286004 x286005).bind fun t293 => (if t293 = 0 then ((partner_partnerOf.f k x0 x284000 x284001).bind fun t294 => ((partner_partnerOf.f k x0 x285000 x285001).bind fun t295 => (if t294.toList = ([] : List UInt8) then (some (0, false, 0)) else (if t295.toList = ([] : List UInt8) then (some (0, false, 0)) else (if t294.toList = t295.toList then (some (0, false, 0)) else ((partner_find.f k x1 t294 t295 x286002 x286003 x286004 x286005).bind fun t296 => (some (mx t296 0, decide (t296 ≥ 0), 0)))))))) else (some (0, false, t293))))
end
def partner_Found.f (k : Nat) (l0 : List (S86)) (l1 : List (S23)) (a2_0 : ByteArray) (a2_1 : ByteArray) (a3_0 : ByteArray) (a3_1 : ByteArray) (a4_0 : ByteArray) (a4_1 : ByteArray) (a4_2 : ByteArray) (a4_3 : ByteArray) (a4_4 : Int) (a4_5 : Bool) : Option (Int × Bool × Int) := (partner_CheckAgreements.f k l0 l1).bind fun t286 => (if t286 = 0 then ((some (([(⟨a2_0, a2_1⟩ : S31), (⟨a3_0, a3_1⟩ : S31)] : List (S31)) : List (S31))).bind fun y287 => (partner_Found.l0 k l0 l1 y287 (y287.length : Int) 0 a2_0 a2_1 a3_0 a3_1 a4_0 a4_1 a4_2 a4_3 a4_4 a4_5)) else (some (0, false, t286)))
theorem partner_Found.mono_l : ∀ k, (∀ y0 y1 y2 y3 y4 y5 y6 y7 y8 y9 y10 y11 y12 y13 y14, LeO (partner_Found.l0 k y0 y1 y2 y3 y4 y5 y6 y7 y8 y9 y10 y11 y12 y13 y14) (partner_Found.l0 (k + 1) y0 y1 y2 y3 y4 y5 y6 y7 y8 y9 y10 y11 y12 y13 y14)) ∧ (∀ y0 y1 y2 y3 y4 y5 y6 y7 y8 y9 y10 y11 y12, LeO (partner_Found.j1 k y0 y1 y2 y3 y4 y5 y6 y7 y8 y9 y10 y11 y12) (partner_Found.j1 (k + 1) y0 y1 y2 y3 y4 y5 y6 y7 y8 y9 y10 y11 y12))
 | 0 => ⟨fun _ _ _ _ _ _ _ _ _ _ _ _ _ _ _ r h => by simp [partner_Found.l0] at h, fun _ _ _ _ _ _ _ _ _ _ _ _ _ r h => by simp [partner_Found.j1] at h⟩
 | k + 1 => by
  obtain ⟨ih0, ih1⟩ := partner_Found.mono_l k
  refine ⟨?_, ?_⟩
  ·intro y0 y1 y2 y3 y4 y5 y6 y7 y8 y9 y10 y11 y12 y13 y14
   unfold partner_Found.l0
   repeat' first
   | (with_reducible exact ih0 _ _ _ _ _ _ _ _ _ _ _ _ _ _ _)
   | (with_reducible exact ih1 _ _ _ _ _ _ _ _ _ _ _ _ _)
   | (with_reducible exact partner_CheckAgreements.mono _ _ _)
   | (with_reducible exact partner_addressFault.mono _ _ _)
   | (with_reducible exact partner_find.mono _ _ _ _ _ _ _ _)
   | (with_reducible exact partner_partnerOf.mono _ _ _ _)
   | (with_reducible exact partner_restFault.mono _ _ _ _ _ _ _)
   | (with_reducible exact LeO.refl _)
   | (with_reducible exact LeO.none _)
   | (with_reducible refine LeO.ite ?_ ?_)
   | (with_reducible refine LeO.bind ?_ (fun _ => ?_))
   | exact ih0 _ _ _ _ _ _ _ _ _ _ _ _ _ _ _
   | exact ih1 _ _ _ _ _ _ _ _ _ _ _ _ _
   | exact partner_CheckAgreements.mono _ _ _
   | exact partner_addressFault.mono _ _ _
   | exact partner_find.mono _ _ _ _ _ _ _ _
   | exact partner_partnerOf.mono _ _ _ _
   | exact partner_restFault.mono _ _ _ _ _ _ _
   | exact LeO.none _
   | refine LeO.ite ?_ ?_
   | refine LeO.bind ?_ (fun _ => ?_)
  ·intro y0 y1 y2 y3 y4 y5 y6 y7 y8 y9 y10 y11 y12
   unfold partner_Found.j1
   repeat' first
   | (with_reducible exact ih0 _ _ _ _ _ _ _ _ _ _ _ _ _ _ _)
   | (with_reducible exact ih1 _ _ _ _ _ _ _ _ _ _ _ _ _)
   | (with_reducible exact partner_CheckAgreements.mono _ _ _)
   | (with_reducible exact partner_addressFault.mono _ _ _)
   | (with_reducible exact partner_find.mono _ _ _ _ _ _ _ _)
   | (with_reducible exact partner_partnerOf.mono _ _ _ _)
   | (with_reducible exact partner_restFault.mono _ _ _ _ _ _ _)
   | (with_reducible exact LeO.refl _)
   | (with_reducible exact LeO.none _)
   | (with_reducible refine LeO.ite ?_ ?_)
   | (with_reducible refine LeO.bind ?_ (fun _ => ?_))
   | exact ih0 _ _ _ _ _ _ _ _ _ _ _ _ _ _ _
   | exact ih1 _ _ _ _ _ _ _ _ _ _ _ _ _
   | exact partner_CheckAgreements.mono _ _ _
   | exact partner_addressFault.mono _ _ _
   | exact partner_find.mono _ _ _ _ _ _ _ _
   | exact partner_partnerOf.mono _ _ _ _
   | exact partner_restFault.mono _ _ _ _ _ _ _
   | exact LeO.none _
   | refine LeO.ite ?_ ?_
   | refine LeO.bind ?_ (fun _ => ?_)
theorem partner_Found.mono : ∀ a0 a1 a2 a3 a4 a5 a6 a7 a8 a9 a10 a11 k, LeO (partner_Found.f k a0 a1 a2 a3 a4 a5 a6 a7 a8 a9 a10 a11) (partner_Found.f (k + 1) a0 a1 a2 a3 a4 a5 a6 a7 a8 a9 a10 a11) := by
 intro a0 a1 a2 a3 a4 a5 a6 a7 a8 a9 a10 a11 k
 obtain ⟨ih0, ih1⟩ := partner_Found.mono_l k
 unfold partner_Found.f
 repeat' first
   | (with_reducible exact ih0 _ _ _ _ _ _ _ _ _ _ _ _ _ _ _)
   | (with_reducible exact ih1 _ _ _ _ _ _ _ _ _ _ _ _ _)
   | (with_reducible exact partner_CheckAgreements.mono _ _ _)
   | (with_reducible exact partner_addressFault.mono _ _ _)
   | (with_reducible exact partner_find.mono _ _ _ _ _ _ _ _)
   | (with_reducible exact partner_partnerOf.mono _ _ _ _)
   | (with_reducible exact partner_restFault.mono _ _ _ _ _ _ _)
   | (with_reducible exact LeO.refl _)
   | (with_reducible exact LeO.none _)
   | (with_reducible refine LeO.ite ?_ ?_)
   | (with_reducible refine LeO.bind ?_ (fun _ => ?_))
   | exact ih0 _ _ _ _ _ _ _ _ _ _ _ _ _ _ _
   | exact ih1 _ _ _ _ _ _ _ _ _ _ _ _ _
   | exact partner_CheckAgreements.mono _ _ _
   | exact partner_addressFault.mono _ _ _
   | exact partner_find.mono _ _ _ _ _ _ _ _
   | exact partner_partnerOf.mono _ _ _ _
   | exact partner_restFault.mono _ _ _ _ _ _ _
   | exact LeO.none _
   | refine LeO.ite ?_ ?_
   | refine LeO.bind ?_ (fun _ => ?_)
def partner_Found.T16 : Bool × List (List Nat × List Nat) := (true, [([], []), ([], []), ([0, 1], [0, 1]), ([], []), ([], []), ([3, 4, 2], [3, 4]), ([0, 1, 2], []), ([6, 2, 5, 0, 1, 2], [2, 6]), ([0, 1, 2, 3, 4, 5, 6, 7], []), ([8, 5, 7, 0, 1, 2, 3, 4, 5, 6, 7], [5, 8])])
def partner_Found.B16 : List Nat := [0, 0, 3, 0, 0, 31, 7, 127, 255, 511]
theorem partner_Found.tab16 : rtab .any (opsOf Tryd.f38 16) = partner_Found.T16 := by kernel_rfl
theorem partner_Found.bits16 : waitsOk partner_Found.T16.2 partner_Found.B16 = true := by kernel_rfl
set_option maxHeartbeats 8000000 in
set_option maxRecDepth 100000 in
theorem partner_Found.calls (k : Nat) (A0 : Option Addr) (c0 : Nat) (l0 : List (S86)) (A1 : Option Addr) (c1 : Nat) (l1 : List (S23)) (a2_0 : ByteArray) (a2_1 : ByteArray) (a3_0 : ByteArray) (a3_1 : ByteArray) (a4_0 : ByteArray) (a4_1 : ByteArray) (a4_2 : ByteArray) (a4_3 : ByteArray) (a4_4 : Int) (a4_5 : Bool) (r1 : Int) (r2 : Bool) (r3 : Int) (w : World) (hr0 : Kd.C k86 w A0 l0.length l0) (hc0 : l0.length ≤ c0) (hr1 : Kd.C k23 w A1 l1.length l1) (hc1 : l1.length ≤ c1) (h : partner_Found.f k l0 l1 a2_0 a2_1 a3_0 a3_1 a4_0 a4_1 a4_2 a4_3 a4_4 a4_5 = some (r1, r2, r3)) :
  Calls Tryd.prog 38 #[.slice A0 l0.length c0, .slice A1 l1.length c1, .agg #[.string a2_0, .string a2_1], .agg #[.string a3_0, .string a3_1], .agg #[.string a4_0, .string a4_1, .string a4_2, .string a4_3, .int .i64 a4_4, .bool a4_5]] w fun e w' => e = .returned (.tuple #[.int .i64 r1, .bool r2, .int .i64 r3]) ∧ Below w.heap.size w w' := by
 have hu31 := Tryd.underlying31
 have hu37 := Tryd.underlying37
 have HR0 := Aside0.mk hr0
 have HC0 := Aside0.mk hc0
 clear hr0 hc0
 have HR1 := Aside0.mk hr1
 have HC1 := Aside0.mk hc1
 clear hr1 hc1
 have HB := Aside0.mk (Below.refl w.heap.size w)
 have H : ((partner_CheckAgreements.f k l0 l1).bind fun t286 => (if t286 = 0 then ((some (([(⟨a2_0, a2_1⟩ : S31), (⟨a3_0, a3_1⟩ : S31)] : List (S31)) : List (S31))).bind fun y287 => (partner_Found.l0 k l0 l1 y287 (y287.length : Int) 0 a2_0 a2_1 a3_0 a3_1 a4_0 a4_1 a4_2 a4_3 a4_4 a4_5)) else (some (0, false, t286)))) = some (r1, r2, r3) := h
 clear h
 replace H := Option.bind_eq_some_iff.mp H
 obtain ⟨t286, A60, H⟩ := H
 replace H : (if t286 = 0 then ((some (([(⟨a2_0, a2_1⟩ : S31), (⟨a3_0, a3_1⟩ : S31)] : List (S31)) : List (S31))).bind fun y287 => (partner_Found.l0 k l0 l1 y287 (y287.length : Int) 0 a2_0 a2_1 a3_0 a3_1 a4_0 a4_1 a4_2 a4_3 a4_4 a4_5)) else (some (0, false, t286))) = some (r1, r2, r3) := H
 have A6 := Aside0.mk A60
 clear A60
 by_cases c7 : t286 = 0
 ·rw [if_pos c7] at H
  have c7b0 : (t286 == 0) = true := beq_iff_eq.mpr c7
  have c7b1 : (t286 != 0) = false := bne_eq_false_iff_eq.mpr c7
  clear c7
  obtain ⟨y287, hy287⟩ : ∃ y_ : List (S31), y_ = (([(⟨a2_0, a2_1⟩ : S31), (⟨a3_0, a3_1⟩ : S31)] : List (S31))) := ⟨_, rfl⟩
  replace H : (partner_Found.l0 k l0 l1 y287 (y287.length : Int) 0 a2_0 a2_1 a3_0 a3_1 a4_0 a4_1 a4_2 a4_3 a4_4 a4_5) = some (r1, r2, r3) := by first | (rw [hy287]; with_reducible exact H) | (have H2_ := (Option.bind_some _ _).symm.trans H; rw [hy287]; with_reducible exact H2_) | (have H2_ := (Option.bind_some _ _).symm.trans H; with_reducible exact H2_) | with_reducible exact H | (rw [hy287]; exact H) | exact H
  have Ny287 := Aside0.mk hy287
  clear hy287
  have H' := Aside0.mk H
  clear H
  go_enter Tryd.func38, Tryd.ntmps38
  go_wp2_with (first | ((with_reducible refine gate_dst (N := 7) rfl ?_); refine box_event ?hg (N := 7) ?hd (cs := #[.string a2_0, .string a2_1]) (t := 31) ?hr ?_; (case hd => rfl); (case hg => rfl); (case hr => exact Z188); intro gb283 hg w8 hbox hb; have n0_ := Aside0.mk (below_step Z140 hb); have n1_ := Aside0.mk (hbox); have n2_ := Aside0.mk ((Z108 : w.heap.size ≤ gb283)); have n3_ := Aside0.mk ((Z108 : w.heap.size ≤ gb283)); clear HB; have HB := n0_; have BK283 := n1_; have GW283 := n2_; have GE283 := n3_; clear n0_ n1_ n2_ n3_; clear hb hbox hg) | ((with_reducible refine gate_dst (N := 8) rfl ?_); refine box_event ?hg (N := 8) ?hd (cs := #[.string a3_0, .string a3_1]) (t := 31) ?hr ?_; (case hd => rfl); (case hg => rfl); (case hr => exact Z188); intro gb284 hg w9 hbox hb; have n0_ := Aside0.mk (blk_below (g := gb283) (o := .cells #[.string a2_0, .string a2_1] 31 (0, 0)) Z174 hb); have n1_ := Aside0.mk (below_step (by repeat (first | (with_reducible first | exact HB.out | apply below_alloc | apply pw_below_drewN | apply below_drew1 | refine below_set ?_ GE283.out) | exact HB.out)) hb); have n2_ := Aside0.mk (hbox); have n3_ := Aside0.mk ((Z92 : w.heap.size ≤ gb284)); have n4_ := Aside0.mk ((Z92 : w.heap.size ≤ gb284)); have n5_ := Aside0.mk ((Z76 : gb283 ≠ gb284)); have n6_ := Aside0.mk ((Z77 : gb284 ≠ gb283)); clear BK283; clear HB; have BK283 := n0_; have HB := n1_; have BK284 := n2_; have GW284 := n3_; have GE284 := n4_; have NB283_284 := n5_; have NB284_283 := n6_; clear n0_ n1_ n2_ n3_ n4_ n5_ n6_; clear hb hbox hg) | ((with_reducible refine gate_dst (N := 9) rfl ?_); refine box_event ?hg (N := 9) ?hd (cs := #[.string a4_0, .string a4_1, .string a4_2, .string a4_3, .int .i64 a4_4, .bool a4_5]) (t := 37) ?hr ?_; (case hd => rfl); (case hg => rfl); (case hr => exact Z188); intro gb285 hg w10 hbox hb; have n0_ := Aside0.mk (blk_below (g := gb283) (o := .cells #[.string a2_0, .string a2_1] 31 (0, 0)) Z174 hb); have n1_ := Aside0.mk (blk_below (g := gb284) (o := .cells #[.string a3_0, .string a3_1] 31 (0, 0)) Z175 hb); have n2_ := Aside0.mk (below_step (by repeat (first | (with_reducible first | exact HB.out | apply below_alloc | apply pw_below_drewN | apply below_drew1 | refine below_set ?_ GE283.out | refine below_set ?_ GE284.out) | exact HB.out)) hb); have n3_ := Aside0.mk (hbox); have n4_ := Aside0.mk ((Z63 : w.heap.size ≤ gb285)); have n5_ := Aside0.mk ((Z63 : w.heap.size ≤ gb285)); have n6_ := Aside0.mk ((Z76 : gb283 ≠ gb285)); have n7_ := Aside0.mk ((Z77 : gb285 ≠ gb283)); have n8_ := Aside0.mk ((Z78 : gb284 ≠ gb285)); have n9_ := Aside0.mk ((Z79 : gb285 ≠ gb284)); clear BK283; clear BK284; clear HB; have BK283 := n0_; have BK284 := n1_; have HB := n2_; have BK285 := n3_; have GW285 := n4_; have GE285 := n5_; have NB283_285 := n6_; have NB285_283 := n7_; have NB284_285 := n8_; have NB285_284 := n9_; clear n0_ n1_ n2_ n3_ n4_ n5_ n6_ n7_ n8_ n9_; clear hb hbox hg) | ((with_reducible refine gate_callee (f := 36) rfl ?_); refine goesL_ (some 21) rfl rfl Tryd.func36 (by kernel_rfl) rfl #[.slice A0 l0.length c0, .slice A1 l1.length c1] rfl Z104 ?_; (with_reducible refine (partner_CheckAgreements.calls k _ _ l0 _ _ l1 t286 _ ?side1 ?side2 ?side3 ?side4 A6.out).mono ?_); (case side1 => exact Z105); (case side2 => exact Z193); (case side3 => exact Z106); (case side4 => exact Z194); rintro e w11 ⟨rfl, hb⟩; refine ⟨_, rfl, ?_⟩; have n0_ := Aside0.mk (blk_below (g := gb283) (o := .cells #[.string a2_0, .string a2_1] 31 (0, 0)) Z174 hb); have n1_ := Aside0.mk (blk_below (g := gb284) (o := .cells #[.string a3_0, .string a3_1] 31 (0, 0)) Z175 hb); have n2_ := Aside0.mk (blk_below (g := gb285) (o := .cells #[.string a4_0, .string a4_1, .string a4_2, .string a4_3, .int .i64 a4_4, .bool a4_5] 37 (0, 0)) Z176 hb); have n3_ := Aside0.mk (below_step Z66 hb); clear BK283; clear BK284; clear BK285; clear HB; have BK283 := n0_; have BK284 := n1_; have BK285 := n2_; have HB := n3_; clear n0_ n1_ n2_ n3_; (try clear hb); (try clear hb2); (try clear hk); (try clear hi); have hnb12 := NB283_284.out; have hnc12 := NB284_283.out; have hnb13 := NB283_285.out; have hnc13 := NB285_283.out; obtain ⟨hcz14_0, hcz14_1, hfz14_0, hfz14_1⟩ := bf2 BK283.out; have hnb15 := NB284_285.out; have hnc15 := NB285_284.out; obtain ⟨hcz16_0, hcz16_1, hfz16_0, hfz16_1⟩ := bf2 BK284.out) | ((with_reducible refine gate_dst (N := 27) rfl ?_); refine Kd.R_lit k31 _ 31 ?hg (N := 27) ?hd (xs := ([(⟨a2_0, a2_1⟩ : S31), (⟨a3_0, a3_1⟩ : S31)] : List (S31))) (inner := [.string a2_0, .string a2_1, .string a3_0, .string a3_1]) (ok := fun _ => True) (okp := fun _ => True) ?hr ?hp (fun _ hk => hk) trivial (Below.refl _ _) (Nat.le_refl _) (by simp) ?_; (case hd => rfl); (case hg => rfl); (case hr => exact Z188); (case hp => exact Z51); intro v288 w17 ho18 hb hg_ hnew_; clear hg_ hnew_; (first | rw [← Ny287.out] at ho18 | (simp only [Int.reduceToNat] at ho18; rw [← Ny287.out] at ho18)); have n0_ := Aside0.mk (Kd.R_lower (Kd.R_newB (Kd.R_newB ho18 (g := gb283) (o := .cells #[.string a2_0, .string a2_1] 31 (0, 0)) Z174) (g := gb284) (o := .cells #[.string a3_0, .string a3_1] 31 (0, 0)) Z175) (below_size Z66)); have n1_ := Aside0.mk (blk_below (g := gb283) (o := .cells #[.string a2_0, .string a2_1] 31 (0, 0)) Z174 hb); have n2_ := Aside0.mk (blk_below (g := gb284) (o := .cells #[.string a3_0, .string a3_1] 31 (0, 0)) Z175 hb); have n3_ := Aside0.mk (blk_below (g := gb285) (o := .cells #[.string a4_0, .string a4_1, .string a4_2, .string a4_3, .int .i64 a4_4, .bool a4_5] 37 (0, 0)) Z176 hb); have n4_ := Aside0.mk (below_step Z66 hb); clear BK283; clear BK284; clear BK285; clear HB; have HO289 := n0_; have BK283 := n1_; have BK284 := n2_; have BK285 := n3_; have HB := n4_; clear n0_ n1_ n2_ n3_ n4_; clear hb ho18; obtain ⟨Ao19, co19, eo19⟩ := Kd.R_slice HO289.out; subst eo19))
  go_loopg [29] k (fun kq v29 w' => ∃ (x29_1 : Int), v29 = .int .i64 x29_1 ∧ Aside0 (partner_Found.l0 kq l0 l1 y287 (y287.length : Int) x29_1 a2_0 a2_1 a3_0 a3_1 a4_0 a4_1 a4_2 a4_3 a4_4 a4_5 = some (r1, r2, r3)) ∧ Aside0 (kq ≤ k) ∧ Aside0 (Kd.R k31 31 w' w.heap.size (fun k_ => k_ ≠ gb283 ∧ k_ ≠ gb284) (.slice Ao19 y287.length co19) y287) ∧ Aside0 (w'.heap[gb283]? = some (.cells #[.string a2_0, .string a2_1] 31 (0, 0))) ∧ Aside0 (w'.heap[gb284]? = some (.cells #[.string a3_0, .string a3_1] 31 (0, 0))) ∧ Aside0 (w'.heap[gb285]? = some (.cells #[.string a4_0, .string a4_1, .string a4_2, .string a4_3, .int .i64 a4_4, .bool a4_5] 37 (0, 0))) ∧ Aside0 (Below w.heap.size w w'))
  case atStart => exact ⟨(0), Z183, H', ⟨Nat.le_refl _⟩, ⟨by (with_reducible repeat (first | apply Kd.R_alloc | apply Kd.R_drewN | apply Kd.R_drew)); exact Kd.R_mono HO289.out (fun _ hk => ⟨hk.1.2, hk.2⟩)⟩, ⟨Z174⟩, ⟨Z175⟩, ⟨Z176⟩, ⟨Z66⟩⟩
  case round =>
   clear H'
   try clear c1
   try clear c2
   try clear p2
   try clear c3
   try clear c7
   try clear c7b0
   try clear c7b1
   try clear c12
   try clear c13
   try clear c15
   try clear hcz14_0
   try clear hcz14_1
   try clear hcz16_0
   try clear hcz16_1
   try clear hfz14_0
   try clear hfz14_1
   try clear hfz16_0
   try clear hfz16_1
   obtain ⟨x29_1, rfl, HA, HK1, HO_27, BK283, BK284, BK285, HB⟩ := hrel
   cases gk with
   | zero => exact absurd HA.out (by simp [partner_Found.l0])
   | succ k1 =>
    have H := HA.out
    clear HA
    simp only [partner_Found.l0] at H
    by_cases c20 : x29_1 < (y287.length : Int)
    ·rw [if_pos c20] at H
     have c20b0 : decide (x29_1 < (y287.length : Int)) = true := decide_eq_true c20
     clear c20
     by_cases c21 : 0 ≤ x29_1
     ·rw [if_pos c21] at H
      have c21b0 : decide (0 ≤ x29_1) = true := decide_eq_true c21
      clear c21
      by_cases c22 : x29_1 < (y287.length : Int)
      ·rw [if_pos c22] at H
       have c22b0 : decide (x29_1 < (y287.length : Int)) = true := decide_eq_true c22
       clear c22
       replace H := Option.bind_eq_some_iff.mp H
       obtain ⟨t292, A230, H⟩ := H
       replace H : (if t292 = 0 then (partner_Found.l0 k1 l0 l1 y287 (y287.length : Int) (wrap64 (x29_1 + 1)) a2_0 a2_1 a3_0 a3_1 a4_0 a4_1 a4_2 a4_3 a4_4 a4_5) else (some (0, false, t292))) = some (r1, r2, r3) := H
       have A23 := Aside0.mk A230
       clear A230
       by_cases c24 : t292 = 0
       ·rw [if_pos c24] at H
        have c24b0 : (t292 == 0) = true := beq_iff_eq.mpr c24
        have c24b1 : (t292 != 0) = false := bne_eq_false_iff_eq.mpr c24
        clear c24
        have H' := Aside0.mk H
        clear H
        have p290 : 0 ≤ (x29_1 : Int) := of_decide_eq_true Z186
        have q290 : x29_1 < (y287.length : Int) := of_decide_eq_true Z186
        obtain ⟨ad290, e290, hx290_0, hx290_1⟩ := at_T31 (Kd.R_reads' HO_27.out).2.2 x29_1 p290 q290
        cases e290
        replace p290 := eq_true p290
        replace q290 := eq_true q290
        go_wp2_with (first | ((with_reducible refine gate_dst (N := 15) rfl ?_); refine box_event ?hg (N := 15) ?hd (cs := #[.string (⟨#[]⟩ : ByteArray), .string (⟨#[]⟩ : ByteArray)]) (t := 31) ?hr ?_; (case hd => rfl); (case hg => rfl); (case hr => exact Z188); intro gb291 hg w25 hbox hb; have n0_ := Aside0.mk (Kd.R_below (Kd.R_elderB Z181 gb291 (Nat.le_of_eq hg.symm)) hb); have n1_ := Aside0.mk (blk_below (g := gb283) (o := .cells #[.string a2_0, .string a2_1] 31 (0, 0)) Z174 hb); have n2_ := Aside0.mk (blk_below (g := gb284) (o := .cells #[.string a3_0, .string a3_1] 31 (0, 0)) Z175 hb); have n3_ := Aside0.mk (blk_below (g := gb285) (o := .cells #[.string a4_0, .string a4_1, .string a4_2, .string a4_3, .int .i64 a4_4, .bool a4_5] 37 (0, 0)) Z176 hb); have n4_ := Aside0.mk (below_step Z66 hb); have n5_ := Aside0.mk (hbox); have n6_ := Aside0.mk ((Z53 : w.heap.size ≤ gb291)); have n7_ := Aside0.mk ((Z53 : w.heap.size ≤ gb291)); have n8_ := Aside0.mk ((Z76 : gb283 ≠ gb291)); have n9_ := Aside0.mk ((Z77 : gb291 ≠ gb283)); have n10_ := Aside0.mk ((Z78 : gb284 ≠ gb291)); have n11_ := Aside0.mk ((Z79 : gb291 ≠ gb284)); have n12_ := Aside0.mk ((Z49 : gb285 ≠ gb291)); have n13_ := Aside0.mk ((Z50 : gb291 ≠ gb285)); clear HO_27; clear BK283; clear BK284; clear BK285; clear HB; have HO_27 := n0_; have BK283 := n1_; have BK284 := n2_; have BK285 := n3_; have HB := n4_; have BK291 := n5_; have GW291 := n6_; have GE291 := n7_; have NB283_291 := n8_; have NB291_283 := n9_; have NB284_291 := n10_; have NB291_284 := n11_; have NB285_291 := n12_; have NB291_285 := n13_; clear n0_ n1_ n2_ n3_ n4_ n5_ n6_ n7_ n8_ n9_ n10_ n11_ n12_ n13_; clear hb hbox hg; have hnb26 := NB291_283.out; have hnc26 := NB283_291.out; have hnb27 := NB291_284.out; have hnc27 := NB284_291.out; have hnb28 := NB291_285.out; have hnc28 := NB285_291.out; obtain ⟨hcz29_0, hcz29_1, hfz29_0, hfz29_1⟩ := bf2 BK291.out) | ((with_reducible refine gate_callee (f := 48) rfl ?_); refine goesL_ (some 34) rfl rfl Tryd.func48 (by kernel_rfl) rfl #[.agg #[.string ((rd_T31 y287 x29_1).f0), .string ((rd_T31 y287 x29_1).f1)]] rfl Z104 ?_; (with_reducible refine (partner_addressFault.calls k1 ((rd_T31 y287 x29_1).f0) ((rd_T31 y287 x29_1).f1) t292 _ A23.out).mono ?_); rintro e w30 ⟨rfl, hb⟩; refine ⟨_, rfl, ?_⟩; have n0_ := Aside0.mk (Kd.R_below Z31 hb); have n1_ := Aside0.mk (blk_below (g := gb283) (o := .cells #[.string a2_0, .string a2_1] 31 (0, 0)) Z24 hb); have n2_ := Aside0.mk (blk_below (g := gb284) (o := .cells #[.string a3_0, .string a3_1] 31 (0, 0)) Z25 hb); have n3_ := Aside0.mk (blk_below (g := gb285) (o := .cells #[.string a4_0, .string a4_1, .string a4_2, .string a4_3, .int .i64 a4_4, .bool a4_5] 37 (0, 0)) Z26 hb); have n4_ := Aside0.mk (blk_below (g := gb291) (o := .cells #[.string ((rd_T31 y287 x29_1).f0), .string ((rd_T31 y287 x29_1).f1)] 31 (0, 0)) Z10 hb); have n5_ := Aside0.mk (below_step Z55 hb); clear HO_27; clear BK283; clear BK284; clear BK285; clear BK291; clear HB; have HO_27 := n0_; have BK283 := n1_; have BK284 := n2_; have BK285 := n3_; have BK291 := n4_; have HB := n5_; clear n0_ n1_ n2_ n3_ n4_ n5_; (try clear hb); (try clear hb2); (try clear hk); (try clear hi)))
        go_roundg k1
        case measure => have := HK1.out; omega
        case rel => exact ⟨(wrap64 (x29_1 + 1)), Z183, H', ⟨Z192⟩, ⟨by (with_reducible repeat (first | apply Kd.R_alloc | apply Kd.R_drewN | apply Kd.R_drew)); exact Kd.R_mono HO_27.out (fun _ hk => ⟨hk.1.1, hk.1.2⟩)⟩, ⟨Z174⟩, ⟨Z175⟩, ⟨Z176⟩, ⟨Z55⟩⟩
       ·rw [if_neg c24] at H
        have c24b0 : (t292 == 0) = false := beq_eq_false_iff_ne.mpr c24
        have c24b1 : (t292 != 0) = true := bne_iff_ne.mpr c24
        simp only [Option.some.injEq, Prod.mk.injEq] at H
        obtain ⟨rfl, rfl, rfl⟩ := H
        have p290 : 0 ≤ (x29_1 : Int) := of_decide_eq_true Z186
        have q290 : x29_1 < (y287.length : Int) := of_decide_eq_true Z186
        obtain ⟨ad290, e290, hx290_0, hx290_1⟩ := at_T31 (Kd.R_reads' HO_27.out).2.2 x29_1 p290 q290
        cases e290
        replace p290 := eq_true p290
        replace q290 := eq_true q290
        go_wp2_with (first | ((with_reducible refine gate_dst (N := 15) rfl ?_); refine box_event ?hg (N := 15) ?hd (cs := #[.string (⟨#[]⟩ : ByteArray), .string (⟨#[]⟩ : ByteArray)]) (t := 31) ?hr ?_; (case hd => rfl); (case hg => rfl); (case hr => exact Z188); intro gb291 hg w31 hbox hb; have n0_ := Aside0.mk (Kd.R_below (Kd.R_elderB Z181 gb291 (Nat.le_of_eq hg.symm)) hb); have n1_ := Aside0.mk (blk_below (g := gb283) (o := .cells #[.string a2_0, .string a2_1] 31 (0, 0)) Z174 hb); have n2_ := Aside0.mk (blk_below (g := gb284) (o := .cells #[.string a3_0, .string a3_1] 31 (0, 0)) Z175 hb); have n3_ := Aside0.mk (blk_below (g := gb285) (o := .cells #[.string a4_0, .string a4_1, .string a4_2, .string a4_3, .int .i64 a4_4, .bool a4_5] 37 (0, 0)) Z176 hb); have n4_ := Aside0.mk (below_step Z66 hb); have n5_ := Aside0.mk (hbox); have n6_ := Aside0.mk ((Z53 : w.heap.size ≤ gb291)); have n7_ := Aside0.mk ((Z53 : w.heap.size ≤ gb291)); have n8_ := Aside0.mk ((Z76 : gb283 ≠ gb291)); have n9_ := Aside0.mk ((Z77 : gb291 ≠ gb283)); have n10_ := Aside0.mk ((Z78 : gb284 ≠ gb291)); have n11_ := Aside0.mk ((Z79 : gb291 ≠ gb284)); have n12_ := Aside0.mk ((Z49 : gb285 ≠ gb291)); have n13_ := Aside0.mk ((Z50 : gb291 ≠ gb285)); clear HO_27; clear BK283; clear BK284; clear BK285; clear HB; have HO_27 := n0_; have BK283 := n1_; have BK284 := n2_; have BK285 := n3_; have HB := n4_; have BK291 := n5_; have GW291 := n6_; have GE291 := n7_; have NB283_291 := n8_; have NB291_283 := n9_; have NB284_291 := n10_; have NB291_284 := n11_; have NB285_291 := n12_; have NB291_285 := n13_; clear n0_ n1_ n2_ n3_ n4_ n5_ n6_ n7_ n8_ n9_ n10_ n11_ n12_ n13_; clear hb hbox hg; have hnb32 := NB291_283.out; have hnc32 := NB283_291.out; have hnb33 := NB291_284.out; have hnc33 := NB284_291.out; have hnb34 := NB291_285.out; have hnc34 := NB285_291.out; obtain ⟨hcz35_0, hcz35_1, hfz35_0, hfz35_1⟩ := bf2 BK291.out) | ((with_reducible refine gate_callee (f := 48) rfl ?_); refine goesL_ (some 34) rfl rfl Tryd.func48 (by kernel_rfl) rfl #[.agg #[.string ((rd_T31 y287 x29_1).f0), .string ((rd_T31 y287 x29_1).f1)]] rfl Z104 ?_; (with_reducible refine (partner_addressFault.calls k1 ((rd_T31 y287 x29_1).f0) ((rd_T31 y287 x29_1).f1) t292 _ A23.out).mono ?_); rintro e w36 ⟨rfl, hb⟩; refine ⟨_, rfl, ?_⟩; have n0_ := Aside0.mk (Kd.R_below Z31 hb); have n1_ := Aside0.mk (blk_below (g := gb283) (o := .cells #[.string a2_0, .string a2_1] 31 (0, 0)) Z24 hb); have n2_ := Aside0.mk (blk_below (g := gb284) (o := .cells #[.string a3_0, .string a3_1] 31 (0, 0)) Z25 hb); have n3_ := Aside0.mk (blk_below (g := gb285) (o := .cells #[.string a4_0, .string a4_1, .string a4_2, .string a4_3, .int .i64 a4_4, .bool a4_5] 37 (0, 0)) Z26 hb); have n4_ := Aside0.mk (blk_below (g := gb291) (o := .cells #[.string ((rd_T31 y287 x29_1).f0), .string ((rd_T31 y287 x29_1).f1)] 31 (0, 0)) Z10 hb); have n5_ := Aside0.mk (below_step Z55 hb); clear HO_27; clear BK283; clear BK284; clear BK285; clear BK291; clear HB; have HO_27 := n0_; have BK283 := n1_; have BK284 := n2_; have BK285 := n3_; have BK291 := n4_; have HB := n5_; clear n0_ n1_ n2_ n3_ n4_ n5_; (try clear hb); (try clear hb2); (try clear hk); (try clear hi)))
        go_ret3
        exact ⟨Z138, Z55⟩
      ·rw [if_neg c22] at H
       exact absurd H (by simp)
     ·rw [if_neg c21] at H
      exact absurd H (by simp)
    ·rw [if_neg c20] at H
     have c20b0 : decide (x29_1 < (y287.length : Int)) = false := decide_eq_false c20
     clear c20
     have HC37 := Aside0.mk H
     clear H
     go_upto_region 11 with (fail)
     go_cut [46] (fun v46 wc => ∃ (kq : Nat) (x46_36 : Bool), v46 = .bool x46_36 ∧ Aside0 (partner_Found.j1 kq l0 l1 x46_36 a2_0 a2_1 a3_0 a3_1 a4_0 a4_1 a4_2 a4_3 a4_4 a4_5 = some (r1, r2, r3)) ∧ Aside0 (kq ≤ k1) ∧ Aside0 (wc.heap[gb283]? = some (.cells #[.string a2_0, .string a2_1] 31 (0, 0))) ∧ Aside0 (wc.heap[gb284]? = some (.cells #[.string a3_0, .string a3_1] 31 (0, 0))) ∧ Aside0 (wc.heap[gb285]? = some (.cells #[.string a4_0, .string a4_1, .string a4_2, .string a4_3, .int .i64 a4_4, .bool a4_5] 37 (0, 0))) ∧ Aside0 (Below w.heap.size w wc))
     case first =>
      have H := HC37.out
      clear HC37
      by_cases c38 : a4_0.toList = ([] : List UInt8)
      ·rw [if_pos c38] at H
       have c38b0 : (a4_0.toList == ([] : List UInt8)) = true := beq_iff_eq.mpr c38
       have c38b1 : (a4_0.toList != ([] : List UInt8)) = false := bne_eq_false_iff_eq.mpr c38
       clear c38
       (first | rw [c38b0] | (simp only [i64_w, i32_w]; rw [c38b0]) | skip)
       have H' := Aside0.mk H
       clear H
       have hnb39 := NB285_283.out
       have hnc39 := NB283_285.out
       have hnb40 := NB285_284.out
       have hnc40 := NB284_285.out
       have hcz41_0 : wr.cell? ⟨gb285, 0, none⟩ = some (.string a4_0) := (blk_cell BK285.out 0).trans rfl
       have hcz41_1 : wr.cell? ⟨gb285, 1, none⟩ = some (.string a4_1) := (blk_cell BK285.out 1).trans rfl
       have hcz41_2 : wr.cell? ⟨gb285, 2, none⟩ = some (.string a4_2) := (blk_cell BK285.out 2).trans rfl
       have hcz41_3 : wr.cell? ⟨gb285, 3, none⟩ = some (.string a4_3) := (blk_cell BK285.out 3).trans rfl
       have hcz41_4 : wr.cell? ⟨gb285, 4, none⟩ = some (.int .i64 a4_4) := (blk_cell BK285.out 4).trans rfl
       have hcz41_5 : wr.cell? ⟨gb285, 5, none⟩ = some (.bool a4_5) := (blk_cell BK285.out 5).trans rfl
       have hfz41_0 := blk_frozen BK285.out 0
       have hfz41_1 := blk_frozen BK285.out 1
       have hfz41_2 := blk_frozen BK285.out 2
       have hfz41_3 := blk_frozen BK285.out 3
       have hfz41_4 := blk_frozen BK285.out 4
       have hfz41_5 := blk_frozen BK285.out 5
       go_wp2
       go_meet
       case rel => exact ⟨_, ((a4_1.toList != ([] : List UInt8))), Z183, H', ⟨Z185⟩, ⟨Z174⟩, ⟨Z175⟩, ⟨Z176⟩, ⟨Z66⟩⟩
      ·rw [if_neg c38] at H
       have c38b0 : (a4_0.toList == ([] : List UInt8)) = false := beq_eq_false_iff_ne.mpr c38
       have c38b1 : (a4_0.toList != ([] : List UInt8)) = true := bne_iff_ne.mpr c38
       (first | rw [c38b0] | (simp only [i64_w, i32_w]; rw [c38b0]) | skip)
       have H' := Aside0.mk H
       clear H
       have hnb42 := NB285_283.out
       have hnc42 := NB283_285.out
       have hnb43 := NB285_284.out
       have hnc43 := NB284_285.out
       have hcz44_0 : wr.cell? ⟨gb285, 0, none⟩ = some (.string a4_0) := (blk_cell BK285.out 0).trans rfl
       have hcz44_1 : wr.cell? ⟨gb285, 1, none⟩ = some (.string a4_1) := (blk_cell BK285.out 1).trans rfl
       have hcz44_2 : wr.cell? ⟨gb285, 2, none⟩ = some (.string a4_2) := (blk_cell BK285.out 2).trans rfl
       have hcz44_3 : wr.cell? ⟨gb285, 3, none⟩ = some (.string a4_3) := (blk_cell BK285.out 3).trans rfl
       have hcz44_4 : wr.cell? ⟨gb285, 4, none⟩ = some (.int .i64 a4_4) := (blk_cell BK285.out 4).trans rfl
       have hcz44_5 : wr.cell? ⟨gb285, 5, none⟩ = some (.bool a4_5) := (blk_cell BK285.out 5).trans rfl
       have hfz44_0 := blk_frozen BK285.out 0
       have hfz44_1 := blk_frozen BK285.out 1
       have hfz44_2 := blk_frozen BK285.out 2
       have hfz44_3 := blk_frozen BK285.out 3
       have hfz44_4 := blk_frozen BK285.out 4
       have hfz44_5 := blk_frozen BK285.out 5
       go_wp2
       go_meet
       case rel => exact ⟨_, (true), Z183, H', ⟨Z185⟩, ⟨Z174⟩, ⟨Z175⟩, ⟨Z176⟩, ⟨Z66⟩⟩
     case rest =>
      clear HC37
      try clear c1
      try clear c2
      try clear p2
      try clear q2
      try clear hx2
      try clear c3
      try clear c4
      try clear p6
      try clear c7
      try clear c7b0
      try clear c7b1
      try clear c12
      try clear c13
      try clear c15
      try clear c20
      try clear c20b0
      try clear c21
      try clear c21b0
      try clear c22
      try clear c22b0
      try clear c24
      try clear c24b0
      try clear c24b1
      try clear c26
      try clear c27
      try clear c28
      try clear p29
      try clear q29
      try clear hx29
      try clear c32
      try clear c33
      try clear c34
      try clear c36
      try clear c38
      try clear c38b0
      try clear c38b1
      try clear c39
      try clear c40
      try clear c42
      try clear c43
      try clear hcz14_0
      try clear hcz14_1
      try clear hcz16_0
      try clear hcz16_1
      try clear hcz29_0
      try clear hcz29_1
      try clear hcz35_0
      try clear hcz35_1
      try clear hcz41_0
      try clear hcz41_1
      try clear hcz41_2
      try clear hcz41_3
      try clear hcz41_4
      try clear hcz41_5
      try clear hcz44_0
      try clear hcz44_1
      try clear hcz44_2
      try clear hcz44_3
      try clear hcz44_4
      try clear hcz44_5
      try clear hfz14_0
      try clear hfz14_1
      try clear hfz16_0
      try clear hfz16_1
      try clear hfz29_0
      try clear hfz29_1
      try clear hfz35_0
      try clear hfz35_1
      try clear hfz41_0
      try clear hfz41_1
      try clear hfz41_2
      try clear hfz41_3
      try clear hfz41_4
      try clear hfz41_5
      try clear hfz44_0
      try clear hfz44_1
      try clear hfz44_2
      try clear hfz44_3
      try clear hfz44_4
      try clear hfz44_5
      try clear hx290_0
      try clear hx290_1
      try clear p2
      try clear p290
      try clear q290
      obtain ⟨kq, x46_36, rfl, HA, HJ36, BK283, BK284, BK285, HB⟩ := hcut
      cases kq with
      | zero => exact absurd HA.out (by simp [partner_Found.j1])
      | succ kj36 =>
       have H := HA.out
       clear HA
       simp only [partner_Found.j1] at H
       by_cases c45 : x46_36 = true
       ·subst c45
        have H1 : (some (0, false, 3)) = some (r1, r2, r3) := by rw [if_pos rfl] at H; exact H
        clear H
        have H := H1
        clear H1
        simp only [Option.some.injEq, Prod.mk.injEq] at H
        obtain ⟨rfl, rfl, rfl⟩ := H
        go_wp2
        go_ret3
        exact ⟨Z138, Z66⟩
       ·replace c45 := Bool.eq_false_iff.mpr c45
        subst c45
        have H1 : ((partner_restFault.f kj36 a4_0 a4_1 a4_2 a4_3 a4_4 a4_5).bind fun t293 => (if t293 = 0 then ((partner_partnerOf.f kj36 l0 a2_0 a2_1).bind fun t294 => ((partner_partnerOf.f kj36 l0 a3_0 a3_1).bind fun t295 => (if t294.toList = ([] : List UInt8) then (some (0, false, 0)) else (if t295.toList = ([] : List UInt8) then (some (0, false, 0)) else (if t294.toList = t295.toList then (some (0, false, 0)) else ((partner_find.f kj36 l1 t294 t295 a4_2 a4_3 a4_4 a4_5).bind fun t296 => (some (mx t296 0, decide (t296 ≥ 0), 0)))))))) else (some (0, false, t293)))) = some (r1, r2, r3) := by rw [if_neg (show ¬ (false = true) by decide)] at H; exact H
        clear H
        have H := H1
        clear H1
        replace H := Option.bind_eq_some_iff.mp H
        obtain ⟨t293, A460, H⟩ := H
        replace H : (if t293 = 0 then ((partner_partnerOf.f kj36 l0 a2_0 a2_1).bind fun t294 => ((partner_partnerOf.f kj36 l0 a3_0 a3_1).bind fun t295 => (if t294.toList = ([] : List UInt8) then (some (0, false, 0)) else (if t295.toList = ([] : List UInt8) then (some (0, false, 0)) else (if t294.toList = t295.toList then (some (0, false, 0)) else ((partner_find.f kj36 l1 t294 t295 a4_2 a4_3 a4_4 a4_5).bind fun t296 => (some (mx t296 0, decide (t296 ≥ 0), 0)))))))) else (some (0, false, t293))) = some (r1, r2, r3) := H
        have A46 := Aside0.mk A460
        clear A460
        by_cases c47 : t293 = 0
        ·rw [if_pos c47] at H
         have c47b0 : (t293 == 0) = true := beq_iff_eq.mpr c47
         have c47b1 : (t293 != 0) = false := bne_eq_false_iff_eq.mpr c47
         clear c47
         replace H := Option.bind_eq_some_iff.mp H
         obtain ⟨t294, A480, H⟩ := H
         replace H : ((partner_partnerOf.f kj36 l0 a3_0 a3_1).bind fun t295 => (if t294.toList = ([] : List UInt8) then (some (0, false, 0)) else (if t295.toList = ([] : List UInt8) then (some (0, false, 0)) else (if t294.toList = t295.toList then (some (0, false, 0)) else ((partner_find.f kj36 l1 t294 t295 a4_2 a4_3 a4_4 a4_5).bind fun t296 => (some (mx t296 0, decide (t296 ≥ 0), 0))))))) = some (r1, r2, r3) := H
         have A48 := Aside0.mk A480
         clear A480
         replace H := Option.bind_eq_some_iff.mp H
         obtain ⟨t295, A490, H⟩ := H
         replace H : (if t294.toList = ([] : List UInt8) then (some (0, false, 0)) else (if t295.toList = ([] : List UInt8) then (some (0, false, 0)) else (if t294.toList = t295.toList then (some (0, false, 0)) else ((partner_find.f kj36 l1 t294 t295 a4_2 a4_3 a4_4 a4_5).bind fun t296 => (some (mx t296 0, decide (t296 ≥ 0), 0)))))) = some (r1, r2, r3) := H
         have A49 := Aside0.mk A490
         clear A490
         by_cases c50 : t294.toList = ([] : List UInt8)
         ·rw [if_pos c50] at H
          have c50b0 : (t294.toList == ([] : List UInt8)) = true := beq_iff_eq.mpr c50
          have c50b1 : (t294.toList != ([] : List UInt8)) = false := bne_eq_false_iff_eq.mpr c50
          clear c50
          simp only [Option.some.injEq, Prod.mk.injEq] at H
          obtain ⟨rfl, rfl, rfl⟩ := H
          have hnb51 := NB285_283.out
          have hnc51 := NB283_285.out
          have hnb52 := NB285_284.out
          have hnc52 := NB284_285.out
          have hcz53_0 : wc.cell? ⟨gb285, 0, none⟩ = some (.string a4_0) := (blk_cell BK285.out 0).trans rfl
          have hcz53_1 : wc.cell? ⟨gb285, 1, none⟩ = some (.string a4_1) := (blk_cell BK285.out 1).trans rfl
          have hcz53_2 : wc.cell? ⟨gb285, 2, none⟩ = some (.string a4_2) := (blk_cell BK285.out 2).trans rfl
          have hcz53_3 : wc.cell? ⟨gb285, 3, none⟩ = some (.string a4_3) := (blk_cell BK285.out 3).trans rfl
          have hcz53_4 : wc.cell? ⟨gb285, 4, none⟩ = some (.int .i64 a4_4) := (blk_cell BK285.out 4).trans rfl
          have hcz53_5 : wc.cell? ⟨gb285, 5, none⟩ = some (.bool a4_5) := (blk_cell BK285.out 5).trans rfl
          have hfz53_0 := blk_frozen BK285.out 0
          have hfz53_1 := blk_frozen BK285.out 1
          have hfz53_2 := blk_frozen BK285.out 2
          have hfz53_3 := blk_frozen BK285.out 3
          have hfz53_4 := blk_frozen BK285.out 4
          have hfz53_5 := blk_frozen BK285.out 5
          try go_wp2_with (first | ((with_reducible refine gate_callee (f := 79) rfl ?_); refine goesL_ (some 48) rfl rfl Tryd.func79 (by kernel_rfl) rfl #[.agg #[.string a4_0, .string a4_1, .string a4_2, .string a4_3, .int .i64 a4_4, .bool a4_5]] rfl Z104 ?_; (with_reducible refine (partner_restFault.calls kj36 a4_0 a4_1 a4_2 a4_3 a4_4 a4_5 t293 _ A46.out).mono ?_); rintro e w54 ⟨rfl, hb⟩; refine ⟨_, rfl, ?_⟩; have n0_ := Aside0.mk (blk_below (g := gb283) (o := .cells #[.string a2_0, .string a2_1] 31 (0, 0)) Z174 hb); have n1_ := Aside0.mk (blk_below (g := gb284) (o := .cells #[.string a3_0, .string a3_1] 31 (0, 0)) Z175 hb); have n2_ := Aside0.mk (blk_below (g := gb285) (o := .cells #[.string a4_0, .string a4_1, .string a4_2, .string a4_3, .int .i64 a4_4, .bool a4_5] 37 (0, 0)) Z176 hb); have n3_ := Aside0.mk (below_step Z66 hb); clear BK283; clear BK284; clear BK285; clear HB; have BK283 := n0_; have BK284 := n1_; have BK285 := n2_; have HB := n3_; clear n0_ n1_ n2_ n3_; (try clear hb); (try clear hb2); (try clear hk); (try clear hi)))
          have n0_ := Aside0.mk (blk_drew BK283.out)
          have n1_ := Aside0.mk (blk_drew BK284.out)
          have n2_ := Aside0.mk (blk_drew BK285.out)
          have n3_ := Aside0.mk (below_drew1 HB.out)
          clear BK283
          clear BK284
          clear BK285
          clear HB
          have BK283 := n0_
          have BK284 := n1_
          have BK285 := n2_
          have HB := n3_
          clear n0_ n1_ n2_ n3_
          refine start_ (n := 10) (S := fun w' => w'.cell? ⟨gb283, 0, none⟩ = some (.string a2_0) ∧ w'.cell? ⟨gb283, 1, none⟩ = some (.string a2_1) ∧ w'.cell? ⟨gb284, 0, none⟩ = some (.string a3_0) ∧ w'.cell? ⟨gb284, 1, none⟩ = some (.string a3_1)) (ds := []) #[false, false, false, false, false, false, false, false, false, false] (by kernel_rfl) rfl rfl ⟨(blk_cell BK283.out 0).trans rfl, (blk_cell BK283.out 1).trans rfl, (blk_cell BK284.out 0).trans rfl, (blk_cell BK284.out 1).trans rfl⟩ (fun hHeld => ?_); refine with_tabW partner_Found.tab16 partner_Found.bits16 (fun HT_ HW_ => ?_)
          generalize w54.drew = w55 at BK283 BK284 BK285 HB hHeld ⊢
          refine pure_ (i := 0) (N := some 52) (v := ?_) (a' := ?_) #[true, false, false, false, false, false, false, false, false, false] rfl rfl (any_of HT_.out (by kernel_rfl)) (fun _ _ _ h => h) (Or.inl ⟨by rfl, ?_⟩) ?_ ?_
          rotate_left
          ·intro w'
           go_simp
           with_reducible rfl
          rotate_left
          ·simp only [Act.put, List.setIfInBounds_toArray, List.set_cons_zero, List.set_cons_succ, i64_w, i32_w]
           rfl
          refine pure_ (i := 3) (N := some 55) (v := ?_) (a' := ?_) #[true, false, false, true, false, false, false, false, false, false] rfl rfl (any_of HT_.out (by kernel_rfl)) (fun _ _ _ h => h) (Or.inl ⟨by rfl, ?_⟩) ?_ ?_
          rotate_left
          ·intro w'
           go_simp
           with_reducible rfl
          rotate_left
          ·simp only [Act.put, List.setIfInBounds_toArray, List.set_cons_zero, List.set_cons_succ, i64_w, i32_w]
           rfl
          refine take_ (i := 1) (N := some 53) (v := ?_) (a' := ?_) #[true, true, false, true, false, false, false, false, false, false] rfl rfl (take_ofW HT_.out HW_.out (by kernel_rfl)) (fun _ _ _ h => h) (Or.inl ⟨by rfl, ?_⟩) hHeld ?_ ?_
          rotate_left
          ·rintro w' ⟨s0, s1, s2, s3⟩
           go_simp
           with_reducible rfl
          rotate_left
          ·simp only [Act.put, List.setIfInBounds_toArray, List.set_cons_zero, List.set_cons_succ, i64_w, i32_w]
           rfl
          refine take_ (i := 4) (N := some 56) (v := ?_) (a' := ?_) #[true, true, false, true, true, false, false, false, false, false] rfl rfl (take_ofW HT_.out HW_.out (by kernel_rfl)) (fun _ _ _ h => h) (Or.inl ⟨by rfl, ?_⟩) hHeld ?_ ?_
          rotate_left
          ·rintro w' ⟨s0, s1, s2, s3⟩
           go_simp
           with_reducible rfl
          rotate_left
          ·simp only [Act.put, List.setIfInBounds_toArray, List.set_cons_zero, List.set_cons_succ, i64_w, i32_w]
           rfl
          refine one_ (i := 2) (N := some 54) #[true, true, true, true, true, false, false, false, false, false] rfl rfl (one_of HT_.out (by kernel_rfl)) (by decide) (fun K hK => ?_)
          refine goes_ Tryd.func49 (by kernel_rfl) rfl #[.slice A0 l0.length c0, .agg #[.string a2_0, .string a2_1]] (by rfl) rfl rfl Z104 ?_
          with_reducible refine (partner_partnerOf.calls kj36 _ _ l0 a2_0 a2_1 t294 _ ?side1 ?side2 A48.out).mono ?_
          (case side1 => exact Z105)
          (case side2 => exact Z193)
          rintro e w56 ⟨rfl, hb⟩
          refine ⟨_, rfl, ?_⟩
          have n0_ := Aside0.mk (blk_below (g := gb283) (o := .cells #[.string a2_0, .string a2_1] 31 (0, 0)) Z174 hb)
          have n1_ := Aside0.mk (blk_below (g := gb284) (o := .cells #[.string a3_0, .string a3_1] 31 (0, 0)) Z175 hb)
          have n2_ := Aside0.mk (blk_below (g := gb285) (o := .cells #[.string a4_0, .string a4_1, .string a4_2, .string a4_3, .int .i64 a4_4, .bool a4_5] 37 (0, 0)) Z176 hb)
          have n3_ := Aside0.mk (below_step Z66 hb)
          clear BK283
          clear BK284
          clear BK285
          clear HB
          have BK283 := n0_
          have BK284 := n1_
          have BK285 := n2_
          have HB := n3_
          clear n0_ n1_ n2_ n3_
          (try clear hb)
          (try clear hb2)
          (try clear hk)
          (try clear hi)
          refine hK.out _ _ ⟨(blk_cell BK283.out 0).trans rfl, (blk_cell BK283.out 1).trans rfl, (blk_cell BK284.out 0).trans rfl, (blk_cell BK284.out 1).trans rfl⟩ (fun hHeld => ?_)
          clear hK K
          refine norm_ (a' := ?_) ?_ ?_
          rotate_left
          ·show Act.put _ (some 54) _ = _
           simp only [Act.put, List.setIfInBounds_toArray, List.set_cons_zero, List.set_cons_succ, i64_w, i32_w]
           rfl
          refine pure_ (i := 6) (N := some 58) (v := ?_) (a' := ?_) #[true, true, true, true, true, false, true, false, false, false] rfl rfl (any_of HT_.out (by kernel_rfl)) (fun _ _ _ h => h) (Or.inl ⟨by rfl, ?_⟩) ?_ ?_
          rotate_left
          ·intro w'
           go_simp
           with_reducible rfl
          rotate_left
          ·simp only [Act.put, List.setIfInBounds_toArray, List.set_cons_zero, List.set_cons_succ, i64_w, i32_w]
           rfl
          refine one_ (i := 5) (N := some 57) #[true, true, true, true, true, true, true, false, false, false] rfl rfl (one_of HT_.out (by kernel_rfl)) (by decide) (fun K hK => ?_)
          refine goes_ Tryd.func49 (by kernel_rfl) rfl #[.slice A0 l0.length c0, .agg #[.string a3_0, .string a3_1]] (by rfl) rfl rfl Z104 ?_
          with_reducible refine (partner_partnerOf.calls kj36 _ _ l0 a3_0 a3_1 t295 _ ?side1 ?side2 A49.out).mono ?_
          (case side1 => exact Z105)
          (case side2 => exact Z193)
          rintro e w57 ⟨rfl, hb⟩
          refine ⟨_, rfl, ?_⟩
          have n0_ := Aside0.mk (blk_below (g := gb283) (o := .cells #[.string a2_0, .string a2_1] 31 (0, 0)) Z174 hb)
          have n1_ := Aside0.mk (blk_below (g := gb284) (o := .cells #[.string a3_0, .string a3_1] 31 (0, 0)) Z175 hb)
          have n2_ := Aside0.mk (blk_below (g := gb285) (o := .cells #[.string a4_0, .string a4_1, .string a4_2, .string a4_3, .int .i64 a4_4, .bool a4_5] 37 (0, 0)) Z176 hb)
          have n3_ := Aside0.mk (below_step Z66 hb)
          clear BK283
          clear BK284
          clear BK285
          clear HB
          have BK283 := n0_
          have BK284 := n1_
          have BK285 := n2_
          have HB := n3_
          clear n0_ n1_ n2_ n3_
          (try clear hb)
          (try clear hb2)
          (try clear hk)
          (try clear hi)
          refine hK.out _ _ ⟨(blk_cell BK283.out 0).trans rfl, (blk_cell BK283.out 1).trans rfl, (blk_cell BK284.out 0).trans rfl, (blk_cell BK284.out 1).trans rfl⟩ (fun hHeld => ?_)
          clear hK K
          refine norm_ (a' := ?_) ?_ ?_
          rotate_left
          ·show Act.put _ (some 57) _ = _
           simp only [Act.put, List.setIfInBounds_toArray, List.set_cons_zero, List.set_cons_succ, i64_w, i32_w]
           rfl
          refine one_ (i := 7) (N := none) #[true, true, true, true, true, true, true, true, false, false] rfl rfl (one_of HT_.out (by kernel_rfl)) (by decide) (fun K hK => ?_)
          have hs58 : w57.cell? ⟨gb285, 0, none⟩ = some (.string a4_0) := (blk_cell BK285.out 0).trans rfl
          have hfs58 := blk_frozen BK285.out 0
          have hns58_0 := NB283_285.out
          have hns58_1 := NB284_285.out
          have hms58_0 := NB285_283.out
          have hms58_1 := NB285_284.out
          refine skip_ (w1 := ?_) (by rfl) rfl ?_ ?_
          rotate_left
          ·go_simp
           rfl
          refine hK.out _ _ ⟨((cell_far (p := ⟨gb285, _, none⟩) NB283_285.out _).trans (hHeld.1)), ((cell_far (p := ⟨gb285, _, none⟩) NB283_285.out _).trans (hHeld.2.1)), ((cell_far (p := ⟨gb285, _, none⟩) NB284_285.out _).trans (hHeld.2.2.1)), ((cell_far (p := ⟨gb285, _, none⟩) NB284_285.out _).trans (hHeld.2.2.2))⟩ (fun hHeld => ?_)
          clear hK K
          refine pure_ (i := 8) (N := some 59) (v := ?_) (a' := ?_) #[true, true, true, true, true, true, true, true, true, false] rfl rfl (any_of HT_.out (by kernel_rfl)) (fun _ _ _ h => h) (Or.inl ⟨by rfl, ?_⟩) ?_ ?_
          rotate_left
          ·intro w'
           go_simp
           with_reducible rfl
          rotate_left
          ·simp only [Act.put, List.setIfInBounds_toArray, List.set_cons_zero, List.set_cons_succ, i64_w, i32_w]
           rfl
          refine one_ (i := 9) (N := none) #[true, true, true, true, true, true, true, true, true, true] rfl rfl (one_of HT_.out (by kernel_rfl)) (by decide) (fun K hK => ?_)
          have hs59 : w57.cell? ⟨gb285, 1, none⟩ = some (.string a4_1) := (blk_cell BK285.out 1).trans rfl
          have hfs59 := blk_frozen BK285.out 1
          have hns59_0 := NB283_285.out
          have hns59_1 := NB284_285.out
          have hms59_0 := NB285_283.out
          have hms59_1 := NB285_284.out
          refine skip_ (w1 := ?_) (by rfl) rfl ?_ ?_
          rotate_left
          ·go_simp
           rfl
          refine hK.out _ _ ⟨((cell_far (p := ⟨gb285, _, none⟩) NB283_285.out _).trans (hHeld.1)), ((cell_far (p := ⟨gb285, _, none⟩) NB283_285.out _).trans (hHeld.2.1)), ((cell_far (p := ⟨gb285, _, none⟩) NB284_285.out _).trans (hHeld.2.2.1)), ((cell_far (p := ⟨gb285, _, none⟩) NB284_285.out _).trans (hHeld.2.2.2))⟩ (fun hHeld => ?_)
          clear hK K
          refine done_ (done_of HT_.out (by kernel_rfl)) ?_
          obtain ⟨hcz60_0, hcz60_1, hcz60_2, hcz60_3, hcz60_4, hcz60_5, hfz60_0, hfz60_1, hfz60_2, hfz60_3, hfz60_4, hfz60_5⟩ := bf6 BK285.out
          try go_wp2
          go_ret3
          exact ⟨Z138, Z66⟩
         ·rw [if_neg c50] at H
          have c50b0 : (t294.toList == ([] : List UInt8)) = false := beq_eq_false_iff_ne.mpr c50
          have c50b1 : (t294.toList != ([] : List UInt8)) = true := bne_iff_ne.mpr c50
          by_cases c61 : t295.toList = ([] : List UInt8)
          ·rw [if_pos c61] at H
           have c61b0 : (t295.toList == ([] : List UInt8)) = true := beq_iff_eq.mpr c61
           have c61b1 : (t295.toList != ([] : List UInt8)) = false := bne_eq_false_iff_eq.mpr c61
           clear c61
           simp only [Option.some.injEq, Prod.mk.injEq] at H
           obtain ⟨rfl, rfl, rfl⟩ := H
           have hnb62 := NB285_283.out
           have hnc62 := NB283_285.out
           have hnb63 := NB285_284.out
           have hnc63 := NB284_285.out
           have hcz64_0 : wc.cell? ⟨gb285, 0, none⟩ = some (.string a4_0) := (blk_cell BK285.out 0).trans rfl
           have hcz64_1 : wc.cell? ⟨gb285, 1, none⟩ = some (.string a4_1) := (blk_cell BK285.out 1).trans rfl
           have hcz64_2 : wc.cell? ⟨gb285, 2, none⟩ = some (.string a4_2) := (blk_cell BK285.out 2).trans rfl
           have hcz64_3 : wc.cell? ⟨gb285, 3, none⟩ = some (.string a4_3) := (blk_cell BK285.out 3).trans rfl
           have hcz64_4 : wc.cell? ⟨gb285, 4, none⟩ = some (.int .i64 a4_4) := (blk_cell BK285.out 4).trans rfl
           have hcz64_5 : wc.cell? ⟨gb285, 5, none⟩ = some (.bool a4_5) := (blk_cell BK285.out 5).trans rfl
           have hfz64_0 := blk_frozen BK285.out 0
           have hfz64_1 := blk_frozen BK285.out 1
           have hfz64_2 := blk_frozen BK285.out 2
           have hfz64_3 := blk_frozen BK285.out 3
           have hfz64_4 := blk_frozen BK285.out 4
           have hfz64_5 := blk_frozen BK285.out 5
           try go_wp2_with (first | ((with_reducible refine gate_callee (f := 79) rfl ?_); refine goesL_ (some 48) rfl rfl Tryd.func79 (by kernel_rfl) rfl #[.agg #[.string a4_0, .string a4_1, .string a4_2, .string a4_3, .int .i64 a4_4, .bool a4_5]] rfl Z104 ?_; (with_reducible refine (partner_restFault.calls kj36 a4_0 a4_1 a4_2 a4_3 a4_4 a4_5 t293 _ A46.out).mono ?_); rintro e w65 ⟨rfl, hb⟩; refine ⟨_, rfl, ?_⟩; have n0_ := Aside0.mk (blk_below (g := gb283) (o := .cells #[.string a2_0, .string a2_1] 31 (0, 0)) Z174 hb); have n1_ := Aside0.mk (blk_below (g := gb284) (o := .cells #[.string a3_0, .string a3_1] 31 (0, 0)) Z175 hb); have n2_ := Aside0.mk (blk_below (g := gb285) (o := .cells #[.string a4_0, .string a4_1, .string a4_2, .string a4_3, .int .i64 a4_4, .bool a4_5] 37 (0, 0)) Z176 hb); have n3_ := Aside0.mk (below_step Z66 hb); clear BK283; clear BK284; clear BK285; clear HB; have BK283 := n0_; have BK284 := n1_; have BK285 := n2_; have HB := n3_; clear n0_ n1_ n2_ n3_; (try clear hb); (try clear hb2); (try clear hk); (try clear hi)))
           have n0_ := Aside0.mk (blk_drew BK283.out)
           have n1_ := Aside0.mk (blk_drew BK284.out)
           have n2_ := Aside0.mk (blk_drew BK285.out)
           have n3_ := Aside0.mk (below_drew1 HB.out)
           clear BK283
           clear BK284
           clear BK285
           clear HB
           have BK283 := n0_
           have BK284 := n1_
           have BK285 := n2_
           have HB := n3_
           clear n0_ n1_ n2_ n3_
           refine start_ (n := 10) (S := fun w' => w'.cell? ⟨gb283, 0, none⟩ = some (.string a2_0) ∧ w'.cell? ⟨gb283, 1, none⟩ = some (.string a2_1) ∧ w'.cell? ⟨gb284, 0, none⟩ = some (.string a3_0) ∧ w'.cell? ⟨gb284, 1, none⟩ = some (.string a3_1)) (ds := []) #[false, false, false, false, false, false, false, false, false, false] (by kernel_rfl) rfl rfl ⟨(blk_cell BK283.out 0).trans rfl, (blk_cell BK283.out 1).trans rfl, (blk_cell BK284.out 0).trans rfl, (blk_cell BK284.out 1).trans rfl⟩ (fun hHeld => ?_); refine with_tabW partner_Found.tab16 partner_Found.bits16 (fun HT_ HW_ => ?_)
           generalize w65.drew = w66 at BK283 BK284 BK285 HB hHeld ⊢
           refine pure_ (i := 0) (N := some 52) (v := ?_) (a' := ?_) #[true, false, false, false, false, false, false, false, false, false] rfl rfl (any_of HT_.out (by kernel_rfl)) (fun _ _ _ h => h) (Or.inl ⟨by rfl, ?_⟩) ?_ ?_
           rotate_left
           ·intro w'
            go_simp
            with_reducible rfl
           rotate_left
           ·simp only [Act.put, List.setIfInBounds_toArray, List.set_cons_zero, List.set_cons_succ, i64_w, i32_w]
            rfl
           refine pure_ (i := 3) (N := some 55) (v := ?_) (a' := ?_) #[true, false, false, true, false, false, false, false, false, false] rfl rfl (any_of HT_.out (by kernel_rfl)) (fun _ _ _ h => h) (Or.inl ⟨by rfl, ?_⟩) ?_ ?_
           rotate_left
           ·intro w'
            go_simp
            with_reducible rfl
           rotate_left
           ·simp only [Act.put, List.setIfInBounds_toArray, List.set_cons_zero, List.set_cons_succ, i64_w, i32_w]
            rfl
           refine take_ (i := 1) (N := some 53) (v := ?_) (a' := ?_) #[true, true, false, true, false, false, false, false, false, false] rfl rfl (take_ofW HT_.out HW_.out (by kernel_rfl)) (fun _ _ _ h => h) (Or.inl ⟨by rfl, ?_⟩) hHeld ?_ ?_
           rotate_left
           ·rintro w' ⟨s0, s1, s2, s3⟩
            go_simp
            with_reducible rfl
           rotate_left
           ·simp only [Act.put, List.setIfInBounds_toArray, List.set_cons_zero, List.set_cons_succ, i64_w, i32_w]
            rfl
           refine take_ (i := 4) (N := some 56) (v := ?_) (a' := ?_) #[true, true, false, true, true, false, false, false, false, false] rfl rfl (take_ofW HT_.out HW_.out (by kernel_rfl)) (fun _ _ _ h => h) (Or.inl ⟨by rfl, ?_⟩) hHeld ?_ ?_
           rotate_left
           ·rintro w' ⟨s0, s1, s2, s3⟩
            go_simp
            with_reducible rfl
           rotate_left
           ·simp only [Act.put, List.setIfInBounds_toArray, List.set_cons_zero, List.set_cons_succ, i64_w, i32_w]
            rfl
           refine one_ (i := 2) (N := some 54) #[true, true, true, true, true, false, false, false, false, false] rfl rfl (one_of HT_.out (by kernel_rfl)) (by decide) (fun K hK => ?_)
           refine goes_ Tryd.func49 (by kernel_rfl) rfl #[.slice A0 l0.length c0, .agg #[.string a2_0, .string a2_1]] (by rfl) rfl rfl Z104 ?_
           with_reducible refine (partner_partnerOf.calls kj36 _ _ l0 a2_0 a2_1 t294 _ ?side1 ?side2 A48.out).mono ?_
           (case side1 => exact Z105)
           (case side2 => exact Z193)
           rintro e w67 ⟨rfl, hb⟩
           refine ⟨_, rfl, ?_⟩
           have n0_ := Aside0.mk (blk_below (g := gb283) (o := .cells #[.string a2_0, .string a2_1] 31 (0, 0)) Z174 hb)
           have n1_ := Aside0.mk (blk_below (g := gb284) (o := .cells #[.string a3_0, .string a3_1] 31 (0, 0)) Z175 hb)
           have n2_ := Aside0.mk (blk_below (g := gb285) (o := .cells #[.string a4_0, .string a4_1, .string a4_2, .string a4_3, .int .i64 a4_4, .bool a4_5] 37 (0, 0)) Z176 hb)
           have n3_ := Aside0.mk (below_step Z66 hb)
           clear BK283
           clear BK284
           clear BK285
           clear HB
           have BK283 := n0_
           have BK284 := n1_
           have BK285 := n2_
           have HB := n3_
           clear n0_ n1_ n2_ n3_
           (try clear hb)
           (try clear hb2)
           (try clear hk)
           (try clear hi)
           refine hK.out _ _ ⟨(blk_cell BK283.out 0).trans rfl, (blk_cell BK283.out 1).trans rfl, (blk_cell BK284.out 0).trans rfl, (blk_cell BK284.out 1).trans rfl⟩ (fun hHeld => ?_)
           clear hK K
           refine norm_ (a' := ?_) ?_ ?_
           rotate_left
           ·show Act.put _ (some 54) _ = _
            simp only [Act.put, List.setIfInBounds_toArray, List.set_cons_zero, List.set_cons_succ, i64_w, i32_w]
            rfl
           refine pure_ (i := 6) (N := some 58) (v := ?_) (a' := ?_) #[true, true, true, true, true, false, true, false, false, false] rfl rfl (any_of HT_.out (by kernel_rfl)) (fun _ _ _ h => h) (Or.inl ⟨by rfl, ?_⟩) ?_ ?_
           rotate_left
           ·intro w'
            go_simp
            with_reducible rfl
           rotate_left
           ·simp only [Act.put, List.setIfInBounds_toArray, List.set_cons_zero, List.set_cons_succ, i64_w, i32_w]
            rfl
           refine one_ (i := 5) (N := some 57) #[true, true, true, true, true, true, true, false, false, false] rfl rfl (one_of HT_.out (by kernel_rfl)) (by decide) (fun K hK => ?_)
           refine goes_ Tryd.func49 (by kernel_rfl) rfl #[.slice A0 l0.length c0, .agg #[.string a3_0, .string a3_1]] (by rfl) rfl rfl Z104 ?_
           with_reducible refine (partner_partnerOf.calls kj36 _ _ l0 a3_0 a3_1 t295 _ ?side1 ?side2 A49.out).mono ?_
           (case side1 => exact Z105)
           (case side2 => exact Z193)
           rintro e w68 ⟨rfl, hb⟩
           refine ⟨_, rfl, ?_⟩
           have n0_ := Aside0.mk (blk_below (g := gb283) (o := .cells #[.string a2_0, .string a2_1] 31 (0, 0)) Z174 hb)
           have n1_ := Aside0.mk (blk_below (g := gb284) (o := .cells #[.string a3_0, .string a3_1] 31 (0, 0)) Z175 hb)
           have n2_ := Aside0.mk (blk_below (g := gb285) (o := .cells #[.string a4_0, .string a4_1, .string a4_2, .string a4_3, .int .i64 a4_4, .bool a4_5] 37 (0, 0)) Z176 hb)
           have n3_ := Aside0.mk (below_step Z66 hb)
           clear BK283
           clear BK284
           clear BK285
           clear HB
           have BK283 := n0_
           have BK284 := n1_
           have BK285 := n2_
           have HB := n3_
           clear n0_ n1_ n2_ n3_
           (try clear hb)
           (try clear hb2)
           (try clear hk)
           (try clear hi)
           refine hK.out _ _ ⟨(blk_cell BK283.out 0).trans rfl, (blk_cell BK283.out 1).trans rfl, (blk_cell BK284.out 0).trans rfl, (blk_cell BK284.out 1).trans rfl⟩ (fun hHeld => ?_)
           clear hK K
           refine norm_ (a' := ?_) ?_ ?_
           rotate_left
           ·show Act.put _ (some 57) _ = _
            simp only [Act.put, List.setIfInBounds_toArray, List.set_cons_zero, List.set_cons_succ, i64_w, i32_w]
            rfl
           refine one_ (i := 7) (N := none) #[true, true, true, true, true, true, true, true, false, false] rfl rfl (one_of HT_.out (by kernel_rfl)) (by decide) (fun K hK => ?_)
           have hs69 : w68.cell? ⟨gb285, 0, none⟩ = some (.string a4_0) := (blk_cell BK285.out 0).trans rfl
           have hfs69 := blk_frozen BK285.out 0
           have hns69_0 := NB283_285.out
           have hns69_1 := NB284_285.out
           have hms69_0 := NB285_283.out
           have hms69_1 := NB285_284.out
           refine skip_ (w1 := ?_) (by rfl) rfl ?_ ?_
           rotate_left
           ·go_simp
            rfl
           refine hK.out _ _ ⟨((cell_far (p := ⟨gb285, _, none⟩) NB283_285.out _).trans (hHeld.1)), ((cell_far (p := ⟨gb285, _, none⟩) NB283_285.out _).trans (hHeld.2.1)), ((cell_far (p := ⟨gb285, _, none⟩) NB284_285.out _).trans (hHeld.2.2.1)), ((cell_far (p := ⟨gb285, _, none⟩) NB284_285.out _).trans (hHeld.2.2.2))⟩ (fun hHeld => ?_)
           clear hK K
           refine pure_ (i := 8) (N := some 59) (v := ?_) (a' := ?_) #[true, true, true, true, true, true, true, true, true, false] rfl rfl (any_of HT_.out (by kernel_rfl)) (fun _ _ _ h => h) (Or.inl ⟨by rfl, ?_⟩) ?_ ?_
           rotate_left
           ·intro w'
            go_simp
            with_reducible rfl
           rotate_left
           ·simp only [Act.put, List.setIfInBounds_toArray, List.set_cons_zero, List.set_cons_succ, i64_w, i32_w]
            rfl
           refine one_ (i := 9) (N := none) #[true, true, true, true, true, true, true, true, true, true] rfl rfl (one_of HT_.out (by kernel_rfl)) (by decide) (fun K hK => ?_)
           have hs70 : w68.cell? ⟨gb285, 1, none⟩ = some (.string a4_1) := (blk_cell BK285.out 1).trans rfl
           have hfs70 := blk_frozen BK285.out 1
           have hns70_0 := NB283_285.out
           have hns70_1 := NB284_285.out
           have hms70_0 := NB285_283.out
           have hms70_1 := NB285_284.out
           refine skip_ (w1 := ?_) (by rfl) rfl ?_ ?_
           rotate_left
           ·go_simp
            rfl
           refine hK.out _ _ ⟨((cell_far (p := ⟨gb285, _, none⟩) NB283_285.out _).trans (hHeld.1)), ((cell_far (p := ⟨gb285, _, none⟩) NB283_285.out _).trans (hHeld.2.1)), ((cell_far (p := ⟨gb285, _, none⟩) NB284_285.out _).trans (hHeld.2.2.1)), ((cell_far (p := ⟨gb285, _, none⟩) NB284_285.out _).trans (hHeld.2.2.2))⟩ (fun hHeld => ?_)
           clear hK K
           refine done_ (done_of HT_.out (by kernel_rfl)) ?_
           obtain ⟨hcz71_0, hcz71_1, hcz71_2, hcz71_3, hcz71_4, hcz71_5, hfz71_0, hfz71_1, hfz71_2, hfz71_3, hfz71_4, hfz71_5⟩ := bf6 BK285.out
           try go_wp2
           go_ret3
           exact ⟨Z138, Z66⟩
          ·rw [if_neg c61] at H
           have c61b0 : (t295.toList == ([] : List UInt8)) = false := beq_eq_false_iff_ne.mpr c61
           have c61b1 : (t295.toList != ([] : List UInt8)) = true := bne_iff_ne.mpr c61
           by_cases c72 : t294.toList = t295.toList
           ·rw [if_pos c72] at H
            have c72b0 : (t294.toList == t295.toList) = true := beq_iff_eq.mpr c72
            have c72b1 : (t294.toList != t295.toList) = false := bne_eq_false_iff_eq.mpr c72
            clear c72
            simp only [Option.some.injEq, Prod.mk.injEq] at H
            obtain ⟨rfl, rfl, rfl⟩ := H
            have hnb73 := NB285_283.out
            have hnc73 := NB283_285.out
            have hnb74 := NB285_284.out
            have hnc74 := NB284_285.out
            have hcz75_0 : wc.cell? ⟨gb285, 0, none⟩ = some (.string a4_0) := (blk_cell BK285.out 0).trans rfl
            have hcz75_1 : wc.cell? ⟨gb285, 1, none⟩ = some (.string a4_1) := (blk_cell BK285.out 1).trans rfl
            have hcz75_2 : wc.cell? ⟨gb285, 2, none⟩ = some (.string a4_2) := (blk_cell BK285.out 2).trans rfl
            have hcz75_3 : wc.cell? ⟨gb285, 3, none⟩ = some (.string a4_3) := (blk_cell BK285.out 3).trans rfl
            have hcz75_4 : wc.cell? ⟨gb285, 4, none⟩ = some (.int .i64 a4_4) := (blk_cell BK285.out 4).trans rfl
            have hcz75_5 : wc.cell? ⟨gb285, 5, none⟩ = some (.bool a4_5) := (blk_cell BK285.out 5).trans rfl
            have hfz75_0 := blk_frozen BK285.out 0
            have hfz75_1 := blk_frozen BK285.out 1
            have hfz75_2 := blk_frozen BK285.out 2
            have hfz75_3 := blk_frozen BK285.out 3
            have hfz75_4 := blk_frozen BK285.out 4
            have hfz75_5 := blk_frozen BK285.out 5
            try go_wp2_with (first | ((with_reducible refine gate_callee (f := 79) rfl ?_); refine goesL_ (some 48) rfl rfl Tryd.func79 (by kernel_rfl) rfl #[.agg #[.string a4_0, .string a4_1, .string a4_2, .string a4_3, .int .i64 a4_4, .bool a4_5]] rfl Z104 ?_; (with_reducible refine (partner_restFault.calls kj36 a4_0 a4_1 a4_2 a4_3 a4_4 a4_5 t293 _ A46.out).mono ?_); rintro e w76 ⟨rfl, hb⟩; refine ⟨_, rfl, ?_⟩; have n0_ := Aside0.mk (blk_below (g := gb283) (o := .cells #[.string a2_0, .string a2_1] 31 (0, 0)) Z174 hb); have n1_ := Aside0.mk (blk_below (g := gb284) (o := .cells #[.string a3_0, .string a3_1] 31 (0, 0)) Z175 hb); have n2_ := Aside0.mk (blk_below (g := gb285) (o := .cells #[.string a4_0, .string a4_1, .string a4_2, .string a4_3, .int .i64 a4_4, .bool a4_5] 37 (0, 0)) Z176 hb); have n3_ := Aside0.mk (below_step Z66 hb); clear BK283; clear BK284; clear BK285; clear HB; have BK283 := n0_; have BK284 := n1_; have BK285 := n2_; have HB := n3_; clear n0_ n1_ n2_ n3_; (try clear hb); (try clear hb2); (try clear hk); (try clear hi)))
            have n0_ := Aside0.mk (blk_drew BK283.out)
            have n1_ := Aside0.mk (blk_drew BK284.out)
            have n2_ := Aside0.mk (blk_drew BK285.out)
            have n3_ := Aside0.mk (below_drew1 HB.out)
            clear BK283
            clear BK284
            clear BK285
            clear HB
            have BK283 := n0_
            have BK284 := n1_
            have BK285 := n2_
            have HB := n3_
            clear n0_ n1_ n2_ n3_
            refine start_ (n := 10) (S := fun w' => w'.cell? ⟨gb283, 0, none⟩ = some (.string a2_0) ∧ w'.cell? ⟨gb283, 1, none⟩ = some (.string a2_1) ∧ w'.cell? ⟨gb284, 0, none⟩ = some (.string a3_0) ∧ w'.cell? ⟨gb284, 1, none⟩ = some (.string a3_1)) (ds := []) #[false, false, false, false, false, false, false, false, false, false] (by kernel_rfl) rfl rfl ⟨(blk_cell BK283.out 0).trans rfl, (blk_cell BK283.out 1).trans rfl, (blk_cell BK284.out 0).trans rfl, (blk_cell BK284.out 1).trans rfl⟩ (fun hHeld => ?_); refine with_tabW partner_Found.tab16 partner_Found.bits16 (fun HT_ HW_ => ?_)
            generalize w76.drew = w77 at BK283 BK284 BK285 HB hHeld ⊢
            refine pure_ (i := 0) (N := some 52) (v := ?_) (a' := ?_) #[true, false, false, false, false, false, false, false, false, false] rfl rfl (any_of HT_.out (by kernel_rfl)) (fun _ _ _ h => h) (Or.inl ⟨by rfl, ?_⟩) ?_ ?_
            rotate_left
            ·intro w'
             go_simp
             with_reducible rfl
            rotate_left
            ·simp only [Act.put, List.setIfInBounds_toArray, List.set_cons_zero, List.set_cons_succ, i64_w, i32_w]
             rfl
            refine pure_ (i := 3) (N := some 55) (v := ?_) (a' := ?_) #[true, false, false, true, false, false, false, false, false, false] rfl rfl (any_of HT_.out (by kernel_rfl)) (fun _ _ _ h => h) (Or.inl ⟨by rfl, ?_⟩) ?_ ?_
            rotate_left
            ·intro w'
             go_simp
             with_reducible rfl
            rotate_left
            ·simp only [Act.put, List.setIfInBounds_toArray, List.set_cons_zero, List.set_cons_succ, i64_w, i32_w]
             rfl
            refine take_ (i := 1) (N := some 53) (v := ?_) (a' := ?_) #[true, true, false, true, false, false, false, false, false, false] rfl rfl (take_ofW HT_.out HW_.out (by kernel_rfl)) (fun _ _ _ h => h) (Or.inl ⟨by rfl, ?_⟩) hHeld ?_ ?_
            rotate_left
            ·rintro w' ⟨s0, s1, s2, s3⟩
             go_simp
             with_reducible rfl
            rotate_left
            ·simp only [Act.put, List.setIfInBounds_toArray, List.set_cons_zero, List.set_cons_succ, i64_w, i32_w]
             rfl
            refine take_ (i := 4) (N := some 56) (v := ?_) (a' := ?_) #[true, true, false, true, true, false, false, false, false, false] rfl rfl (take_ofW HT_.out HW_.out (by kernel_rfl)) (fun _ _ _ h => h) (Or.inl ⟨by rfl, ?_⟩) hHeld ?_ ?_
            rotate_left
            ·rintro w' ⟨s0, s1, s2, s3⟩
             go_simp
             with_reducible rfl
            rotate_left
            ·simp only [Act.put, List.setIfInBounds_toArray, List.set_cons_zero, List.set_cons_succ, i64_w, i32_w]
             rfl
            refine one_ (i := 2) (N := some 54) #[true, true, true, true, true, false, false, false, false, false] rfl rfl (one_of HT_.out (by kernel_rfl)) (by decide) (fun K hK => ?_)
            refine goes_ Tryd.func49 (by kernel_rfl) rfl #[.slice A0 l0.length c0, .agg #[.string a2_0, .string a2_1]] (by rfl) rfl rfl Z104 ?_
            with_reducible refine (partner_partnerOf.calls kj36 _ _ l0 a2_0 a2_1 t294 _ ?side1 ?side2 A48.out).mono ?_
            (case side1 => exact Z105)
            (case side2 => exact Z193)
            rintro e w78 ⟨rfl, hb⟩
            refine ⟨_, rfl, ?_⟩
            have n0_ := Aside0.mk (blk_below (g := gb283) (o := .cells #[.string a2_0, .string a2_1] 31 (0, 0)) Z174 hb)
            have n1_ := Aside0.mk (blk_below (g := gb284) (o := .cells #[.string a3_0, .string a3_1] 31 (0, 0)) Z175 hb)
            have n2_ := Aside0.mk (blk_below (g := gb285) (o := .cells #[.string a4_0, .string a4_1, .string a4_2, .string a4_3, .int .i64 a4_4, .bool a4_5] 37 (0, 0)) Z176 hb)
            have n3_ := Aside0.mk (below_step Z66 hb)
            clear BK283
            clear BK284
            clear BK285
            clear HB
            have BK283 := n0_
            have BK284 := n1_
            have BK285 := n2_
            have HB := n3_
            clear n0_ n1_ n2_ n3_
            (try clear hb)
            (try clear hb2)
            (try clear hk)
            (try clear hi)
            refine hK.out _ _ ⟨(blk_cell BK283.out 0).trans rfl, (blk_cell BK283.out 1).trans rfl, (blk_cell BK284.out 0).trans rfl, (blk_cell BK284.out 1).trans rfl⟩ (fun hHeld => ?_)
            clear hK K
            refine norm_ (a' := ?_) ?_ ?_
            rotate_left
            ·show Act.put _ (some 54) _ = _
             simp only [Act.put, List.setIfInBounds_toArray, List.set_cons_zero, List.set_cons_succ, i64_w, i32_w]
             rfl
            refine pure_ (i := 6) (N := some 58) (v := ?_) (a' := ?_) #[true, true, true, true, true, false, true, false, false, false] rfl rfl (any_of HT_.out (by kernel_rfl)) (fun _ _ _ h => h) (Or.inl ⟨by rfl, ?_⟩) ?_ ?_
            rotate_left
            ·intro w'
             go_simp
             with_reducible rfl
            rotate_left
            ·simp only [Act.put, List.setIfInBounds_toArray, List.set_cons_zero, List.set_cons_succ, i64_w, i32_w]
             rfl
            refine one_ (i := 5) (N := some 57) #[true, true, true, true, true, true, true, false, false, false] rfl rfl (one_of HT_.out (by kernel_rfl)) (by decide) (fun K hK => ?_)
            refine goes_ Tryd.func49 (by kernel_rfl) rfl #[.slice A0 l0.length c0, .agg #[.string a3_0, .string a3_1]] (by rfl) rfl rfl Z104 ?_
            with_reducible refine (partner_partnerOf.calls kj36 _ _ l0 a3_0 a3_1 t295 _ ?side1 ?side2 A49.out).mono ?_
            (case side1 => exact Z105)
            (case side2 => exact Z193)
            rintro e w79 ⟨rfl, hb⟩
            refine ⟨_, rfl, ?_⟩
            have n0_ := Aside0.mk (blk_below (g := gb283) (o := .cells #[.string a2_0, .string a2_1] 31 (0, 0)) Z174 hb)
            have n1_ := Aside0.mk (blk_below (g := gb284) (o := .cells #[.string a3_0, .string a3_1] 31 (0, 0)) Z175 hb)
            have n2_ := Aside0.mk (blk_below (g := gb285) (o := .cells #[.string a4_0, .string a4_1, .string a4_2, .string a4_3, .int .i64 a4_4, .bool a4_5] 37 (0, 0)) Z176 hb)
            have n3_ := Aside0.mk (below_step Z66 hb)
            clear BK283
            clear BK284
            clear BK285
            clear HB
            have BK283 := n0_
            have BK284 := n1_
            have BK285 := n2_
            have HB := n3_
            clear n0_ n1_ n2_ n3_
            (try clear hb)
            (try clear hb2)
            (try clear hk)
            (try clear hi)
            refine hK.out _ _ ⟨(blk_cell BK283.out 0).trans rfl, (blk_cell BK283.out 1).trans rfl, (blk_cell BK284.out 0).trans rfl, (blk_cell BK284.out 1).trans rfl⟩ (fun hHeld => ?_)
            clear hK K
            refine norm_ (a' := ?_) ?_ ?_
            rotate_left
            ·show Act.put _ (some 57) _ = _
             simp only [Act.put, List.setIfInBounds_toArray, List.set_cons_zero, List.set_cons_succ, i64_w, i32_w]
             rfl
            refine one_ (i := 7) (N := none) #[true, true, true, true, true, true, true, true, false, false] rfl rfl (one_of HT_.out (by kernel_rfl)) (by decide) (fun K hK => ?_)
            have hs80 : w79.cell? ⟨gb285, 0, none⟩ = some (.string a4_0) := (blk_cell BK285.out 0).trans rfl
            have hfs80 := blk_frozen BK285.out 0
            have hns80_0 := NB283_285.out
            have hns80_1 := NB284_285.out
            have hms80_0 := NB285_283.out
            have hms80_1 := NB285_284.out
            refine skip_ (w1 := ?_) (by rfl) rfl ?_ ?_
            rotate_left
            ·go_simp
             rfl
            refine hK.out _ _ ⟨((cell_far (p := ⟨gb285, _, none⟩) NB283_285.out _).trans (hHeld.1)), ((cell_far (p := ⟨gb285, _, none⟩) NB283_285.out _).trans (hHeld.2.1)), ((cell_far (p := ⟨gb285, _, none⟩) NB284_285.out _).trans (hHeld.2.2.1)), ((cell_far (p := ⟨gb285, _, none⟩) NB284_285.out _).trans (hHeld.2.2.2))⟩ (fun hHeld => ?_)
            clear hK K
            refine pure_ (i := 8) (N := some 59) (v := ?_) (a' := ?_) #[true, true, true, true, true, true, true, true, true, false] rfl rfl (any_of HT_.out (by kernel_rfl)) (fun _ _ _ h => h) (Or.inl ⟨by rfl, ?_⟩) ?_ ?_
            rotate_left
            ·intro w'
             go_simp
             with_reducible rfl
            rotate_left
            ·simp only [Act.put, List.setIfInBounds_toArray, List.set_cons_zero, List.set_cons_succ, i64_w, i32_w]
             rfl
            refine one_ (i := 9) (N := none) #[true, true, true, true, true, true, true, true, true, true] rfl rfl (one_of HT_.out (by kernel_rfl)) (by decide) (fun K hK => ?_)
            have hs81 : w79.cell? ⟨gb285, 1, none⟩ = some (.string a4_1) := (blk_cell BK285.out 1).trans rfl
            have hfs81 := blk_frozen BK285.out 1
            have hns81_0 := NB283_285.out
            have hns81_1 := NB284_285.out
            have hms81_0 := NB285_283.out
            have hms81_1 := NB285_284.out
            refine skip_ (w1 := ?_) (by rfl) rfl ?_ ?_
            rotate_left
            ·go_simp
             rfl
            refine hK.out _ _ ⟨((cell_far (p := ⟨gb285, _, none⟩) NB283_285.out _).trans (hHeld.1)), ((cell_far (p := ⟨gb285, _, none⟩) NB283_285.out _).trans (hHeld.2.1)), ((cell_far (p := ⟨gb285, _, none⟩) NB284_285.out _).trans (hHeld.2.2.1)), ((cell_far (p := ⟨gb285, _, none⟩) NB284_285.out _).trans (hHeld.2.2.2))⟩ (fun hHeld => ?_)
            clear hK K
            refine done_ (done_of HT_.out (by kernel_rfl)) ?_
            obtain ⟨hcz82_0, hcz82_1, hcz82_2, hcz82_3, hcz82_4, hcz82_5, hfz82_0, hfz82_1, hfz82_2, hfz82_3, hfz82_4, hfz82_5⟩ := bf6 BK285.out
            try go_wp2
            go_ret3
            exact ⟨Z138, Z66⟩
           ·rw [if_neg c72] at H
            have c72b0 : (t294.toList == t295.toList) = false := beq_eq_false_iff_ne.mpr c72
            have c72b1 : (t294.toList != t295.toList) = true := bne_iff_ne.mpr c72
            replace H := Option.bind_eq_some_iff.mp H
            obtain ⟨t296, A830, H⟩ := H
            replace H : (some (mx t296 0, decide (t296 ≥ 0), 0)) = some (r1, r2, r3) := H
            have A83 := Aside0.mk A830
            clear A830
            obtain ⟨ji84, hji84⟩ : ∃ j_ : Int, (mx t296 0) = j_ := ⟨_, rfl⟩
            replace H : (some (ji84, decide (t296 ≥ 0), 0)) = some (r1, r2, r3) := by first | (rw [hji84] at H; exact H) | (simp only [hji84] at H ⊢; exact H)
            (try rw [hji84] at A46)
            (try rw [hji84] at A48)
            (try rw [hji84] at A49)
            (try rw [hji84] at A83)
            (try (have hji84l : 0 ≤ ji84 := by (rw [← hji84]; unfold mx; (repeat' split) <;> omega)))
            (try (have hji84m : 0 ≤ ji84 := by omega))
            have hji84_ : (if t296 < 0 then 0 else t296) = ji84 := hji84
            simp only [Option.some.injEq, Prod.mk.injEq] at H
            obtain ⟨rfl, rfl, rfl⟩ := H
            have hnb85 := NB285_283.out
            have hnc85 := NB283_285.out
            have hnb86 := NB285_284.out
            have hnc86 := NB284_285.out
            have hcz87_0 : wc.cell? ⟨gb285, 0, none⟩ = some (.string a4_0) := (blk_cell BK285.out 0).trans rfl
            have hcz87_1 : wc.cell? ⟨gb285, 1, none⟩ = some (.string a4_1) := (blk_cell BK285.out 1).trans rfl
            have hcz87_2 : wc.cell? ⟨gb285, 2, none⟩ = some (.string a4_2) := (blk_cell BK285.out 2).trans rfl
            have hcz87_3 : wc.cell? ⟨gb285, 3, none⟩ = some (.string a4_3) := (blk_cell BK285.out 3).trans rfl
            have hcz87_4 : wc.cell? ⟨gb285, 4, none⟩ = some (.int .i64 a4_4) := (blk_cell BK285.out 4).trans rfl
            have hcz87_5 : wc.cell? ⟨gb285, 5, none⟩ = some (.bool a4_5) := (blk_cell BK285.out 5).trans rfl
            have hfz87_0 := blk_frozen BK285.out 0
            have hfz87_1 := blk_frozen BK285.out 1
            have hfz87_2 := blk_frozen BK285.out 2
            have hfz87_3 := blk_frozen BK285.out 3
            have hfz87_4 := blk_frozen BK285.out 4
            have hfz87_5 := blk_frozen BK285.out 5
            try go_wp2_with (first | ((with_reducible refine gate_callee (f := 79) rfl ?_); refine goesL_ (some 48) rfl rfl Tryd.func79 (by kernel_rfl) rfl #[.agg #[.string a4_0, .string a4_1, .string a4_2, .string a4_3, .int .i64 a4_4, .bool a4_5]] rfl Z104 ?_; (with_reducible refine (partner_restFault.calls kj36 a4_0 a4_1 a4_2 a4_3 a4_4 a4_5 t293 _ A46.out).mono ?_); rintro e w88 ⟨rfl, hb⟩; refine ⟨_, rfl, ?_⟩; have n0_ := Aside0.mk (blk_below (g := gb283) (o := .cells #[.string a2_0, .string a2_1] 31 (0, 0)) Z174 hb); have n1_ := Aside0.mk (blk_below (g := gb284) (o := .cells #[.string a3_0, .string a3_1] 31 (0, 0)) Z175 hb); have n2_ := Aside0.mk (blk_below (g := gb285) (o := .cells #[.string a4_0, .string a4_1, .string a4_2, .string a4_3, .int .i64 a4_4, .bool a4_5] 37 (0, 0)) Z176 hb); have n3_ := Aside0.mk (below_step Z66 hb); clear BK283; clear BK284; clear BK285; clear HB; have BK283 := n0_; have BK284 := n1_; have BK285 := n2_; have HB := n3_; clear n0_ n1_ n2_ n3_; (try clear hb); (try clear hb2); (try clear hk); (try clear hi)))
            have n0_ := Aside0.mk (blk_drew BK283.out)
            have n1_ := Aside0.mk (blk_drew BK284.out)
            have n2_ := Aside0.mk (blk_drew BK285.out)
            have n3_ := Aside0.mk (below_drew1 HB.out)
            clear BK283
            clear BK284
            clear BK285
            clear HB
            have BK283 := n0_
            have BK284 := n1_
            have BK285 := n2_
            have HB := n3_
            clear n0_ n1_ n2_ n3_
            refine start_ (n := 10) (S := fun w' => w'.cell? ⟨gb283, 0, none⟩ = some (.string a2_0) ∧ w'.cell? ⟨gb283, 1, none⟩ = some (.string a2_1) ∧ w'.cell? ⟨gb284, 0, none⟩ = some (.string a3_0) ∧ w'.cell? ⟨gb284, 1, none⟩ = some (.string a3_1)) (ds := []) #[false, false, false, false, false, false, false, false, false, false] (by kernel_rfl) rfl rfl ⟨(blk_cell BK283.out 0).trans rfl, (blk_cell BK283.out 1).trans rfl, (blk_cell BK284.out 0).trans rfl, (blk_cell BK284.out 1).trans rfl⟩ (fun hHeld => ?_); refine with_tabW partner_Found.tab16 partner_Found.bits16 (fun HT_ HW_ => ?_)
            generalize w88.drew = w89 at BK283 BK284 BK285 HB hHeld ⊢
            refine pure_ (i := 0) (N := some 52) (v := ?_) (a' := ?_) #[true, false, false, false, false, false, false, false, false, false] rfl rfl (any_of HT_.out (by kernel_rfl)) (fun _ _ _ h => h) (Or.inl ⟨by rfl, ?_⟩) ?_ ?_
            rotate_left
            ·intro w'
             go_simp
             with_reducible rfl
            rotate_left
            ·simp only [Act.put, List.setIfInBounds_toArray, List.set_cons_zero, List.set_cons_succ, i64_w, i32_w]
             rfl
            refine pure_ (i := 3) (N := some 55) (v := ?_) (a' := ?_) #[true, false, false, true, false, false, false, false, false, false] rfl rfl (any_of HT_.out (by kernel_rfl)) (fun _ _ _ h => h) (Or.inl ⟨by rfl, ?_⟩) ?_ ?_
            rotate_left
            ·intro w'
             go_simp
             with_reducible rfl
            rotate_left
            ·simp only [Act.put, List.setIfInBounds_toArray, List.set_cons_zero, List.set_cons_succ, i64_w, i32_w]
             rfl
            refine take_ (i := 1) (N := some 53) (v := ?_) (a' := ?_) #[true, true, false, true, false, false, false, false, false, false] rfl rfl (take_ofW HT_.out HW_.out (by kernel_rfl)) (fun _ _ _ h => h) (Or.inl ⟨by rfl, ?_⟩) hHeld ?_ ?_
            rotate_left
            ·rintro w' ⟨s0, s1, s2, s3⟩
             go_simp
             with_reducible rfl
            rotate_left
            ·simp only [Act.put, List.setIfInBounds_toArray, List.set_cons_zero, List.set_cons_succ, i64_w, i32_w]
             rfl
            refine take_ (i := 4) (N := some 56) (v := ?_) (a' := ?_) #[true, true, false, true, true, false, false, false, false, false] rfl rfl (take_ofW HT_.out HW_.out (by kernel_rfl)) (fun _ _ _ h => h) (Or.inl ⟨by rfl, ?_⟩) hHeld ?_ ?_
            rotate_left
            ·rintro w' ⟨s0, s1, s2, s3⟩
             go_simp
             with_reducible rfl
            rotate_left
            ·simp only [Act.put, List.setIfInBounds_toArray, List.set_cons_zero, List.set_cons_succ, i64_w, i32_w]
             rfl
            refine one_ (i := 2) (N := some 54) #[true, true, true, true, true, false, false, false, false, false] rfl rfl (one_of HT_.out (by kernel_rfl)) (by decide) (fun K hK => ?_)
            refine goes_ Tryd.func49 (by kernel_rfl) rfl #[.slice A0 l0.length c0, .agg #[.string a2_0, .string a2_1]] (by rfl) rfl rfl Z104 ?_
            with_reducible refine (partner_partnerOf.calls kj36 _ _ l0 a2_0 a2_1 t294 _ ?side1 ?side2 A48.out).mono ?_
            (case side1 => exact Z105)
            (case side2 => exact Z193)
            rintro e w90 ⟨rfl, hb⟩
            refine ⟨_, rfl, ?_⟩
            have n0_ := Aside0.mk (blk_below (g := gb283) (o := .cells #[.string a2_0, .string a2_1] 31 (0, 0)) Z174 hb)
            have n1_ := Aside0.mk (blk_below (g := gb284) (o := .cells #[.string a3_0, .string a3_1] 31 (0, 0)) Z175 hb)
            have n2_ := Aside0.mk (blk_below (g := gb285) (o := .cells #[.string a4_0, .string a4_1, .string a4_2, .string a4_3, .int .i64 a4_4, .bool a4_5] 37 (0, 0)) Z176 hb)
            have n3_ := Aside0.mk (below_step Z66 hb)
            clear BK283
            clear BK284
            clear BK285
            clear HB
            have BK283 := n0_
            have BK284 := n1_
            have BK285 := n2_
            have HB := n3_
            clear n0_ n1_ n2_ n3_
            (try clear hb)
            (try clear hb2)
            (try clear hk)
            (try clear hi)
            refine hK.out _ _ ⟨(blk_cell BK283.out 0).trans rfl, (blk_cell BK283.out 1).trans rfl, (blk_cell BK284.out 0).trans rfl, (blk_cell BK284.out 1).trans rfl⟩ (fun hHeld => ?_)
            clear hK K
            refine norm_ (a' := ?_) ?_ ?_
            rotate_left
            ·show Act.put _ (some 54) _ = _
             simp only [Act.put, List.setIfInBounds_toArray, List.set_cons_zero, List.set_cons_succ, i64_w, i32_w]
             rfl
            refine pure_ (i := 6) (N := some 58) (v := ?_) (a' := ?_) #[true, true, true, true, true, false, true, false, false, false] rfl rfl (any_of HT_.out (by kernel_rfl)) (fun _ _ _ h => h) (Or.inl ⟨by rfl, ?_⟩) ?_ ?_
            rotate_left
            ·intro w'
             go_simp
             with_reducible rfl
            rotate_left
            ·simp only [Act.put, List.setIfInBounds_toArray, List.set_cons_zero, List.set_cons_succ, i64_w, i32_w]
             rfl
            refine one_ (i := 5) (N := some 57) #[true, true, true, true, true, true, true, false, false, false] rfl rfl (one_of HT_.out (by kernel_rfl)) (by decide) (fun K hK => ?_)
            refine goes_ Tryd.func49 (by kernel_rfl) rfl #[.slice A0 l0.length c0, .agg #[.string a3_0, .string a3_1]] (by rfl) rfl rfl Z104 ?_
            with_reducible refine (partner_partnerOf.calls kj36 _ _ l0 a3_0 a3_1 t295 _ ?side1 ?side2 A49.out).mono ?_
            (case side1 => exact Z105)
            (case side2 => exact Z193)
            rintro e w91 ⟨rfl, hb⟩
            refine ⟨_, rfl, ?_⟩
            have n0_ := Aside0.mk (blk_below (g := gb283) (o := .cells #[.string a2_0, .string a2_1] 31 (0, 0)) Z174 hb)
            have n1_ := Aside0.mk (blk_below (g := gb284) (o := .cells #[.string a3_0, .string a3_1] 31 (0, 0)) Z175 hb)
            have n2_ := Aside0.mk (blk_below (g := gb285) (o := .cells #[.string a4_0, .string a4_1, .string a4_2, .string a4_3, .int .i64 a4_4, .bool a4_5] 37 (0, 0)) Z176 hb)
            have n3_ := Aside0.mk (below_step Z66 hb)
            clear BK283
            clear BK284
            clear BK285
            clear HB
            have BK283 := n0_
            have BK284 := n1_
            have BK285 := n2_
            have HB := n3_
            clear n0_ n1_ n2_ n3_
            (try clear hb)
            (try clear hb2)
            (try clear hk)
            (try clear hi)
            refine hK.out _ _ ⟨(blk_cell BK283.out 0).trans rfl, (blk_cell BK283.out 1).trans rfl, (blk_cell BK284.out 0).trans rfl, (blk_cell BK284.out 1).trans rfl⟩ (fun hHeld => ?_)
            clear hK K
            refine norm_ (a' := ?_) ?_ ?_
            rotate_left
            ·show Act.put _ (some 57) _ = _
             simp only [Act.put, List.setIfInBounds_toArray, List.set_cons_zero, List.set_cons_succ, i64_w, i32_w]
             rfl
            refine one_ (i := 7) (N := none) #[true, true, true, true, true, true, true, true, false, false] rfl rfl (one_of HT_.out (by kernel_rfl)) (by decide) (fun K hK => ?_)
            have hs92 : w91.cell? ⟨gb285, 0, none⟩ = some (.string a4_0) := (blk_cell BK285.out 0).trans rfl
            have hfs92 := blk_frozen BK285.out 0
            have hns92_0 := NB283_285.out
            have hns92_1 := NB284_285.out
            have hms92_0 := NB285_283.out
            have hms92_1 := NB285_284.out
            refine skip_ (w1 := ?_) (by rfl) rfl ?_ ?_
            rotate_left
            ·go_simp
             rfl
            refine hK.out _ _ ⟨((cell_far (p := ⟨gb285, _, none⟩) NB283_285.out _).trans (hHeld.1)), ((cell_far (p := ⟨gb285, _, none⟩) NB283_285.out _).trans (hHeld.2.1)), ((cell_far (p := ⟨gb285, _, none⟩) NB284_285.out _).trans (hHeld.2.2.1)), ((cell_far (p := ⟨gb285, _, none⟩) NB284_285.out _).trans (hHeld.2.2.2))⟩ (fun hHeld => ?_)
            clear hK K
            refine pure_ (i := 8) (N := some 59) (v := ?_) (a' := ?_) #[true, true, true, true, true, true, true, true, true, false] rfl rfl (any_of HT_.out (by kernel_rfl)) (fun _ _ _ h => h) (Or.inl ⟨by rfl, ?_⟩) ?_ ?_
            rotate_left
            ·intro w'
             go_simp
             with_reducible rfl
            rotate_left
            ·simp only [Act.put, List.setIfInBounds_toArray, List.set_cons_zero, List.set_cons_succ, i64_w, i32_w]
             rfl
            refine one_ (i := 9) (N := none) #[true, true, true, true, true, true, true, true, true, true] rfl rfl (one_of HT_.out (by kernel_rfl)) (by decide) (fun K hK => ?_)
            have hs93 : w91.cell? ⟨gb285, 1, none⟩ = some (.string a4_1) := (blk_cell BK285.out 1).trans rfl
            have hfs93 := blk_frozen BK285.out 1
            have hns93_0 := NB283_285.out
            have hns93_1 := NB284_285.out
            have hms93_0 := NB285_283.out
            have hms93_1 := NB285_284.out
            refine skip_ (w1 := ?_) (by rfl) rfl ?_ ?_
            rotate_left
            ·go_simp
             rfl
            refine hK.out _ _ ⟨((cell_far (p := ⟨gb285, _, none⟩) NB283_285.out _).trans (hHeld.1)), ((cell_far (p := ⟨gb285, _, none⟩) NB283_285.out _).trans (hHeld.2.1)), ((cell_far (p := ⟨gb285, _, none⟩) NB284_285.out _).trans (hHeld.2.2.1)), ((cell_far (p := ⟨gb285, _, none⟩) NB284_285.out _).trans (hHeld.2.2.2))⟩ (fun hHeld => ?_)
            clear hK K
            refine done_ (done_of HT_.out (by kernel_rfl)) ?_
            obtain ⟨hcz94_0, hcz94_1, hcz94_2, hcz94_3, hcz94_4, hcz94_5, hfz94_0, hfz94_1, hfz94_2, hfz94_3, hfz94_4, hfz94_5⟩ := bf6 BK285.out
            try go_wp2_with (first | ((with_reducible refine gate_callee (f := 68) rfl ?_); refine goesL_ (some 77) rfl rfl Tryd.func68 (by kernel_rfl) rfl #[.slice A1 l1.length c1, .agg #[.string t294, .string t295, .string a4_2, .string a4_3, .int .i64 a4_4, .bool a4_5]] rfl Z104 ?_; (with_reducible refine (partner_find.calls kj36 _ _ l1 t294 t295 a4_2 a4_3 a4_4 a4_5 t296 _ ?side1 ?side2 A83.out).mono ?_); (case side1 => exact Kd.C_below HR1.out Z66); (case side2 => exact Z194); rintro e w95 ⟨rfl, hb⟩; refine ⟨_, rfl, ?_⟩; have n0_ := Aside0.mk (blk_below (g := gb283) (o := .cells #[.string a2_0, .string a2_1] 31 (0, 0)) (by (with_reducible repeat (first | refine blk_drewN ?_ _ | refine blk_drew ?_ | refine blk_alloc ?_ _)); refine blk_far ?_ NB283_285.out _; (with_reducible repeat (first | refine blk_drewN ?_ _ | refine blk_drew ?_ | refine blk_alloc ?_ _)); refine blk_far ?_ NB283_285.out _; (with_reducible repeat (first | refine blk_drewN ?_ _ | refine blk_drew ?_ | refine blk_alloc ?_ _)); exact BK283.out) hb); have n1_ := Aside0.mk (blk_below (g := gb284) (o := .cells #[.string a3_0, .string a3_1] 31 (0, 0)) (by (with_reducible repeat (first | refine blk_drewN ?_ _ | refine blk_drew ?_ | refine blk_alloc ?_ _)); refine blk_far ?_ NB284_285.out _; (with_reducible repeat (first | refine blk_drewN ?_ _ | refine blk_drew ?_ | refine blk_alloc ?_ _)); refine blk_far ?_ NB284_285.out _; (with_reducible repeat (first | refine blk_drewN ?_ _ | refine blk_drew ?_ | refine blk_alloc ?_ _)); exact BK284.out) hb); have n2_ := Aside0.mk (blk_below (g := gb285) (o := .cells #[.string t294, .string t295, .string a4_2, .string a4_3, .int .i64 a4_4, .bool a4_5] 37 (0, 0)) (by (with_reducible repeat (first | refine blk_drewN ?_ _ | refine blk_drew ?_ | refine blk_alloc ?_ _)); refine blk_put (cs := #[.string t294, .string a4_1, .string a4_2, .string a4_3, .int .i64 a4_4, .bool a4_5]) ?_ 1 _ rfl; (with_reducible repeat (first | refine blk_drewN ?_ _ | refine blk_drew ?_ | refine blk_alloc ?_ _)); refine blk_put (cs := #[.string a4_0, .string a4_1, .string a4_2, .string a4_3, .int .i64 a4_4, .bool a4_5]) ?_ 0 _ rfl; (with_reducible repeat (first | refine blk_drewN ?_ _ | refine blk_drew ?_ | refine blk_alloc ?_ _)); exact BK285.out) hb); have n3_ := Aside0.mk (below_step Z66 hb); clear BK283; clear BK284; clear BK285; clear HB; have BK283 := n0_; have BK284 := n1_; have BK285 := n2_; have HB := n3_; clear n0_ n1_ n2_ n3_; (try clear hb); (try clear hb2); (try clear hk); (try clear hi)))
            go_ret3
            exact ⟨Z58, Z66⟩
        ·rw [if_neg c47] at H
         have c47b0 : (t293 == 0) = false := beq_eq_false_iff_ne.mpr c47
         have c47b1 : (t293 != 0) = true := bne_iff_ne.mpr c47
         simp only [Option.some.injEq, Prod.mk.injEq] at H
         obtain ⟨rfl, rfl, rfl⟩ := H
         have hnb96 := NB285_283.out
         have hnc96 := NB283_285.out
         have hnb97 := NB285_284.out
         have hnc97 := NB284_285.out
         have hcz98_0 : wc.cell? ⟨gb285, 0, none⟩ = some (.string a4_0) := (blk_cell BK285.out 0).trans rfl
         have hcz98_1 : wc.cell? ⟨gb285, 1, none⟩ = some (.string a4_1) := (blk_cell BK285.out 1).trans rfl
         have hcz98_2 : wc.cell? ⟨gb285, 2, none⟩ = some (.string a4_2) := (blk_cell BK285.out 2).trans rfl
         have hcz98_3 : wc.cell? ⟨gb285, 3, none⟩ = some (.string a4_3) := (blk_cell BK285.out 3).trans rfl
         have hcz98_4 : wc.cell? ⟨gb285, 4, none⟩ = some (.int .i64 a4_4) := (blk_cell BK285.out 4).trans rfl
         have hcz98_5 : wc.cell? ⟨gb285, 5, none⟩ = some (.bool a4_5) := (blk_cell BK285.out 5).trans rfl
         have hfz98_0 := blk_frozen BK285.out 0
         have hfz98_1 := blk_frozen BK285.out 1
         have hfz98_2 := blk_frozen BK285.out 2
         have hfz98_3 := blk_frozen BK285.out 3
         have hfz98_4 := blk_frozen BK285.out 4
         have hfz98_5 := blk_frozen BK285.out 5
         go_wp2_with (first | ((with_reducible refine gate_callee (f := 79) rfl ?_); refine goesL_ (some 48) rfl rfl Tryd.func79 (by kernel_rfl) rfl #[.agg #[.string a4_0, .string a4_1, .string a4_2, .string a4_3, .int .i64 a4_4, .bool a4_5]] rfl Z104 ?_; (with_reducible refine (partner_restFault.calls kj36 a4_0 a4_1 a4_2 a4_3 a4_4 a4_5 t293 _ A46.out).mono ?_); rintro e w99 ⟨rfl, hb⟩; refine ⟨_, rfl, ?_⟩; have n0_ := Aside0.mk (blk_below (g := gb283) (o := .cells #[.string a2_0, .string a2_1] 31 (0, 0)) Z174 hb); have n1_ := Aside0.mk (blk_below (g := gb284) (o := .cells #[.string a3_0, .string a3_1] 31 (0, 0)) Z175 hb); have n2_ := Aside0.mk (blk_below (g := gb285) (o := .cells #[.string a4_0, .string a4_1, .string a4_2, .string a4_3, .int .i64 a4_4, .bool a4_5] 37 (0, 0)) Z176 hb); have n3_ := Aside0.mk (below_step Z66 hb); clear BK283; clear BK284; clear BK285; clear HB; have BK283 := n0_; have BK284 := n1_; have BK285 := n2_; have HB := n3_; clear n0_ n1_ n2_ n3_; (try clear hb); (try clear hb2); (try clear hk); (try clear hi)))
         go_ret3
         exact ⟨Z138, Z66⟩
 ·rw [if_neg c7] at H
  have c7b0 : (t286 == 0) = false := beq_eq_false_iff_ne.mpr c7
  have c7b1 : (t286 != 0) = true := bne_iff_ne.mpr c7
  simp only [Option.some.injEq, Prod.mk.injEq] at H
  obtain ⟨rfl, rfl, rfl⟩ := H
  go_enter Tryd.func38, Tryd.ntmps38
  go_wp2_with (first | ((with_reducible refine gate_dst (N := 7) rfl ?_); refine box_event ?hg (N := 7) ?hd (cs := #[.string a2_0, .string a2_1]) (t := 31) ?hr ?_; (case hd => rfl); (case hg => rfl); (case hr => exact Z188); intro gb283 hg w100 hbox hb; have n0_ := Aside0.mk (below_step Z140 hb); have n1_ := Aside0.mk (hbox); have n2_ := Aside0.mk ((Z108 : w.heap.size ≤ gb283)); have n3_ := Aside0.mk ((Z108 : w.heap.size ≤ gb283)); clear HB; have HB := n0_; have BK283 := n1_; have GW283 := n2_; have GE283 := n3_; clear n0_ n1_ n2_ n3_; clear hb hbox hg) | ((with_reducible refine gate_dst (N := 8) rfl ?_); refine box_event ?hg (N := 8) ?hd (cs := #[.string a3_0, .string a3_1]) (t := 31) ?hr ?_; (case hd => rfl); (case hg => rfl); (case hr => exact Z188); intro gb284 hg w101 hbox hb; have n0_ := Aside0.mk (blk_below (g := gb283) (o := .cells #[.string a2_0, .string a2_1] 31 (0, 0)) Z174 hb); have n1_ := Aside0.mk (below_step (by repeat (first | (with_reducible first | exact HB.out | apply below_alloc | apply pw_below_drewN | apply below_drew1 | refine below_set ?_ GE283.out) | exact HB.out)) hb); have n2_ := Aside0.mk (hbox); have n3_ := Aside0.mk ((Z92 : w.heap.size ≤ gb284)); have n4_ := Aside0.mk ((Z92 : w.heap.size ≤ gb284)); have n5_ := Aside0.mk ((Z76 : gb283 ≠ gb284)); have n6_ := Aside0.mk ((Z77 : gb284 ≠ gb283)); clear BK283; clear HB; have BK283 := n0_; have HB := n1_; have BK284 := n2_; have GW284 := n3_; have GE284 := n4_; have NB283_284 := n5_; have NB284_283 := n6_; clear n0_ n1_ n2_ n3_ n4_ n5_ n6_; clear hb hbox hg) | ((with_reducible refine gate_dst (N := 9) rfl ?_); refine box_event ?hg (N := 9) ?hd (cs := #[.string a4_0, .string a4_1, .string a4_2, .string a4_3, .int .i64 a4_4, .bool a4_5]) (t := 37) ?hr ?_; (case hd => rfl); (case hg => rfl); (case hr => exact Z188); intro gb285 hg w102 hbox hb; have n0_ := Aside0.mk (blk_below (g := gb283) (o := .cells #[.string a2_0, .string a2_1] 31 (0, 0)) Z174 hb); have n1_ := Aside0.mk (blk_below (g := gb284) (o := .cells #[.string a3_0, .string a3_1] 31 (0, 0)) Z175 hb); have n2_ := Aside0.mk (below_step (by repeat (first | (with_reducible first | exact HB.out | apply below_alloc | apply pw_below_drewN | apply below_drew1 | refine below_set ?_ GE283.out | refine below_set ?_ GE284.out) | exact HB.out)) hb); have n3_ := Aside0.mk (hbox); have n4_ := Aside0.mk ((Z63 : w.heap.size ≤ gb285)); have n5_ := Aside0.mk ((Z63 : w.heap.size ≤ gb285)); have n6_ := Aside0.mk ((Z76 : gb283 ≠ gb285)); have n7_ := Aside0.mk ((Z77 : gb285 ≠ gb283)); have n8_ := Aside0.mk ((Z78 : gb284 ≠ gb285)); have n9_ := Aside0.mk ((Z79 : gb285 ≠ gb284)); clear BK283; clear BK284; clear HB; have BK283 := n0_; have BK284 := n1_; have HB := n2_; have BK285 := n3_; have GW285 := n4_; have GE285 := n5_; have NB283_285 := n6_; have NB285_283 := n7_; have NB284_285 := n8_; have NB285_284 := n9_; clear n0_ n1_ n2_ n3_ n4_ n5_ n6_ n7_ n8_ n9_; clear hb hbox hg) | ((with_reducible refine gate_callee (f := 36) rfl ?_); refine goesL_ (some 21) rfl rfl Tryd.func36 (by kernel_rfl) rfl #[.slice A0 l0.length c0, .slice A1 l1.length c1] rfl Z104 ?_; (with_reducible refine (partner_CheckAgreements.calls k _ _ l0 _ _ l1 t286 _ ?side1 ?side2 ?side3 ?side4 A6.out).mono ?_); (case side1 => exact Z105); (case side2 => exact Z193); (case side3 => exact Z106); (case side4 => exact Z194); rintro e w103 ⟨rfl, hb⟩; refine ⟨_, rfl, ?_⟩; have n0_ := Aside0.mk (blk_below (g := gb283) (o := .cells #[.string a2_0, .string a2_1] 31 (0, 0)) Z174 hb); have n1_ := Aside0.mk (blk_below (g := gb284) (o := .cells #[.string a3_0, .string a3_1] 31 (0, 0)) Z175 hb); have n2_ := Aside0.mk (blk_below (g := gb285) (o := .cells #[.string a4_0, .string a4_1, .string a4_2, .string a4_3, .int .i64 a4_4, .bool a4_5] 37 (0, 0)) Z176 hb); have n3_ := Aside0.mk (below_step Z66 hb); clear BK283; clear BK284; clear BK285; clear HB; have BK283 := n0_; have BK284 := n1_; have BK285 := n2_; have HB := n3_; clear n0_ n1_ n2_ n3_; (try clear hb); (try clear hb2); (try clear hk); (try clear hi)))
  go_ret3
  exact ⟨Z138, Z66⟩

end Go.Proofs.YtdlgohhecicnoaaDoor.XPartnerFindsMatchSpec
