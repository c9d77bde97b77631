-- Walks of PartnerBestIsFound: written by xprint.py out of the translation (hand-proved functions among them). Lean checks it.
import Derived.Test.YtdlgohhecicnoaaDoorXPartnerBestIsFoundx0
import Derived.Test.YtdlgohhecicnoaaDoorXPartnerBestIsFoundx1
import Derived.Test.YtdlgohhecicnoaaDoorXPartnerBestIsFoundx2
import Derived.Test.YtdlgohhecicnoaaDoorXPartnerBestIsFoundx3
import Derived.Test.YtdlgohhecicnoaaDoorXPartnerBestIsFoundx7
namespace Go.Proofs.YtdlgohhecicnoaaDoor.XPartnerBestIsFound
open Go.RowKit Go.Proofs.YtdlgohhecicnoaaDoorW.PrintWords Go.Proofs.YtdlgohhecicnoaaDoorW.PrintLast Go.Proofs.YtdlgohhecicnoaaDoorW.PrintMore
attribute [local go_sem] max2_int min2_int max_two min_two max_three min_three max_four min_four   -- for this text's walks alone
set_option linter.unusedVariables false
set_option linter.unusedSimpArgs false

/-! ### interchangelaw8_PartnerBestIsFound: function 8 -/
mutual
def interchangelaw8_PartnerBestIsFound.l0 : Nat → List (S23) → Int → Bool → List (S23) → Int → Int → ByteArray → ByteArray → ByteArray → ByteArray → Int → Bool → Option (Bool)
  | 0, _, _, _, _, _, _, _, _, _, _, _, _ => none
  | k + 1, x1, x7, x8, x34, x35, x36, x203000, x203001, x203002, x203003, x203004, x203005 => if x36 < x35 then (if 0 ≤ x36 then (if x36 < (x34.length : Int) then ((partner_Applies.f k ((rd_T23 x34 x36).f0) ((rd_T23 x34 x36).f1) ((rd_T23 x34 x36).f2) ((rd_T23 x34 x36).f3) ((rd_T23 x34 x36).f4) ((rd_T23 x34 x36).f5) ((rd_T23 x34 x36).f6) ((rd_T23 x34 x36).f7) ((rd_T23 x34 x36).f8) x203000 x203001 x203002 x203003 x203004 x203005).bind fun bt210 => (if bt210.2 = 0 then (if bt210.1 = true then (interchangelaw8_PartnerBestIsFound.j1 k x1 x7 x8 x36 bt210.1 x34 x35 x36 (!x8) x203000 x203001 x203002 x203003 x203004 x203005 ((rd_T23 x34 x36).f0) ((rd_T23 x34 x36).f1) ((rd_T23 x34 x36).f2) ((rd_T23 x34 x36).f3) ((rd_T23 x34 x36).f4) ((rd_T23 x34 x36).f5) ((rd_T23 x34 x36).f6) ((rd_T23 x34 x36).f7) ((rd_T23 x34 x36).f8)) else (interchangelaw8_PartnerBestIsFound.j1 k x1 x7 x8 x36 bt210.1 x34 x35 x36 false x203000 x203001 x203002 x203003 x203004 x203005 ((rd_T23 x34 x36).f0) ((rd_T23 x34 x36).f1) ((rd_T23 x34 x36).f2) ((rd_T23 x34 x36).f3) ((rd_T23 x34 x36).f4) ((rd_T23 x34 x36).f5) ((rd_T23 x34 x36).f6) ((rd_T23 x34 x36).f7) ((rd_T23 x34 x36).f8))) else (interchangelaw8_PartnerBestIsFound.j1 k x1 x7 x8 x36 bt210.1 x34 x35 x36 true x203000 x203001 x203002 x203003 x203004 x203005 ((rd_T23 x34 x36).f0) ((rd_T23 x34 x36).f1) ((rd_T23 x34 x36).f2) ((rd_T23 x34 x36).f3) ((rd_T23 x34 x36).f4) ((rd_T23 x34 x36).f5) ((rd_T23 x34 x36).f6) ((rd_T23 x34 x36).f7) ((rd_T23 x34 x36).f8)))) else (none)) else (none)) else ((interchangelaw8_awake.f).bind fun t207 => (some t207))
def interchangelaw8_PartnerBestIsFound.j1 : Nat → List (S23) → Int → Bool → Int → Bool → List (S23) → Int → Int → Bool → ByteArray → ByteArray → ByteArray → ByteArray → Int → Bool → ByteArray → ByteArray → ByteArray → ByteArray → Int → Int → Bool → Int → Bool → Option (Bool)
  | 0, _, _, _, _, _, _, _, _, _, _, _, _, _, _, _, _, _, _, _, _, _, _, _, _ => none
  | k + 1, x1, x7, x8, x10, x12, x34, x35, x36, x55, x203000, x203001, x203002, x203003, x203004, x203005, x210000, x210001, x210002, x210003, x210004, x210005, x210006, x210007, x210008 => if x55 = true then (some false) else (if x12 = true then (if 0 ≤ x7 then (if x7 < (x1.length : Int) then ((partner_Better.f k x210000 x210001 x210002 x210003 x210004 x210005 x210006 x210007 x210008 ((rd_T23 x1 x7).f0) ((rd_T23 x1 x7).f1) ((rd_T23 x1 x7).f2) ((rd_T23 x1 x7).f3) ((rd_T23 x1 x7).f4) ((rd_T23 x1 x7).f5) ((rd_T23 x1 x7).f6) ((rd_T23 x1 x7).f7) ((rd_T23 x1 x7).f8)).bind fun bt213 => (if bt213.2 = 0 then (if bt213.1 < 0 then (some false) else (if bt213.1 = 0 then (if x10 < x7 then (some false) else (interchangelaw8_PartnerBestIsFound.l0 k x1 x7 x8 x34 x35 (wrap64 (x36 + 1)) x203000 x203001 x203002 x203003 x203004 x203005)) else (interchangelaw8_PartnerBestIsFound.l0 k x1 x7 x8 x34 x35 (wrap64 (x36 + 1)) x203000 x203001 x203002 x203003 x203004 x203005))) else (some false))) else (none)) else (none)) else (if x8 = true then (interchangelaw8_PartnerBestIsFound.j2 k x1 x7 x8 x34 x35 x36 (x10 == x7) x203000 x203001 x203002 x203003 x203004 x203005) else (interchangelaw8_PartnerBestIsFound.j2 k x1 x7 x8 x34 x35 x36 false x203000 x203001 x203002 x203003 x203004 x203005)))
def interchangelaw8_PartnerBestIsFound.j2 : Nat → List (S23) → Int → Bool → List (S23) → Int → Int → Bool → ByteArray → ByteArray → ByteArray → ByteArray → Int → Bool → Option (Bool)
  | 0, _, _, _, _, _, _, _, _, _, _, _, _, _ => none
  | k + 1, x1, x7, x8, x34, x35, x36, x63, x203000, x203001, x203002, x203003, x203004, x203005 => if x63 = true then (some false) else (interchangelaw8_PartnerBestIsFound.l0 k x1 x7 x8 x34 x35 (wrap64 (x36 + 1)) x203000 x203001 x203002 x203003 x203004 x203005)
end
def interchangelaw8_PartnerBestIsFound.f (k : Nat) (l0 : List (S86)) (l1 : List (S23)) (a2_0 : ByteArray) (a2_1 : ByteArray) (a2_2 : ByteArray) (a2_3 : ByteArray) (a2_4 : Int) (a2_5 : Bool) : Option (Bool) := (partner_Find.f k l0 l1 a2_0 a2_1 a2_2 a2_3 a2_4 a2_5).bind fun bt203 => (if bt203.2.2 = 0 then (interchangelaw8_PartnerBestIsFound.l0 k l1 bt203.1 bt203.2.1 l1 (l1.length : Int) 0 a2_0 a2_1 a2_2 a2_3 a2_4 a2_5) else (if bt203.1 = 0 then (if bt203.2.1 = true then (some false) else ((interchangelaw8_awake.f).bind fun t206 => (some t206))) else (some false)))
theorem interchangelaw8_PartnerBestIsFound.mono_l : ∀ k, (∀ y0 y1 y2 y3 y4 y5 y6 y7 y8 y9 y10 y11, LeO (interchangelaw8_PartnerBestIsFound.l0 k y0 y1 y2 y3 y4 y5 y6 y7 y8 y9 y10 y11) (interchangelaw8_PartnerBestIsFound.l0 (k + 1) y0 y1 y2 y3 y4 y5 y6 y7 y8 y9 y10 y11)) ∧ (∀ y0 y1 y2 y3 y4 y5 y6 y7 y8 y9 y10 y11 y12 y13 y14 y15 y16 y17 y18 y19 y20 y21 y22 y23, LeO (interchangelaw8_PartnerBestIsFound.j1 k y0 y1 y2 y3 y4 y5 y6 y7 y8 y9 y10 y11 y12 y13 y14 y15 y16 y17 y18 y19 y20 y21 y22 y23) (interchangelaw8_PartnerBestIsFound.j1 (k + 1) y0 y1 y2 y3 y4 y5 y6 y7 y8 y9 y10 y11 y12 y13 y14 y15 y16 y17 y18 y19 y20 y21 y22 y23)) ∧ (∀ y0 y1 y2 y3 y4 y5 y6 y7 y8 y9 y10 y11 y12, LeO (interchangelaw8_PartnerBestIsFound.j2 k y0 y1 y2 y3 y4 y5 y6 y7 y8 y9 y10 y11 y12) (interchangelaw8_PartnerBestIsFound.j2 (k + 1) y0 y1 y2 y3 y4 y5 y6 y7 y8 y9 y10 y11 y12))
  | 0 => ⟨fun _ _ _ _ _ _ _ _ _ _ _ _ r h => by simp [interchangelaw8_PartnerBestIsFound.l0] at h, fun _ _ _ _ _ _ _ _ _ _ _ _ _ _ _ _ _ _ _ _ _ _ _ _ r h => by simp [interchangelaw8_PartnerBestIsFound.j1] at h, fun _ _ _ _ _ _ _ _ _ _ _ _ _ r h => by simp [interchangelaw8_PartnerBestIsFound.j2] at h⟩
  | k + 1 => by
    obtain ⟨ih0, ih1, ih2⟩ := interchangelaw8_PartnerBestIsFound.mono_l k
    refine ⟨?_, ?_, ?_⟩
    · intro y0 y1 y2 y3 y4 y5 y6 y7 y8 y9 y10 y11
      unfold interchangelaw8_PartnerBestIsFound.l0
      repeat' first
      | (with_reducible exact ih0 _ _ _ _ _ _ _ _ _ _ _ _)
      | (with_reducible exact ih1 _ _ _ _ _ _ _ _ _ _ _ _ _ _ _ _ _ _ _ _ _ _ _ _)
      | (with_reducible exact ih2 _ _ _ _ _ _ _ _ _ _ _ _ _)
      | (with_reducible exact partner_Applies.mono _ _ _ _ _ _ _ _ _ _ _ _ _ _ _ _)
      | (with_reducible exact partner_Better.mono _ _ _ _ _ _ _ _ _ _ _ _ _ _ _ _ _ _ _)
      | (with_reducible exact partner_Find.mono _ _ _ _ _ _ _ _ _)
      | (with_reducible exact LeO.refl _)
      | (with_reducible exact LeO.none _)
      | (with_reducible refine LeO.ite ?_ ?_)
      | (with_reducible refine LeO.bind ?_ (fun _ => ?_))
      | exact ih0 _ _ _ _ _ _ _ _ _ _ _ _
      | exact ih1 _ _ _ _ _ _ _ _ _ _ _ _ _ _ _ _ _ _ _ _ _ _ _ _
      | exact ih2 _ _ _ _ _ _ _ _ _ _ _ _ _
      | exact partner_Applies.mono _ _ _ _ _ _ _ _ _ _ _ _ _ _ _ _
      | exact partner_Better.mono _ _ _ _ _ _ _ _ _ _ _ _ _ _ _ _ _ _ _
      | exact partner_Find.mono _ _ _ _ _ _ _ _ _
      | exact LeO.none _
      | refine LeO.ite ?_ ?_
      | refine LeO.bind ?_ (fun _ => ?_)
    · intro y0 y1 y2 y3 y4 y5 y6 y7 y8 y9 y10 y11 y12 y13 y14 y15 y16 y17 y18 y19 y20 y21 y22 y23
      unfold interchangelaw8_PartnerBestIsFound.j1
      repeat' first
      | (with_reducible exact ih0 _ _ _ _ _ _ _ _ _ _ _ _)
      | (with_reducible exact ih1 _ _ _ _ _ _ _ _ _ _ _ _ _ _ _ _ _ _ _ _ _ _ _ _)
      | (with_reducible exact ih2 _ _ _ _ _ _ _ _ _ _ _ _ _)
      | (with_reducible exact partner_Applies.mono _ _ _ _ _ _ _ _ _ _ _ _ _ _ _ _)
      | (with_reducible exact partner_Better.mono _ _ _ _ _ _ _ _ _ _ _ _ _ _ _ _ _ _ _)
      | (with_reducible exact partner_Find.mono _ _ _ _ _ _ _ _ _)
      | (with_reducible exact LeO.refl _)
      | (with_reducible exact LeO.none _)
      | (with_reducible refine LeO.ite ?_ ?_)
      | (with_reducible refine LeO.bind ?_ (fun _ => ?_))
      | exact ih0 _ _ _ _ _ _ _ _ _ _ _ _
      | exact ih1 _ _ _ _ _ _ _ _ _ _ _ _ _ _ _ _ _ _ _ _ _ _ _ _
      | exact ih2 _ _ _ _ _ _ _ _ _ _ _ _ _
      | exact partner_Applies.mono _ _ _ _ _ _ _ _ _ _ _ _ _ _ _ _
      | exact partner_Better.mono _ _ _ _ _ _ _ _ _ _ _ _ _ _ _ _ _ _ _
      | exact partner_Find.mono _ _ _ _ _ _ _ _ _
      | exact LeO.none _
      | refine LeO.ite ?_ ?_
      | refine LeO.bind ?_ (fun _ => ?_)
    · intro y0 y1 y2 y3 y4 y5 y6 y7 y8 y9 y10 y11 y12
      unfold interchangelaw8_PartnerBestIsFound.j2
      repeat' first
      | (with_reducible exact ih0 _ _ _ _ _ _ _ _ _ _ _ _)
      | (with_reducible exact ih1 _ _ _ _ _ _ _ _ _ _ _ _ _ _ _ _ _ _ _ _ _ _ _ _)
      | (with_reducible exact ih2 _ _ _ _ _ _ _ _ _ _ _ _ _)
      | (with_reducible exact partner_Applies.mono _ _ _ _ _ _ _ _ _ _ _ _ _ _ _ _)
      | (with_reducible exact partner_Better.mono _ _ _ _ _ _ _ _ _ _ _ _ _ _ _ _ _ _ _)
      | (with_reducible exact partner_Find.mono _ _ _ _ _ _ _ _ _)
      | (with_reducible exact LeO.refl _)
      | (with_reducible exact LeO.none _)
      | (with_reducible refine LeO.ite ?_ ?_)
      | (with_reducible refine LeO.bind ?_ (fun _ => ?_))
      | exact ih0 _ _ _ _ _ _ _ _ _ _ _ _
      | exact ih1 _ _ _ _ _ _ _ _ _ _ _ _ _ _ _ _ _ _ _ _ _ _ _ _
      | exact ih2 _ _ _ _ _ _ _ _ _ _ _ _ _
      | exact partner_Applies.mono _ _ _ _ _ _ _ _ _ _ _ _ _ _ _ _
      | exact partner_Better.mono _ _ _ _ _ _ _ _ _ _ _ _ _ _ _ _ _ _ _
      | exact partner_Find.mono _ _ _ _ _ _ _ _ _
      | exact LeO.none _
      | refine LeO.ite ?_ ?_
      | refine LeO.bind ?_ (fun _ => ?_)
theorem interchangelaw8_PartnerBestIsFound.mono : ∀ a0 a1 a2 a3 a4 a5 a6 a7 k, LeO (interchangelaw8_PartnerBestIsFound.f k a0 a1 a2 a3 a4 a5 a6 a7) (interchangelaw8_PartnerBestIsFound.f (k + 1) a0 a1 a2 a3 a4 a5 a6 a7) := by
  intro a0 a1 a2 a3 a4 a5 a6 a7 k
  obtain ⟨ih0, ih1, ih2⟩ := interchangelaw8_PartnerBestIsFound.mono_l k
  unfold interchangelaw8_PartnerBestIsFound.f
  repeat' first
      | (with_reducible exact ih0 _ _ _ _ _ _ _ _ _ _ _ _)
      | (with_reducible exact ih1 _ _ _ _ _ _ _ _ _ _ _ _ _ _ _ _ _ _ _ _ _ _ _ _)
      | (with_reducible exact ih2 _ _ _ _ _ _ _ _ _ _ _ _ _)
      | (with_reducible exact partner_Applies.mono _ _ _ _ _ _ _ _ _ _ _ _ _ _ _ _)
      | (with_reducible exact partner_Better.mono _ _ _ _ _ _ _ _ _ _ _ _ _ _ _ _ _ _ _)
      | (with_reducible exact partner_Find.mono _ _ _ _ _ _ _ _ _)
      | (with_reducible exact LeO.refl _)
      | (with_reducible exact LeO.none _)
      | (with_reducible refine LeO.ite ?_ ?_)
      | (with_reducible refine LeO.bind ?_ (fun _ => ?_))
      | exact ih0 _ _ _ _ _ _ _ _ _ _ _ _
      | exact ih1 _ _ _ _ _ _ _ _ _ _ _ _ _ _ _ _ _ _ _ _ _ _ _ _
      | exact ih2 _ _ _ _ _ _ _ _ _ _ _ _ _
      | exact partner_Applies.mono _ _ _ _ _ _ _ _ _ _ _ _ _ _ _ _
      | exact partner_Better.mono _ _ _ _ _ _ _ _ _ _ _ _ _ _ _ _ _ _ _
      | exact partner_Find.mono _ _ _ _ _ _ _ _ _
      | exact LeO.none _
      | refine LeO.ite ?_ ?_
      | refine LeO.bind ?_ (fun _ => ?_)
def interchangelaw8_PartnerBestIsFound.T13 : Bool × List (List Nat × List Nat) := (true, [([], []), ([], []), ([], []), ([1, 2], [1, 2]), ([3], [3]), ([0, 4], [0, 4]), ([5], [5]), ([6], [6]), ([6], [6]), ([7, 5, 0, 1, 2, 3, 4, 5, 6, 7], [7]), ([8, 9, 0, 1, 2, 3, 4, 5, 6, 7, 8, 9], [8])])
def interchangelaw8_PartnerBestIsFound.B13 : List Nat := [0, 0, 0, 6, 14, 31, 63, 127, 127, 255, 1023]
theorem interchangelaw8_PartnerBestIsFound.tab13 : rtab .any (opsOf Tryd.f8 13) = interchangelaw8_PartnerBestIsFound.T13 := by kernel_rfl
theorem interchangelaw8_PartnerBestIsFound.bits13 : waitsOk interchangelaw8_PartnerBestIsFound.T13.2 interchangelaw8_PartnerBestIsFound.B13 = true := by kernel_rfl
set_option maxHeartbeats 8000000 in
set_option maxRecDepth 100000 in
theorem interchangelaw8_PartnerBestIsFound.calls (k : Nat) (A0 : Option Addr) (c0 : Nat) (l0 : List (S86)) (A1 : Option Addr) (c1 : Nat) (l1 : List (S23)) (a2_0 : ByteArray) (a2_1 : ByteArray) (a2_2 : ByteArray) (a2_3 : ByteArray) (a2_4 : Int) (a2_5 : Bool) (r : Bool) (w : World) (hr0 : Kd.C k86 w A0 l0.length l0) (hc0 : l0.length ≤ c0) (hr1 : Kd.C k23 w A1 l1.length l1) (hc1 : l1.length ≤ c1) (h : interchangelaw8_PartnerBestIsFound.f k l0 l1 a2_0 a2_1 a2_2 a2_3 a2_4 a2_5 = some r) :
    Calls Tryd.prog 8 #[.slice A0 l0.length c0, .slice A1 l1.length c1, .agg #[.string a2_0, .string a2_1, .string a2_2, .string a2_3, .int .i64 a2_4, .bool a2_5]] w fun e w' => e = .returned (.bool r) ∧ Below w.heap.size w w' := by
  have hu37 := Tryd.underlying37
  have hu23 := Tryd.underlying23
  have HR0 := Aside0.mk hr0
  have HC0 := Aside0.mk hc0
  clear hr0 hc0
  have HR1 := Aside0.mk hr1
  have HC1 := Aside0.mk hc1
  clear hr1 hc1
  have HB := Aside0.mk (Below.refl w.heap.size w)
  have H : ((partner_Find.f k l0 l1 a2_0 a2_1 a2_2 a2_3 a2_4 a2_5).bind fun bt203 => (if bt203.2.2 = 0 then (interchangelaw8_PartnerBestIsFound.l0 k l1 bt203.1 bt203.2.1 l1 (l1.length : Int) 0 a2_0 a2_1 a2_2 a2_3 a2_4 a2_5) else (if bt203.1 = 0 then (if bt203.2.1 = true then (some false) else ((interchangelaw8_awake.f).bind fun t206 => (some t206))) else (some false)))) = some r := h
  clear h
  replace H := Option.bind_eq_some_iff.mp H
  obtain ⟨⟨t203, t204, t205⟩, A40, H⟩ := H
  replace H : (if t205 = 0 then (interchangelaw8_PartnerBestIsFound.l0 k l1 t203 t204 l1 (l1.length : Int) 0 a2_0 a2_1 a2_2 a2_3 a2_4 a2_5) else (if t203 = 0 then (if t204 = true then (some false) else ((interchangelaw8_awake.f).bind fun t206 => (some t206))) else (some false))) = some r := H
  have A4 := Aside0.mk A40
  clear A40
  by_cases c5 : t205 = 0
  · rw [if_pos c5] at H
    have c5b0 : (t205 == 0) = true := beq_iff_eq.mpr c5
    have c5b1 : (t205 != 0) = false := bne_eq_false_iff_eq.mpr c5
    clear c5
    have H' := Aside0.mk H
    clear H
    go_enter Tryd.func8, Tryd.ntmps8
    go_wp2_with (first | ((with_reducible refine gate_dst (N := 5) rfl ?_); refine box_event ?hg (N := 5) ?hd (cs := #[.string a2_0, .string a2_1, .string a2_2, .string a2_3, .int .i64 a2_4, .bool a2_5]) (t := 37) ?hr ?_; (case hd => rfl); (case hg => rfl); (case hr => first | (go_simp; done) | (go_simp; rfl)); intro gb202 hg w6 hbox hb; have n0_ := Aside0.mk (below_step (by repeat (first | (with_reducible first | exact HB.out | apply below_alloc | apply pw_below_drewN | apply below_drew1) | exact HB.out)) hb); have n1_ := Aside0.mk (hbox); have n2_ := Aside0.mk ((by rw [hg]; exact (below_size (by repeat (first | (with_reducible first | exact HB.out | apply below_alloc | apply pw_below_drewN | apply below_drew1) | exact HB.out))) : w.heap.size ≤ gb202)); have n3_ := Aside0.mk ((by rw [hg]; exact (below_size (by repeat (first | (with_reducible first | exact HB.out | apply below_alloc | apply pw_below_drewN | apply below_drew1) | exact HB.out))) : w.heap.size ≤ gb202)); clear HB; have HB := n0_; have BK202 := n1_; have GW202 := n2_; have GE202 := n3_; clear n0_ n1_ n2_ n3_; clear hb hbox hg; have hcz7_0 : w6.cell? ⟨gb202, 0, none⟩ = some (.string a2_0) := (blk_cell BK202.out 0).trans rfl; have hcz7_1 : w6.cell? ⟨gb202, 1, none⟩ = some (.string a2_1) := (blk_cell BK202.out 1).trans rfl; have hcz7_2 : w6.cell? ⟨gb202, 2, none⟩ = some (.string a2_2) := (blk_cell BK202.out 2).trans rfl; have hcz7_3 : w6.cell? ⟨gb202, 3, none⟩ = some (.string a2_3) := (blk_cell BK202.out 3).trans rfl; have hcz7_4 : w6.cell? ⟨gb202, 4, none⟩ = some (.int .i64 a2_4) := (blk_cell BK202.out 4).trans rfl; have hcz7_5 : w6.cell? ⟨gb202, 5, none⟩ = some (.bool a2_5) := (blk_cell BK202.out 5).trans rfl; have hfz7_0 := blk_frozen BK202.out 0; have hfz7_1 := blk_frozen BK202.out 1; have hfz7_2 := blk_frozen BK202.out 2; have hfz7_3 := blk_frozen BK202.out 3; have hfz7_4 := blk_frozen BK202.out 4; have hfz7_5 := blk_frozen BK202.out 5) | ((with_reducible refine gate_callee (f := 29) rfl ?_); refine goesL_ (some 19) rfl rfl Tryd.func29 (by kernel_rfl) rfl #[.slice A0 l0.length c0, .slice A1 l1.length c1, .agg #[.string a2_0, .string a2_1, .string a2_2, .string a2_3, .int .i64 a2_4, .bool a2_5]] rfl (by (try simp only [List.map_toArray, List.map_cons, List.map_nil]); first | done | rfl | (simp only [List.length_drop, List.length_take]; rfl) | (simp only [xne_empty, xeq_empty]; rfl)) ?_; (with_reducible refine (partner_Find.calls k _ _ l0 _ _ l1 a2_0 a2_1 a2_2 a2_3 a2_4 a2_5 t203 t204 t205 _ ?side1 ?side2 ?side3 ?side4 A4.out).mono ?_); (case side1 => repeat (first | exact (Kd.C_below HR0.out HB.out) | (with_reducible refine Kd.C_alloc ?_ _) | (with_reducible refine Kd.C_drewN ?_ _) | (with_reducible refine Kd.C_drew ?_))); (case side2 => exact HC0.out); (case side3 => repeat (first | exact (Kd.C_below HR1.out HB.out) | (with_reducible refine Kd.C_alloc ?_ _) | (with_reducible refine Kd.C_drewN ?_ _) | (with_reducible refine Kd.C_drew ?_))); (case side4 => exact HC1.out); rintro e w8 ⟨rfl, hb⟩; refine ⟨_, rfl, ?_⟩; have n0_ := Aside0.mk (blk_below (g := gb202) (o := .cells #[.string a2_0, .string a2_1, .string a2_2, .string a2_3, .int .i64 a2_4, .bool a2_5] 37 (0, 0)) (by (with_reducible repeat (first | refine blk_drewN ?_ _ | refine blk_drew ?_ | refine blk_alloc ?_ _)); exact BK202.out) hb); have n1_ := Aside0.mk (below_step (by repeat (first | (with_reducible first | exact HB.out | apply below_alloc | apply pw_below_drewN | apply below_drew1 | refine below_set ?_ GE202.out) | exact HB.out)) hb); clear BK202; clear HB; have BK202 := n0_; have HB := n1_; clear n0_ n1_; (try clear hb); (try clear hb2); (try clear hk); (try clear hi)))
    go_loopg [36] k (fun kq v36 w' => ∃ (x36_1 : Int), v36 = .int .i64 x36_1 ∧ Aside0 (interchangelaw8_PartnerBestIsFound.l0 kq l1 t203 t204 l1 (l1.length : Int) x36_1 a2_0 a2_1 a2_2 a2_3 a2_4 a2_5 = some r) ∧ Aside0 (kq ≤ k) ∧ Aside0 (w'.heap[gb202]? = some (.cells #[.string a2_0, .string a2_1, .string a2_2, .string a2_3, .int .i64 a2_4, .bool a2_5] 37 (0, 0))) ∧ Aside0 (Below w.heap.size w w'))
    case atStart => exact ⟨(0), (by first | rfl | (simp; done) | (simp [*]; done)), H', ⟨Nat.le_refl _⟩, ⟨by (with_reducible repeat (first | refine blk_drewN ?_ _ | refine blk_drew ?_ | refine blk_alloc ?_ _)); exact BK202.out⟩, ⟨by repeat (first | (with_reducible first | exact HB.out | apply below_alloc | apply pw_below_drewN | apply below_drew1 | refine below_set ?_ GE202.out) | exact HB.out)⟩⟩
    case round =>
      clear H'
      try clear c1
      try clear c2
      try clear p2
      try clear c5
      try clear c5b0
      try clear c5b1
      try clear c8
      try clear hcz7_0
      try clear hcz7_1
      try clear hcz7_2
      try clear hcz7_3
      try clear hcz7_4
      try clear hcz7_5
      try clear hfz7_0
      try clear hfz7_1
      try clear hfz7_2
      try clear hfz7_3
      try clear hfz7_4
      try clear hfz7_5
      obtain ⟨x36_1, rfl, HA, HK1, BK202, HB⟩ := hrel
      cases gk with
      | zero => exact absurd HA.out (by simp [interchangelaw8_PartnerBestIsFound.l0])
      | succ k1 =>
        have H := HA.out
        clear HA
        simp only [interchangelaw8_PartnerBestIsFound.l0] at H
        by_cases c9 : x36_1 < (l1.length : Int)
        · rw [if_pos c9] at H
          have c9b0 : decide (x36_1 < (l1.length : Int)) = true := decide_eq_true c9
          clear c9
          by_cases c10 : 0 ≤ x36_1
          · rw [if_pos c10] at H
            have c10b0 : decide (0 ≤ x36_1) = true := decide_eq_true c10
            clear c10
            by_cases c11 : x36_1 < (l1.length : Int)
            · rw [if_pos c11] at H
              have c11b0 : decide (x36_1 < (l1.length : Int)) = true := decide_eq_true c11
              clear c11
              replace H := Option.bind_eq_some_iff.mp H
              obtain ⟨⟨t210, t211⟩, A120, H⟩ := H
              replace H : (if t211 = 0 then (if t210 = true then (interchangelaw8_PartnerBestIsFound.j1 k1 l1 t203 t204 x36_1 t210 l1 (l1.length : Int) x36_1 (!t204) a2_0 a2_1 a2_2 a2_3 a2_4 a2_5 ((rd_T23 l1 x36_1).f0) ((rd_T23 l1 x36_1).f1) ((rd_T23 l1 x36_1).f2) ((rd_T23 l1 x36_1).f3) ((rd_T23 l1 x36_1).f4) ((rd_T23 l1 x36_1).f5) ((rd_T23 l1 x36_1).f6) ((rd_T23 l1 x36_1).f7) ((rd_T23 l1 x36_1).f8)) else (interchangelaw8_PartnerBestIsFound.j1 k1 l1 t203 t204 x36_1 t210 l1 (l1.length : Int) x36_1 false a2_0 a2_1 a2_2 a2_3 a2_4 a2_5 ((rd_T23 l1 x36_1).f0) ((rd_T23 l1 x36_1).f1) ((rd_T23 l1 x36_1).f2) ((rd_T23 l1 x36_1).f3) ((rd_T23 l1 x36_1).f4) ((rd_T23 l1 x36_1).f5) ((rd_T23 l1 x36_1).f6) ((rd_T23 l1 x36_1).f7) ((rd_T23 l1 x36_1).f8))) else (interchangelaw8_PartnerBestIsFound.j1 k1 l1 t203 t204 x36_1 t210 l1 (l1.length : Int) x36_1 true a2_0 a2_1 a2_2 a2_3 a2_4 a2_5 ((rd_T23 l1 x36_1).f0) ((rd_T23 l1 x36_1).f1) ((rd_T23 l1 x36_1).f2) ((rd_T23 l1 x36_1).f3) ((rd_T23 l1 x36_1).f4) ((rd_T23 l1 x36_1).f5) ((rd_T23 l1 x36_1).f6) ((rd_T23 l1 x36_1).f7) ((rd_T23 l1 x36_1).f8))) = some r := H
              have A12 := Aside0.mk A120
              clear A120
              have HC13 := Aside0.mk H
              clear H
              have p208 : 0 ≤ (x36_1 : Int) := of_decide_eq_true (by first | (with_reducible assumption) | assumption)
              have q208 : x36_1 < (l1.length : Int) := of_decide_eq_true (by first | (with_reducible assumption) | assumption)
              obtain ⟨ad208, e208, hx208_0, hx208_1, hx208_2, hx208_3, hx208_4, hx208_5, hx208_6, hx208_7, hx208_8⟩ := at_T23 HR1.out x36_1 p208 q208
              cases e208
              replace hx208_0 := (HB.out.cell (World.block_lt_of_cell? w _ hx208_0)).trans hx208_0
              replace hx208_1 := (HB.out.cell (World.block_lt_of_cell? w _ hx208_1)).trans hx208_1
              replace hx208_2 := (HB.out.cell (World.block_lt_of_cell? w _ hx208_2)).trans hx208_2
              replace hx208_3 := (HB.out.cell (World.block_lt_of_cell? w _ hx208_3)).trans hx208_3
              replace hx208_4 := (HB.out.cell (World.block_lt_of_cell? w _ hx208_4)).trans hx208_4
              replace hx208_5 := (HB.out.cell (World.block_lt_of_cell? w _ hx208_5)).trans hx208_5
              replace hx208_6 := (HB.out.cell (World.block_lt_of_cell? w _ hx208_6)).trans hx208_6
              replace hx208_7 := (HB.out.cell (World.block_lt_of_cell? w _ hx208_7)).trans hx208_7
              replace hx208_8 := (HB.out.cell (World.block_lt_of_cell? w _ hx208_8)).trans hx208_8
              replace p208 := eq_true p208
              replace q208 := eq_true q208
              go_upto_region 8 with (first | ((with_reducible refine gate_dst (N := 11) rfl ?_); refine box_event ?hg (N := 11) ?hd (cs := #[.string (⟨#[]⟩ : ByteArray), .string (⟨#[]⟩ : ByteArray), .string (⟨#[]⟩ : ByteArray), .string (⟨#[]⟩ : ByteArray), .int .i64 0, .int .i64 0, .bool false, .int .i64 0, .bool false]) (t := 23) ?hr ?_; (case hd => rfl); (case hg => rfl); (case hr => first | (go_simp; done) | (go_simp; rfl)); intro gb209 hg w14 hbox hb; have n0_ := Aside0.mk (blk_below (g := gb202) (o := .cells #[.string a2_0, .string a2_1, .string a2_2, .string a2_3, .int .i64 a2_4, .bool a2_5] 37 (0, 0)) (by (with_reducible repeat (first | refine blk_drewN ?_ _ | refine blk_drew ?_ | refine blk_alloc ?_ _)); exact BK202.out) hb); have n1_ := Aside0.mk (below_step (by repeat (first | (with_reducible first | exact HB.out | apply below_alloc | apply pw_below_drewN | apply below_drew1 | refine below_set ?_ GE202.out) | exact HB.out)) hb); have n2_ := Aside0.mk (hbox); have n3_ := Aside0.mk ((by rw [hg]; exact (below_size (by repeat (first | (with_reducible first | exact HB.out | apply below_alloc | apply pw_below_drewN | apply below_drew1 | refine below_set ?_ GE202.out) | exact HB.out))) : w.heap.size ≤ gb209)); have n4_ := Aside0.mk ((by rw [hg]; exact (below_size (by repeat (first | (with_reducible first | exact HB.out | apply below_alloc | apply pw_below_drewN | apply below_drew1 | refine below_set ?_ GE202.out) | exact HB.out))) : w.heap.size ≤ gb209)); have n5_ := Aside0.mk ((by rw [hg]; exact Nat.ne_of_lt (blk_lt (g := gb202) (o := .cells #[.string a2_0, .string a2_1, .string a2_2, .string a2_3, .int .i64 a2_4, .bool a2_5] 37 (0, 0)) (by (with_reducible repeat (first | refine blk_drewN ?_ _ | refine blk_drew ?_ | refine blk_alloc ?_ _)); exact BK202.out)) : gb202 ≠ gb209)); have n6_ := Aside0.mk ((by rw [hg]; exact Nat.ne_of_gt (blk_lt (g := gb202) (o := .cells #[.string a2_0, .string a2_1, .string a2_2, .string a2_3, .int .i64 a2_4, .bool a2_5] 37 (0, 0)) (by (with_reducible repeat (first | refine blk_drewN ?_ _ | refine blk_drew ?_ | refine blk_alloc ?_ _)); exact BK202.out)) : gb209 ≠ gb202)); clear BK202; clear HB; have BK202 := n0_; have HB := n1_; have BK209 := n2_; have GW209 := n3_; have GE209 := n4_; have NB202_209 := n5_; have NB209_202 := n6_; clear n0_ n1_ n2_ n3_ n4_ n5_ n6_; clear hb hbox hg; have hnb15 := NB209_202.out; have hnc15 := NB202_209.out; have hcz16_0 : w14.cell? ⟨gb209, 0, none⟩ = some (.string (⟨#[]⟩ : ByteArray)) := (blk_cell BK209.out 0).trans rfl; have hcz16_1 : w14.cell? ⟨gb209, 1, none⟩ = some (.string (⟨#[]⟩ : ByteArray)) := (blk_cell BK209.out 1).trans rfl; have hcz16_2 : w14.cell? ⟨gb209, 2, none⟩ = some (.string (⟨#[]⟩ : ByteArray)) := (blk_cell BK209.out 2).trans rfl; have hcz16_3 : w14.cell? ⟨gb209, 3, none⟩ = some (.string (⟨#[]⟩ : ByteArray)) := (blk_cell BK209.out 3).trans rfl; have hcz16_4 : w14.cell? ⟨gb209, 4, none⟩ = some (.int .i64 0) := (blk_cell BK209.out 4).trans rfl; have hcz16_5 : w14.cell? ⟨gb209, 5, none⟩ = some (.int .i64 0) := (blk_cell BK209.out 5).trans rfl; have hcz16_6 : w14.cell? ⟨gb209, 6, none⟩ = some (.bool false) := (blk_cell BK209.out 6).trans rfl; have hcz16_7 : w14.cell? ⟨gb209, 7, none⟩ = some (.int .i64 0) := (blk_cell BK209.out 7).trans rfl; have hcz16_8 : w14.cell? ⟨gb209, 8, none⟩ = some (.bool false) := (blk_cell BK209.out 8).trans rfl; have hfz16_0 := blk_frozen BK209.out 0; have hfz16_1 := blk_frozen BK209.out 1; have hfz16_2 := blk_frozen BK209.out 2; have hfz16_3 := blk_frozen BK209.out 3; have hfz16_4 := blk_frozen BK209.out 4; have hfz16_5 := blk_frozen BK209.out 5; have hfz16_6 := blk_frozen BK209.out 6; have hfz16_7 := blk_frozen BK209.out 7; have hfz16_8 := blk_frozen BK209.out 8; have hcz17_0 : w14.cell? ⟨gb202, 0, none⟩ = some (.string a2_0) := (blk_cell BK202.out 0).trans rfl; have hcz17_1 : w14.cell? ⟨gb202, 1, none⟩ = some (.string a2_1) := (blk_cell BK202.out 1).trans rfl; have hcz17_2 : w14.cell? ⟨gb202, 2, none⟩ = some (.string a2_2) := (blk_cell BK202.out 2).trans rfl; have hcz17_3 : w14.cell? ⟨gb202, 3, none⟩ = some (.string a2_3) := (blk_cell BK202.out 3).trans rfl; have hcz17_4 : w14.cell? ⟨gb202, 4, none⟩ = some (.int .i64 a2_4) := (blk_cell BK202.out 4).trans rfl; have hcz17_5 : w14.cell? ⟨gb202, 5, none⟩ = some (.bool a2_5) := (blk_cell BK202.out 5).trans rfl; have hfz17_0 := blk_frozen BK202.out 0; have hfz17_1 := blk_frozen BK202.out 1; have hfz17_2 := blk_frozen BK202.out 2; have hfz17_3 := blk_frozen BK202.out 3; have hfz17_4 := blk_frozen BK202.out 4; have hfz17_5 := blk_frozen BK202.out 5) | ((with_reducible refine gate_callee (f := 20) rfl ?_); refine goesL_ (some 44) rfl rfl Tryd.func20 (by kernel_rfl) rfl #[.agg #[.string ((rd_T23 l1 x36_1).f0), .string ((rd_T23 l1 x36_1).f1), .string ((rd_T23 l1 x36_1).f2), .string ((rd_T23 l1 x36_1).f3), .int .i64 ((rd_T23 l1 x36_1).f4), .int .i64 ((rd_T23 l1 x36_1).f5), .bool ((rd_T23 l1 x36_1).f6), .int .i64 ((rd_T23 l1 x36_1).f7), .bool ((rd_T23 l1 x36_1).f8)], .agg #[.string a2_0, .string a2_1, .string a2_2, .string a2_3, .int .i64 a2_4, .bool a2_5]] rfl (by (try simp only [List.map_toArray, List.map_cons, List.map_nil]); first | done | rfl | (simp only [List.length_drop, List.length_take]; rfl) | (simp only [xne_empty, xeq_empty]; rfl)) ?_; (with_reducible refine (partner_Applies.calls k1 ((rd_T23 l1 x36_1).f0) ((rd_T23 l1 x36_1).f1) ((rd_T23 l1 x36_1).f2) ((rd_T23 l1 x36_1).f3) ((rd_T23 l1 x36_1).f4) ((rd_T23 l1 x36_1).f5) ((rd_T23 l1 x36_1).f6) ((rd_T23 l1 x36_1).f7) ((rd_T23 l1 x36_1).f8) a2_0 a2_1 a2_2 a2_3 a2_4 a2_5 t210 t211 _ A12.out).mono ?_); rintro e w18 ⟨rfl, hb⟩; refine ⟨_, rfl, ?_⟩; have n0_ := Aside0.mk (blk_below (g := gb202) (o := .cells #[.string a2_0, .string a2_1, .string a2_2, .string a2_3, .int .i64 a2_4, .bool a2_5] 37 (0, 0)) (by (with_reducible repeat (first | refine blk_drewN ?_ _ | refine blk_drew ?_ | refine blk_alloc ?_ _)); refine blk_far ?_ NB202_209.out _; (with_reducible repeat (first | refine blk_drewN ?_ _ | refine blk_drew ?_ | refine blk_alloc ?_ _)); refine blk_far ?_ NB202_209.out _; (with_reducible repeat (first | refine blk_drewN ?_ _ | refine blk_drew ?_ | refine blk_alloc ?_ _)); refine blk_far ?_ NB202_209.out _; (with_reducible repeat (first | refine blk_drewN ?_ _ | refine blk_drew ?_ | refine blk_alloc ?_ _)); refine blk_far ?_ NB202_209.out _; (with_reducible repeat (first | refine blk_drewN ?_ _ | refine blk_drew ?_ | refine blk_alloc ?_ _)); refine blk_far ?_ NB202_209.out _; (with_reducible repeat (first | refine blk_drewN ?_ _ | refine blk_drew ?_ | refine blk_alloc ?_ _)); refine blk_far ?_ NB202_209.out _; (with_reducible repeat (first | refine blk_drewN ?_ _ | refine blk_drew ?_ | refine blk_alloc ?_ _)); refine blk_far ?_ NB202_209.out _; (with_reducible repeat (first | refine blk_drewN ?_ _ | refine blk_drew ?_ | refine blk_alloc ?_ _)); refine blk_far ?_ NB202_209.out _; (with_reducible repeat (first | refine blk_drewN ?_ _ | refine blk_drew ?_ | refine blk_alloc ?_ _)); refine blk_far ?_ NB202_209.out _; (with_reducible repeat (first | refine blk_drewN ?_ _ | refine blk_drew ?_ | refine blk_alloc ?_ _)); exact BK202.out) hb); have n1_ := Aside0.mk (blk_below (g := gb209) (o := .cells #[.string ((rd_T23 l1 x36_1).f0), .string ((rd_T23 l1 x36_1).f1), .string ((rd_T23 l1 x36_1).f2), .string ((rd_T23 l1 x36_1).f3), .int .i64 ((rd_T23 l1 x36_1).f4), .int .i64 ((rd_T23 l1 x36_1).f5), .bool ((rd_T23 l1 x36_1).f6), .int .i64 ((rd_T23 l1 x36_1).f7), .bool ((rd_T23 l1 x36_1).f8)] 23 (0, 0)) (by (with_reducible repeat (first | refine blk_drewN ?_ _ | refine blk_drew ?_ | refine blk_alloc ?_ _)); refine blk_put (cs := #[.string ((rd_T23 l1 x36_1).f0), .string ((rd_T23 l1 x36_1).f1), .string ((rd_T23 l1 x36_1).f2), .string ((rd_T23 l1 x36_1).f3), .int .i64 ((rd_T23 l1 x36_1).f4), .int .i64 ((rd_T23 l1 x36_1).f5), .bool ((rd_T23 l1 x36_1).f6), .int .i64 ((rd_T23 l1 x36_1).f7), .bool false]) ?_ 8 _ rfl; (with_reducible repeat (first | refine blk_drewN ?_ _ | refine blk_drew ?_ | refine blk_alloc ?_ _)); refine blk_put (cs := #[.string ((rd_T23 l1 x36_1).f0), .string ((rd_T23 l1 x36_1).f1), .string ((rd_T23 l1 x36_1).f2), .string ((rd_T23 l1 x36_1).f3), .int .i64 ((rd_T23 l1 x36_1).f4), .int .i64 ((rd_T23 l1 x36_1).f5), .bool ((rd_T23 l1 x36_1).f6), .int .i64 0, .bool false]) ?_ 7 _ rfl; (with_reducible repeat (first | refine blk_drewN ?_ _ | refine blk_drew ?_ | refine blk_alloc ?_ _)); refine blk_put (cs := #[.string ((rd_T23 l1 x36_1).f0), .string ((rd_T23 l1 x36_1).f1), .string ((rd_T23 l1 x36_1).f2), .string ((rd_T23 l1 x36_1).f3), .int .i64 ((rd_T23 l1 x36_1).f4), .int .i64 ((rd_T23 l1 x36_1).f5), .bool false, .int .i64 0, .bool false]) ?_ 6 _ rfl; (with_reducible repeat (first | refine blk_drewN ?_ _ | refine blk_drew ?_ | refine blk_alloc ?_ _)); refine blk_put (cs := #[.string ((rd_T23 l1 x36_1).f0), .string ((rd_T23 l1 x36_1).f1), .string ((rd_T23 l1 x36_1).f2), .string ((rd_T23 l1 x36_1).f3), .int .i64 ((rd_T23 l1 x36_1).f4), .int .i64 0, .bool false, .int .i64 0, .bool false]) ?_ 5 _ rfl; (with_reducible repeat (first | refine blk_drewN ?_ _ | refine blk_drew ?_ | refine blk_alloc ?_ _)); refine blk_put (cs := #[.string ((rd_T23 l1 x36_1).f0), .string ((rd_T23 l1 x36_1).f1), .string ((rd_T23 l1 x36_1).f2), .string ((rd_T23 l1 x36_1).f3), .int .i64 0, .int .i64 0, .bool false, .int .i64 0, .bool false]) ?_ 4 _ rfl; (with_reducible repeat (first | refine blk_drewN ?_ _ | refine blk_drew ?_ | refine blk_alloc ?_ _)); refine blk_put (cs := #[.string ((rd_T23 l1 x36_1).f0), .string ((rd_T23 l1 x36_1).f1), .string ((rd_T23 l1 x36_1).f2), .string (⟨#[]⟩ : ByteArray), .int .i64 0, .int .i64 0, .bool false, .int .i64 0, .bool false]) ?_ 3 _ rfl; (with_reducible repeat (first | refine blk_drewN ?_ _ | refine blk_drew ?_ | refine blk_alloc ?_ _)); refine blk_put (cs := #[.string ((rd_T23 l1 x36_1).f0), .string ((rd_T23 l1 x36_1).f1), .string (⟨#[]⟩ : ByteArray), .string (⟨#[]⟩ : ByteArray), .int .i64 0, .int .i64 0, .bool false, .int .i64 0, .bool false]) ?_ 2 _ rfl; (with_reducible repeat (first | refine blk_drewN ?_ _ | refine blk_drew ?_ | refine blk_alloc ?_ _)); refine blk_put (cs := #[.string ((rd_T23 l1 x36_1).f0), .string (⟨#[]⟩ : ByteArray), .string (⟨#[]⟩ : ByteArray), .string (⟨#[]⟩ : ByteArray), .int .i64 0, .int .i64 0, .bool false, .int .i64 0, .bool false]) ?_ 1 _ rfl; (with_reducible repeat (first | refine blk_drewN ?_ _ | refine blk_drew ?_ | refine blk_alloc ?_ _)); refine blk_put (cs := #[.string (⟨#[]⟩ : ByteArray), .string (⟨#[]⟩ : ByteArray), .string (⟨#[]⟩ : ByteArray), .string (⟨#[]⟩ : ByteArray), .int .i64 0, .int .i64 0, .bool false, .int .i64 0, .bool false]) ?_ 0 _ rfl; (with_reducible repeat (first | refine blk_drewN ?_ _ | refine blk_drew ?_ | refine blk_alloc ?_ _)); exact BK209.out) hb); have n2_ := Aside0.mk (below_step (by repeat (first | (with_reducible first | exact HB.out | apply below_alloc | apply pw_below_drewN | apply below_drew1 | refine below_set ?_ GE202.out | refine below_set ?_ GE209.out) | exact HB.out)) hb); clear BK202; clear BK209; clear HB; have BK202 := n0_; have BK209 := n1_; have HB := n2_; clear n0_ n1_ n2_; (try clear hb); (try clear hb2); (try clear hk); (try clear hi)))
              (try simp only [Act.put, List.setIfInBounds_toArray, List.set_cons_zero, List.set_cons_succ])
              go_cut [55] (fun v55 wc => ∃ (kq : Nat) (x55_12 : Bool), v55 = .bool x55_12 ∧ Aside0 (interchangelaw8_PartnerBestIsFound.j1 kq l1 t203 t204 x36_1 t210 l1 (l1.length : Int) x36_1 x55_12 a2_0 a2_1 a2_2 a2_3 a2_4 a2_5 ((rd_T23 l1 x36_1).f0) ((rd_T23 l1 x36_1).f1) ((rd_T23 l1 x36_1).f2) ((rd_T23 l1 x36_1).f3) ((rd_T23 l1 x36_1).f4) ((rd_T23 l1 x36_1).f5) ((rd_T23 l1 x36_1).f6) ((rd_T23 l1 x36_1).f7) ((rd_T23 l1 x36_1).f8) = some r) ∧ Aside0 (kq ≤ k1) ∧ Aside0 (wc.heap[gb202]? = some (.cells #[.string a2_0, .string a2_1, .string a2_2, .string a2_3, .int .i64 a2_4, .bool a2_5] 37 (0, 0))) ∧ Aside0 (wc.heap[gb209]? = some (.cells #[.string ((rd_T23 l1 x36_1).f0), .string ((rd_T23 l1 x36_1).f1), .string ((rd_T23 l1 x36_1).f2), .string ((rd_T23 l1 x36_1).f3), .int .i64 ((rd_T23 l1 x36_1).f4), .int .i64 ((rd_T23 l1 x36_1).f5), .bool ((rd_T23 l1 x36_1).f6), .int .i64 ((rd_T23 l1 x36_1).f7), .bool ((rd_T23 l1 x36_1).f8)] 23 (0, 0))) ∧ Aside0 (Below w.heap.size w wc))
              case first =>
                have H := HC13.out
                clear HC13
                by_cases c19 : t211 = 0
                · rw [if_pos c19] at H
                  have c19b0 : (t211 == 0) = true := beq_iff_eq.mpr c19
                  have c19b1 : (t211 != 0) = false := bne_eq_false_iff_eq.mpr c19
                  clear c19
                  (first | rw [c19b0] | (simp only [i64_w, i32_w]; rw [c19b0]) | skip)
                  by_cases c20 : t210 = true
                  · subst c20
                    have H1 : (interchangelaw8_PartnerBestIsFound.j1 k1 l1 t203 t204 x36_1 true l1 (l1.length : Int) x36_1 (!t204) a2_0 a2_1 a2_2 a2_3 a2_4 a2_5 ((rd_T23 l1 x36_1).f0) ((rd_T23 l1 x36_1).f1) ((rd_T23 l1 x36_1).f2) ((rd_T23 l1 x36_1).f3) ((rd_T23 l1 x36_1).f4) ((rd_T23 l1 x36_1).f5) ((rd_T23 l1 x36_1).f6) ((rd_T23 l1 x36_1).f7) ((rd_T23 l1 x36_1).f8)) = some r := by rw [if_pos rfl] at H; exact H
                    clear H
                    have H := H1
                    clear H1
                    have H' := Aside0.mk H
                    clear H
                    go_wp2
                    go_meet
                    case rel => exact ⟨_, (!t204), (by first | rfl | (simp; done) | (simp [*]; done)), H', ⟨by have := HK1.out; first | omega | exact Nat.le_refl _⟩, ⟨by (with_reducible repeat (first | refine blk_drewN ?_ _ | refine blk_drew ?_ | refine blk_alloc ?_ _)); exact BK202.out⟩, ⟨by (with_reducible repeat (first | refine blk_drewN ?_ _ | refine blk_drew ?_ | refine blk_alloc ?_ _)); exact BK209.out⟩, ⟨by repeat (first | (with_reducible first | exact HB.out | apply below_alloc | apply pw_below_drewN | apply below_drew1 | refine below_set ?_ GE202.out | refine below_set ?_ GE209.out) | exact HB.out)⟩⟩
                  · replace c20 := Bool.eq_false_iff.mpr c20
                    subst c20
                    have H1 : (interchangelaw8_PartnerBestIsFound.j1 k1 l1 t203 t204 x36_1 false l1 (l1.length : Int) x36_1 false a2_0 a2_1 a2_2 a2_3 a2_4 a2_5 ((rd_T23 l1 x36_1).f0) ((rd_T23 l1 x36_1).f1) ((rd_T23 l1 x36_1).f2) ((rd_T23 l1 x36_1).f3) ((rd_T23 l1 x36_1).f4) ((rd_T23 l1 x36_1).f5) ((rd_T23 l1 x36_1).f6) ((rd_T23 l1 x36_1).f7) ((rd_T23 l1 x36_1).f8)) = some r := by rw [if_neg (show ¬ (false = true) by decide)] at H; exact H
                    clear H
                    have H := H1
                    clear H1
                    have H' := Aside0.mk H
                    clear H
                    go_wp2
                    go_meet
                    case rel => exact ⟨_, (false), (by first | rfl | (simp; done) | (simp [*]; done)), H', ⟨by have := HK1.out; first | omega | exact Nat.le_refl _⟩, ⟨by (with_reducible repeat (first | refine blk_drewN ?_ _ | refine blk_drew ?_ | refine blk_alloc ?_ _)); exact BK202.out⟩, ⟨by (with_reducible repeat (first | refine blk_drewN ?_ _ | refine blk_drew ?_ | refine blk_alloc ?_ _)); exact BK209.out⟩, ⟨by repeat (first | (with_reducible first | exact HB.out | apply below_alloc | apply pw_below_drewN | apply below_drew1 | refine below_set ?_ GE202.out | refine below_set ?_ GE209.out) | exact HB.out)⟩⟩
                · rw [if_neg c19] at H
                  have c19b0 : (t211 == 0) = false := beq_eq_false_iff_ne.mpr c19
                  have c19b1 : (t211 != 0) = true := bne_iff_ne.mpr c19
                  (first | rw [c19b0] | (simp only [i64_w, i32_w]; rw [c19b0]) | skip)
                  have H' := Aside0.mk H
                  clear H
                  go_wp2
                  go_meet
                  case rel => exact ⟨_, (true), (by first | rfl | (simp; done) | (simp [*]; done)), H', ⟨by have := HK1.out; first | omega | exact Nat.le_refl _⟩, ⟨by (with_reducible repeat (first | refine blk_drewN ?_ _ | refine blk_drew ?_ | refine blk_alloc ?_ _)); exact BK202.out⟩, ⟨by (with_reducible repeat (first | refine blk_drewN ?_ _ | refine blk_drew ?_ | refine blk_alloc ?_ _)); exact BK209.out⟩, ⟨by repeat (first | (with_reducible first | exact HB.out | apply below_alloc | apply pw_below_drewN | apply below_drew1 | refine below_set ?_ GE202.out | refine below_set ?_ GE209.out) | exact HB.out)⟩⟩
              case rest =>
                clear HC13
                try clear c1
                try clear c2
                try clear p2
                try clear q2
                try clear hx2
                try clear c5
                try clear c5b0
                try clear c5b1
                try clear c8
                try clear c9
                try clear c9b0
                try clear c10
                try clear c10b0
                try clear c11
                try clear c11b0
                try clear c15
                try clear c19
                try clear c19b0
                try clear c19b1
                try clear c20
                try clear p20
                try clear q20
                try clear hx20
                try clear hcz16_0
                try clear hcz16_1
                try clear hcz16_2
                try clear hcz16_3
                try clear hcz16_4
                try clear hcz16_5
                try clear hcz16_6
                try clear hcz16_7
                try clear hcz16_8
                try clear hcz17_0
                try clear hcz17_1
                try clear hcz17_2
                try clear hcz17_3
                try clear hcz17_4
                try clear hcz17_5
                try clear hcz7_0
                try clear hcz7_1
                try clear hcz7_2
                try clear hcz7_3
                try clear hcz7_4
                try clear hcz7_5
                try clear hfz16_0
                try clear hfz16_1
                try clear hfz16_2
                try clear hfz16_3
                try clear hfz16_4
                try clear hfz16_5
                try clear hfz16_6
                try clear hfz16_7
                try clear hfz16_8
                try clear hfz17_0
                try clear hfz17_1
                try clear hfz17_2
                try clear hfz17_3
                try clear hfz17_4
                try clear hfz17_5
                try clear hfz7_0
                try clear hfz7_1
                try clear hfz7_2
                try clear hfz7_3
                try clear hfz7_4
                try clear hfz7_5
                try clear hx208_0
                try clear hx208_1
                try clear hx208_2
                try clear hx208_3
                try clear hx208_4
                try clear hx208_5
                try clear hx208_6
                try clear hx208_7
                try clear hx208_8
                try clear p2
                try clear p208
                try clear q208
                obtain ⟨kq, x55_12, rfl, HA, HJ12, BK202, BK209, HB⟩ := hcut
                cases kq with
                | zero => exact absurd HA.out (by simp [interchangelaw8_PartnerBestIsFound.j1])
                | succ kj12 =>
                  have H := HA.out
                  clear HA
                  simp only [interchangelaw8_PartnerBestIsFound.j1] at H
                  by_cases c21 : x55_12 = true
                  · subst c21
                    have H1 : (some false) = some r := by rw [if_pos rfl] at H; exact H
                    clear H
                    have H := H1
                    clear H1
                    obtain rfl := Option.some.inj H
                    go_wp2
                    go_ret
                    exact ⟨by first | rfl | (simp [errW_none, errW_some] <;> rfl) | (simp [errW_none, errW_some, xne_empty, xeq_empty] <;> rfl) | (simp [*, errW_none, errW_some] <;> rfl), by repeat (first | (with_reducible first | exact HB.out | apply below_alloc | apply pw_below_drewN | apply below_drew1 | refine below_set ?_ GE202.out | refine below_set ?_ GE209.out) | exact HB.out)⟩
                  · replace c21 := Bool.eq_false_iff.mpr c21
                    subst c21
                    have H1 : (if t210 = true then (if 0 ≤ t203 then (if t203 < (l1.length : Int) then ((partner_Better.f kj12 ((rd_T23 l1 x36_1).f0) ((rd_T23 l1 x36_1).f1) ((rd_T23 l1 x36_1).f2) ((rd_T23 l1 x36_1).f3) ((rd_T23 l1 x36_1).f4) ((rd_T23 l1 x36_1).f5) ((rd_T23 l1 x36_1).f6) ((rd_T23 l1 x36_1).f7) ((rd_T23 l1 x36_1).f8) ((rd_T23 l1 t203).f0) ((rd_T23 l1 t203).f1) ((rd_T23 l1 t203).f2) ((rd_T23 l1 t203).f3) ((rd_T23 l1 t203).f4) ((rd_T23 l1 t203).f5) ((rd_T23 l1 t203).f6) ((rd_T23 l1 t203).f7) ((rd_T23 l1 t203).f8)).bind fun bt213 => (if bt213.2 = 0 then (if bt213.1 < 0 then (some false) else (if bt213.1 = 0 then (if x36_1 < t203 then (some false) else (interchangelaw8_PartnerBestIsFound.l0 kj12 l1 t203 t204 l1 (l1.length : Int) (wrap64 (x36_1 + 1)) a2_0 a2_1 a2_2 a2_3 a2_4 a2_5)) else (interchangelaw8_PartnerBestIsFound.l0 kj12 l1 t203 t204 l1 (l1.length : Int) (wrap64 (x36_1 + 1)) a2_0 a2_1 a2_2 a2_3 a2_4 a2_5))) else (some false))) else (none)) else (none)) else (if t204 = true then (interchangelaw8_PartnerBestIsFound.j2 kj12 l1 t203 t204 l1 (l1.length : Int) x36_1 (x36_1 == t203) a2_0 a2_1 a2_2 a2_3 a2_4 a2_5) else (interchangelaw8_PartnerBestIsFound.j2 kj12 l1 t203 t204 l1 (l1.length : Int) x36_1 false a2_0 a2_1 a2_2 a2_3 a2_4 a2_5))) = some r := by rw [if_neg (show ¬ (false = true) by decide)] at H; exact H
                    clear H
                    have H := H1
                    clear H1
                    by_cases c22 : t210 = true
                    · subst c22
                      have H1 : (if 0 ≤ t203 then (if t203 < (l1.length : Int) then ((partner_Better.f kj12 ((rd_T23 l1 x36_1).f0) ((rd_T23 l1 x36_1).f1) ((rd_T23 l1 x36_1).f2) ((rd_T23 l1 x36_1).f3) ((rd_T23 l1 x36_1).f4) ((rd_T23 l1 x36_1).f5) ((rd_T23 l1 x36_1).f6) ((rd_T23 l1 x36_1).f7) ((rd_T23 l1 x36_1).f8) ((rd_T23 l1 t203).f0) ((rd_T23 l1 t203).f1) ((rd_T23 l1 t203).f2) ((rd_T23 l1 t203).f3) ((rd_T23 l1 t203).f4) ((rd_T23 l1 t203).f5) ((rd_T23 l1 t203).f6) ((rd_T23 l1 t203).f7) ((rd_T23 l1 t203).f8)).bind fun bt213 => (if bt213.2 = 0 then (if bt213.1 < 0 then (some false) else (if bt213.1 = 0 then (if x36_1 < t203 then (some false) else (interchangelaw8_PartnerBestIsFound.l0 kj12 l1 t203 t204 l1 (l1.length : Int) (wrap64 (x36_1 + 1)) a2_0 a2_1 a2_2 a2_3 a2_4 a2_5)) else (interchangelaw8_PartnerBestIsFound.l0 kj12 l1 t203 t204 l1 (l1.length : Int) (wrap64 (x36_1 + 1)) a2_0 a2_1 a2_2 a2_3 a2_4 a2_5))) else (some false))) else (none)) else (none)) = some r := by rw [if_pos rfl] at H; exact H
                      clear H
                      have H := H1
                      clear H1
                      by_cases c23 : 0 ≤ t203
                      · rw [if_pos c23] at H
                        have c23b0 : decide (0 ≤ t203) = true := decide_eq_true c23
                        clear c23
                        by_cases c24 : t203 < (l1.length : Int)
                        · rw [if_pos c24] at H
                          have c24b0 : decide (t203 < (l1.length : Int)) = true := decide_eq_true c24
                          clear c24
                          replace H := Option.bind_eq_some_iff.mp H
                          obtain ⟨⟨t213, t214⟩, A250, H⟩ := H
                          replace H : (if t214 = 0 then (if t213 < 0 then (some false) else (if t213 = 0 then (if x36_1 < t203 then (some false) else (interchangelaw8_PartnerBestIsFound.l0 kj12 l1 t203 t204 l1 (l1.length : Int) (wrap64 (x36_1 + 1)) a2_0 a2_1 a2_2 a2_3 a2_4 a2_5)) else (interchangelaw8_PartnerBestIsFound.l0 kj12 l1 t203 t204 l1 (l1.length : Int) (wrap64 (x36_1 + 1)) a2_0 a2_1 a2_2 a2_3 a2_4 a2_5))) else (some false)) = some r := H
                          have A25 := Aside0.mk A250
                          clear A250
                          by_cases c26 : t214 = 0
                          · rw [if_pos c26] at H
                            have c26b0 : (t214 == 0) = true := beq_iff_eq.mpr c26
                            have c26b1 : (t214 != 0) = false := bne_eq_false_iff_eq.mpr c26
                            clear c26
                            by_cases c27 : t213 < 0
                            · rw [if_pos c27] at H
                              have c27b0 : decide (t213 < 0) = true := decide_eq_true c27
                              clear c27
                              obtain rfl := Option.some.inj H
                              try go_wp2
                              have n0_ := Aside0.mk (blk_drew BK202.out)
                              have n1_ := Aside0.mk (blk_drew BK209.out)
                              have n2_ := Aside0.mk (below_drew1 HB.out)
                              clear BK202
                              clear BK209
                              clear HB
                              have BK202 := n0_
                              have BK209 := n1_
                              have HB := n2_
                              clear n0_ n1_ n2_
                              have p212 : 0 ≤ (t203 : Int) := of_decide_eq_true (by first | (with_reducible assumption) | assumption)
                              have q212 : t203 < (l1.length : Int) := of_decide_eq_true (by first | (with_reducible assumption) | assumption)
                              obtain ⟨ad212, e212, hx212_0, hx212_1, hx212_2, hx212_3, hx212_4, hx212_5, hx212_6, hx212_7, hx212_8⟩ := at_T23 HR1.out t203 p212 q212
                              have hw212_8 := hx212_8
                              have hw212_7 := hx212_7
                              have hw212_6 := hx212_6
                              have hw212_5 := hx212_5
                              have hw212_4 := hx212_4
                              have hw212_3 := hx212_3
                              have hw212_2 := hx212_2
                              have hw212_1 := hx212_1
                              have hw212_0 := hx212_0
                              obtain rfl : ad208 = ad212 := (by injection e212)
                              replace hx212_0 := (HB.out.cell (World.block_lt_of_cell? w _ hx212_0)).trans hx212_0
                              replace hx212_1 := (HB.out.cell (World.block_lt_of_cell? w _ hx212_1)).trans hx212_1
                              replace hx212_2 := (HB.out.cell (World.block_lt_of_cell? w _ hx212_2)).trans hx212_2
                              replace hx212_3 := (HB.out.cell (World.block_lt_of_cell? w _ hx212_3)).trans hx212_3
                              replace hx212_4 := (HB.out.cell (World.block_lt_of_cell? w _ hx212_4)).trans hx212_4
                              replace hx212_5 := (HB.out.cell (World.block_lt_of_cell? w _ hx212_5)).trans hx212_5
                              replace hx212_6 := (HB.out.cell (World.block_lt_of_cell? w _ hx212_6)).trans hx212_6
                              replace hx212_7 := (HB.out.cell (World.block_lt_of_cell? w _ hx212_7)).trans hx212_7
                              replace hx212_8 := (HB.out.cell (World.block_lt_of_cell? w _ hx212_8)).trans hx212_8
                              replace p212 := eq_true p212
                              replace q212 := eq_true q212
                              refine start_ (n := 11) (S := fun w' => w'.cell? ⟨gb209, 0, none⟩ = some (.string ((rd_T23 l1 x36_1).f0)) ∧ w'.cell? ⟨gb209, 1, none⟩ = some (.string ((rd_T23 l1 x36_1).f1)) ∧ w'.cell? ⟨gb209, 2, none⟩ = some (.string ((rd_T23 l1 x36_1).f2)) ∧ w'.cell? ⟨gb209, 3, none⟩ = some (.string ((rd_T23 l1 x36_1).f3)) ∧ w'.cell? ⟨gb209, 4, none⟩ = some (.int .i64 ((rd_T23 l1 x36_1).f4)) ∧ w'.cell? ⟨gb209, 5, none⟩ = some (.int .i64 ((rd_T23 l1 x36_1).f5)) ∧ w'.cell? ⟨gb209, 6, none⟩ = some (.bool ((rd_T23 l1 x36_1).f6)) ∧ w'.cell? ⟨gb209, 7, none⟩ = some (.int .i64 ((rd_T23 l1 x36_1).f7)) ∧ w'.cell? ⟨gb209, 8, none⟩ = some (.bool ((rd_T23 l1 x36_1).f8)) ∧ w'.cell? (ad208.add ((t203).toNat * 9)) = some (.string ((rd_T23 l1 t203).f0)) ∧ w'.cell? ⟨(ad208.add ((t203).toNat * 9)).block, (ad208.add ((t203).toNat * 9)).off + 1, none⟩ = some (.string ((rd_T23 l1 t203).f1)) ∧ w'.cell? ⟨(ad208.add ((t203).toNat * 9)).block, (ad208.add ((t203).toNat * 9)).off + 2, none⟩ = some (.string ((rd_T23 l1 t203).f2)) ∧ w'.cell? ⟨(ad208.add ((t203).toNat * 9)).block, (ad208.add ((t203).toNat * 9)).off + 3, none⟩ = some (.string ((rd_T23 l1 t203).f3)) ∧ w'.cell? ⟨(ad208.add ((t203).toNat * 9)).block, (ad208.add ((t203).toNat * 9)).off + 4, none⟩ = some (.int .i64 ((rd_T23 l1 t203).f4)) ∧ w'.cell? ⟨(ad208.add ((t203).toNat * 9)).block, (ad208.add ((t203).toNat * 9)).off + 5, none⟩ = some (.int .i64 ((rd_T23 l1 t203).f5)) ∧ w'.cell? ⟨(ad208.add ((t203).toNat * 9)).block, (ad208.add ((t203).toNat * 9)).off + 6, none⟩ = some (.bool ((rd_T23 l1 t203).f6)) ∧ w'.cell? ⟨(ad208.add ((t203).toNat * 9)).block, (ad208.add ((t203).toNat * 9)).off + 7, none⟩ = some (.int .i64 ((rd_T23 l1 t203).f7)) ∧ w'.cell? ⟨(ad208.add ((t203).toNat * 9)).block, (ad208.add ((t203).toNat * 9)).off + 8, none⟩ = some (.bool ((rd_T23 l1 t203).f8))) (ds := []) #[false, false, false, false, false, false, false, false, false, false, false] (by kernel_rfl) rfl rfl ⟨(blk_cell BK209.out 0).trans rfl, (blk_cell BK209.out 1).trans rfl, (blk_cell BK209.out 2).trans rfl, (blk_cell BK209.out 3).trans rfl, (blk_cell BK209.out 4).trans rfl, (blk_cell BK209.out 5).trans rfl, (blk_cell BK209.out 6).trans rfl, (blk_cell BK209.out 7).trans rfl, (blk_cell BK209.out 8).trans rfl, ((HB.out.cell (World.block_lt_of_cell? w _ hw212_0)).trans hw212_0), ((HB.out.cell (World.block_lt_of_cell? w _ hw212_1)).trans hw212_1), ((HB.out.cell (World.block_lt_of_cell? w _ hw212_2)).trans hw212_2), ((HB.out.cell (World.block_lt_of_cell? w _ hw212_3)).trans hw212_3), ((HB.out.cell (World.block_lt_of_cell? w _ hw212_4)).trans hw212_4), ((HB.out.cell (World.block_lt_of_cell? w _ hw212_5)).trans hw212_5), ((HB.out.cell (World.block_lt_of_cell? w _ hw212_6)).trans hw212_6), ((HB.out.cell (World.block_lt_of_cell? w _ hw212_7)).trans hw212_7), ((HB.out.cell (World.block_lt_of_cell? w _ hw212_8)).trans hw212_8)⟩ (fun hHeld => ?_); refine with_tabW interchangelaw8_PartnerBestIsFound.tab13 interchangelaw8_PartnerBestIsFound.bits13 (fun HT_ HW_ => ?_)
                              generalize wc.drew = w28 at BK202 BK209 HB hx212_0 hx212_1 hx212_2 hx212_3 hx212_4 hx212_5 hx212_6 hx212_7 hx212_8 hHeld ⊢
                              refine pure_ (i := 1) (N := some 66) (v := ?_) (a' := ?_) #[false, true, false, false, false, false, false, false, false, false, false] rfl rfl (any_of HT_.out (by kernel_rfl)) (fun _ _ _ h => h) (Or.inl ⟨by rfl, ?_⟩) ?_ ?_
                              rotate_left
                              · intro w'
                                go_simp
                                with_reducible rfl
                              rotate_left
                              · simp only [Act.put, List.setIfInBounds_toArray, List.set_cons_zero, List.set_cons_succ, i64_w, i32_w]
                                rfl
                              refine pure_ (i := 2) (N := some 67) (v := ?_) (a' := ?_) #[false, true, true, false, false, false, false, false, false, false, false] rfl rfl (any_of HT_.out (by kernel_rfl)) (fun _ _ _ h => h) (Or.inl ⟨by rfl, ?_⟩) ?_ ?_
                              rotate_left
                              · intro w'
                                go_simp
                                with_reducible rfl
                              rotate_left
                              · simp only [Act.put, List.setIfInBounds_toArray, List.set_cons_zero, List.set_cons_succ, i64_w, i32_w]
                                rfl
                              refine pure_ (i := 3) (N := some 68) (v := ?_) (a' := ?_) #[false, true, true, true, false, false, false, false, false, false, false] rfl rfl (any_of HT_.out (by kernel_rfl)) (fun _ _ _ h => h) (Or.inl ⟨by rfl, ?_⟩) ?_ ?_
                              rotate_left
                              · intro w'
                                go_simp
                                with_reducible rfl
                              rotate_left
                              · simp only [Act.put, List.setIfInBounds_toArray, List.set_cons_zero, List.set_cons_succ, i64_w, i32_w]
                                rfl
                              refine take_ (i := 0) (N := some 65) (v := ?_) (a' := ?_) #[true, true, true, true, false, false, false, false, false, false, false] rfl rfl (take_ofW HT_.out HW_.out (by kernel_rfl)) (fun _ _ _ h => h) (Or.inl ⟨by rfl, ?_⟩) hHeld ?_ ?_
                              rotate_left
                              · rintro w' ⟨s0, s1, s2, s3, s4, s5, s6, s7, s8, s9, s10, s11, s12, s13, s14, s15, s16, s17⟩
                                go_simp
                                with_reducible rfl
                              rotate_left
                              · simp only [Act.put, List.setIfInBounds_toArray, List.set_cons_zero, List.set_cons_succ, i64_w, i32_w]
                                rfl
                              refine take_ (i := 4) (N := some 69) (v := ?_) (a' := ?_) #[true, true, true, true, true, false, false, false, false, false, false] rfl rfl (take_ofW HT_.out HW_.out (by kernel_rfl)) (fun _ _ _ h => h) (Or.inl ⟨by rfl, ?_⟩) hHeld ?_ ?_
                              rotate_left
                              · rintro w' ⟨s0, s1, s2, s3, s4, s5, s6, s7, s8, s9, s10, s11, s12, s13, s14, s15, s16, s17⟩
                                go_simp
                                with_reducible rfl
                              rotate_left
                              · simp only [Act.put, List.setIfInBounds_toArray, List.set_cons_zero, List.set_cons_succ, i64_w, i32_w]
                                rfl
                              refine one_ (i := 5) (N := some 70) #[true, true, true, true, true, true, false, false, false, false, false] rfl rfl (one_of HT_.out (by kernel_rfl)) (by decide) (fun K hK => ?_)
                              refine goes_ Tryd.func13 (by kernel_rfl) rfl #[.agg #[.string ((rd_T23 l1 x36_1).f0), .string ((rd_T23 l1 x36_1).f1), .string ((rd_T23 l1 x36_1).f2), .string ((rd_T23 l1 x36_1).f3), .int .i64 ((rd_T23 l1 x36_1).f4), .int .i64 ((rd_T23 l1 x36_1).f5), .bool ((rd_T23 l1 x36_1).f6), .int .i64 ((rd_T23 l1 x36_1).f7), .bool ((rd_T23 l1 x36_1).f8)], .agg #[.string ((rd_T23 l1 t203).f0), .string ((rd_T23 l1 t203).f1), .string ((rd_T23 l1 t203).f2), .string ((rd_T23 l1 t203).f3), .int .i64 ((rd_T23 l1 t203).f4), .int .i64 ((rd_T23 l1 t203).f5), .bool ((rd_T23 l1 t203).f6), .int .i64 ((rd_T23 l1 t203).f7), .bool ((rd_T23 l1 t203).f8)]] (by rfl) rfl rfl (by (try simp only [List.map_toArray, List.map_cons, List.map_nil]); first | done | rfl | (simp only [List.length_drop, List.length_take]; rfl) | (simp only [xne_empty, xeq_empty]; rfl)) ?_
                              with_reducible refine (partner_Better.calls kj12 ((rd_T23 l1 x36_1).f0) ((rd_T23 l1 x36_1).f1) ((rd_T23 l1 x36_1).f2) ((rd_T23 l1 x36_1).f3) ((rd_T23 l1 x36_1).f4) ((rd_T23 l1 x36_1).f5) ((rd_T23 l1 x36_1).f6) ((rd_T23 l1 x36_1).f7) ((rd_T23 l1 x36_1).f8) ((rd_T23 l1 t203).f0) ((rd_T23 l1 t203).f1) ((rd_T23 l1 t203).f2) ((rd_T23 l1 t203).f3) ((rd_T23 l1 t203).f4) ((rd_T23 l1 t203).f5) ((rd_T23 l1 t203).f6) ((rd_T23 l1 t203).f7) ((rd_T23 l1 t203).f8) t213 t214 _ A25.out).mono ?_
                              rintro e w29 ⟨rfl, hb⟩
                              refine ⟨_, rfl, ?_⟩
                              have n0_ := Aside0.mk (blk_below (g := gb202) (o := .cells #[.string a2_0, .string a2_1, .string a2_2, .string a2_3, .int .i64 a2_4, .bool a2_5] 37 (0, 0)) (by (with_reducible repeat (first | refine blk_drewN ?_ _ | refine blk_drew ?_ | refine blk_alloc ?_ _)); exact BK202.out) hb)
                              have n1_ := Aside0.mk (blk_below (g := gb209) (o := .cells #[.string ((rd_T23 l1 x36_1).f0), .string ((rd_T23 l1 x36_1).f1), .string ((rd_T23 l1 x36_1).f2), .string ((rd_T23 l1 x36_1).f3), .int .i64 ((rd_T23 l1 x36_1).f4), .int .i64 ((rd_T23 l1 x36_1).f5), .bool ((rd_T23 l1 x36_1).f6), .int .i64 ((rd_T23 l1 x36_1).f7), .bool ((rd_T23 l1 x36_1).f8)] 23 (0, 0)) (by (with_reducible repeat (first | refine blk_drewN ?_ _ | refine blk_drew ?_ | refine blk_alloc ?_ _)); exact BK209.out) hb)
                              have n2_ := Aside0.mk (below_step (by repeat (first | (with_reducible first | exact HB.out | apply below_alloc | apply pw_below_drewN | apply below_drew1 | refine below_set ?_ GE202.out | refine below_set ?_ GE209.out) | exact HB.out)) hb)
                              clear BK202
                              clear BK209
                              clear HB
                              have BK202 := n0_
                              have BK209 := n1_
                              have HB := n2_
                              clear n0_ n1_ n2_
                              (try clear hb)
                              (try clear hb2)
                              (try clear hk)
                              (try clear hi)
                              refine hK.out _ _ ⟨(blk_cell BK209.out 0).trans rfl, (blk_cell BK209.out 1).trans rfl, (blk_cell BK209.out 2).trans rfl, (blk_cell BK209.out 3).trans rfl, (blk_cell BK209.out 4).trans rfl, (blk_cell BK209.out 5).trans rfl, (blk_cell BK209.out 6).trans rfl, (blk_cell BK209.out 7).trans rfl, (blk_cell BK209.out 8).trans rfl, ((HB.out.cell (World.block_lt_of_cell? w _ hw212_0)).trans hw212_0), ((HB.out.cell (World.block_lt_of_cell? w _ hw212_1)).trans hw212_1), ((HB.out.cell (World.block_lt_of_cell? w _ hw212_2)).trans hw212_2), ((HB.out.cell (World.block_lt_of_cell? w _ hw212_3)).trans hw212_3), ((HB.out.cell (World.block_lt_of_cell? w _ hw212_4)).trans hw212_4), ((HB.out.cell (World.block_lt_of_cell? w _ hw212_5)).trans hw212_5), ((HB.out.cell (World.block_lt_of_cell? w _ hw212_6)).trans hw212_6), ((HB.out.cell (World.block_lt_of_cell? w _ hw212_7)).trans hw212_7), ((HB.out.cell (World.block_lt_of_cell? w _ hw212_8)).trans hw212_8)⟩ (fun hHeld => ?_)
                              clear hK K
                              refine norm_ (a' := ?_) ?_ ?_
                              rotate_left
                              · show Act.put _ (some 70) _ = _
                                simp only [Act.put, List.setIfInBounds_toArray, List.set_cons_zero, List.set_cons_succ, i64_w, i32_w]
                                rfl
                              refine pure_ (i := 6) (N := some 64) (v := ?_) (a' := ?_) #[true, true, true, true, true, true, true, false, false, false, false] rfl rfl (any_of HT_.out (by kernel_rfl)) (fun _ _ _ h => h) (Or.inl ⟨by rfl, ?_⟩) ?_ ?_
                              rotate_left
                              · intro w'
                                go_simp
                                with_reducible rfl
                              rotate_left
                              · simp only [Act.put, List.setIfInBounds_toArray, List.set_cons_zero, List.set_cons_succ, i64_w, i32_w]
                                rfl
                              refine pure_ (i := 7) (N := some 71) (v := ?_) (a' := ?_) #[true, true, true, true, true, true, true, true, false, false, false] rfl rfl (any_of HT_.out (by kernel_rfl)) (fun _ _ _ h => h) (Or.inl ⟨by rfl, ?_⟩) ?_ ?_
                              rotate_left
                              · intro w'
                                go_simp
                                with_reducible rfl
                              rotate_left
                              · simp only [Act.put, List.setIfInBounds_toArray, List.set_cons_zero, List.set_cons_succ, i64_w, i32_w]
                                rfl
                              refine pure_ (i := 8) (N := some 72) (v := ?_) (a' := ?_) #[true, true, true, true, true, true, true, true, true, false, false] rfl rfl (any_of HT_.out (by kernel_rfl)) (fun _ _ _ h => h) (Or.inl ⟨by rfl, ?_⟩) ?_ ?_
                              rotate_left
                              · intro w'
                                go_simp
                                with_reducible rfl
                              rotate_left
                              · simp only [Act.put, List.setIfInBounds_toArray, List.set_cons_zero, List.set_cons_succ, i64_w, i32_w]
                                rfl
                              refine pure_ (i := 9) (N := some 14) (v := ?_) (a' := ?_) #[true, true, true, true, true, true, true, true, true, true, false] rfl rfl (any_of HT_.out (by kernel_rfl)) (fun _ _ _ h => h) (Or.inl ⟨by rfl, ?_⟩) ?_ ?_
                              rotate_left
                              · intro w'
                                go_simp
                                with_reducible rfl
                              rotate_left
                              · simp only [Act.put, List.setIfInBounds_toArray, List.set_cons_zero, List.set_cons_succ, i64_w, i32_w]
                                rfl
                              refine pure_ (i := 10) (N := some 13) (v := ?_) (a' := ?_) #[true, true, true, true, true, true, true, true, true, true, true] rfl rfl (any_of HT_.out (by kernel_rfl)) (fun _ _ _ h => h) (Or.inl ⟨by rfl, ?_⟩) ?_ ?_
                              rotate_left
                              · intro w'
                                go_simp
                                with_reducible rfl
                              rotate_left
                              · simp only [Act.put, List.setIfInBounds_toArray, List.set_cons_zero, List.set_cons_succ, i64_w, i32_w]
                                rfl
                              refine done_ (done_of HT_.out (by kernel_rfl)) ?_
                              try go_wp2
                              go_ret
                              exact ⟨by first | rfl | (simp [errW_none, errW_some] <;> rfl) | (simp [errW_none, errW_some, xne_empty, xeq_empty] <;> rfl) | (simp [*, errW_none, errW_some] <;> rfl), by repeat (first | (with_reducible first | exact HB.out | apply below_alloc | apply pw_below_drewN | apply below_drew1 | refine below_set ?_ GE202.out | refine below_set ?_ GE209.out) | exact HB.out)⟩
                            · rw [if_neg c27] at H
                              have c27b0 : decide (t213 < 0) = false := decide_eq_false c27
                              clear c27
                              by_cases c30 : t213 = 0
                              · rw [if_pos c30] at H
                                have c30b0 : (t213 == 0) = true := beq_iff_eq.mpr c30
                                have c30b1 : (t213 != 0) = false := bne_eq_false_iff_eq.mpr c30
                                clear c30
                                by_cases c31 : x36_1 < t203
                                · rw [if_pos c31] at H
                                  have c31b0 : decide (x36_1 < t203) = true := decide_eq_true c31
                                  clear c31
                                  obtain rfl := Option.some.inj H
                                  try go_wp2
                                  have n0_ := Aside0.mk (blk_drew BK202.out)
                                  have n1_ := Aside0.mk (blk_drew BK209.out)
                                  have n2_ := Aside0.mk (below_drew1 HB.out)
                                  clear BK202
                                  clear BK209
                                  clear HB
                                  have BK202 := n0_
                                  have BK209 := n1_
                                  have HB := n2_
                                  clear n0_ n1_ n2_
                                  have p212 : 0 ≤ (t203 : Int) := of_decide_eq_true (by first | (with_reducible assumption) | assumption)
                                  have q212 : t203 < (l1.length : Int) := of_decide_eq_true (by first | (with_reducible assumption) | assumption)
                                  obtain ⟨ad212, e212, hx212_0, hx212_1, hx212_2, hx212_3, hx212_4, hx212_5, hx212_6, hx212_7, hx212_8⟩ := at_T23 HR1.out t203 p212 q212
                                  have hw212_8 := hx212_8
                                  have hw212_7 := hx212_7
                                  have hw212_6 := hx212_6
                                  have hw212_5 := hx212_5
                                  have hw212_4 := hx212_4
                                  have hw212_3 := hx212_3
                                  have hw212_2 := hx212_2
                                  have hw212_1 := hx212_1
                                  have hw212_0 := hx212_0
                                  obtain rfl : ad208 = ad212 := (by injection e212)
                                  replace hx212_0 := (HB.out.cell (World.block_lt_of_cell? w _ hx212_0)).trans hx212_0
                                  replace hx212_1 := (HB.out.cell (World.block_lt_of_cell? w _ hx212_1)).trans hx212_1
                                  replace hx212_2 := (HB.out.cell (World.block_lt_of_cell? w _ hx212_2)).trans hx212_2
                                  replace hx212_3 := (HB.out.cell (World.block_lt_of_cell? w _ hx212_3)).trans hx212_3
                                  replace hx212_4 := (HB.out.cell (World.block_lt_of_cell? w _ hx212_4)).trans hx212_4
                                  replace hx212_5 := (HB.out.cell (World.block_lt_of_cell? w _ hx212_5)).trans hx212_5
                                  replace hx212_6 := (HB.out.cell (World.block_lt_of_cell? w _ hx212_6)).trans hx212_6
                                  replace hx212_7 := (HB.out.cell (World.block_lt_of_cell? w _ hx212_7)).trans hx212_7
                                  replace hx212_8 := (HB.out.cell (World.block_lt_of_cell? w _ hx212_8)).trans hx212_8
                                  replace p212 := eq_true p212
                                  replace q212 := eq_true q212
                                  refine start_ (n := 11) (S := fun w' => w'.cell? ⟨gb209, 0, none⟩ = some (.string ((rd_T23 l1 x36_1).f0)) ∧ w'.cell? ⟨gb209, 1, none⟩ = some (.string ((rd_T23 l1 x36_1).f1)) ∧ w'.cell? ⟨gb209, 2, none⟩ = some (.string ((rd_T23 l1 x36_1).f2)) ∧ w'.cell? ⟨gb209, 3, none⟩ = some (.string ((rd_T23 l1 x36_1).f3)) ∧ w'.cell? ⟨gb209, 4, none⟩ = some (.int .i64 ((rd_T23 l1 x36_1).f4)) ∧ w'.cell? ⟨gb209, 5, none⟩ = some (.int .i64 ((rd_T23 l1 x36_1).f5)) ∧ w'.cell? ⟨gb209, 6, none⟩ = some (.bool ((rd_T23 l1 x36_1).f6)) ∧ w'.cell? ⟨gb209, 7, none⟩ = some (.int .i64 ((rd_T23 l1 x36_1).f7)) ∧ w'.cell? ⟨gb209, 8, none⟩ = some (.bool ((rd_T23 l1 x36_1).f8)) ∧ w'.cell? (ad208.add ((t203).toNat * 9)) = some (.string ((rd_T23 l1 t203).f0)) ∧ w'.cell? ⟨(ad208.add ((t203).toNat * 9)).block, (ad208.add ((t203).toNat * 9)).off + 1, none⟩ = some (.string ((rd_T23 l1 t203).f1)) ∧ w'.cell? ⟨(ad208.add ((t203).toNat * 9)).block, (ad208.add ((t203).toNat * 9)).off + 2, none⟩ = some (.string ((rd_T23 l1 t203).f2)) ∧ w'.cell? ⟨(ad208.add ((t203).toNat * 9)).block, (ad208.add ((t203).toNat * 9)).off + 3, none⟩ = some (.string ((rd_T23 l1 t203).f3)) ∧ w'.cell? ⟨(ad208.add ((t203).toNat * 9)).block, (ad208.add ((t203).toNat * 9)).off + 4, none⟩ = some (.int .i64 ((rd_T23 l1 t203).f4)) ∧ w'.cell? ⟨(ad208.add ((t203).toNat * 9)).block, (ad208.add ((t203).toNat * 9)).off + 5, none⟩ = some (.int .i64 ((rd_T23 l1 t203).f5)) ∧ w'.cell? ⟨(ad208.add ((t203).toNat * 9)).block, (ad208.add ((t203).toNat * 9)).off + 6, none⟩ = some (.bool ((rd_T23 l1 t203).f6)) ∧ w'.cell? ⟨(ad208.add ((t203).toNat * 9)).block, (ad208.add ((t203).toNat * 9)).off + 7, none⟩ = some (.int .i64 ((rd_T23 l1 t203).f7)) ∧ w'.cell? ⟨(ad208.add ((t203).toNat * 9)).block, (ad208.add ((t203).toNat * 9)).off + 8, none⟩ = some (.bool ((rd_T23 l1 t203).f8))) (ds := []) #[false, false, false, false, false, false, false, false, false, false, false] (by kernel_rfl) rfl rfl ⟨(blk_cell BK209.out 0).trans rfl, (blk_cell BK209.out 1).trans rfl, (blk_cell BK209.out 2).trans rfl, (blk_cell BK209.out 3).trans rfl, (blk_cell BK209.out 4).trans rfl, (blk_cell BK209.out 5).trans rfl, (blk_cell BK209.out 6).trans rfl, (blk_cell BK209.out 7).trans rfl, (blk_cell BK209.out 8).trans rfl, ((HB.out.cell (World.block_lt_of_cell? w _ hw212_0)).trans hw212_0), ((HB.out.cell (World.block_lt_of_cell? w _ hw212_1)).trans hw212_1), ((HB.out.cell (World.block_lt_of_cell? w _ hw212_2)).trans hw212_2), ((HB.out.cell (World.block_lt_of_cell? w _ hw212_3)).trans hw212_3), ((HB.out.cell (World.block_lt_of_cell? w _ hw212_4)).trans hw212_4), ((HB.out.cell (World.block_lt_of_cell? w _ hw212_5)).trans hw212_5), ((HB.out.cell (World.block_lt_of_cell? w _ hw212_6)).trans hw212_6), ((HB.out.cell (World.block_lt_of_cell? w _ hw212_7)).trans hw212_7), ((HB.out.cell (World.block_lt_of_cell? w _ hw212_8)).trans hw212_8)⟩ (fun hHeld => ?_); refine with_tabW interchangelaw8_PartnerBestIsFound.tab13 interchangelaw8_PartnerBestIsFound.bits13 (fun HT_ HW_ => ?_)
                                  generalize wc.drew = w32 at BK202 BK209 HB hx212_0 hx212_1 hx212_2 hx212_3 hx212_4 hx212_5 hx212_6 hx212_7 hx212_8 hHeld ⊢
                                  refine pure_ (i := 1) (N := some 66) (v := ?_) (a' := ?_) #[false, true, false, false, false, false, false, false, false, false, false] rfl rfl (any_of HT_.out (by kernel_rfl)) (fun _ _ _ h => h) (Or.inl ⟨by rfl, ?_⟩) ?_ ?_
                                  rotate_left
                                  · intro w'
                                    go_simp
                                    with_reducible rfl
                                  rotate_left
                                  · simp only [Act.put, List.setIfInBounds_toArray, List.set_cons_zero, List.set_cons_succ, i64_w, i32_w]
                                    rfl
                                  refine pure_ (i := 2) (N := some 67) (v := ?_) (a' := ?_) #[false, true, true, false, false, false, false, false, false, false, false] rfl rfl (any_of HT_.out (by kernel_rfl)) (fun _ _ _ h => h) (Or.inl ⟨by rfl, ?_⟩) ?_ ?_
                                  rotate_left
                                  · intro w'
                                    go_simp
                                    with_reducible rfl
                                  rotate_left
                                  · simp only [Act.put, List.setIfInBounds_toArray, List.set_cons_zero, List.set_cons_succ, i64_w, i32_w]
                                    rfl
                                  refine pure_ (i := 3) (N := some 68) (v := ?_) (a' := ?_) #[false, true, true, true, false, false, false, false, false, false, false] rfl rfl (any_of HT_.out (by kernel_rfl)) (fun _ _ _ h => h) (Or.inl ⟨by rfl, ?_⟩) ?_ ?_
                                  rotate_left
                                  · intro w'
                                    go_simp
                                    with_reducible rfl
                                  rotate_left
                                  · simp only [Act.put, List.setIfInBounds_toArray, List.set_cons_zero, List.set_cons_succ, i64_w, i32_w]
                                    rfl
                                  refine take_ (i := 0) (N := some 65) (v := ?_) (a' := ?_) #[true, true, true, true, false, false, false, false, false, false, false] rfl rfl (take_ofW HT_.out HW_.out (by kernel_rfl)) (fun _ _ _ h => h) (Or.inl ⟨by rfl, ?_⟩) hHeld ?_ ?_
                                  rotate_left
                                  · rintro w' ⟨s0, s1, s2, s3, s4, s5, s6, s7, s8, s9, s10, s11, s12, s13, s14, s15, s16, s17⟩
                                    go_simp
                                    with_reducible rfl
                                  rotate_left
                                  · simp only [Act.put, List.setIfInBounds_toArray, List.set_cons_zero, List.set_cons_succ, i64_w, i32_w]
                                    rfl
                                  refine take_ (i := 4) (N := some 69) (v := ?_) (a' := ?_) #[true, true, true, true, true, false, false, false, false, false, false] rfl rfl (take_ofW HT_.out HW_.out (by kernel_rfl)) (fun _ _ _ h => h) (Or.inl ⟨by rfl, ?_⟩) hHeld ?_ ?_
                                  rotate_left
                                  · rintro w' ⟨s0, s1, s2, s3, s4, s5, s6, s7, s8, s9, s10, s11, s12, s13, s14, s15, s16, s17⟩
                                    go_simp
                                    with_reducible rfl
                                  rotate_left
                                  · simp only [Act.put, List.setIfInBounds_toArray, List.set_cons_zero, List.set_cons_succ, i64_w, i32_w]
                                    rfl
                                  refine one_ (i := 5) (N := some 70) #[true, true, true, true, true, true, false, false, false, false, false] rfl rfl (one_of HT_.out (by kernel_rfl)) (by decide) (fun K hK => ?_)
                                  refine goes_ Tryd.func13 (by kernel_rfl) rfl #[.agg #[.string ((rd_T23 l1 x36_1).f0), .string ((rd_T23 l1 x36_1).f1), .string ((rd_T23 l1 x36_1).f2), .string ((rd_T23 l1 x36_1).f3), .int .i64 ((rd_T23 l1 x36_1).f4), .int .i64 ((rd_T23 l1 x36_1).f5), .bool ((rd_T23 l1 x36_1).f6), .int .i64 ((rd_T23 l1 x36_1).f7), .bool ((rd_T23 l1 x36_1).f8)], .agg #[.string ((rd_T23 l1 t203).f0), .string ((rd_T23 l1 t203).f1), .string ((rd_T23 l1 t203).f2), .string ((rd_T23 l1 t203).f3), .int .i64 ((rd_T23 l1 t203).f4), .int .i64 ((rd_T23 l1 t203).f5), .bool ((rd_T23 l1 t203).f6), .int .i64 ((rd_T23 l1 t203).f7), .bool ((rd_T23 l1 t203).f8)]] (by rfl) rfl rfl (by (try simp only [List.map_toArray, List.map_cons, List.map_nil]); first | done | rfl | (simp only [List.length_drop, List.length_take]; rfl) | (simp only [xne_empty, xeq_empty]; rfl)) ?_
                                  with_reducible refine (partner_Better.calls kj12 ((rd_T23 l1 x36_1).f0) ((rd_T23 l1 x36_1).f1) ((rd_T23 l1 x36_1).f2) ((rd_T23 l1 x36_1).f3) ((rd_T23 l1 x36_1).f4) ((rd_T23 l1 x36_1).f5) ((rd_T23 l1 x36_1).f6) ((rd_T23 l1 x36_1).f7) ((rd_T23 l1 x36_1).f8) ((rd_T23 l1 t203).f0) ((rd_T23 l1 t203).f1) ((rd_T23 l1 t203).f2) ((rd_T23 l1 t203).f3) ((rd_T23 l1 t203).f4) ((rd_T23 l1 t203).f5) ((rd_T23 l1 t203).f6) ((rd_T23 l1 t203).f7) ((rd_T23 l1 t203).f8) t213 t214 _ A25.out).mono ?_
                                  rintro e w33 ⟨rfl, hb⟩
                                  refine ⟨_, rfl, ?_⟩
                                  have n0_ := Aside0.mk (blk_below (g := gb202) (o := .cells #[.string a2_0, .string a2_1, .string a2_2, .string a2_3, .int .i64 a2_4, .bool a2_5] 37 (0, 0)) (by (with_reducible repeat (first | refine blk_drewN ?_ _ | refine blk_drew ?_ | refine blk_alloc ?_ _)); exact BK202.out) hb)
                                  have n1_ := Aside0.mk (blk_below (g := gb209) (o := .cells #[.string ((rd_T23 l1 x36_1).f0), .string ((rd_T23 l1 x36_1).f1), .string ((rd_T23 l1 x36_1).f2), .string ((rd_T23 l1 x36_1).f3), .int .i64 ((rd_T23 l1 x36_1).f4), .int .i64 ((rd_T23 l1 x36_1).f5), .bool ((rd_T23 l1 x36_1).f6), .int .i64 ((rd_T23 l1 x36_1).f7), .bool ((rd_T23 l1 x36_1).f8)] 23 (0, 0)) (by (with_reducible repeat (first | refine blk_drewN ?_ _ | refine blk_drew ?_ | refine blk_alloc ?_ _)); exact BK209.out) hb)
                                  have n2_ := Aside0.mk (below_step (by repeat (first | (with_reducible first | exact HB.out | apply below_alloc | apply pw_below_drewN | apply below_drew1 | refine below_set ?_ GE202.out | refine below_set ?_ GE209.out) | exact HB.out)) hb)
                                  clear BK202
                                  clear BK209
                                  clear HB
                                  have BK202 := n0_
                                  have BK209 := n1_
                                  have HB := n2_
                                  clear n0_ n1_ n2_
                                  (try clear hb)
                                  (try clear hb2)
                                  (try clear hk)
                                  (try clear hi)
                                  refine hK.out _ _ ⟨(blk_cell BK209.out 0).trans rfl, (blk_cell BK209.out 1).trans rfl, (blk_cell BK209.out 2).trans rfl, (blk_cell BK209.out 3).trans rfl, (blk_cell BK209.out 4).trans rfl, (blk_cell BK209.out 5).trans rfl, (blk_cell BK209.out 6).trans rfl, (blk_cell BK209.out 7).trans rfl, (blk_cell BK209.out 8).trans rfl, ((HB.out.cell (World.block_lt_of_cell? w _ hw212_0)).trans hw212_0), ((HB.out.cell (World.block_lt_of_cell? w _ hw212_1)).trans hw212_1), ((HB.out.cell (World.block_lt_of_cell? w _ hw212_2)).trans hw212_2), ((HB.out.cell (World.block_lt_of_cell? w _ hw212_3)).trans hw212_3), ((HB.out.cell (World.block_lt_of_cell? w _ hw212_4)).trans hw212_4), ((HB.out.cell (World.block_lt_of_cell? w _ hw212_5)).trans hw212_5), ((HB.out.cell (World.block_lt_of_cell? w _ hw212_6)).trans hw212_6), ((HB.out.cell (World.block_lt_of_cell? w _ hw212_7)).trans hw212_7), ((HB.out.cell (World.block_lt_of_cell? w _ hw212_8)).trans hw212_8)⟩ (fun hHeld => ?_)
                                  clear hK K
                                  refine norm_ (a' := ?_) ?_ ?_
                                  rotate_left
                                  · show Act.put _ (some 70) _ = _
                                    simp only [Act.put, List.setIfInBounds_toArray, List.set_cons_zero, List.set_cons_succ, i64_w, i32_w]
                                    rfl
                                  refine pure_ (i := 6) (N := some 64) (v := ?_) (a' := ?_) #[true, true, true, true, true, true, true, false, false, false, false] rfl rfl (any_of HT_.out (by kernel_rfl)) (fun _ _ _ h => h) (Or.inl ⟨by rfl, ?_⟩) ?_ ?_
                                  rotate_left
                                  · intro w'
                                    go_simp
                                    with_reducible rfl
                                  rotate_left
                                  · simp only [Act.put, List.setIfInBounds_toArray, List.set_cons_zero, List.set_cons_succ, i64_w, i32_w]
                                    rfl
                                  refine pure_ (i := 7) (N := some 71) (v := ?_) (a' := ?_) #[true, true, true, true, true, true, true, true, false, false, false] rfl rfl (any_of HT_.out (by kernel_rfl)) (fun _ _ _ h => h) (Or.inl ⟨by rfl, ?_⟩) ?_ ?_
                                  rotate_left
                                  · intro w'
                                    go_simp
                                    with_reducible rfl
                                  rotate_left
                                  · simp only [Act.put, List.setIfInBounds_toArray, List.set_cons_zero, List.set_cons_succ, i64_w, i32_w]
                                    rfl
                                  refine pure_ (i := 8) (N := some 72) (v := ?_) (a' := ?_) #[true, true, true, true, true, true, true, true, true, false, false] rfl rfl (any_of HT_.out (by kernel_rfl)) (fun _ _ _ h => h) (Or.inl ⟨by rfl, ?_⟩) ?_ ?_
                                  rotate_left
                                  · intro w'
                                    go_simp
                                    with_reducible rfl
                                  rotate_left
                                  · simp only [Act.put, List.setIfInBounds_toArray, List.set_cons_zero, List.set_cons_succ, i64_w, i32_w]
                                    rfl
                                  refine pure_ (i := 9) (N := some 14) (v := ?_) (a' := ?_) #[true, true, true, true, true, true, true, true, true, true, false] rfl rfl (any_of HT_.out (by kernel_rfl)) (fun _ _ _ h => h) (Or.inl ⟨by rfl, ?_⟩) ?_ ?_
                                  rotate_left
                                  · intro w'
                                    go_simp
                                    with_reducible rfl
                                  rotate_left
                                  · simp only [Act.put, List.setIfInBounds_toArray, List.set_cons_zero, List.set_cons_succ, i64_w, i32_w]
                                    rfl
                                  refine pure_ (i := 10) (N := some 13) (v := ?_) (a' := ?_) #[true, true, true, true, true, true, true, true, true, true, true] rfl rfl (any_of HT_.out (by kernel_rfl)) (fun _ _ _ h => h) (Or.inl ⟨by rfl, ?_⟩) ?_ ?_
                                  rotate_left
                                  · intro w'
                                    go_simp
                                    with_reducible rfl
                                  rotate_left
                                  · simp only [Act.put, List.setIfInBounds_toArray, List.set_cons_zero, List.set_cons_succ, i64_w, i32_w]
                                    rfl
                                  refine done_ (done_of HT_.out (by kernel_rfl)) ?_
                                  try go_wp2
                                  go_ret
                                  exact ⟨by first | rfl | (simp [errW_none, errW_some] <;> rfl) | (simp [errW_none, errW_some, xne_empty, xeq_empty] <;> rfl) | (simp [*, errW_none, errW_some] <;> rfl), by repeat (first | (with_reducible first | exact HB.out | apply below_alloc | apply pw_below_drewN | apply below_drew1 | refine below_set ?_ GE202.out | refine below_set ?_ GE209.out) | exact HB.out)⟩
                                · rw [if_neg c31] at H
                                  have c31b0 : decide (x36_1 < t203) = false := decide_eq_false c31
                                  clear c31
                                  have H' := Aside0.mk H
                                  clear H
                                  try go_wp2
                                  have n0_ := Aside0.mk (blk_drew BK202.out)
                                  have n1_ := Aside0.mk (blk_drew BK209.out)
                                  have n2_ := Aside0.mk (below_drew1 HB.out)
                                  clear BK202
                                  clear BK209
                                  clear HB
                                  have BK202 := n0_
                                  have BK209 := n1_
                                  have HB := n2_
                                  clear n0_ n1_ n2_
                                  have p212 : 0 ≤ (t203 : Int) := of_decide_eq_true (by first | (with_reducible assumption) | assumption)
                                  have q212 : t203 < (l1.length : Int) := of_decide_eq_true (by first | (with_reducible assumption) | assumption)
                                  obtain ⟨ad212, e212, hx212_0, hx212_1, hx212_2, hx212_3, hx212_4, hx212_5, hx212_6, hx212_7, hx212_8⟩ := at_T23 HR1.out t203 p212 q212
                                  have hw212_8 := hx212_8
                                  have hw212_7 := hx212_7
                                  have hw212_6 := hx212_6
                                  have hw212_5 := hx212_5
                                  have hw212_4 := hx212_4
                                  have hw212_3 := hx212_3
                                  have hw212_2 := hx212_2
                                  have hw212_1 := hx212_1
                                  have hw212_0 := hx212_0
                                  obtain rfl : ad208 = ad212 := (by injection e212)
                                  replace hx212_0 := (HB.out.cell (World.block_lt_of_cell? w _ hx212_0)).trans hx212_0
                                  replace hx212_1 := (HB.out.cell (World.block_lt_of_cell? w _ hx212_1)).trans hx212_1
                                  replace hx212_2 := (HB.out.cell (World.block_lt_of_cell? w _ hx212_2)).trans hx212_2
                                  replace hx212_3 := (HB.out.cell (World.block_lt_of_cell? w _ hx212_3)).trans hx212_3
                                  replace hx212_4 := (HB.out.cell (World.block_lt_of_cell? w _ hx212_4)).trans hx212_4
                                  replace hx212_5 := (HB.out.cell (World.block_lt_of_cell? w _ hx212_5)).trans hx212_5
                                  replace hx212_6 := (HB.out.cell (World.block_lt_of_cell? w _ hx212_6)).trans hx212_6
                                  replace hx212_7 := (HB.out.cell (World.block_lt_of_cell? w _ hx212_7)).trans hx212_7
                                  replace hx212_8 := (HB.out.cell (World.block_lt_of_cell? w _ hx212_8)).trans hx212_8
                                  replace p212 := eq_true p212
                                  replace q212 := eq_true q212
                                  refine start_ (n := 11) (S := fun w' => w'.cell? ⟨gb209, 0, none⟩ = some (.string ((rd_T23 l1 x36_1).f0)) ∧ w'.cell? ⟨gb209, 1, none⟩ = some (.string ((rd_T23 l1 x36_1).f1)) ∧ w'.cell? ⟨gb209, 2, none⟩ = some (.string ((rd_T23 l1 x36_1).f2)) ∧ w'.cell? ⟨gb209, 3, none⟩ = some (.string ((rd_T23 l1 x36_1).f3)) ∧ w'.cell? ⟨gb209, 4, none⟩ = some (.int .i64 ((rd_T23 l1 x36_1).f4)) ∧ w'.cell? ⟨gb209, 5, none⟩ = some (.int .i64 ((rd_T23 l1 x36_1).f5)) ∧ w'.cell? ⟨gb209, 6, none⟩ = some (.bool ((rd_T23 l1 x36_1).f6)) ∧ w'.cell? ⟨gb209, 7, none⟩ = some (.int .i64 ((rd_T23 l1 x36_1).f7)) ∧ w'.cell? ⟨gb209, 8, none⟩ = some (.bool ((rd_T23 l1 x36_1).f8)) ∧ w'.cell? (ad208.add ((t203).toNat * 9)) = some (.string ((rd_T23 l1 t203).f0)) ∧ w'.cell? ⟨(ad208.add ((t203).toNat * 9)).block, (ad208.add ((t203).toNat * 9)).off + 1, none⟩ = some (.string ((rd_T23 l1 t203).f1)) ∧ w'.cell? ⟨(ad208.add ((t203).toNat * 9)).block, (ad208.add ((t203).toNat * 9)).off + 2, none⟩ = some (.string ((rd_T23 l1 t203).f2)) ∧ w'.cell? ⟨(ad208.add ((t203).toNat * 9)).block, (ad208.add ((t203).toNat * 9)).off + 3, none⟩ = some (.string ((rd_T23 l1 t203).f3)) ∧ w'.cell? ⟨(ad208.add ((t203).toNat * 9)).block, (ad208.add ((t203).toNat * 9)).off + 4, none⟩ = some (.int .i64 ((rd_T23 l1 t203).f4)) ∧ w'.cell? ⟨(ad208.add ((t203).toNat * 9)).block, (ad208.add ((t203).toNat * 9)).off + 5, none⟩ = some (.int .i64 ((rd_T23 l1 t203).f5)) ∧ w'.cell? ⟨(ad208.add ((t203).toNat * 9)).block, (ad208.add ((t203).toNat * 9)).off + 6, none⟩ = some (.bool ((rd_T23 l1 t203).f6)) ∧ w'.cell? ⟨(ad208.add ((t203).toNat * 9)).block, (ad208.add ((t203).toNat * 9)).off + 7, none⟩ = some (.int .i64 ((rd_T23 l1 t203).f7)) ∧ w'.cell? ⟨(ad208.add ((t203).toNat * 9)).block, (ad208.add ((t203).toNat * 9)).off + 8, none⟩ = some (.bool ((rd_T23 l1 t203).f8))) (ds := []) #[false, false, false, false, false, false, false, false, false, false, false] (by kernel_rfl) rfl rfl ⟨(blk_cell BK209.out 0).trans rfl, (blk_cell BK209.out 1).trans rfl, (blk_cell BK209.out 2).trans rfl, (blk_cell BK209.out 3).trans rfl, (blk_cell BK209.out 4).trans rfl, (blk_cell BK209.out 5).trans rfl, (blk_cell BK209.out 6).trans rfl, (blk_cell BK209.out 7).trans rfl, (blk_cell BK209.out 8).trans rfl, ((HB.out.cell (World.block_lt_of_cell? w _ hw212_0)).trans hw212_0), ((HB.out.cell (World.block_lt_of_cell? w _ hw212_1)).trans hw212_1), ((HB.out.cell (World.block_lt_of_cell? w _ hw212_2)).trans hw212_2), ((HB.out.cell (World.block_lt_of_cell? w _ hw212_3)).trans hw212_3), ((HB.out.cell (World.block_lt_of_cell? w _ hw212_4)).trans hw212_4), ((HB.out.cell (World.block_lt_of_cell? w _ hw212_5)).trans hw212_5), ((HB.out.cell (World.block_lt_of_cell? w _ hw212_6)).trans hw212_6), ((HB.out.cell (World.block_lt_of_cell? w _ hw212_7)).trans hw212_7), ((HB.out.cell (World.block_lt_of_cell? w _ hw212_8)).trans hw212_8)⟩ (fun hHeld => ?_); refine with_tabW interchangelaw8_PartnerBestIsFound.tab13 interchangelaw8_PartnerBestIsFound.bits13 (fun HT_ HW_ => ?_)
                                  generalize wc.drew = w34 at BK202 BK209 HB hx212_0 hx212_1 hx212_2 hx212_3 hx212_4 hx212_5 hx212_6 hx212_7 hx212_8 hHeld ⊢
                                  refine pure_ (i := 1) (N := some 66) (v := ?_) (a' := ?_) #[false, true, false, false, false, false, false, false, false, false, false] rfl rfl (any_of HT_.out (by kernel_rfl)) (fun _ _ _ h => h) (Or.inl ⟨by rfl, ?_⟩) ?_ ?_
                                  rotate_left
                                  · intro w'
                                    go_simp
                                    with_reducible rfl
                                  rotate_left
                                  · simp only [Act.put, List.setIfInBounds_toArray, List.set_cons_zero, List.set_cons_succ, i64_w, i32_w]
                                    rfl
                                  refine pure_ (i := 2) (N := some 67) (v := ?_) (a' := ?_) #[false, true, true, false, false, false, false, false, false, false, false] rfl rfl (any_of HT_.out (by kernel_rfl)) (fun _ _ _ h => h) (Or.inl ⟨by rfl, ?_⟩) ?_ ?_
                                  rotate_left
                                  · intro w'
                                    go_simp
                                    with_reducible rfl
                                  rotate_left
                                  · simp only [Act.put, List.setIfInBounds_toArray, List.set_cons_zero, List.set_cons_succ, i64_w, i32_w]
                                    rfl
                                  refine pure_ (i := 3) (N := some 68) (v := ?_) (a' := ?_) #[false, true, true, true, false, false, false, false, false, false, false] rfl rfl (any_of HT_.out (by kernel_rfl)) (fun _ _ _ h => h) (Or.inl ⟨by rfl, ?_⟩) ?_ ?_
                                  rotate_left
                                  · intro w'
                                    go_simp
                                    with_reducible rfl
                                  rotate_left
                                  · simp only [Act.put, List.setIfInBounds_toArray, List.set_cons_zero, List.set_cons_succ, i64_w, i32_w]
                                    rfl
                                  refine take_ (i := 0) (N := some 65) (v := ?_) (a' := ?_) #[true, true, true, true, false, false, false, false, false, false, false] rfl rfl (take_ofW HT_.out HW_.out (by kernel_rfl)) (fun _ _ _ h => h) (Or.inl ⟨by rfl, ?_⟩) hHeld ?_ ?_
                                  rotate_left
                                  · rintro w' ⟨s0, s1, s2, s3, s4, s5, s6, s7, s8, s9, s10, s11, s12, s13, s14, s15, s16, s17⟩
                                    go_simp
                                    with_reducible rfl
                                  rotate_left
                                  · simp only [Act.put, List.setIfInBounds_toArray, List.set_cons_zero, List.set_cons_succ, i64_w, i32_w]
                                    rfl
                                  refine take_ (i := 4) (N := some 69) (v := ?_) (a' := ?_) #[true, true, true, true, true, false, false, false, false, false, false] rfl rfl (take_ofW HT_.out HW_.out (by kernel_rfl)) (fun _ _ _ h => h) (Or.inl ⟨by rfl, ?_⟩) hHeld ?_ ?_
                                  rotate_left
                                  · rintro w' ⟨s0, s1, s2, s3, s4, s5, s6, s7, s8, s9, s10, s11, s12, s13, s14, s15, s16, s17⟩
                                    go_simp
                                    with_reducible rfl
                                  rotate_left
                                  · simp only [Act.put, List.setIfInBounds_toArray, List.set_cons_zero, List.set_cons_succ, i64_w, i32_w]
                                    rfl
                                  refine one_ (i := 5) (N := some 70) #[true, true, true, true, true, true, false, false, false, false, false] rfl rfl (one_of HT_.out (by kernel_rfl)) (by decide) (fun K hK => ?_)
                                  refine goes_ Tryd.func13 (by kernel_rfl) rfl #[.agg #[.string ((rd_T23 l1 x36_1).f0), .string ((rd_T23 l1 x36_1).f1), .string ((rd_T23 l1 x36_1).f2), .string ((rd_T23 l1 x36_1).f3), .int .i64 ((rd_T23 l1 x36_1).f4), .int .i64 ((rd_T23 l1 x36_1).f5), .bool ((rd_T23 l1 x36_1).f6), .int .i64 ((rd_T23 l1 x36_1).f7), .bool ((rd_T23 l1 x36_1).f8)], .agg #[.string ((rd_T23 l1 t203).f0), .string ((rd_T23 l1 t203).f1), .string ((rd_T23 l1 t203).f2), .string ((rd_T23 l1 t203).f3), .int .i64 ((rd_T23 l1 t203).f4), .int .i64 ((rd_T23 l1 t203).f5), .bool ((rd_T23 l1 t203).f6), .int .i64 ((rd_T23 l1 t203).f7), .bool ((rd_T23 l1 t203).f8)]] (by rfl) rfl rfl (by (try simp only [List.map_toArray, List.map_cons, List.map_nil]); first | done | rfl | (simp only [List.length_drop, List.length_take]; rfl) | (simp only [xne_empty, xeq_empty]; rfl)) ?_
                                  with_reducible refine (partner_Better.calls kj12 ((rd_T23 l1 x36_1).f0) ((rd_T23 l1 x36_1).f1) ((rd_T23 l1 x36_1).f2) ((rd_T23 l1 x36_1).f3) ((rd_T23 l1 x36_1).f4) ((rd_T23 l1 x36_1).f5) ((rd_T23 l1 x36_1).f6) ((rd_T23 l1 x36_1).f7) ((rd_T23 l1 x36_1).f8) ((rd_T23 l1 t203).f0) ((rd_T23 l1 t203).f1) ((rd_T23 l1 t203).f2) ((rd_T23 l1 t203).f3) ((rd_T23 l1 t203).f4) ((rd_T23 l1 t203).f5) ((rd_T23 l1 t203).f6) ((rd_T23 l1 t203).f7) ((rd_T23 l1 t203).f8) t213 t214 _ A25.out).mono ?_
                                  rintro e w35 ⟨rfl, hb⟩
                                  refine ⟨_, rfl, ?_⟩
                                  have n0_ := Aside0.mk (blk_below (g := gb202) (o := .cells #[.string a2_0, .string a2_1, .string a2_2, .string a2_3, .int .i64 a2_4, .bool a2_5] 37 (0, 0)) (by (with_reducible repeat (first | refine blk_drewN ?_ _ | refine blk_drew ?_ | refine blk_alloc ?_ _)); exact BK202.out) hb)
                                  have n1_ := Aside0.mk (blk_below (g := gb209) (o := .cells #[.string ((rd_T23 l1 x36_1).f0), .string ((rd_T23 l1 x36_1).f1), .string ((rd_T23 l1 x36_1).f2), .string ((rd_T23 l1 x36_1).f3), .int .i64 ((rd_T23 l1 x36_1).f4), .int .i64 ((rd_T23 l1 x36_1).f5), .bool ((rd_T23 l1 x36_1).f6), .int .i64 ((rd_T23 l1 x36_1).f7), .bool ((rd_T23 l1 x36_1).f8)] 23 (0, 0)) (by (with_reducible repeat (first | refine blk_drewN ?_ _ | refine blk_drew ?_ | refine blk_alloc ?_ _)); exact BK209.out) hb)
                                  have n2_ := Aside0.mk (below_step (by repeat (first | (with_reducible first | exact HB.out | apply below_alloc | apply pw_below_drewN | apply below_drew1 | refine below_set ?_ GE202.out | refine below_set ?_ GE209.out) | exact HB.out)) hb)
                                  clear BK202
                                  clear BK209
                                  clear HB
                                  have BK202 := n0_
                                  have BK209 := n1_
                                  have HB := n2_
                                  clear n0_ n1_ n2_
                                  (try clear hb)
                                  (try clear hb2)
                                  (try clear hk)
                                  (try clear hi)
                                  refine hK.out _ _ ⟨(blk_cell BK209.out 0).trans rfl, (blk_cell BK209.out 1).trans rfl, (blk_cell BK209.out 2).trans rfl, (blk_cell BK209.out 3).trans rfl, (blk_cell BK209.out 4).trans rfl, (blk_cell BK209.out 5).trans rfl, (blk_cell BK209.out 6).trans rfl, (blk_cell BK209.out 7).trans rfl, (blk_cell BK209.out 8).trans rfl, ((HB.out.cell (World.block_lt_of_cell? w _ hw212_0)).trans hw212_0), ((HB.out.cell (World.block_lt_of_cell? w _ hw212_1)).trans hw212_1), ((HB.out.cell (World.block_lt_of_cell? w _ hw212_2)).trans hw212_2), ((HB.out.cell (World.block_lt_of_cell? w _ hw212_3)).trans hw212_3), ((HB.out.cell (World.block_lt_of_cell? w _ hw212_4)).trans hw212_4), ((HB.out.cell (World.block_lt_of_cell? w _ hw212_5)).trans hw212_5), ((HB.out.cell (World.block_lt_of_cell? w _ hw212_6)).trans hw212_6), ((HB.out.cell (World.block_lt_of_cell? w _ hw212_7)).trans hw212_7), ((HB.out.cell (World.block_lt_of_cell? w _ hw212_8)).trans hw212_8)⟩ (fun hHeld => ?_)
                                  clear hK K
                                  refine norm_ (a' := ?_) ?_ ?_
                                  rotate_left
                                  · show Act.put _ (some 70) _ = _
                                    simp only [Act.put, List.setIfInBounds_toArray, List.set_cons_zero, List.set_cons_succ, i64_w, i32_w]
                                    rfl
                                  refine pure_ (i := 6) (N := some 64) (v := ?_) (a' := ?_) #[true, true, true, true, true, true, true, false, false, false, false] rfl rfl (any_of HT_.out (by kernel_rfl)) (fun _ _ _ h => h) (Or.inl ⟨by rfl, ?_⟩) ?_ ?_
                                  rotate_left
                                  · intro w'
                                    go_simp
                                    with_reducible rfl
                                  rotate_left
                                  · simp only [Act.put, List.setIfInBounds_toArray, List.set_cons_zero, List.set_cons_succ, i64_w, i32_w]
                                    rfl
                                  refine pure_ (i := 7) (N := some 71) (v := ?_) (a' := ?_) #[true, true, true, true, true, true, true, true, false, false, false] rfl rfl (any_of HT_.out (by kernel_rfl)) (fun _ _ _ h => h) (Or.inl ⟨by rfl, ?_⟩) ?_ ?_
                                  rotate_left
                                  · intro w'
                                    go_simp
                                    with_reducible rfl
                                  rotate_left
                                  · simp only [Act.put, List.setIfInBounds_toArray, List.set_cons_zero, List.set_cons_succ, i64_w, i32_w]
                                    rfl
                                  refine pure_ (i := 8) (N := some 72) (v := ?_) (a' := ?_) #[true, true, true, true, true, true, true, true, true, false, false] rfl rfl (any_of HT_.out (by kernel_rfl)) (fun _ _ _ h => h) (Or.inl ⟨by rfl, ?_⟩) ?_ ?_
                                  rotate_left
                                  · intro w'
                                    go_simp
                                    with_reducible rfl
                                  rotate_left
                                  · simp only [Act.put, List.setIfInBounds_toArray, List.set_cons_zero, List.set_cons_succ, i64_w, i32_w]
                                    rfl
                                  refine pure_ (i := 9) (N := some 14) (v := ?_) (a' := ?_) #[true, true, true, true, true, true, true, true, true, true, false] rfl rfl (any_of HT_.out (by kernel_rfl)) (fun _ _ _ h => h) (Or.inl ⟨by rfl, ?_⟩) ?_ ?_
                                  rotate_left
                                  · intro w'
                                    go_simp
                                    with_reducible rfl
                                  rotate_left
                                  · simp only [Act.put, List.setIfInBounds_toArray, List.set_cons_zero, List.set_cons_succ, i64_w, i32_w]
                                    rfl
                                  refine pure_ (i := 10) (N := some 13) (v := ?_) (a' := ?_) #[true, true, true, true, true, true, true, true, true, true, true] rfl rfl (any_of HT_.out (by kernel_rfl)) (fun _ _ _ h => h) (Or.inl ⟨by rfl, ?_⟩) ?_ ?_
                                  rotate_left
                                  · intro w'
                                    go_simp
                                    with_reducible rfl
                                  rotate_left
                                  · simp only [Act.put, List.setIfInBounds_toArray, List.set_cons_zero, List.set_cons_succ, i64_w, i32_w]
                                    rfl
                                  refine done_ (done_of HT_.out (by kernel_rfl)) ?_
                                  try go_wp2
                                  go_roundg kj12
                                  case measure => have := HK1.out; have := HJ12.out; omega
                                  case rel => exact ⟨(wrap64 (x36_1 + 1)), (by first | rfl | (simp; done) | (simp [*]; done)), H', ⟨by have := HK1.out; have := HJ12.out; omega⟩, ⟨by (with_reducible repeat (first | refine blk_drewN ?_ _ | refine blk_drew ?_ | refine blk_alloc ?_ _)); exact BK202.out⟩, ⟨by repeat (first | (with_reducible first | exact HB.out | apply below_alloc | apply pw_below_drewN | apply below_drew1 | refine below_set ?_ GE202.out | refine below_set ?_ GE209.out) | exact HB.out)⟩⟩
                              · rw [if_neg c30] at H
                                have c30b0 : (t213 == 0) = false := beq_eq_false_iff_ne.mpr c30
                                have c30b1 : (t213 != 0) = true := bne_iff_ne.mpr c30
                                have H' := Aside0.mk H
                                clear H
                                try go_wp2
                                have n0_ := Aside0.mk (blk_drew BK202.out)
                                have n1_ := Aside0.mk (blk_drew BK209.out)
                                have n2_ := Aside0.mk (below_drew1 HB.out)
                                clear BK202
                                clear BK209
                                clear HB
                                have BK202 := n0_
                                have BK209 := n1_
                                have HB := n2_
                                clear n0_ n1_ n2_
                                have p212 : 0 ≤ (t203 : Int) := of_decide_eq_true (by first | (with_reducible assumption) | assumption)
                                have q212 : t203 < (l1.length : Int) := of_decide_eq_true (by first | (with_reducible assumption) | assumption)
                                obtain ⟨ad212, e212, hx212_0, hx212_1, hx212_2, hx212_3, hx212_4, hx212_5, hx212_6, hx212_7, hx212_8⟩ := at_T23 HR1.out t203 p212 q212
                                have hw212_8 := hx212_8
                                have hw212_7 := hx212_7
                                have hw212_6 := hx212_6
                                have hw212_5 := hx212_5
                                have hw212_4 := hx212_4
                                have hw212_3 := hx212_3
                                have hw212_2 := hx212_2
                                have hw212_1 := hx212_1
                                have hw212_0 := hx212_0
                                obtain rfl : ad208 = ad212 := (by injection e212)
                                replace hx212_0 := (HB.out.cell (World.block_lt_of_cell? w _ hx212_0)).trans hx212_0
                                replace hx212_1 := (HB.out.cell (World.block_lt_of_cell? w _ hx212_1)).trans hx212_1
                                replace hx212_2 := (HB.out.cell (World.block_lt_of_cell? w _ hx212_2)).trans hx212_2
                                replace hx212_3 := (HB.out.cell (World.block_lt_of_cell? w _ hx212_3)).trans hx212_3
                                replace hx212_4 := (HB.out.cell (World.block_lt_of_cell? w _ hx212_4)).trans hx212_4
                                replace hx212_5 := (HB.out.cell (World.block_lt_of_cell? w _ hx212_5)).trans hx212_5
                                replace hx212_6 := (HB.out.cell (World.block_lt_of_cell? w _ hx212_6)).trans hx212_6
                                replace hx212_7 := (HB.out.cell (World.block_lt_of_cell? w _ hx212_7)).trans hx212_7
                                replace hx212_8 := (HB.out.cell (World.block_lt_of_cell? w _ hx212_8)).trans hx212_8
                                replace p212 := eq_true p212
                                replace q212 := eq_true q212
                                refine start_ (n := 11) (S := fun w' => w'.cell? ⟨gb209, 0, none⟩ = some (.string ((rd_T23 l1 x36_1).f0)) ∧ w'.cell? ⟨gb209, 1, none⟩ = some (.string ((rd_T23 l1 x36_1).f1)) ∧ w'.cell? ⟨gb209, 2, none⟩ = some (.string ((rd_T23 l1 x36_1).f2)) ∧ w'.cell? ⟨gb209, 3, none⟩ = some (.string ((rd_T23 l1 x36_1).f3)) ∧ w'.cell? ⟨gb209, 4, none⟩ = some (.int .i64 ((rd_T23 l1 x36_1).f4)) ∧ w'.cell? ⟨gb209, 5, none⟩ = some (.int .i64 ((rd_T23 l1 x36_1).f5)) ∧ w'.cell? ⟨gb209, 6, none⟩ = some (.bool ((rd_T23 l1 x36_1).f6)) ∧ w'.cell? ⟨gb209, 7, none⟩ = some (.int .i64 ((rd_T23 l1 x36_1).f7)) ∧ w'.cell? ⟨gb209, 8, none⟩ = some (.bool ((rd_T23 l1 x36_1).f8)) ∧ w'.cell? (ad208.add ((t203).toNat * 9)) = some (.string ((rd_T23 l1 t203).f0)) ∧ w'.cell? ⟨(ad208.add ((t203).toNat * 9)).block, (ad208.add ((t203).toNat * 9)).off + 1, none⟩ = some (.string ((rd_T23 l1 t203).f1)) ∧ w'.cell? ⟨(ad208.add ((t203).toNat * 9)).block, (ad208.add ((t203).toNat * 9)).off + 2, none⟩ = some (.string ((rd_T23 l1 t203).f2)) ∧ w'.cell? ⟨(ad208.add ((t203).toNat * 9)).block, (ad208.add ((t203).toNat * 9)).off + 3, none⟩ = some (.string ((rd_T23 l1 t203).f3)) ∧ w'.cell? ⟨(ad208.add ((t203).toNat * 9)).block, (ad208.add ((t203).toNat * 9)).off + 4, none⟩ = some (.int .i64 ((rd_T23 l1 t203).f4)) ∧ w'.cell? ⟨(ad208.add ((t203).toNat * 9)).block, (ad208.add ((t203).toNat * 9)).off + 5, none⟩ = some (.int .i64 ((rd_T23 l1 t203).f5)) ∧ w'.cell? ⟨(ad208.add ((t203).toNat * 9)).block, (ad208.add ((t203).toNat * 9)).off + 6, none⟩ = some (.bool ((rd_T23 l1 t203).f6)) ∧ w'.cell? ⟨(ad208.add ((t203).toNat * 9)).block, (ad208.add ((t203).toNat * 9)).off + 7, none⟩ = some (.int .i64 ((rd_T23 l1 t203).f7)) ∧ w'.cell? ⟨(ad208.add ((t203).toNat * 9)).block, (ad208.add ((t203).toNat * 9)).off + 8, none⟩ = some (.bool ((rd_T23 l1 t203).f8))) (ds := []) #[false, false, false, false, false, false, false, false, false, false, false] (by kernel_rfl) rfl rfl ⟨(blk_cell BK209.out 0).trans rfl, (blk_cell BK209.out 1).trans rfl, (blk_cell BK209.out 2).trans rfl, (blk_cell BK209.out 3).trans rfl, (blk_cell BK209.out 4).trans rfl, (blk_cell BK209.out 5).trans rfl, (blk_cell BK209.out 6).trans rfl, (blk_cell BK209.out 7).trans rfl, (blk_cell BK209.out 8).trans rfl, ((HB.out.cell (World.block_lt_of_cell? w _ hw212_0)).trans hw212_0), ((HB.out.cell (World.block_lt_of_cell? w _ hw212_1)).trans hw212_1), ((HB.out.cell (World.block_lt_of_cell? w _ hw212_2)).trans hw212_2), ((HB.out.cell (World.block_lt_of_cell? w _ hw212_3)).trans hw212_3), ((HB.out.cell (World.block_lt_of_cell? w _ hw212_4)).trans hw212_4), ((HB.out.cell (World.block_lt_of_cell? w _ hw212_5)).trans hw212_5), ((HB.out.cell (World.block_lt_of_cell? w _ hw212_6)).trans hw212_6), ((HB.out.cell (World.block_lt_of_cell? w _ hw212_7)).trans hw212_7), ((HB.out.cell (World.block_lt_of_cell? w _ hw212_8)).trans hw212_8)⟩ (fun hHeld => ?_); refine with_tabW interchangelaw8_PartnerBestIsFound.tab13 interchangelaw8_PartnerBestIsFound.bits13 (fun HT_ HW_ => ?_)
                                generalize wc.drew = w36 at BK202 BK209 HB hx212_0 hx212_1 hx212_2 hx212_3 hx212_4 hx212_5 hx212_6 hx212_7 hx212_8 hHeld ⊢
                                refine pure_ (i := 1) (N := some 66) (v := ?_) (a' := ?_) #[false, true, false, false, false, false, false, false, false, false, false] rfl rfl (any_of HT_.out (by kernel_rfl)) (fun _ _ _ h => h) (Or.inl ⟨by rfl, ?_⟩) ?_ ?_
                                rotate_left
                                · intro w'
                                  go_simp
                                  with_reducible rfl
                                rotate_left
                                · simp only [Act.put, List.setIfInBounds_toArray, List.set_cons_zero, List.set_cons_succ, i64_w, i32_w]
                                  rfl
                                refine pure_ (i := 2) (N := some 67) (v := ?_) (a' := ?_) #[false, true, true, false, false, false, false, false, false, false, false] rfl rfl (any_of HT_.out (by kernel_rfl)) (fun _ _ _ h => h) (Or.inl ⟨by rfl, ?_⟩) ?_ ?_
                                rotate_left
                                · intro w'
                                  go_simp
                                  with_reducible rfl
                                rotate_left
                                · simp only [Act.put, List.setIfInBounds_toArray, List.set_cons_zero, List.set_cons_succ, i64_w, i32_w]
                                  rfl
                                refine pure_ (i := 3) (N := some 68) (v := ?_) (a' := ?_) #[false, true, true, true, false, false, false, false, false, false, false] rfl rfl (any_of HT_.out (by kernel_rfl)) (fun _ _ _ h => h) (Or.inl ⟨by rfl, ?_⟩) ?_ ?_
                                rotate_left
                                · intro w'
                                  go_simp
                                  with_reducible rfl
                                rotate_left
                                · simp only [Act.put, List.setIfInBounds_toArray, List.set_cons_zero, List.set_cons_succ, i64_w, i32_w]
                                  rfl
                                refine take_ (i := 0) (N := some 65) (v := ?_) (a' := ?_) #[true, true, true, true, false, false, false, false, false, false, false] rfl rfl (take_ofW HT_.out HW_.out (by kernel_rfl)) (fun _ _ _ h => h) (Or.inl ⟨by rfl, ?_⟩) hHeld ?_ ?_
                                rotate_left
                                · rintro w' ⟨s0, s1, s2, s3, s4, s5, s6, s7, s8, s9, s10, s11, s12, s13, s14, s15, s16, s17⟩
                                  go_simp
                                  with_reducible rfl
                                rotate_left
                                · simp only [Act.put, List.setIfInBounds_toArray, List.set_cons_zero, List.set_cons_succ, i64_w, i32_w]
                                  rfl
                                refine take_ (i := 4) (N := some 69) (v := ?_) (a' := ?_) #[true, true, true, true, true, false, false, false, false, false, false] rfl rfl (take_ofW HT_.out HW_.out (by kernel_rfl)) (fun _ _ _ h => h) (Or.inl ⟨by rfl, ?_⟩) hHeld ?_ ?_
                                rotate_left
                                · rintro w' ⟨s0, s1, s2, s3, s4, s5, s6, s7, s8, s9, s10, s11, s12, s13, s14, s15, s16, s17⟩
                                  go_simp
                                  with_reducible rfl
                                rotate_left
                                · simp only [Act.put, List.setIfInBounds_toArray, List.set_cons_zero, List.set_cons_succ, i64_w, i32_w]
                                  rfl
                                refine one_ (i := 5) (N := some 70) #[true, true, true, true, true, true, false, false, false, false, false] rfl rfl (one_of HT_.out (by kernel_rfl)) (by decide) (fun K hK => ?_)
                                refine goes_ Tryd.func13 (by kernel_rfl) rfl #[.agg #[.string ((rd_T23 l1 x36_1).f0), .string ((rd_T23 l1 x36_1).f1), .string ((rd_T23 l1 x36_1).f2), .string ((rd_T23 l1 x36_1).f3), .int .i64 ((rd_T23 l1 x36_1).f4), .int .i64 ((rd_T23 l1 x36_1).f5), .bool ((rd_T23 l1 x36_1).f6), .int .i64 ((rd_T23 l1 x36_1).f7), .bool ((rd_T23 l1 x36_1).f8)], .agg #[.string ((rd_T23 l1 t203).f0), .string ((rd_T23 l1 t203).f1), .string ((rd_T23 l1 t203).f2), .string ((rd_T23 l1 t203).f3), .int .i64 ((rd_T23 l1 t203).f4), .int .i64 ((rd_T23 l1 t203).f5), .bool ((rd_T23 l1 t203).f6), .int .i64 ((rd_T23 l1 t203).f7), .bool ((rd_T23 l1 t203).f8)]] (by rfl) rfl rfl (by (try simp only [List.map_toArray, List.map_cons, List.map_nil]); first | done | rfl | (simp only [List.length_drop, List.length_take]; rfl) | (simp only [xne_empty, xeq_empty]; rfl)) ?_
                                with_reducible refine (partner_Better.calls kj12 ((rd_T23 l1 x36_1).f0) ((rd_T23 l1 x36_1).f1) ((rd_T23 l1 x36_1).f2) ((rd_T23 l1 x36_1).f3) ((rd_T23 l1 x36_1).f4) ((rd_T23 l1 x36_1).f5) ((rd_T23 l1 x36_1).f6) ((rd_T23 l1 x36_1).f7) ((rd_T23 l1 x36_1).f8) ((rd_T23 l1 t203).f0) ((rd_T23 l1 t203).f1) ((rd_T23 l1 t203).f2) ((rd_T23 l1 t203).f3) ((rd_T23 l1 t203).f4) ((rd_T23 l1 t203).f5) ((rd_T23 l1 t203).f6) ((rd_T23 l1 t203).f7) ((rd_T23 l1 t203).f8) t213 t214 _ A25.out).mono ?_
                                rintro e w37 ⟨rfl, hb⟩
                                refine ⟨_, rfl, ?_⟩
                                have n0_ := Aside0.mk (blk_below (g := gb202) (o := .cells #[.string a2_0, .string a2_1, .string a2_2, .string a2_3, .int .i64 a2_4, .bool a2_5] 37 (0, 0)) (by (with_reducible repeat (first | refine blk_drewN ?_ _ | refine blk_drew ?_ | refine blk_alloc ?_ _)); exact BK202.out) hb)
                                have n1_ := Aside0.mk (blk_below (g := gb209) (o := .cells #[.string ((rd_T23 l1 x36_1).f0), .string ((rd_T23 l1 x36_1).f1), .string ((rd_T23 l1 x36_1).f2), .string ((rd_T23 l1 x36_1).f3), .int .i64 ((rd_T23 l1 x36_1).f4), .int .i64 ((rd_T23 l1 x36_1).f5), .bool ((rd_T23 l1 x36_1).f6), .int .i64 ((rd_T23 l1 x36_1).f7), .bool ((rd_T23 l1 x36_1).f8)] 23 (0, 0)) (by (with_reducible repeat (first | refine blk_drewN ?_ _ | refine blk_drew ?_ | refine blk_alloc ?_ _)); exact BK209.out) hb)
                                have n2_ := Aside0.mk (below_step (by repeat (first | (with_reducible first | exact HB.out | apply below_alloc | apply pw_below_drewN | apply below_drew1 | refine below_set ?_ GE202.out | refine below_set ?_ GE209.out) | exact HB.out)) hb)
                                clear BK202
                                clear BK209
                                clear HB
                                have BK202 := n0_
                                have BK209 := n1_
                                have HB := n2_
                                clear n0_ n1_ n2_
                                (try clear hb)
                                (try clear hb2)
                                (try clear hk)
                                (try clear hi)
                                refine hK.out _ _ ⟨(blk_cell BK209.out 0).trans rfl, (blk_cell BK209.out 1).trans rfl, (blk_cell BK209.out 2).trans rfl, (blk_cell BK209.out 3).trans rfl, (blk_cell BK209.out 4).trans rfl, (blk_cell BK209.out 5).trans rfl, (blk_cell BK209.out 6).trans rfl, (blk_cell BK209.out 7).trans rfl, (blk_cell BK209.out 8).trans rfl, ((HB.out.cell (World.block_lt_of_cell? w _ hw212_0)).trans hw212_0), ((HB.out.cell (World.block_lt_of_cell? w _ hw212_1)).trans hw212_1), ((HB.out.cell (World.block_lt_of_cell? w _ hw212_2)).trans hw212_2), ((HB.out.cell (World.block_lt_of_cell? w _ hw212_3)).trans hw212_3), ((HB.out.cell (World.block_lt_of_cell? w _ hw212_4)).trans hw212_4), ((HB.out.cell (World.block_lt_of_cell? w _ hw212_5)).trans hw212_5), ((HB.out.cell (World.block_lt_of_cell? w _ hw212_6)).trans hw212_6), ((HB.out.cell (World.block_lt_of_cell? w _ hw212_7)).trans hw212_7), ((HB.out.cell (World.block_lt_of_cell? w _ hw212_8)).trans hw212_8)⟩ (fun hHeld => ?_)
                                clear hK K
                                refine norm_ (a' := ?_) ?_ ?_
                                rotate_left
                                · show Act.put _ (some 70) _ = _
                                  simp only [Act.put, List.setIfInBounds_toArray, List.set_cons_zero, List.set_cons_succ, i64_w, i32_w]
                                  rfl
                                refine pure_ (i := 6) (N := some 64) (v := ?_) (a' := ?_) #[true, true, true, true, true, true, true, false, false, false, false] rfl rfl (any_of HT_.out (by kernel_rfl)) (fun _ _ _ h => h) (Or.inl ⟨by rfl, ?_⟩) ?_ ?_
                                rotate_left
                                · intro w'
                                  go_simp
                                  with_reducible rfl
                                rotate_left
                                · simp only [Act.put, List.setIfInBounds_toArray, List.set_cons_zero, List.set_cons_succ, i64_w, i32_w]
                                  rfl
                                refine pure_ (i := 7) (N := some 71) (v := ?_) (a' := ?_) #[true, true, true, true, true, true, true, true, false, false, false] rfl rfl (any_of HT_.out (by kernel_rfl)) (fun _ _ _ h => h) (Or.inl ⟨by rfl, ?_⟩) ?_ ?_
                                rotate_left
                                · intro w'
                                  go_simp
                                  with_reducible rfl
                                rotate_left
                                · simp only [Act.put, List.setIfInBounds_toArray, List.set_cons_zero, List.set_cons_succ, i64_w, i32_w]
                                  rfl
                                refine pure_ (i := 8) (N := some 72) (v := ?_) (a' := ?_) #[true, true, true, true, true, true, true, true, true, false, false] rfl rfl (any_of HT_.out (by kernel_rfl)) (fun _ _ _ h => h) (Or.inl ⟨by rfl, ?_⟩) ?_ ?_
                                rotate_left
                                · intro w'
                                  go_simp
                                  with_reducible rfl
                                rotate_left
                                · simp only [Act.put, List.setIfInBounds_toArray, List.set_cons_zero, List.set_cons_succ, i64_w, i32_w]
                                  rfl
                                refine pure_ (i := 9) (N := some 14) (v := ?_) (a' := ?_) #[true, true, true, true, true, true, true, true, true, true, false] rfl rfl (any_of HT_.out (by kernel_rfl)) (fun _ _ _ h => h) (Or.inl ⟨by rfl, ?_⟩) ?_ ?_
                                rotate_left
                                · intro w'
                                  go_simp
                                  with_reducible rfl
                                rotate_left
                                · simp only [Act.put, List.setIfInBounds_toArray, List.set_cons_zero, List.set_cons_succ, i64_w, i32_w]
                                  rfl
                                refine pure_ (i := 10) (N := some 13) (v := ?_) (a' := ?_) #[true, true, true, true, true, true, true, true, true, true, true] rfl rfl (any_of HT_.out (by kernel_rfl)) (fun _ _ _ h => h) (Or.inl ⟨by rfl, ?_⟩) ?_ ?_
                                rotate_left
                                · intro w'
                                  go_simp
                                  with_reducible rfl
                                rotate_left
                                · simp only [Act.put, List.setIfInBounds_toArray, List.set_cons_zero, List.set_cons_succ, i64_w, i32_w]
                                  rfl
                                refine done_ (done_of HT_.out (by kernel_rfl)) ?_
                                try go_wp2
                                go_roundg kj12
                                case measure => have := HK1.out; have := HJ12.out; omega
                                case rel => exact ⟨(wrap64 (x36_1 + 1)), (by first | rfl | (simp; done) | (simp [*]; done)), H', ⟨by have := HK1.out; have := HJ12.out; omega⟩, ⟨by (with_reducible repeat (first | refine blk_drewN ?_ _ | refine blk_drew ?_ | refine blk_alloc ?_ _)); exact BK202.out⟩, ⟨by repeat (first | (with_reducible first | exact HB.out | apply below_alloc | apply pw_below_drewN | apply below_drew1 | refine below_set ?_ GE202.out | refine below_set ?_ GE209.out) | exact HB.out)⟩⟩
                          · rw [if_neg c26] at H
                            have c26b0 : (t214 == 0) = false := beq_eq_false_iff_ne.mpr c26
                            have c26b1 : (t214 != 0) = true := bne_iff_ne.mpr c26
                            obtain rfl := Option.some.inj H
                            try go_wp2
                            have n0_ := Aside0.mk (blk_drew BK202.out)
                            have n1_ := Aside0.mk (blk_drew BK209.out)
                            have n2_ := Aside0.mk (below_drew1 HB.out)
                            clear BK202
                            clear BK209
                            clear HB
                            have BK202 := n0_
                            have BK209 := n1_
                            have HB := n2_
                            clear n0_ n1_ n2_
                            have p212 : 0 ≤ (t203 : Int) := of_decide_eq_true (by first | (with_reducible assumption) | assumption)
                            have q212 : t203 < (l1.length : Int) := of_decide_eq_true (by first | (with_reducible assumption) | assumption)
                            obtain ⟨ad212, e212, hx212_0, hx212_1, hx212_2, hx212_3, hx212_4, hx212_5, hx212_6, hx212_7, hx212_8⟩ := at_T23 HR1.out t203 p212 q212
                            have hw212_8 := hx212_8
                            have hw212_7 := hx212_7
                            have hw212_6 := hx212_6
                            have hw212_5 := hx212_5
                            have hw212_4 := hx212_4
                            have hw212_3 := hx212_3
                            have hw212_2 := hx212_2
                            have hw212_1 := hx212_1
                            have hw212_0 := hx212_0
                            obtain rfl : ad208 = ad212 := (by injection e212)
                            replace hx212_0 := (HB.out.cell (World.block_lt_of_cell? w _ hx212_0)).trans hx212_0
                            replace hx212_1 := (HB.out.cell (World.block_lt_of_cell? w _ hx212_1)).trans hx212_1
                            replace hx212_2 := (HB.out.cell (World.block_lt_of_cell? w _ hx212_2)).trans hx212_2
                            replace hx212_3 := (HB.out.cell (World.block_lt_of_cell? w _ hx212_3)).trans hx212_3
                            replace hx212_4 := (HB.out.cell (World.block_lt_of_cell? w _ hx212_4)).trans hx212_4
                            replace hx212_5 := (HB.out.cell (World.block_lt_of_cell? w _ hx212_5)).trans hx212_5
                            replace hx212_6 := (HB.out.cell (World.block_lt_of_cell? w _ hx212_6)).trans hx212_6
                            replace hx212_7 := (HB.out.cell (World.block_lt_of_cell? w _ hx212_7)).trans hx212_7
                            replace hx212_8 := (HB.out.cell (World.block_lt_of_cell? w _ hx212_8)).trans hx212_8
                            replace p212 := eq_true p212
                            replace q212 := eq_true q212
                            refine start_ (n := 11) (S := fun w' => w'.cell? ⟨gb209, 0, none⟩ = some (.string ((rd_T23 l1 x36_1).f0)) ∧ w'.cell? ⟨gb209, 1, none⟩ = some (.string ((rd_T23 l1 x36_1).f1)) ∧ w'.cell? ⟨gb209, 2, none⟩ = some (.string ((rd_T23 l1 x36_1).f2)) ∧ w'.cell? ⟨gb209, 3, none⟩ = some (.string ((rd_T23 l1 x36_1).f3)) ∧ w'.cell? ⟨gb209, 4, none⟩ = some (.int .i64 ((rd_T23 l1 x36_1).f4)) ∧ w'.cell? ⟨gb209, 5, none⟩ = some (.int .i64 ((rd_T23 l1 x36_1).f5)) ∧ w'.cell? ⟨gb209, 6, none⟩ = some (.bool ((rd_T23 l1 x36_1).f6)) ∧ w'.cell? ⟨gb209, 7, none⟩ = some (.int .i64 ((rd_T23 l1 x36_1).f7)) ∧ w'.cell? ⟨gb209, 8, none⟩ = some (.bool ((rd_T23 l1 x36_1).f8)) ∧ w'.cell? (ad208.add ((t203).toNat * 9)) = some (.string ((rd_T23 l1 t203).f0)) ∧ w'.cell? ⟨(ad208.add ((t203).toNat * 9)).block, (ad208.add ((t203).toNat * 9)).off + 1, none⟩ = some (.string ((rd_T23 l1 t203).f1)) ∧ w'.cell? ⟨(ad208.add ((t203).toNat * 9)).block, (ad208.add ((t203).toNat * 9)).off + 2, none⟩ = some (.string ((rd_T23 l1 t203).f2)) ∧ w'.cell? ⟨(ad208.add ((t203).toNat * 9)).block, (ad208.add ((t203).toNat * 9)).off + 3, none⟩ = some (.string ((rd_T23 l1 t203).f3)) ∧ w'.cell? ⟨(ad208.add ((t203).toNat * 9)).block, (ad208.add ((t203).toNat * 9)).off + 4, none⟩ = some (.int .i64 ((rd_T23 l1 t203).f4)) ∧ w'.cell? ⟨(ad208.add ((t203).toNat * 9)).block, (ad208.add ((t203).toNat * 9)).off + 5, none⟩ = some (.int .i64 ((rd_T23 l1 t203).f5)) ∧ w'.cell? ⟨(ad208.add ((t203).toNat * 9)).block, (ad208.add ((t203).toNat * 9)).off + 6, none⟩ = some (.bool ((rd_T23 l1 t203).f6)) ∧ w'.cell? ⟨(ad208.add ((t203).toNat * 9)).block, (ad208.add ((t203).toNat * 9)).off + 7, none⟩ = some (.int .i64 ((rd_T23 l1 t203).f7)) ∧ w'.cell? ⟨(ad208.add ((t203).toNat * 9)).block, (ad208.add ((t203).toNat * 9)).off + 8, none⟩ = some (.bool ((rd_T23 l1 t203).f8))) (ds := []) #[false, false, false, false, false, false, false, false, false, false, false] (by kernel_rfl) rfl rfl ⟨(blk_cell BK209.out 0).trans rfl, (blk_cell BK209.out 1).trans rfl, (blk_cell BK209.out 2).trans rfl, (blk_cell BK209.out 3).trans rfl, (blk_cell BK209.out 4).trans rfl, (blk_cell BK209.out 5).trans rfl, (blk_cell BK209.out 6).trans rfl, (blk_cell BK209.out 7).trans rfl, (blk_cell BK209.out 8).trans rfl, ((HB.out.cell (World.block_lt_of_cell? w _ hw212_0)).trans hw212_0), ((HB.out.cell (World.block_lt_of_cell? w _ hw212_1)).trans hw212_1), ((HB.out.cell (World.block_lt_of_cell? w _ hw212_2)).trans hw212_2), ((HB.out.cell (World.block_lt_of_cell? w _ hw212_3)).trans hw212_3), ((HB.out.cell (World.block_lt_of_cell? w _ hw212_4)).trans hw212_4), ((HB.out.cell (World.block_lt_of_cell? w _ hw212_5)).trans hw212_5), ((HB.out.cell (World.block_lt_of_cell? w _ hw212_6)).trans hw212_6), ((HB.out.cell (World.block_lt_of_cell? w _ hw212_7)).trans hw212_7), ((HB.out.cell (World.block_lt_of_cell? w _ hw212_8)).trans hw212_8)⟩ (fun hHeld => ?_); refine with_tabW interchangelaw8_PartnerBestIsFound.tab13 interchangelaw8_PartnerBestIsFound.bits13 (fun HT_ HW_ => ?_)
                            generalize wc.drew = w38 at BK202 BK209 HB hx212_0 hx212_1 hx212_2 hx212_3 hx212_4 hx212_5 hx212_6 hx212_7 hx212_8 hHeld ⊢
                            refine pure_ (i := 1) (N := some 66) (v := ?_) (a' := ?_) #[false, true, false, false, false, false, false, false, false, false, false] rfl rfl (any_of HT_.out (by kernel_rfl)) (fun _ _ _ h => h) (Or.inl ⟨by rfl, ?_⟩) ?_ ?_
                            rotate_left
                            · intro w'
                              go_simp
                              with_reducible rfl
                            rotate_left
                            · simp only [Act.put, List.setIfInBounds_toArray, List.set_cons_zero, List.set_cons_succ, i64_w, i32_w]
                              rfl
                            refine pure_ (i := 2) (N := some 67) (v := ?_) (a' := ?_) #[false, true, true, false, false, false, false, false, false, false, false] rfl rfl (any_of HT_.out (by kernel_rfl)) (fun _ _ _ h => h) (Or.inl ⟨by rfl, ?_⟩) ?_ ?_
                            rotate_left
                            · intro w'
                              go_simp
                              with_reducible rfl
                            rotate_left
                            · simp only [Act.put, List.setIfInBounds_toArray, List.set_cons_zero, List.set_cons_succ, i64_w, i32_w]
                              rfl
                            refine pure_ (i := 3) (N := some 68) (v := ?_) (a' := ?_) #[false, true, true, true, false, false, false, false, false, false, false] rfl rfl (any_of HT_.out (by kernel_rfl)) (fun _ _ _ h => h) (Or.inl ⟨by rfl, ?_⟩) ?_ ?_
                            rotate_left
                            · intro w'
                              go_simp
                              with_reducible rfl
                            rotate_left
                            · simp only [Act.put, List.setIfInBounds_toArray, List.set_cons_zero, List.set_cons_succ, i64_w, i32_w]
                              rfl
                            refine take_ (i := 0) (N := some 65) (v := ?_) (a' := ?_) #[true, true, true, true, false, false, false, false, false, false, false] rfl rfl (take_ofW HT_.out HW_.out (by kernel_rfl)) (fun _ _ _ h => h) (Or.inl ⟨by rfl, ?_⟩) hHeld ?_ ?_
                            rotate_left
                            · rintro w' ⟨s0, s1, s2, s3, s4, s5, s6, s7, s8, s9, s10, s11, s12, s13, s14, s15, s16, s17⟩
                              go_simp
                              with_reducible rfl
                            rotate_left
                            · simp only [Act.put, List.setIfInBounds_toArray, List.set_cons_zero, List.set_cons_succ, i64_w, i32_w]
                              rfl
                            refine take_ (i := 4) (N := some 69) (v := ?_) (a' := ?_) #[true, true, true, true, true, false, false, false, false, false, false] rfl rfl (take_ofW HT_.out HW_.out (by kernel_rfl)) (fun _ _ _ h => h) (Or.inl ⟨by rfl, ?_⟩) hHeld ?_ ?_
                            rotate_left
                            · rintro w' ⟨s0, s1, s2, s3, s4, s5, s6, s7, s8, s9, s10, s11, s12, s13, s14, s15, s16, s17⟩
                              go_simp
                              with_reducible rfl
                            rotate_left
                            · simp only [Act.put, List.setIfInBounds_toArray, List.set_cons_zero, List.set_cons_succ, i64_w, i32_w]
                              rfl
                            refine one_ (i := 5) (N := some 70) #[true, true, true, true, true, true, false, false, false, false, false] rfl rfl (one_of HT_.out (by kernel_rfl)) (by decide) (fun K hK => ?_)
                            refine goes_ Tryd.func13 (by kernel_rfl) rfl #[.agg #[.string ((rd_T23 l1 x36_1).f0), .string ((rd_T23 l1 x36_1).f1), .string ((rd_T23 l1 x36_1).f2), .string ((rd_T23 l1 x36_1).f3), .int .i64 ((rd_T23 l1 x36_1).f4), .int .i64 ((rd_T23 l1 x36_1).f5), .bool ((rd_T23 l1 x36_1).f6), .int .i64 ((rd_T23 l1 x36_1).f7), .bool ((rd_T23 l1 x36_1).f8)], .agg #[.string ((rd_T23 l1 t203).f0), .string ((rd_T23 l1 t203).f1), .string ((rd_T23 l1 t203).f2), .string ((rd_T23 l1 t203).f3), .int .i64 ((rd_T23 l1 t203).f4), .int .i64 ((rd_T23 l1 t203).f5), .bool ((rd_T23 l1 t203).f6), .int .i64 ((rd_T23 l1 t203).f7), .bool ((rd_T23 l1 t203).f8)]] (by rfl) rfl rfl (by (try simp only [List.map_toArray, List.map_cons, List.map_nil]); first | done | rfl | (simp only [List.length_drop, List.length_take]; rfl) | (simp only [xne_empty, xeq_empty]; rfl)) ?_
                            with_reducible refine (partner_Better.calls kj12 ((rd_T23 l1 x36_1).f0) ((rd_T23 l1 x36_1).f1) ((rd_T23 l1 x36_1).f2) ((rd_T23 l1 x36_1).f3) ((rd_T23 l1 x36_1).f4) ((rd_T23 l1 x36_1).f5) ((rd_T23 l1 x36_1).f6) ((rd_T23 l1 x36_1).f7) ((rd_T23 l1 x36_1).f8) ((rd_T23 l1 t203).f0) ((rd_T23 l1 t203).f1) ((rd_T23 l1 t203).f2) ((rd_T23 l1 t203).f3) ((rd_T23 l1 t203).f4) ((rd_T23 l1 t203).f5) ((rd_T23 l1 t203).f6) ((rd_T23 l1 t203).f7) ((rd_T23 l1 t203).f8) t213 t214 _ A25.out).mono ?_
                            rintro e w39 ⟨rfl, hb⟩
                            refine ⟨_, rfl, ?_⟩
                            have n0_ := Aside0.mk (blk_below (g := gb202) (o := .cells #[.string a2_0, .string a2_1, .string a2_2, .string a2_3, .int .i64 a2_4, .bool a2_5] 37 (0, 0)) (by (with_reducible repeat (first | refine blk_drewN ?_ _ | refine blk_drew ?_ | refine blk_alloc ?_ _)); exact BK202.out) hb)
                            have n1_ := Aside0.mk (blk_below (g := gb209) (o := .cells #[.string ((rd_T23 l1 x36_1).f0), .string ((rd_T23 l1 x36_1).f1), .string ((rd_T23 l1 x36_1).f2), .string ((rd_T23 l1 x36_1).f3), .int .i64 ((rd_T23 l1 x36_1).f4), .int .i64 ((rd_T23 l1 x36_1).f5), .bool ((rd_T23 l1 x36_1).f6), .int .i64 ((rd_T23 l1 x36_1).f7), .bool ((rd_T23 l1 x36_1).f8)] 23 (0, 0)) (by (with_reducible repeat (first | refine blk_drewN ?_ _ | refine blk_drew ?_ | refine blk_alloc ?_ _)); exact BK209.out) hb)
                            have n2_ := Aside0.mk (below_step (by repeat (first | (with_reducible first | exact HB.out | apply below_alloc | apply pw_below_drewN | apply below_drew1 | refine below_set ?_ GE202.out | refine below_set ?_ GE209.out) | exact HB.out)) hb)
                            clear BK202
                            clear BK209
                            clear HB
                            have BK202 := n0_
                            have BK209 := n1_
                            have HB := n2_
                            clear n0_ n1_ n2_
                            (try clear hb)
                            (try clear hb2)
                            (try clear hk)
                            (try clear hi)
                            refine hK.out _ _ ⟨(blk_cell BK209.out 0).trans rfl, (blk_cell BK209.out 1).trans rfl, (blk_cell BK209.out 2).trans rfl, (blk_cell BK209.out 3).trans rfl, (blk_cell BK209.out 4).trans rfl, (blk_cell BK209.out 5).trans rfl, (blk_cell BK209.out 6).trans rfl, (blk_cell BK209.out 7).trans rfl, (blk_cell BK209.out 8).trans rfl, ((HB.out.cell (World.block_lt_of_cell? w _ hw212_0)).trans hw212_0), ((HB.out.cell (World.block_lt_of_cell? w _ hw212_1)).trans hw212_1), ((HB.out.cell (World.block_lt_of_cell? w _ hw212_2)).trans hw212_2), ((HB.out.cell (World.block_lt_of_cell? w _ hw212_3)).trans hw212_3), ((HB.out.cell (World.block_lt_of_cell? w _ hw212_4)).trans hw212_4), ((HB.out.cell (World.block_lt_of_cell? w _ hw212_5)).trans hw212_5), ((HB.out.cell (World.block_lt_of_cell? w _ hw212_6)).trans hw212_6), ((HB.out.cell (World.block_lt_of_cell? w _ hw212_7)).trans hw212_7), ((HB.out.cell (World.block_lt_of_cell? w _ hw212_8)).trans hw212_8)⟩ (fun hHeld => ?_)
                            clear hK K
                            refine norm_ (a' := ?_) ?_ ?_
                            rotate_left
                            · show Act.put _ (some 70) _ = _
                              simp only [Act.put, List.setIfInBounds_toArray, List.set_cons_zero, List.set_cons_succ, i64_w, i32_w]
                              rfl
                            refine pure_ (i := 6) (N := some 64) (v := ?_) (a' := ?_) #[true, true, true, true, true, true, true, false, false, false, false] rfl rfl (any_of HT_.out (by kernel_rfl)) (fun _ _ _ h => h) (Or.inl ⟨by rfl, ?_⟩) ?_ ?_
                            rotate_left
                            · intro w'
                              go_simp
                              with_reducible rfl
                            rotate_left
                            · simp only [Act.put, List.setIfInBounds_toArray, List.set_cons_zero, List.set_cons_succ, i64_w, i32_w]
                              rfl
                            refine pure_ (i := 7) (N := some 71) (v := ?_) (a' := ?_) #[true, true, true, true, true, true, true, true, false, false, false] rfl rfl (any_of HT_.out (by kernel_rfl)) (fun _ _ _ h => h) (Or.inl ⟨by rfl, ?_⟩) ?_ ?_
                            rotate_left
                            · intro w'
                              go_simp
                              with_reducible rfl
                            rotate_left
                            · simp only [Act.put, List.setIfInBounds_toArray, List.set_cons_zero, List.set_cons_succ, i64_w, i32_w]
                              rfl
                            refine pure_ (i := 8) (N := some 72) (v := ?_) (a' := ?_) #[true, true, true, true, true, true, true, true, true, false, false] rfl rfl (any_of HT_.out (by kernel_rfl)) (fun _ _ _ h => h) (Or.inl ⟨by rfl, ?_⟩) ?_ ?_
                            rotate_left
                            · intro w'
                              go_simp
                              with_reducible rfl
                            rotate_left
                            · simp only [Act.put, List.setIfInBounds_toArray, List.set_cons_zero, List.set_cons_succ, i64_w, i32_w]
                              rfl
                            refine pure_ (i := 9) (N := some 14) (v := ?_) (a' := ?_) #[true, true, true, true, true, true, true, true, true, true, false] rfl rfl (any_of HT_.out (by kernel_rfl)) (fun _ _ _ h => h) (Or.inl ⟨by rfl, ?_⟩) ?_ ?_
                            rotate_left
                            · intro w'
                              go_simp
                              with_reducible rfl
                            rotate_left
                            · simp only [Act.put, List.setIfInBounds_toArray, List.set_cons_zero, List.set_cons_succ, i64_w, i32_w]
                              rfl
                            refine pure_ (i := 10) (N := some 13) (v := ?_) (a' := ?_) #[true, true, true, true, true, true, true, true, true, true, true] rfl rfl (any_of HT_.out (by kernel_rfl)) (fun _ _ _ h => h) (Or.inl ⟨by rfl, ?_⟩) ?_ ?_
                            rotate_left
                            · intro w'
                              go_simp
                              with_reducible rfl
                            rotate_left
                            · simp only [Act.put, List.setIfInBounds_toArray, List.set_cons_zero, List.set_cons_succ, i64_w, i32_w]
                              rfl
                            refine done_ (done_of HT_.out (by kernel_rfl)) ?_
                            try go_wp2
                            go_ret
                            exact ⟨by first | rfl | (simp [errW_none, errW_some] <;> rfl) | (simp [errW_none, errW_some, xne_empty, xeq_empty] <;> rfl) | (simp [*, errW_none, errW_some] <;> rfl), by repeat (first | (with_reducible first | exact HB.out | apply below_alloc | apply pw_below_drewN | apply below_drew1 | refine below_set ?_ GE202.out | refine below_set ?_ GE209.out) | exact HB.out)⟩
                        · rw [if_neg c24] at H
                          exact absurd H (by simp)
                      · rw [if_neg c23] at H
                        exact absurd H (by simp)
                    · replace c22 := Bool.eq_false_iff.mpr c22
                      subst c22
                      have H1 : (if t204 = true then (interchangelaw8_PartnerBestIsFound.j2 kj12 l1 t203 t204 l1 (l1.length : Int) x36_1 (x36_1 == t203) a2_0 a2_1 a2_2 a2_3 a2_4 a2_5) else (interchangelaw8_PartnerBestIsFound.j2 kj12 l1 t203 t204 l1 (l1.length : Int) x36_1 false a2_0 a2_1 a2_2 a2_3 a2_4 a2_5)) = some r := by rw [if_neg (show ¬ (false = true) by decide)] at H; exact H
                      clear H
                      have H := H1
                      clear H1
                      have HC40 := Aside0.mk H
                      clear H
                      go_upto_region 11 with (fail)
                      go_cut [63] (fun v63 wc => ∃ (kq : Nat) (x63_39 : Bool), v63 = .bool x63_39 ∧ Aside0 (interchangelaw8_PartnerBestIsFound.j2 kq l1 t203 t204 l1 (l1.length : Int) x36_1 x63_39 a2_0 a2_1 a2_2 a2_3 a2_4 a2_5 = some r) ∧ Aside0 (kq ≤ kj12) ∧ Aside0 (wc.heap[gb202]? = some (.cells #[.string a2_0, .string a2_1, .string a2_2, .string a2_3, .int .i64 a2_4, .bool a2_5] 37 (0, 0))) ∧ Aside0 (wc.heap[gb209]? = some (.cells #[.string ((rd_T23 l1 x36_1).f0), .string ((rd_T23 l1 x36_1).f1), .string ((rd_T23 l1 x36_1).f2), .string ((rd_T23 l1 x36_1).f3), .int .i64 ((rd_T23 l1 x36_1).f4), .int .i64 ((rd_T23 l1 x36_1).f5), .bool ((rd_T23 l1 x36_1).f6), .int .i64 ((rd_T23 l1 x36_1).f7), .bool ((rd_T23 l1 x36_1).f8)] 23 (0, 0))) ∧ Aside0 (Below w.heap.size w wc))
                      case first =>
                        have H := HC40.out
                        clear HC40
                        by_cases c41 : t204 = true
                        · subst c41
                          have H1 : (interchangelaw8_PartnerBestIsFound.j2 kj12 l1 t203 true l1 (l1.length : Int) x36_1 (x36_1 == t203) a2_0 a2_1 a2_2 a2_3 a2_4 a2_5) = some r := by rw [if_pos rfl] at H; exact H
                          clear H
                          have H := H1
                          clear H1
                          have H' := Aside0.mk H
                          clear H
                          go_wp2
                          go_meet
                          case rel => exact ⟨_, ((x36_1 == t203)), (by first | rfl | (simp; done) | (simp [*]; done)), H', ⟨by have := HK1.out; have := HJ12.out; first | omega | exact Nat.le_refl _⟩, ⟨by (with_reducible repeat (first | refine blk_drewN ?_ _ | refine blk_drew ?_ | refine blk_alloc ?_ _)); exact BK202.out⟩, ⟨by (with_reducible repeat (first | refine blk_drewN ?_ _ | refine blk_drew ?_ | refine blk_alloc ?_ _)); exact BK209.out⟩, ⟨by repeat (first | (with_reducible first | exact HB.out | apply below_alloc | apply pw_below_drewN | apply below_drew1 | refine below_set ?_ GE202.out | refine below_set ?_ GE209.out) | exact HB.out)⟩⟩
                        · replace c41 := Bool.eq_false_iff.mpr c41
                          subst c41
                          have H1 : (interchangelaw8_PartnerBestIsFound.j2 kj12 l1 t203 false l1 (l1.length : Int) x36_1 false a2_0 a2_1 a2_2 a2_3 a2_4 a2_5) = some r := by rw [if_neg (show ¬ (false = true) by decide)] at H; exact H
                          clear H
                          have H := H1
                          clear H1
                          have H' := Aside0.mk H
                          clear H
                          go_wp2
                          go_meet
                          case rel => exact ⟨_, (false), (by first | rfl | (simp; done) | (simp [*]; done)), H', ⟨by have := HK1.out; have := HJ12.out; first | omega | exact Nat.le_refl _⟩, ⟨by (with_reducible repeat (first | refine blk_drewN ?_ _ | refine blk_drew ?_ | refine blk_alloc ?_ _)); exact BK202.out⟩, ⟨by (with_reducible repeat (first | refine blk_drewN ?_ _ | refine blk_drew ?_ | refine blk_alloc ?_ _)); exact BK209.out⟩, ⟨by repeat (first | (with_reducible first | exact HB.out | apply below_alloc | apply pw_below_drewN | apply below_drew1 | refine below_set ?_ GE202.out | refine below_set ?_ GE209.out) | exact HB.out)⟩⟩
                      case rest =>
                        clear HC40
                        try clear c1
                        try clear c2
                        try clear p2
                        try clear q2
                        try clear hx2
                        try clear c3
                        try clear c4
                        try clear p6
                        try clear c13
                        try clear p21
                        try clear q21
                        try clear hx21
                        try clear c22
                        try clear c23
                        try clear c24
                        try clear c26
                        try clear c26b0
                        try clear c26b1
                        try clear c30
                        try clear c30b0
                        try clear c30b1
                        try clear c31
                        try clear c31b0
                        try clear c41
                        try clear hx212_0
                        try clear hx212_1
                        try clear hx212_2
                        try clear hx212_3
                        try clear hx212_4
                        try clear hx212_5
                        try clear hx212_6
                        try clear hx212_7
                        try clear hx212_8
                        try clear p212
                        try clear q212
                        obtain ⟨kq, x63_39, rfl, HA, HJ39, BK202, BK209, HB⟩ := hcut
                        cases kq with
                        | zero => exact absurd HA.out (by simp [interchangelaw8_PartnerBestIsFound.j2])
                        | succ kj39 =>
                          have H := HA.out
                          clear HA
                          simp only [interchangelaw8_PartnerBestIsFound.j2] at H
                          by_cases c42 : x63_39 = true
                          · subst c42
                            have H1 : (some false) = some r := by rw [if_pos rfl] at H; exact H
                            clear H
                            have H := H1
                            clear H1
                            obtain rfl := Option.some.inj H
                            go_wp2
                            go_ret
                            exact ⟨by first | rfl | (simp [errW_none, errW_some] <;> rfl) | (simp [errW_none, errW_some, xne_empty, xeq_empty] <;> rfl) | (simp [*, errW_none, errW_some] <;> rfl), by repeat (first | (with_reducible first | exact HB.out | apply below_alloc | apply pw_below_drewN | apply below_drew1 | refine below_set ?_ GE202.out | refine below_set ?_ GE209.out) | exact HB.out)⟩
                          · replace c42 := Bool.eq_false_iff.mpr c42
                            subst c42
                            have H1 : (interchangelaw8_PartnerBestIsFound.l0 kj39 l1 t203 t204 l1 (l1.length : Int) (wrap64 (x36_1 + 1)) a2_0 a2_1 a2_2 a2_3 a2_4 a2_5) = some r := by rw [if_neg (show ¬ (false = true) by decide)] at H; exact H
                            clear H
                            have H := H1
                            clear H1
                            have H' := Aside0.mk H
                            clear H
                            go_wp2
                            go_roundg kj39
                            case measure => have := HK1.out; have := HJ12.out; have := HJ39.out; omega
                            case rel => exact ⟨(wrap64 (x36_1 + 1)), (by first | rfl | (simp; done) | (simp [*]; done)), H', ⟨by have := HK1.out; have := HJ12.out; have := HJ39.out; omega⟩, ⟨by (with_reducible repeat (first | refine blk_drewN ?_ _ | refine blk_drew ?_ | refine blk_alloc ?_ _)); exact BK202.out⟩, ⟨by repeat (first | (with_reducible first | exact HB.out | apply below_alloc | apply pw_below_drewN | apply below_drew1 | refine below_set ?_ GE202.out | refine below_set ?_ GE209.out) | exact HB.out)⟩⟩
            · rw [if_neg c11] at H
              exact absurd H (by simp)
          · rw [if_neg c10] at H
            exact absurd H (by simp)
        · rw [if_neg c9] at H
          have c9b0 : decide (x36_1 < (l1.length : Int)) = false := decide_eq_false c9
          clear c9
          replace H := Option.bind_eq_some_iff.mp H
          obtain ⟨t207, A430, H⟩ := H
          replace H : (some t207) = some r := H
          have A43 := Aside0.mk A430
          clear A430
          obtain rfl := Option.some.inj H
          go_wp2_with (first | ((with_reducible refine gate_callee (f := 14) rfl ?_); refine goesL_ (some 89) rfl rfl Tryd.func14 (by kernel_rfl) rfl #[] rfl (by (try simp only [List.map_toArray, List.map_cons, List.map_nil]); first | done | rfl | (simp only [List.length_drop, List.length_take]; rfl) | (simp only [xne_empty, xeq_empty]; rfl)) ?_; (with_reducible refine (interchangelaw8_awake.calls  t207 _ A43.out).mono ?_); rintro e w44 ⟨rfl, hb⟩; refine ⟨_, rfl, ?_⟩; have n0_ := Aside0.mk (blk_below (g := gb202) (o := .cells #[.string a2_0, .string a2_1, .string a2_2, .string a2_3, .int .i64 a2_4, .bool a2_5] 37 (0, 0)) (by (with_reducible repeat (first | refine blk_drewN ?_ _ | refine blk_drew ?_ | refine blk_alloc ?_ _)); exact BK202.out) hb); have n1_ := Aside0.mk (below_step (by repeat (first | (with_reducible first | exact HB.out | apply below_alloc | apply pw_below_drewN | apply below_drew1 | refine below_set ?_ GE202.out) | exact HB.out)) hb); clear BK202; clear HB; have BK202 := n0_; have HB := n1_; clear n0_ n1_; (try clear hb); (try clear hb2); (try clear hk); (try clear hi)))
          go_ret
          exact ⟨by first | rfl | (simp [errW_none, errW_some] <;> rfl) | (simp [errW_none, errW_some, xne_empty, xeq_empty] <;> rfl) | (simp [*, errW_none, errW_some] <;> rfl), by repeat (first | (with_reducible first | exact HB.out | apply below_alloc | apply pw_below_drewN | apply below_drew1 | refine below_set ?_ GE202.out) | exact HB.out)⟩
  · rw [if_neg c5] at H
    have c5b0 : (t205 == 0) = false := beq_eq_false_iff_ne.mpr c5
    have c5b1 : (t205 != 0) = true := bne_iff_ne.mpr c5
    by_cases c45 : t203 = 0
    · rw [if_pos c45] at H
      have c45b0 : (t203 == 0) = true := beq_iff_eq.mpr c45
      have c45b1 : (t203 != 0) = false := bne_eq_false_iff_eq.mpr c45
      clear c45
      by_cases c46 : t204 = true
      · subst c46
        have H1 : (some false) = some r := by rw [if_pos rfl] at H; exact H
        clear H
        have H := H1
        clear H1
        obtain rfl := Option.some.inj H
        go_enter Tryd.func8, Tryd.ntmps8
        go_wp2_with (first | ((with_reducible refine gate_dst (N := 5) rfl ?_); refine box_event ?hg (N := 5) ?hd (cs := #[.string a2_0, .string a2_1, .string a2_2, .string a2_3, .int .i64 a2_4, .bool a2_5]) (t := 37) ?hr ?_; (case hd => rfl); (case hg => rfl); (case hr => first | (go_simp; done) | (go_simp; rfl)); intro gb202 hg w47 hbox hb; have n0_ := Aside0.mk (below_step (by repeat (first | (with_reducible first | exact HB.out | apply below_alloc | apply pw_below_drewN | apply below_drew1) | exact HB.out)) hb); have n1_ := Aside0.mk (hbox); have n2_ := Aside0.mk ((by rw [hg]; exact (below_size (by repeat (first | (with_reducible first | exact HB.out | apply below_alloc | apply pw_below_drewN | apply below_drew1) | exact HB.out))) : w.heap.size ≤ gb202)); have n3_ := Aside0.mk ((by rw [hg]; exact (below_size (by repeat (first | (with_reducible first | exact HB.out | apply below_alloc | apply pw_below_drewN | apply below_drew1) | exact HB.out))) : w.heap.size ≤ gb202)); clear HB; have HB := n0_; have BK202 := n1_; have GW202 := n2_; have GE202 := n3_; clear n0_ n1_ n2_ n3_; clear hb hbox hg; have hcz48_0 : w47.cell? ⟨gb202, 0, none⟩ = some (.string a2_0) := (blk_cell BK202.out 0).trans rfl; have hcz48_1 : w47.cell? ⟨gb202, 1, none⟩ = some (.string a2_1) := (blk_cell BK202.out 1).trans rfl; have hcz48_2 : w47.cell? ⟨gb202, 2, none⟩ = some (.string a2_2) := (blk_cell BK202.out 2).trans rfl; have hcz48_3 : w47.cell? ⟨gb202, 3, none⟩ = some (.string a2_3) := (blk_cell BK202.out 3).trans rfl; have hcz48_4 : w47.cell? ⟨gb202, 4, none⟩ = some (.int .i64 a2_4) := (blk_cell BK202.out 4).trans rfl; have hcz48_5 : w47.cell? ⟨gb202, 5, none⟩ = some (.bool a2_5) := (blk_cell BK202.out 5).trans rfl; have hfz48_0 := blk_frozen BK202.out 0; have hfz48_1 := blk_frozen BK202.out 1; have hfz48_2 := blk_frozen BK202.out 2; have hfz48_3 := blk_frozen BK202.out 3; have hfz48_4 := blk_frozen BK202.out 4; have hfz48_5 := blk_frozen BK202.out 5) | ((with_reducible refine gate_callee (f := 29) rfl ?_); refine goesL_ (some 19) rfl rfl Tryd.func29 (by kernel_rfl) rfl #[.slice A0 l0.length c0, .slice A1 l1.length c1, .agg #[.string a2_0, .string a2_1, .string a2_2, .string a2_3, .int .i64 a2_4, .bool a2_5]] rfl (by (try simp only [List.map_toArray, List.map_cons, List.map_nil]); first | done | rfl | (simp only [List.length_drop, List.length_take]; rfl) | (simp only [xne_empty, xeq_empty]; rfl)) ?_; (with_reducible refine (partner_Find.calls k _ _ l0 _ _ l1 a2_0 a2_1 a2_2 a2_3 a2_4 a2_5 t203 true t205 _ ?side1 ?side2 ?side3 ?side4 A4.out).mono ?_); (case side1 => repeat (first | exact (Kd.C_below HR0.out HB.out) | (with_reducible refine Kd.C_alloc ?_ _) | (with_reducible refine Kd.C_drewN ?_ _) | (with_reducible refine Kd.C_drew ?_))); (case side2 => exact HC0.out); (case side3 => repeat (first | exact (Kd.C_below HR1.out HB.out) | (with_reducible refine Kd.C_alloc ?_ _) | (with_reducible refine Kd.C_drewN ?_ _) | (with_reducible refine Kd.C_drew ?_))); (case side4 => exact HC1.out); rintro e w49 ⟨rfl, hb⟩; refine ⟨_, rfl, ?_⟩; have n0_ := Aside0.mk (blk_below (g := gb202) (o := .cells #[.string a2_0, .string a2_1, .string a2_2, .string a2_3, .int .i64 a2_4, .bool a2_5] 37 (0, 0)) (by (with_reducible repeat (first | refine blk_drewN ?_ _ | refine blk_drew ?_ | refine blk_alloc ?_ _)); exact BK202.out) hb); have n1_ := Aside0.mk (below_step (by repeat (first | (with_reducible first | exact HB.out | apply below_alloc | apply pw_below_drewN | apply below_drew1 | refine below_set ?_ GE202.out) | exact HB.out)) hb); clear BK202; clear HB; have BK202 := n0_; have HB := n1_; clear n0_ n1_; (try clear hb); (try clear hb2); (try clear hk); (try clear hi)))
        go_ret
        exact ⟨by first | rfl | (simp [errW_none, errW_some] <;> rfl) | (simp [errW_none, errW_some, xne_empty, xeq_empty] <;> rfl) | (simp [*, errW_none, errW_some] <;> rfl), by repeat (first | (with_reducible first | exact HB.out | apply below_alloc | apply pw_below_drewN | apply below_drew1 | refine below_set ?_ GE202.out) | exact HB.out)⟩
      · replace c46 := Bool.eq_false_iff.mpr c46
        subst c46
        have H1 : ((interchangelaw8_awake.f).bind fun t206 => (some t206)) = some r := by rw [if_neg (show ¬ (false = true) by decide)] at H; exact H
        clear H
        have H := H1
        clear H1
        replace H := Option.bind_eq_some_iff.mp H
        obtain ⟨t206, A500, H⟩ := H
        replace H : (some t206) = some r := H
        have A50 := Aside0.mk A500
        clear A500
        obtain rfl := Option.some.inj H
        go_enter Tryd.func8, Tryd.ntmps8
        go_wp2_with (first | ((with_reducible refine gate_dst (N := 5) rfl ?_); refine box_event ?hg (N := 5) ?hd (cs := #[.string a2_0, .string a2_1, .string a2_2, .string a2_3, .int .i64 a2_4, .bool a2_5]) (t := 37) ?hr ?_; (case hd => rfl); (case hg => rfl); (case hr => first | (go_simp; done) | (go_simp; rfl)); intro gb202 hg w51 hbox hb; have n0_ := Aside0.mk (below_step (by repeat (first | (with_reducible first | exact HB.out | apply below_alloc | apply pw_below_drewN | apply below_drew1) | exact HB.out)) hb); have n1_ := Aside0.mk (hbox); have n2_ := Aside0.mk ((by rw [hg]; exact (below_size (by repeat (first | (with_reducible first | exact HB.out | apply below_alloc | apply pw_below_drewN | apply below_drew1) | exact HB.out))) : w.heap.size ≤ gb202)); have n3_ := Aside0.mk ((by rw [hg]; exact (below_size (by repeat (first | (with_reducible first | exact HB.out | apply below_alloc | apply pw_below_drewN | apply below_drew1) | exact HB.out))) : w.heap.size ≤ gb202)); clear HB; have HB := n0_; have BK202 := n1_; have GW202 := n2_; have GE202 := n3_; clear n0_ n1_ n2_ n3_; clear hb hbox hg; have hcz52_0 : w51.cell? ⟨gb202, 0, none⟩ = some (.string a2_0) := (blk_cell BK202.out 0).trans rfl; have hcz52_1 : w51.cell? ⟨gb202, 1, none⟩ = some (.string a2_1) := (blk_cell BK202.out 1).trans rfl; have hcz52_2 : w51.cell? ⟨gb202, 2, none⟩ = some (.string a2_2) := (blk_cell BK202.out 2).trans rfl; have hcz52_3 : w51.cell? ⟨gb202, 3, none⟩ = some (.string a2_3) := (blk_cell BK202.out 3).trans rfl; have hcz52_4 : w51.cell? ⟨gb202, 4, none⟩ = some (.int .i64 a2_4) := (blk_cell BK202.out 4).trans rfl; have hcz52_5 : w51.cell? ⟨gb202, 5, none⟩ = some (.bool a2_5) := (blk_cell BK202.out 5).trans rfl; have hfz52_0 := blk_frozen BK202.out 0; have hfz52_1 := blk_frozen BK202.out 1; have hfz52_2 := blk_frozen BK202.out 2; have hfz52_3 := blk_frozen BK202.out 3; have hfz52_4 := blk_frozen BK202.out 4; have hfz52_5 := blk_frozen BK202.out 5) | ((with_reducible refine gate_callee (f := 29) rfl ?_); refine goesL_ (some 19) rfl rfl Tryd.func29 (by kernel_rfl) rfl #[.slice A0 l0.length c0, .slice A1 l1.length c1, .agg #[.string a2_0, .string a2_1, .string a2_2, .string a2_3, .int .i64 a2_4, .bool a2_5]] rfl (by (try simp only [List.map_toArray, List.map_cons, List.map_nil]); first | done | rfl | (simp only [List.length_drop, List.length_take]; rfl) | (simp only [xne_empty, xeq_empty]; rfl)) ?_; (with_reducible refine (partner_Find.calls k _ _ l0 _ _ l1 a2_0 a2_1 a2_2 a2_3 a2_4 a2_5 t203 false t205 _ ?side1 ?side2 ?side3 ?side4 A4.out).mono ?_); (case side1 => repeat (first | exact (Kd.C_below HR0.out HB.out) | (with_reducible refine Kd.C_alloc ?_ _) | (with_reducible refine Kd.C_drewN ?_ _) | (with_reducible refine Kd.C_drew ?_))); (case side2 => exact HC0.out); (case side3 => repeat (first | exact (Kd.C_below HR1.out HB.out) | (with_reducible refine Kd.C_alloc ?_ _) | (with_reducible refine Kd.C_drewN ?_ _) | (with_reducible refine Kd.C_drew ?_))); (case side4 => exact HC1.out); rintro e w53 ⟨rfl, hb⟩; refine ⟨_, rfl, ?_⟩; have n0_ := Aside0.mk (blk_below (g := gb202) (o := .cells #[.string a2_0, .string a2_1, .string a2_2, .string a2_3, .int .i64 a2_4, .bool a2_5] 37 (0, 0)) (by (with_reducible repeat (first | refine blk_drewN ?_ _ | refine blk_drew ?_ | refine blk_alloc ?_ _)); exact BK202.out) hb); have n1_ := Aside0.mk (below_step (by repeat (first | (with_reducible first | exact HB.out | apply below_alloc | apply pw_below_drewN | apply below_drew1 | refine below_set ?_ GE202.out) | exact HB.out)) hb); clear BK202; clear HB; have BK202 := n0_; have HB := n1_; clear n0_ n1_; (try clear hb); (try clear hb2); (try clear hk); (try clear hi)) | (go_at_call 14; (with_reducible refine (interchangelaw8_awake.calls  t206 _ A50.out).mono ?_); rintro e w54 ⟨rfl, hb⟩; have n0_ := Aside0.mk (blk_below (g := gb202) (o := .cells #[.string a2_0, .string a2_1, .string a2_2, .string a2_3, .int .i64 a2_4, .bool a2_5] 37 (0, 0)) (by (with_reducible repeat (first | refine blk_drewN ?_ _ | refine blk_drew ?_ | refine blk_alloc ?_ _)); exact BK202.out) hb); have n1_ := Aside0.mk (below_step (by repeat (first | (with_reducible first | exact HB.out | apply below_alloc | apply pw_below_drewN | apply below_drew1 | refine below_set ?_ GE202.out) | exact HB.out)) hb); clear BK202; clear HB; have BK202 := n0_; have HB := n1_; clear n0_ n1_; (try clear hb); (try clear hb2); (try clear hk); (try clear hi)))
        go_ret
        exact ⟨by first | rfl | (simp [errW_none, errW_some] <;> rfl) | (simp [errW_none, errW_some, xne_empty, xeq_empty] <;> rfl) | (simp [*, errW_none, errW_some] <;> rfl), by repeat (first | (with_reducible first | exact HB.out | apply below_alloc | apply pw_below_drewN | apply below_drew1 | refine below_set ?_ GE202.out) | exact HB.out)⟩
    · rw [if_neg c45] at H
      have c45b0 : (t203 == 0) = false := beq_eq_false_iff_ne.mpr c45
      have c45b1 : (t203 != 0) = true := bne_iff_ne.mpr c45
      obtain rfl := Option.some.inj H
      go_enter Tryd.func8, Tryd.ntmps8
      go_wp2_with (first | ((with_reducible refine gate_dst (N := 5) rfl ?_); refine box_event ?hg (N := 5) ?hd (cs := #[.string a2_0, .string a2_1, .string a2_2, .string a2_3, .int .i64 a2_4, .bool a2_5]) (t := 37) ?hr ?_; (case hd => rfl); (case hg => rfl); (case hr => first | (go_simp; done) | (go_simp; rfl)); intro gb202 hg w55 hbox hb; have n0_ := Aside0.mk (below_step (by repeat (first | (with_reducible first | exact HB.out | apply below_alloc | apply pw_below_drewN | apply below_drew1) | exact HB.out)) hb); have n1_ := Aside0.mk (hbox); have n2_ := Aside0.mk ((by rw [hg]; exact (below_size (by repeat (first | (with_reducible first | exact HB.out | apply below_alloc | apply pw_below_drewN | apply below_drew1) | exact HB.out))) : w.heap.size ≤ gb202)); have n3_ := Aside0.mk ((by rw [hg]; exact (below_size (by repeat (first | (with_reducible first | exact HB.out | apply below_alloc | apply pw_below_drewN | apply below_drew1) | exact HB.out))) : w.heap.size ≤ gb202)); clear HB; have HB := n0_; have BK202 := n1_; have GW202 := n2_; have GE202 := n3_; clear n0_ n1_ n2_ n3_; clear hb hbox hg; have hcz56_0 : w55.cell? ⟨gb202, 0, none⟩ = some (.string a2_0) := (blk_cell BK202.out 0).trans rfl; have hcz56_1 : w55.cell? ⟨gb202, 1, none⟩ = some (.string a2_1) := (blk_cell BK202.out 1).trans rfl; have hcz56_2 : w55.cell? ⟨gb202, 2, none⟩ = some (.string a2_2) := (blk_cell BK202.out 2).trans rfl; have hcz56_3 : w55.cell? ⟨gb202, 3, none⟩ = some (.string a2_3) := (blk_cell BK202.out 3).trans rfl; have hcz56_4 : w55.cell? ⟨gb202, 4, none⟩ = some (.int .i64 a2_4) := (blk_cell BK202.out 4).trans rfl; have hcz56_5 : w55.cell? ⟨gb202, 5, none⟩ = some (.bool a2_5) := (blk_cell BK202.out 5).trans rfl; have hfz56_0 := blk_frozen BK202.out 0; have hfz56_1 := blk_frozen BK202.out 1; have hfz56_2 := blk_frozen BK202.out 2; have hfz56_3 := blk_frozen BK202.out 3; have hfz56_4 := blk_frozen BK202.out 4; have hfz56_5 := blk_frozen BK202.out 5) | ((with_reducible refine gate_callee (f := 29) rfl ?_); refine goesL_ (some 19) rfl rfl Tryd.func29 (by kernel_rfl) rfl #[.slice A0 l0.length c0, .slice A1 l1.length c1, .agg #[.string a2_0, .string a2_1, .string a2_2, .string a2_3, .int .i64 a2_4, .bool a2_5]] rfl (by (try simp only [List.map_toArray, List.map_cons, List.map_nil]); first | done | rfl | (simp only [List.length_drop, List.length_take]; rfl) | (simp only [xne_empty, xeq_empty]; rfl)) ?_; (with_reducible refine (partner_Find.calls k _ _ l0 _ _ l1 a2_0 a2_1 a2_2 a2_3 a2_4 a2_5 t203 t204 t205 _ ?side1 ?side2 ?side3 ?side4 A4.out).mono ?_); (case side1 => repeat (first | exact (Kd.C_below HR0.out HB.out) | (with_reducible refine Kd.C_alloc ?_ _) | (with_reducible refine Kd.C_drewN ?_ _) | (with_reducible refine Kd.C_drew ?_))); (case side2 => exact HC0.out); (case side3 => repeat (first | exact (Kd.C_below HR1.out HB.out) | (with_reducible refine Kd.C_alloc ?_ _) | (with_reducible refine Kd.C_drewN ?_ _) | (with_reducible refine Kd.C_drew ?_))); (case side4 => exact HC1.out); rintro e w57 ⟨rfl, hb⟩; refine ⟨_, rfl, ?_⟩; have n0_ := Aside0.mk (blk_below (g := gb202) (o := .cells #[.string a2_0, .string a2_1, .string a2_2, .string a2_3, .int .i64 a2_4, .bool a2_5] 37 (0, 0)) (by (with_reducible repeat (first | refine blk_drewN ?_ _ | refine blk_drew ?_ | refine blk_alloc ?_ _)); exact BK202.out) hb); have n1_ := Aside0.mk (below_step (by repeat (first | (with_reducible first | exact HB.out | apply below_alloc | apply pw_below_drewN | apply below_drew1 | refine below_set ?_ GE202.out) | exact HB.out)) hb); clear BK202; clear HB; have BK202 := n0_; have HB := n1_; clear n0_ n1_; (try clear hb); (try clear hb2); (try clear hk); (try clear hi)))
      go_ret
      exact ⟨by first | rfl | (simp [errW_none, errW_some] <;> rfl) | (simp [errW_none, errW_some, xne_empty, xeq_empty] <;> rfl) | (simp [*, errW_none, errW_some] <;> rfl), by repeat (first | (with_reducible first | exact HB.out | apply below_alloc | apply pw_below_drewN | apply below_drew1 | refine below_set ?_ GE202.out) | exact HB.out)⟩

end Go.Proofs.YtdlgohhecicnoaaDoor.XPartnerBestIsFound
