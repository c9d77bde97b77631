-- Walks of PartnerNeverIsNever: written by xprint.py out of the translation (hand-proved functions among them). Lean checks it.
import Derived.Test.YtdlgohhecicnoaaDoorXPartnerNeverIsNeverx0
import Derived.Test.YtdlgohhecicnoaaDoorXPartnerNeverIsNeverx1
import Derived.Test.YtdlgohhecicnoaaDoorXPartnerNeverIsNeverx5
namespace Go.Proofs.YtdlgohhecicnoaaDoor.XPartnerNeverIsNever
open Go.RowKit Go.Proofs.YtdlgohhecicnoaaDoorW.PrintWords Go.Proofs.YtdlgohhecicnoaaDoorW.PrintLast Go.Proofs.YtdlgohhecicnoaaDoorW.PrintMore
attribute [local go_sem] max2_int min2_int max_two min_two max_three min_three max_four min_four   -- for this text's walks alone
set_option linter.unusedVariables false
set_option linter.unusedSimpArgs false

/-! ### partner_find: function 68 -/
def partner_find.l0 : Nat → List (S23) → Int → List (S23) → Int → Int → ByteArray → ByteArray → ByteArray → ByteArray → Int → Bool → Option (Int)
 | 0, _, _, _, _, _, _, _, _, _, _, _ => none
 | k + 1, x0, x5, x8, x9, x10, x180000, x180001, x180002, x180003, x180004, x180005 => if x10 < x9 then (if 0 ≤ x10 then (if x10 < (x8.length : Int) then ((partner_applies.f ((rd_T23 x8 x10).f0) ((rd_T23 x8 x10).f1) ((rd_T23 x8 x10).f2) ((rd_T23 x8 x10).f3) ((rd_T23 x8 x10).f4) ((rd_T23 x8 x10).f5) ((rd_T23 x8 x10).f6) ((rd_T23 x8 x10).f7) ((rd_T23 x8 x10).f8) x180000 x180001 x180002 x180003 x180004 x180005).bind fun t182 => (if t182 = true then (if x5 < 0 then (partner_find.l0 k x0 x10 x8 x9 (wrap64 (x10 + 1)) x180000 x180001 x180002 x180003 x180004 x180005) else (if 0 ≤ x5 then (if x5 < (x0.length : Int) then ((partner_better.f k ((rd_T23 x8 x10).f0) ((rd_T23 x8 x10).f1) ((rd_T23 x8 x10).f2) ((rd_T23 x8 x10).f3) ((rd_T23 x8 x10).f4) ((rd_T23 x8 x10).f5) ((rd_T23 x8 x10).f6) ((rd_T23 x8 x10).f7) ((rd_T23 x8 x10).f8) ((rd_T23 x0 x5).f0) ((rd_T23 x0 x5).f1) ((rd_T23 x0 x5).f2) ((rd_T23 x0 x5).f3) ((rd_T23 x0 x5).f4) ((rd_T23 x0 x5).f5) ((rd_T23 x0 x5).f6) ((rd_T23 x0 x5).f7) ((rd_T23 x0 x5).f8)).bind fun t184 => (if t184 < 0 then (partner_find.l0 k x0 x10 x8 x9 (wrap64 (x10 + 1)) x180000 x180001 x180002 x180003 x180004 x180005) else (partner_find.l0 k x0 x5 x8 x9 (wrap64 (x10 + 1)) x180000 x180001 x180002 x180003 x180004 x180005))) else (none)) else (none))) else (partner_find.l0 k x0 x5 x8 x9 (wrap64 (x10 + 1)) x180000 x180001 x180002 x180003 x180004 x180005))) else (none)) else (none)) else (some x5)
def partner_find.f (k : Nat) (l0 : List (S23)) (a1_0 : ByteArray) (a1_1 : ByteArray) (a1_2 : ByteArray) (a1_3 : ByteArray) (a1_4 : Int) (a1_5 : Bool) : Option (Int) := partner_find.l0 k l0 (-1) l0 (l0.length : Int) 0 a1_0 a1_1 a1_2 a1_3 a1_4 a1_5
theorem partner_find.mono_l : ∀ k, (∀ y0 y1 y2 y3 y4 y5 y6 y7 y8 y9 y10, LeO (partner_find.l0 k y0 y1 y2 y3 y4 y5 y6 y7 y8 y9 y10) (partner_find.l0 (k + 1) y0 y1 y2 y3 y4 y5 y6 y7 y8 y9 y10))
 | 0 => fun _ _ _ _ _ _ _ _ _ _ _ r h => by simp [partner_find.l0] at h
 | k + 1 => by
  have ih0 := partner_find.mono_l k
  ·intro y0 y1 y2 y3 y4 y5 y6 y7 y8 y9 y10
   unfold partner_find.l0
   repeat' first
   | (with_reducible exact ih0 _ _ _ _ _ _ _ _ _ _ _)
   | (with_reducible exact partner_better.mono _ _ _ _ _ _ _ _ _ _ _ _ _ _ _ _ _ _ _)
   | (with_reducible exact LeO.refl _)
   | (with_reducible exact LeO.none _)
   | (with_reducible refine LeO.ite ?_ ?_)
   | (with_reducible refine LeO.bind ?_ (fun _ => ?_))
   | exact ih0 _ _ _ _ _ _ _ _ _ _ _
   | exact partner_better.mono _ _ _ _ _ _ _ _ _ _ _ _ _ _ _ _ _ _ _
   | exact LeO.none _
   | refine LeO.ite ?_ ?_
   | refine LeO.bind ?_ (fun _ => ?_)
theorem partner_find.mono : ∀ a0 a1 a2 a3 a4 a5 a6 k, LeO (partner_find.f k a0 a1 a2 a3 a4 a5 a6) (partner_find.f (k + 1) a0 a1 a2 a3 a4 a5 a6) := by
 intro a0 a1 a2 a3 a4 a5 a6 k
 have ih0 := partner_find.mono_l k
 unfold partner_find.f
 repeat' first
   | (with_reducible exact ih0 _ _ _ _ _ _ _ _ _ _ _)
   | (with_reducible exact partner_better.mono _ _ _ _ _ _ _ _ _ _ _ _ _ _ _ _ _ _ _)
   | (with_reducible exact LeO.refl _)
   | (with_reducible exact LeO.none _)
   | (with_reducible refine LeO.ite ?_ ?_)
   | (with_reducible refine LeO.bind ?_ (fun _ => ?_))
   | exact ih0 _ _ _ _ _ _ _ _ _ _ _
   | exact partner_better.mono _ _ _ _ _ _ _ _ _ _ _ _ _ _ _ _ _ _ _
   | exact LeO.none _
   | refine LeO.ite ?_ ?_
   | refine LeO.bind ?_ (fun _ => ?_)
def partner_find.T5 : Bool × List (List Nat × List Nat) := (true, [([], []), ([], []), ([0, 1], [0, 1]), ([2, 2], [2]), ([3], [3]), ([4, 3], [3, 4]), ([5, 3, 3], [3, 5]), ([6], [6]), ([6], [6]), ([6], [6]), ([8, 9, 6], [6, 8, 9]), ([10, 6], [6, 10]), ([7, 11, 6, 6], [6, 7, 11]), ([12, 6], [6, 12]), ([6, 13, 3], [3, 6, 13]), ([3, 14], [3, 14])])
def partner_find.B5 : List Nat := [0, 0, 3, 7, 15, 31, 63, 127, 127, 127, 895, 1919, 4095, 8191, 16383, 32767]
theorem partner_find.tab5 : rtab .any (opsOf Tryd.f68 5) = partner_find.T5 := by kernel_rfl
theorem partner_find.bits5 : waitsOk partner_find.T5.2 partner_find.B5 = true := by kernel_rfl
set_option maxHeartbeats 8000000 in
set_option maxRecDepth 100000 in
theorem partner_find.calls (k : Nat) (A0 : Option Addr) (c0 : Nat) (l0 : List (S23)) (a1_0 : ByteArray) (a1_1 : ByteArray) (a1_2 : ByteArray) (a1_3 : ByteArray) (a1_4 : Int) (a1_5 : Bool) (r : Int) (w : World) (hr0 : Kd.C k23 w A0 l0.length l0) (hc0 : l0.length ≤ c0) (h : partner_find.f k l0 a1_0 a1_1 a1_2 a1_3 a1_4 a1_5 = some r) :
  Calls Tryd.prog 68 #[.slice A0 l0.length c0, .agg #[.string a1_0, .string a1_1, .string a1_2, .string a1_3, .int .i64 a1_4, .bool a1_5]] w fun e w' => e = .returned (.int .i64 r) ∧ Below w.heap.size w w' := by
 have hu37 := Tryd.underlying37
 have hu23 := Tryd.underlying23
 have HR0 := Aside0.mk hr0
 have HC0 := Aside0.mk hc0
 clear hr0 hc0
 have HB := Aside0.mk (Below.refl w.heap.size w)
 have H : (partner_find.l0 k l0 (-1) l0 (l0.length : Int) 0 a1_0 a1_1 a1_2 a1_3 a1_4 a1_5) = some r := h
 clear h
 have H' := Aside0.mk H
 clear H
 go_enter Tryd.func68, Tryd.ntmps68
 go_wp2_with (first | ((with_reducible refine gate_dst (N := 3) rfl ?_); refine box_event ?hg (N := 3) ?hd (cs := #[.string a1_0, .string a1_1, .string a1_2, .string a1_3, .int .i64 a1_4, .bool a1_5]) (t := 37) ?hr ?_; (case hd => rfl); (case hg => rfl); (case hr => exact Z103); intro gb179 hg w3 hbox hb; have n0_ := Aside0.mk (below_step Z70 hb); have n1_ := Aside0.mk (hbox); have n2_ := Aside0.mk ((Z49 : w.heap.size ≤ gb179)); have n3_ := Aside0.mk ((Z49 : w.heap.size ≤ gb179)); clear HB; have HB := n0_; have BK179 := n1_; have GW179 := n2_; have GE179 := n3_; clear n0_ n1_ n2_ n3_; clear hb hbox hg))
 go_loopg [5, 10] k (fun kq v5 v10 w' => ∃ (x5_1 : Int) (x10_1 : Int), v5 = .int .i64 x5_1 ∧ v10 = .int .i64 x10_1 ∧ Aside0 (partner_find.l0 kq l0 x5_1 l0 (l0.length : Int) x10_1 a1_0 a1_1 a1_2 a1_3 a1_4 a1_5 = some r) ∧ Aside0 (kq ≤ k) ∧ Aside0 (w'.heap[gb179]? = some (.cells #[.string a1_0, .string a1_1, .string a1_2, .string a1_3, .int .i64 a1_4, .bool a1_5] 37 (0, 0))) ∧ Aside0 (Below w.heap.size w w'))
 case atStart => exact ⟨((-1)), (0), Z98, Z98, H', ⟨Nat.le_refl _⟩, ⟨Z84⟩, ⟨Z61⟩⟩
 case round =>
  clear H'
  try clear p2
  obtain ⟨x5_1, x10_1, rfl, rfl, HA, HK1, BK179, HB⟩ := hrel
  cases gk with
  | zero => exact absurd HA.out (by simp [partner_find.l0])
  | succ k1 =>
   have H := HA.out
   clear HA
   simp only [partner_find.l0] at H
   by_cases c4 : x10_1 < (l0.length : Int)
   ·rw [if_pos c4] at H
    have c4b0 : decide (x10_1 < (l0.length : Int)) = true := decide_eq_true c4
    clear c4
    by_cases c5 : 0 ≤ x10_1
    ·rw [if_pos c5] at H
     have c5b0 : decide (0 ≤ x10_1) = true := decide_eq_true c5
     clear c5
     by_cases c6 : x10_1 < (l0.length : Int)
     ·rw [if_pos c6] at H
      have c6b0 : decide (x10_1 < (l0.length : Int)) = true := decide_eq_true c6
      clear c6
      replace H := Option.bind_eq_some_iff.mp H
      obtain ⟨t182, A70, H⟩ := H
      replace H : (if t182 = true then (if x5_1 < 0 then (partner_find.l0 k1 l0 x10_1 l0 (l0.length : Int) (wrap64 (x10_1 + 1)) a1_0 a1_1 a1_2 a1_3 a1_4 a1_5) else (if 0 ≤ x5_1 then (if x5_1 < (l0.length : Int) then ((partner_better.f k1 ((rd_T23 l0 x10_1).f0) ((rd_T23 l0 x10_1).f1) ((rd_T23 l0 x10_1).f2) ((rd_T23 l0 x10_1).f3) ((rd_T23 l0 x10_1).f4) ((rd_T23 l0 x10_1).f5) ((rd_T23 l0 x10_1).f6) ((rd_T23 l0 x10_1).f7) ((rd_T23 l0 x10_1).f8) ((rd_T23 l0 x5_1).f0) ((rd_T23 l0 x5_1).f1) ((rd_T23 l0 x5_1).f2) ((rd_T23 l0 x5_1).f3) ((rd_T23 l0 x5_1).f4) ((rd_T23 l0 x5_1).f5) ((rd_T23 l0 x5_1).f6) ((rd_T23 l0 x5_1).f7) ((rd_T23 l0 x5_1).f8)).bind fun t184 => (if t184 < 0 then (partner_find.l0 k1 l0 x10_1 l0 (l0.length : Int) (wrap64 (x10_1 + 1)) a1_0 a1_1 a1_2 a1_3 a1_4 a1_5) else (partner_find.l0 k1 l0 x5_1 l0 (l0.length : Int) (wrap64 (x10_1 + 1)) a1_0 a1_1 a1_2 a1_3 a1_4 a1_5))) else (none)) else (none))) else (partner_find.l0 k1 l0 x5_1 l0 (l0.length : Int) (wrap64 (x10_1 + 1)) a1_0 a1_1 a1_2 a1_3 a1_4 a1_5)) = some r := H
      have A7 := Aside0.mk A70
      clear A70
      by_cases c8 : t182 = true
      ·subst c8
       have H1 : (if x5_1 < 0 then (partner_find.l0 k1 l0 x10_1 l0 (l0.length : Int) (wrap64 (x10_1 + 1)) a1_0 a1_1 a1_2 a1_3 a1_4 a1_5) else (if 0 ≤ x5_1 then (if x5_1 < (l0.length : Int) then ((partner_better.f k1 ((rd_T23 l0 x10_1).f0) ((rd_T23 l0 x10_1).f1) ((rd_T23 l0 x10_1).f2) ((rd_T23 l0 x10_1).f3) ((rd_T23 l0 x10_1).f4) ((rd_T23 l0 x10_1).f5) ((rd_T23 l0 x10_1).f6) ((rd_T23 l0 x10_1).f7) ((rd_T23 l0 x10_1).f8) ((rd_T23 l0 x5_1).f0) ((rd_T23 l0 x5_1).f1) ((rd_T23 l0 x5_1).f2) ((rd_T23 l0 x5_1).f3) ((rd_T23 l0 x5_1).f4) ((rd_T23 l0 x5_1).f5) ((rd_T23 l0 x5_1).f6) ((rd_T23 l0 x5_1).f7) ((rd_T23 l0 x5_1).f8)).bind fun t184 => (if t184 < 0 then (partner_find.l0 k1 l0 x10_1 l0 (l0.length : Int) (wrap64 (x10_1 + 1)) a1_0 a1_1 a1_2 a1_3 a1_4 a1_5) else (partner_find.l0 k1 l0 x5_1 l0 (l0.length : Int) (wrap64 (x10_1 + 1)) a1_0 a1_1 a1_2 a1_3 a1_4 a1_5))) else (none)) else (none))) = some r := by rw [if_pos rfl] at H; exact H
       clear H
       have H := H1
       clear H1
       by_cases c9 : x5_1 < 0
       ·rw [if_pos c9] at H
        have c9b0 : decide (x5_1 < 0) = true := decide_eq_true c9
        clear c9
        have H' := Aside0.mk H
        clear H
        have p180 : 0 ≤ (x10_1 : Int) := of_decide_eq_true Z101
        have q180 : x10_1 < (l0.length : Int) := of_decide_eq_true Z101
        obtain ⟨ad180, e180, hx180_0, hx180_1, hx180_2, hx180_3, hx180_4, hx180_5, hx180_6, hx180_7, hx180_8⟩ := at_T23 HR0.out x10_1 p180 q180
        cases e180
        replace hx180_0 := (HB.out.cell (World.block_lt_of_cell? w _ hx180_0)).trans hx180_0
        replace hx180_1 := (HB.out.cell (World.block_lt_of_cell? w _ hx180_1)).trans hx180_1
        replace hx180_2 := (HB.out.cell (World.block_lt_of_cell? w _ hx180_2)).trans hx180_2
        replace hx180_3 := (HB.out.cell (World.block_lt_of_cell? w _ hx180_3)).trans hx180_3
        replace hx180_4 := (HB.out.cell (World.block_lt_of_cell? w _ hx180_4)).trans hx180_4
        replace hx180_5 := (HB.out.cell (World.block_lt_of_cell? w _ hx180_5)).trans hx180_5
        replace hx180_6 := (HB.out.cell (World.block_lt_of_cell? w _ hx180_6)).trans hx180_6
        replace hx180_7 := (HB.out.cell (World.block_lt_of_cell? w _ hx180_7)).trans hx180_7
        replace hx180_8 := (HB.out.cell (World.block_lt_of_cell? w _ hx180_8)).trans hx180_8
        replace p180 := eq_true p180
        replace q180 := eq_true q180
        try go_wp2_with (first | ((with_reducible refine gate_dst (N := 7) rfl ?_); refine box_event ?hg (N := 7) ?hd (cs := #[.string (⟨#[]⟩ : ByteArray), .string (⟨#[]⟩ : ByteArray), .string (⟨#[]⟩ : ByteArray), .string (⟨#[]⟩ : ByteArray), .int .i64 0, .int .i64 0, .bool false, .int .i64 0, .bool false]) (t := 23) ?hr ?_; (case hd => rfl); (case hg => rfl); (case hr => exact Z103); intro gb181 hg w10 hbox hb; have n0_ := Aside0.mk (blk_below (g := gb179) (o := .cells #[.string a1_0, .string a1_1, .string a1_2, .string a1_3, .int .i64 a1_4, .bool a1_5] 37 (0, 0)) Z84 hb); have n1_ := Aside0.mk (below_step Z61 hb); have n2_ := Aside0.mk (hbox); have n3_ := Aside0.mk ((Z36 : w.heap.size ≤ gb181)); have n4_ := Aside0.mk ((Z36 : w.heap.size ≤ gb181)); have n5_ := Aside0.mk ((Z29 : gb179 ≠ gb181)); have n6_ := Aside0.mk ((Z30 : gb181 ≠ gb179)); clear BK179; clear HB; have BK179 := n0_; have HB := n1_; have BK181 := n2_; have GW181 := n3_; have GE181 := n4_; have NB179_181 := n5_; have NB181_179 := n6_; clear n0_ n1_ n2_ n3_ n4_ n5_ n6_; clear hb hbox hg; have hnb11 := NB181_179.out; have hnc11 := NB179_181.out; obtain ⟨hcz12_0, hcz12_1, hcz12_2, hcz12_3, hcz12_4, hcz12_5, hcz12_6, hcz12_7, hcz12_8, hfz12_0, hfz12_1, hfz12_2, hfz12_3, hfz12_4, hfz12_5, hfz12_6, hfz12_7, hfz12_8⟩ := bf9 BK181.out))
        have n0_ : Aside0 ((((((((((w10.setCell ⟨gb181, 0, none⟩ (.string ((rd_T23 l0 x10_1).f0))).setCell ⟨gb181, 1, none⟩ (.string ((rd_T23 l0 x10_1).f1))).setCell ⟨gb181, 2, none⟩ (.string ((rd_T23 l0 x10_1).f2))).setCell ⟨gb181, 3, none⟩ (.string ((rd_T23 l0 x10_1).f3))).setCell ⟨gb181, 4, none⟩ (.int .i64 ((rd_T23 l0 x10_1).f4))).setCell ⟨gb181, 5, none⟩ (.int .i64 ((rd_T23 l0 x10_1).f5))).setCell ⟨gb181, 6, none⟩ (.bool ((rd_T23 l0 x10_1).f6))).setCell ⟨gb181, 7, none⟩ (.int .i64 ((rd_T23 l0 x10_1).f7))).setCell ⟨gb181, 8, none⟩ (.bool ((rd_T23 l0 x10_1).f8))).heap[gb179]? = some (.cells #[.string a1_0, .string a1_1, .string a1_2, .string a1_3, .int .i64 a1_4, .bool a1_5] 37 (0, 0))) := ⟨Z4⟩
        have n1_ : Aside0 ((((((((((w10.setCell ⟨gb181, 0, none⟩ (.string ((rd_T23 l0 x10_1).f0))).setCell ⟨gb181, 1, none⟩ (.string ((rd_T23 l0 x10_1).f1))).setCell ⟨gb181, 2, none⟩ (.string ((rd_T23 l0 x10_1).f2))).setCell ⟨gb181, 3, none⟩ (.string ((rd_T23 l0 x10_1).f3))).setCell ⟨gb181, 4, none⟩ (.int .i64 ((rd_T23 l0 x10_1).f4))).setCell ⟨gb181, 5, none⟩ (.int .i64 ((rd_T23 l0 x10_1).f5))).setCell ⟨gb181, 6, none⟩ (.bool ((rd_T23 l0 x10_1).f6))).setCell ⟨gb181, 7, none⟩ (.int .i64 ((rd_T23 l0 x10_1).f7))).setCell ⟨gb181, 8, none⟩ (.bool ((rd_T23 l0 x10_1).f8))).heap[gb181]? = some (.cells #[.string ((rd_T23 l0 x10_1).f0), .string ((rd_T23 l0 x10_1).f1), .string ((rd_T23 l0 x10_1).f2), .string ((rd_T23 l0 x10_1).f3), .int .i64 ((rd_T23 l0 x10_1).f4), .int .i64 ((rd_T23 l0 x10_1).f5), .bool ((rd_T23 l0 x10_1).f6), .int .i64 ((rd_T23 l0 x10_1).f7), .bool ((rd_T23 l0 x10_1).f8)] 23 (0, 0))) := ⟨Z1⟩
        have n2_ : Aside0 (Below w.heap.size w (((((((((w10.setCell ⟨gb181, 0, none⟩ (.string ((rd_T23 l0 x10_1).f0))).setCell ⟨gb181, 1, none⟩ (.string ((rd_T23 l0 x10_1).f1))).setCell ⟨gb181, 2, none⟩ (.string ((rd_T23 l0 x10_1).f2))).setCell ⟨gb181, 3, none⟩ (.string ((rd_T23 l0 x10_1).f3))).setCell ⟨gb181, 4, none⟩ (.int .i64 ((rd_T23 l0 x10_1).f4))).setCell ⟨gb181, 5, none⟩ (.int .i64 ((rd_T23 l0 x10_1).f5))).setCell ⟨gb181, 6, none⟩ (.bool ((rd_T23 l0 x10_1).f6))).setCell ⟨gb181, 7, none⟩ (.int .i64 ((rd_T23 l0 x10_1).f7))).setCell ⟨gb181, 8, none⟩ (.bool ((rd_T23 l0 x10_1).f8)))) := ⟨Z42⟩
        (try clear BK179)
        (try clear BK181)
        (try clear HB)
        generalize (((((((((w10.setCell ⟨gb181, 0, none⟩ (.string ((rd_T23 l0 x10_1).f0))).setCell ⟨gb181, 1, none⟩ (.string ((rd_T23 l0 x10_1).f1))).setCell ⟨gb181, 2, none⟩ (.string ((rd_T23 l0 x10_1).f2))).setCell ⟨gb181, 3, none⟩ (.string ((rd_T23 l0 x10_1).f3))).setCell ⟨gb181, 4, none⟩ (.int .i64 ((rd_T23 l0 x10_1).f4))).setCell ⟨gb181, 5, none⟩ (.int .i64 ((rd_T23 l0 x10_1).f5))).setCell ⟨gb181, 6, none⟩ (.bool ((rd_T23 l0 x10_1).f6))).setCell ⟨gb181, 7, none⟩ (.int .i64 ((rd_T23 l0 x10_1).f7))).setCell ⟨gb181, 8, none⟩ (.bool ((rd_T23 l0 x10_1).f8))) = w13 at n0_ n1_ n2_ ⊢
        have BK179 := n0_
        have BK181 := n1_
        have HB := n2_
        clear n0_ n1_ n2_
        have n0_ := Aside0.mk (blk_drew BK179.out)
        have n1_ := Aside0.mk (blk_drew BK181.out)
        have n2_ := Aside0.mk (below_drew1 HB.out)
        clear BK179
        clear BK181
        clear HB
        have BK179 := n0_
        have BK181 := n1_
        have HB := n2_
        clear n0_ n1_ n2_
        refine start_ (n := 16) (S := fun w' => w'.cell? ⟨gb181, 0, none⟩ = some (.string ((rd_T23 l0 x10_1).f0)) ∧ w'.cell? ⟨gb181, 1, none⟩ = some (.string ((rd_T23 l0 x10_1).f1)) ∧ w'.cell? ⟨gb181, 2, none⟩ = some (.string ((rd_T23 l0 x10_1).f2)) ∧ w'.cell? ⟨gb181, 3, none⟩ = some (.string ((rd_T23 l0 x10_1).f3)) ∧ w'.cell? ⟨gb181, 4, none⟩ = some (.int .i64 ((rd_T23 l0 x10_1).f4)) ∧ w'.cell? ⟨gb181, 5, none⟩ = some (.int .i64 ((rd_T23 l0 x10_1).f5)) ∧ w'.cell? ⟨gb181, 6, none⟩ = some (.bool ((rd_T23 l0 x10_1).f6)) ∧ w'.cell? ⟨gb181, 7, none⟩ = some (.int .i64 ((rd_T23 l0 x10_1).f7)) ∧ w'.cell? ⟨gb181, 8, none⟩ = some (.bool ((rd_T23 l0 x10_1).f8)) ∧ w'.cell? ⟨gb179, 0, none⟩ = some (.string a1_0) ∧ w'.cell? ⟨gb179, 1, none⟩ = some (.string a1_1) ∧ w'.cell? ⟨gb179, 2, none⟩ = some (.string a1_2) ∧ w'.cell? ⟨gb179, 3, none⟩ = some (.string a1_3) ∧ w'.cell? ⟨gb179, 4, none⟩ = some (.int .i64 a1_4) ∧ w'.cell? ⟨gb179, 5, none⟩ = some (.bool a1_5)) (ds := []) #[false, false, false, false, false, false, false, false, false, false, false, false, false, false, false, false] (by kernel_rfl) rfl rfl ⟨(blk_cell BK181.out 0).trans rfl, (blk_cell BK181.out 1).trans rfl, (blk_cell BK181.out 2).trans rfl, (blk_cell BK181.out 3).trans rfl, (blk_cell BK181.out 4).trans rfl, (blk_cell BK181.out 5).trans rfl, (blk_cell BK181.out 6).trans rfl, (blk_cell BK181.out 7).trans rfl, (blk_cell BK181.out 8).trans rfl, (blk_cell BK179.out 0).trans rfl, (blk_cell BK179.out 1).trans rfl, (blk_cell BK179.out 2).trans rfl, (blk_cell BK179.out 3).trans rfl, (blk_cell BK179.out 4).trans rfl, (blk_cell BK179.out 5).trans rfl⟩ (fun hHeld => ?_); refine with_tabW partner_find.tab5 partner_find.bits5 (fun HT_ HW_ => ?_)
        generalize w13.drew = w14 at BK179 BK181 HB hHeld ⊢
        refine take_ (i := 0) (N := some 15) (v := ?_) (a' := ?_) #[true, false, false, false, false, false, false, false, false, false, false, false, false, false, false, false] rfl rfl (take_ofW HT_.out HW_.out (by kernel_rfl)) (fun _ _ _ h => h) (Or.inl ⟨by rfl, ?_⟩) hHeld ?_ ?_
        rotate_left
        ·rintro w' ⟨s0, s1, s2, s3, s4, s5, s6, s7, s8, s9, s10, s11, s12, s13, s14⟩
         go_simp
         with_reducible rfl
        rotate_left
        ·simp only [Act.put, List.setIfInBounds_toArray, List.set_cons_zero, List.set_cons_succ, i64_w, i32_w]
         rfl
        refine take_ (i := 1) (N := some 16) (v := ?_) (a' := ?_) #[true, true, false, false, false, false, false, false, false, false, false, false, false, false, false, false] rfl rfl (take_ofW HT_.out HW_.out (by kernel_rfl)) (fun _ _ _ h => h) (Or.inl ⟨by rfl, ?_⟩) hHeld ?_ ?_
        rotate_left
        ·rintro w' ⟨s0, s1, s2, s3, s4, s5, s6, s7, s8, s9, s10, s11, s12, s13, s14⟩
         go_simp
         with_reducible rfl
        rotate_left
        ·simp only [Act.put, List.setIfInBounds_toArray, List.set_cons_zero, List.set_cons_succ, i64_w, i32_w]
         rfl
        refine one_ (i := 2) (N := some 17) #[true, true, true, false, false, false, false, false, false, false, false, false, false, false, false, false] rfl rfl (one_of HT_.out (by kernel_rfl)) (by decide) (fun K hK => ?_)
        refine goes_ Tryd.func57 (by kernel_rfl) rfl #[.agg #[.string ((rd_T23 l0 x10_1).f0), .string ((rd_T23 l0 x10_1).f1), .string ((rd_T23 l0 x10_1).f2), .string ((rd_T23 l0 x10_1).f3), .int .i64 ((rd_T23 l0 x10_1).f4), .int .i64 ((rd_T23 l0 x10_1).f5), .bool ((rd_T23 l0 x10_1).f6), .int .i64 ((rd_T23 l0 x10_1).f7), .bool ((rd_T23 l0 x10_1).f8)], .agg #[.string a1_0, .string a1_1, .string a1_2, .string a1_3, .int .i64 a1_4, .bool a1_5]] (by rfl) rfl rfl Z45 ?_
        with_reducible refine (partner_applies.calls ((rd_T23 l0 x10_1).f0) ((rd_T23 l0 x10_1).f1) ((rd_T23 l0 x10_1).f2) ((rd_T23 l0 x10_1).f3) ((rd_T23 l0 x10_1).f4) ((rd_T23 l0 x10_1).f5) ((rd_T23 l0 x10_1).f6) ((rd_T23 l0 x10_1).f7) ((rd_T23 l0 x10_1).f8) a1_0 a1_1 a1_2 a1_3 a1_4 a1_5 true _ A7.out).mono ?_
        rintro e w15 ⟨rfl, hb⟩
        refine ⟨_, rfl, ?_⟩
        have n0_ := Aside0.mk (blk_below (g := gb179) (o := .cells #[.string a1_0, .string a1_1, .string a1_2, .string a1_3, .int .i64 a1_4, .bool a1_5] 37 (0, 0)) Z84 hb)
        have n1_ := Aside0.mk (blk_below (g := gb181) (o := .cells #[.string ((rd_T23 l0 x10_1).f0), .string ((rd_T23 l0 x10_1).f1), .string ((rd_T23 l0 x10_1).f2), .string ((rd_T23 l0 x10_1).f3), .int .i64 ((rd_T23 l0 x10_1).f4), .int .i64 ((rd_T23 l0 x10_1).f5), .bool ((rd_T23 l0 x10_1).f6), .int .i64 ((rd_T23 l0 x10_1).f7), .bool ((rd_T23 l0 x10_1).f8)] 23 (0, 0)) Z85 hb)
        have n2_ := Aside0.mk (below_step Z42 hb)
        clear BK179
        clear BK181
        clear HB
        have BK179 := n0_
        have BK181 := n1_
        have HB := n2_
        clear n0_ n1_ n2_
        (try clear hb)
        (try clear hb2)
        (try clear hk)
        (try clear hi)
        refine hK.out _ _ ⟨(blk_cell BK181.out 0).trans rfl, (blk_cell BK181.out 1).trans rfl, (blk_cell BK181.out 2).trans rfl, (blk_cell BK181.out 3).trans rfl, (blk_cell BK181.out 4).trans rfl, (blk_cell BK181.out 5).trans rfl, (blk_cell BK181.out 6).trans rfl, (blk_cell BK181.out 7).trans rfl, (blk_cell BK181.out 8).trans rfl, (blk_cell BK179.out 0).trans rfl, (blk_cell BK179.out 1).trans rfl, (blk_cell BK179.out 2).trans rfl, (blk_cell BK179.out 3).trans rfl, (blk_cell BK179.out 4).trans rfl, (blk_cell BK179.out 5).trans rfl⟩ (fun hHeld => ?_)
        clear hK K
        refine norm_ (a' := ?_) ?_ ?_
        rotate_left
        ·show Act.put _ (some 17) _ = _
         simp only [Act.put, List.setIfInBounds_toArray, List.set_cons_zero, List.set_cons_succ, i64_w, i32_w]
         rfl
        refine pure_ (i := 3) (N := some 18) (v := ?_) (a' := ?_) #[true, true, true, true, false, false, false, false, false, false, false, false, false, false, false, false] rfl rfl (any_of HT_.out (by kernel_rfl)) (fun _ _ _ h => h) (Or.inl ⟨by rfl, ?_⟩) ?_ ?_
        rotate_left
        ·intro w'
         go_simp
         with_reducible rfl
        rotate_left
        ·simp only [Act.put, List.setIfInBounds_toArray, List.set_cons_zero, List.set_cons_succ, i64_w, i32_w]
         rfl
        refine pure_ (i := 4) (N := some 19) (v := ?_) (a' := ?_) #[true, true, true, true, true, false, false, false, false, false, false, false, false, false, false, false] rfl rfl (any_of HT_.out (by kernel_rfl)) (fun _ _ _ h => h) (Or.inl ⟨by rfl, ?_⟩) ?_ ?_
        rotate_left
        ·intro w'
         go_simp
         with_reducible rfl
        rotate_left
        ·simp only [Act.put, List.setIfInBounds_toArray, List.set_cons_zero, List.set_cons_succ, i64_w, i32_w]
         rfl
        refine pure_ (i := 5) (N := some 20) (v := ?_) (a' := ?_) #[true, true, true, true, true, true, false, false, false, false, false, false, false, false, false, false] rfl rfl (any_of HT_.out (by kernel_rfl)) (fun _ _ _ h => h) (Or.inl ⟨by rfl, ?_⟩) ?_ ?_
        rotate_left
        ·intro w'
         go_simp
         with_reducible rfl
        rotate_left
        ·simp only [Act.put, List.setIfInBounds_toArray, List.set_cons_zero, List.set_cons_succ, i64_w, i32_w]
         rfl
        refine pure_ (i := 6) (N := some 21) (v := ?_) (a' := ?_) #[true, true, true, true, true, true, true, false, false, false, false, false, false, false, false, false] rfl rfl (any_of HT_.out (by kernel_rfl)) (fun _ _ _ h => h) (Or.inl ⟨by rfl, ?_⟩) ?_ ?_
        rotate_left
        ·intro w'
         go_simp
         with_reducible rfl
        rotate_left
        ·simp only [Act.put, List.setIfInBounds_toArray, List.set_cons_zero, List.set_cons_succ, i64_w, i32_w]
         rfl
        refine pure_ (i := 7) (N := some 22) (v := undef) (a' := ?_) #[true, true, true, true, true, true, true, true, false, false, false, false, false, false, false, false] rfl rfl (any_of HT_.out (by kernel_rfl)) (fun _ _ _ h => h) (Or.inr ⟨by rfl, rfl⟩) ?_ ?_
        rotate_left
        ·simp only [Act.put, List.setIfInBounds_toArray, List.set_cons_zero, List.set_cons_succ, i64_w, i32_w]
         rfl
        refine pure_ (i := 8) (N := some 23) (v := undef) (a' := ?_) #[true, true, true, true, true, true, true, true, true, false, false, false, false, false, false, false] rfl rfl (any_of HT_.out (by kernel_rfl)) (fun _ _ _ h => h) (Or.inr ⟨by rfl, rfl⟩) ?_ ?_
        rotate_left
        ·simp only [Act.put, List.setIfInBounds_toArray, List.set_cons_zero, List.set_cons_succ, i64_w, i32_w]
         rfl
        refine pure_ (i := 9) (N := some 24) (v := undef) (a' := ?_) #[true, true, true, true, true, true, true, true, true, true, false, false, false, false, false, false] rfl rfl (any_of HT_.out (by kernel_rfl)) (fun _ _ _ h => h) (Or.inr ⟨by rfl, rfl⟩) ?_ ?_
        rotate_left
        ·simp only [Act.put, List.setIfInBounds_toArray, List.set_cons_zero, List.set_cons_succ, i64_w, i32_w]
         rfl
        refine pure_ (i := 10) (N := some 25) (v := undef) (a' := ?_) #[true, true, true, true, true, true, true, true, true, true, true, false, false, false, false, false] rfl rfl (any_of HT_.out (by kernel_rfl)) (fun _ _ _ h => h) (Or.inr ⟨by rfl, rfl⟩) ?_ ?_
        rotate_left
        ·simp only [Act.put, List.setIfInBounds_toArray, List.set_cons_zero, List.set_cons_succ, i64_w, i32_w]
         rfl
        refine pure_ (i := 11) (N := some 26) (v := undef) (a' := ?_) #[true, true, true, true, true, true, true, true, true, true, true, true, false, false, false, false] rfl rfl (any_of HT_.out (by kernel_rfl)) (fun _ _ _ h => h) (Or.inr ⟨by rfl, rfl⟩) ?_ ?_
        rotate_left
        ·simp only [Act.put, List.setIfInBounds_toArray, List.set_cons_zero, List.set_cons_succ, i64_w, i32_w]
         rfl
        refine pure_ (i := 12) (N := some 27) (v := undef) (a' := ?_) #[true, true, true, true, true, true, true, true, true, true, true, true, true, false, false, false] rfl rfl (any_of HT_.out (by kernel_rfl)) (fun _ _ _ h => h) (Or.inr ⟨by rfl, rfl⟩) ?_ ?_
        rotate_left
        ·simp only [Act.put, List.setIfInBounds_toArray, List.set_cons_zero, List.set_cons_succ, i64_w, i32_w]
         rfl
        refine pure_ (i := 13) (N := some 28) (v := undef) (a' := ?_) #[true, true, true, true, true, true, true, true, true, true, true, true, true, true, false, false] rfl rfl (any_of HT_.out (by kernel_rfl)) (fun _ _ _ h => h) (Or.inr ⟨by rfl, rfl⟩) ?_ ?_
        rotate_left
        ·simp only [Act.put, List.setIfInBounds_toArray, List.set_cons_zero, List.set_cons_succ, i64_w, i32_w]
         rfl
        refine pure_ (i := 14) (N := some 29) (v := ?_) (a' := ?_) #[true, true, true, true, true, true, true, true, true, true, true, true, true, true, true, false] rfl rfl (any_of HT_.out (by kernel_rfl)) (fun _ _ _ h => h) (Or.inl ⟨by rfl, ?_⟩) ?_ ?_
        rotate_left
        ·intro w'
         go_simp
         with_reducible rfl
        rotate_left
        ·simp only [Act.put, List.setIfInBounds_toArray, List.set_cons_zero, List.set_cons_succ, i64_w, i32_w]
         rfl
        refine pure_ (i := 15) (N := some 30) (v := ?_) (a' := ?_) #[true, true, true, true, true, true, true, true, true, true, true, true, true, true, true, true] rfl rfl (any_of HT_.out (by kernel_rfl)) (fun _ _ _ h => h) (Or.inl ⟨by rfl, ?_⟩) ?_ ?_
        rotate_left
        ·intro w'
         go_simp
         with_reducible rfl
        rotate_left
        ·simp only [Act.put, List.setIfInBounds_toArray, List.set_cons_zero, List.set_cons_succ, i64_w, i32_w]
         rfl
        refine done_ (done_of HT_.out (by kernel_rfl)) ?_
        try go_wp2
        go_roundg k1
        case measure => have := HK1.out; omega
        case rel => exact ⟨(x10_1), (wrap64 (x10_1 + 1)), Z98, Z98, H', ⟨by have := HK1.out; omega⟩, ⟨Z84⟩, ⟨Z42⟩⟩
       ·rw [if_neg c9] at H
        have c9b0 : decide (x5_1 < 0) = false := decide_eq_false c9
        clear c9
        by_cases c16 : 0 ≤ x5_1
        ·rw [if_pos c16] at H
         have c16b0 : decide (0 ≤ x5_1) = true := decide_eq_true c16
         clear c16
         by_cases c17 : x5_1 < (l0.length : Int)
         ·rw [if_pos c17] at H
          have c17b0 : decide (x5_1 < (l0.length : Int)) = true := decide_eq_true c17
          clear c17
          replace H := Option.bind_eq_some_iff.mp H
          obtain ⟨t184, A180, H⟩ := H
          replace H : (if t184 < 0 then (partner_find.l0 k1 l0 x10_1 l0 (l0.length : Int) (wrap64 (x10_1 + 1)) a1_0 a1_1 a1_2 a1_3 a1_4 a1_5) else (partner_find.l0 k1 l0 x5_1 l0 (l0.length : Int) (wrap64 (x10_1 + 1)) a1_0 a1_1 a1_2 a1_3 a1_4 a1_5)) = some r := H
          have A18 := Aside0.mk A180
          clear A180
          by_cases c19 : t184 < 0
          ·rw [if_pos c19] at H
           have c19b0 : decide (t184 < 0) = true := decide_eq_true c19
           clear c19
           have H' := Aside0.mk H
           clear H
           have p180 : 0 ≤ (x10_1 : Int) := of_decide_eq_true Z101
           have q180 : x10_1 < (l0.length : Int) := of_decide_eq_true Z101
           obtain ⟨ad180, e180, hx180_0, hx180_1, hx180_2, hx180_3, hx180_4, hx180_5, hx180_6, hx180_7, hx180_8⟩ := at_T23 HR0.out x10_1 p180 q180
           cases e180
           replace hx180_0 := (HB.out.cell (World.block_lt_of_cell? w _ hx180_0)).trans hx180_0
           replace hx180_1 := (HB.out.cell (World.block_lt_of_cell? w _ hx180_1)).trans hx180_1
           replace hx180_2 := (HB.out.cell (World.block_lt_of_cell? w _ hx180_2)).trans hx180_2
           replace hx180_3 := (HB.out.cell (World.block_lt_of_cell? w _ hx180_3)).trans hx180_3
           replace hx180_4 := (HB.out.cell (World.block_lt_of_cell? w _ hx180_4)).trans hx180_4
           replace hx180_5 := (HB.out.cell (World.block_lt_of_cell? w _ hx180_5)).trans hx180_5
           replace hx180_6 := (HB.out.cell (World.block_lt_of_cell? w _ hx180_6)).trans hx180_6
           replace hx180_7 := (HB.out.cell (World.block_lt_of_cell? w _ hx180_7)).trans hx180_7
           replace hx180_8 := (HB.out.cell (World.block_lt_of_cell? w _ hx180_8)).trans hx180_8
           replace p180 := eq_true p180
           replace q180 := eq_true q180
           try go_wp2_with (first | ((with_reducible refine gate_dst (N := 7) rfl ?_); refine box_event ?hg (N := 7) ?hd (cs := #[.string (⟨#[]⟩ : ByteArray), .string (⟨#[]⟩ : ByteArray), .string (⟨#[]⟩ : ByteArray), .string (⟨#[]⟩ : ByteArray), .int .i64 0, .int .i64 0, .bool false, .int .i64 0, .bool false]) (t := 23) ?hr ?_; (case hd => rfl); (case hg => rfl); (case hr => exact Z103); intro gb181 hg w20 hbox hb; have n0_ := Aside0.mk (blk_below (g := gb179) (o := .cells #[.string a1_0, .string a1_1, .string a1_2, .string a1_3, .int .i64 a1_4, .bool a1_5] 37 (0, 0)) Z84 hb); have n1_ := Aside0.mk (below_step Z61 hb); have n2_ := Aside0.mk (hbox); have n3_ := Aside0.mk ((Z36 : w.heap.size ≤ gb181)); have n4_ := Aside0.mk ((Z36 : w.heap.size ≤ gb181)); have n5_ := Aside0.mk ((Z29 : gb179 ≠ gb181)); have n6_ := Aside0.mk ((Z30 : gb181 ≠ gb179)); clear BK179; clear HB; have BK179 := n0_; have HB := n1_; have BK181 := n2_; have GW181 := n3_; have GE181 := n4_; have NB179_181 := n5_; have NB181_179 := n6_; clear n0_ n1_ n2_ n3_ n4_ n5_ n6_; clear hb hbox hg; have hnb21 := NB181_179.out; have hnc21 := NB179_181.out; obtain ⟨hcz22_0, hcz22_1, hcz22_2, hcz22_3, hcz22_4, hcz22_5, hcz22_6, hcz22_7, hcz22_8, hfz22_0, hfz22_1, hfz22_2, hfz22_3, hfz22_4, hfz22_5, hfz22_6, hfz22_7, hfz22_8⟩ := bf9 BK181.out))
           have n0_ : Aside0 ((((((((((w20.setCell ⟨gb181, 0, none⟩ (.string ((rd_T23 l0 x10_1).f0))).setCell ⟨gb181, 1, none⟩ (.string ((rd_T23 l0 x10_1).f1))).setCell ⟨gb181, 2, none⟩ (.string ((rd_T23 l0 x10_1).f2))).setCell ⟨gb181, 3, none⟩ (.string ((rd_T23 l0 x10_1).f3))).setCell ⟨gb181, 4, none⟩ (.int .i64 ((rd_T23 l0 x10_1).f4))).setCell ⟨gb181, 5, none⟩ (.int .i64 ((rd_T23 l0 x10_1).f5))).setCell ⟨gb181, 6, none⟩ (.bool ((rd_T23 l0 x10_1).f6))).setCell ⟨gb181, 7, none⟩ (.int .i64 ((rd_T23 l0 x10_1).f7))).setCell ⟨gb181, 8, none⟩ (.bool ((rd_T23 l0 x10_1).f8))).heap[gb179]? = some (.cells #[.string a1_0, .string a1_1, .string a1_2, .string a1_3, .int .i64 a1_4, .bool a1_5] 37 (0, 0))) := ⟨Z4⟩
           have n1_ : Aside0 ((((((((((w20.setCell ⟨gb181, 0, none⟩ (.string ((rd_T23 l0 x10_1).f0))).setCell ⟨gb181, 1, none⟩ (.string ((rd_T23 l0 x10_1).f1))).setCell ⟨gb181, 2, none⟩ (.string ((rd_T23 l0 x10_1).f2))).setCell ⟨gb181, 3, none⟩ (.string ((rd_T23 l0 x10_1).f3))).setCell ⟨gb181, 4, none⟩ (.int .i64 ((rd_T23 l0 x10_1).f4))).setCell ⟨gb181, 5, none⟩ (.int .i64 ((rd_T23 l0 x10_1).f5))).setCell ⟨gb181, 6, none⟩ (.bool ((rd_T23 l0 x10_1).f6))).setCell ⟨gb181, 7, none⟩ (.int .i64 ((rd_T23 l0 x10_1).f7))).setCell ⟨gb181, 8, none⟩ (.bool ((rd_T23 l0 x10_1).f8))).heap[gb181]? = some (.cells #[.string ((rd_T23 l0 x10_1).f0), .string ((rd_T23 l0 x10_1).f1), .string ((rd_T23 l0 x10_1).f2), .string ((rd_T23 l0 x10_1).f3), .int .i64 ((rd_T23 l0 x10_1).f4), .int .i64 ((rd_T23 l0 x10_1).f5), .bool ((rd_T23 l0 x10_1).f6), .int .i64 ((rd_T23 l0 x10_1).f7), .bool ((rd_T23 l0 x10_1).f8)] 23 (0, 0))) := ⟨Z1⟩
           have n2_ : Aside0 (Below w.heap.size w (((((((((w20.setCell ⟨gb181, 0, none⟩ (.string ((rd_T23 l0 x10_1).f0))).setCell ⟨gb181, 1, none⟩ (.string ((rd_T23 l0 x10_1).f1))).setCell ⟨gb181, 2, none⟩ (.string ((rd_T23 l0 x10_1).f2))).setCell ⟨gb181, 3, none⟩ (.string ((rd_T23 l0 x10_1).f3))).setCell ⟨gb181, 4, none⟩ (.int .i64 ((rd_T23 l0 x10_1).f4))).setCell ⟨gb181, 5, none⟩ (.int .i64 ((rd_T23 l0 x10_1).f5))).setCell ⟨gb181, 6, none⟩ (.bool ((rd_T23 l0 x10_1).f6))).setCell ⟨gb181, 7, none⟩ (.int .i64 ((rd_T23 l0 x10_1).f7))).setCell ⟨gb181, 8, none⟩ (.bool ((rd_T23 l0 x10_1).f8)))) := ⟨Z42⟩
           (try clear BK179)
           (try clear BK181)
           (try clear HB)
           generalize (((((((((w20.setCell ⟨gb181, 0, none⟩ (.string ((rd_T23 l0 x10_1).f0))).setCell ⟨gb181, 1, none⟩ (.string ((rd_T23 l0 x10_1).f1))).setCell ⟨gb181, 2, none⟩ (.string ((rd_T23 l0 x10_1).f2))).setCell ⟨gb181, 3, none⟩ (.string ((rd_T23 l0 x10_1).f3))).setCell ⟨gb181, 4, none⟩ (.int .i64 ((rd_T23 l0 x10_1).f4))).setCell ⟨gb181, 5, none⟩ (.int .i64 ((rd_T23 l0 x10_1).f5))).setCell ⟨gb181, 6, none⟩ (.bool ((rd_T23 l0 x10_1).f6))).setCell ⟨gb181, 7, none⟩ (.int .i64 ((rd_T23 l0 x10_1).f7))).setCell ⟨gb181, 8, none⟩ (.bool ((rd_T23 l0 x10_1).f8))) = w23 at n0_ n1_ n2_ ⊢
           have BK179 := n0_
           have BK181 := n1_
           have HB := n2_
           clear n0_ n1_ n2_
           have n0_ := Aside0.mk (blk_drew BK179.out)
           have n1_ := Aside0.mk (blk_drew BK181.out)
           have n2_ := Aside0.mk (below_drew1 HB.out)
           clear BK179
           clear BK181
           clear HB
           have BK179 := n0_
           have BK181 := n1_
           have HB := n2_
           clear n0_ n1_ n2_
           have p183 : 0 ≤ (x5_1 : Int) := of_decide_eq_true Z101
           have q183 : x5_1 < (l0.length : Int) := of_decide_eq_true Z101
           obtain ⟨ad183, e183, hx183_0, hx183_1, hx183_2, hx183_3, hx183_4, hx183_5, hx183_6, hx183_7, hx183_8⟩ := at_T23 HR0.out x5_1 p183 q183
           have hw183_8 := hx183_8
           have hw183_7 := hx183_7
           have hw183_6 := hx183_6
           have hw183_5 := hx183_5
           have hw183_4 := hx183_4
           have hw183_3 := hx183_3
           have hw183_2 := hx183_2
           have hw183_1 := hx183_1
           have hw183_0 := hx183_0
           obtain rfl : ad180 = ad183 := (by injection e183)
           replace hx183_0 := (HB.out.cell (World.block_lt_of_cell? w _ hx183_0)).trans hx183_0
           replace hx183_1 := (HB.out.cell (World.block_lt_of_cell? w _ hx183_1)).trans hx183_1
           replace hx183_2 := (HB.out.cell (World.block_lt_of_cell? w _ hx183_2)).trans hx183_2
           replace hx183_3 := (HB.out.cell (World.block_lt_of_cell? w _ hx183_3)).trans hx183_3
           replace hx183_4 := (HB.out.cell (World.block_lt_of_cell? w _ hx183_4)).trans hx183_4
           replace hx183_5 := (HB.out.cell (World.block_lt_of_cell? w _ hx183_5)).trans hx183_5
           replace hx183_6 := (HB.out.cell (World.block_lt_of_cell? w _ hx183_6)).trans hx183_6
           replace hx183_7 := (HB.out.cell (World.block_lt_of_cell? w _ hx183_7)).trans hx183_7
           replace hx183_8 := (HB.out.cell (World.block_lt_of_cell? w _ hx183_8)).trans hx183_8
           replace p183 := eq_true p183
           replace q183 := eq_true q183
           refine start_ (n := 16) (S := fun w' => w'.cell? ⟨gb181, 0, none⟩ = some (.string ((rd_T23 l0 x10_1).f0)) ∧ w'.cell? ⟨gb181, 1, none⟩ = some (.string ((rd_T23 l0 x10_1).f1)) ∧ w'.cell? ⟨gb181, 2, none⟩ = some (.string ((rd_T23 l0 x10_1).f2)) ∧ w'.cell? ⟨gb181, 3, none⟩ = some (.string ((rd_T23 l0 x10_1).f3)) ∧ w'.cell? ⟨gb181, 4, none⟩ = some (.int .i64 ((rd_T23 l0 x10_1).f4)) ∧ w'.cell? ⟨gb181, 5, none⟩ = some (.int .i64 ((rd_T23 l0 x10_1).f5)) ∧ w'.cell? ⟨gb181, 6, none⟩ = some (.bool ((rd_T23 l0 x10_1).f6)) ∧ w'.cell? ⟨gb181, 7, none⟩ = some (.int .i64 ((rd_T23 l0 x10_1).f7)) ∧ w'.cell? ⟨gb181, 8, none⟩ = some (.bool ((rd_T23 l0 x10_1).f8)) ∧ w'.cell? ⟨gb179, 0, none⟩ = some (.string a1_0) ∧ w'.cell? ⟨gb179, 1, none⟩ = some (.string a1_1) ∧ w'.cell? ⟨gb179, 2, none⟩ = some (.string a1_2) ∧ w'.cell? ⟨gb179, 3, none⟩ = some (.string a1_3) ∧ w'.cell? ⟨gb179, 4, none⟩ = some (.int .i64 a1_4) ∧ w'.cell? ⟨gb179, 5, none⟩ = some (.bool a1_5) ∧ w'.cell? (ad180.add ((x5_1).toNat * 9)) = some (.string ((rd_T23 l0 x5_1).f0)) ∧ w'.cell? ⟨(ad180.add ((x5_1).toNat * 9)).block, (ad180.add ((x5_1).toNat * 9)).off + 1, none⟩ = some (.string ((rd_T23 l0 x5_1).f1)) ∧ w'.cell? ⟨(ad180.add ((x5_1).toNat * 9)).block, (ad180.add ((x5_1).toNat * 9)).off + 2, none⟩ = some (.string ((rd_T23 l0 x5_1).f2)) ∧ w'.cell? ⟨(ad180.add ((x5_1).toNat * 9)).block, (ad180.add ((x5_1).toNat * 9)).off + 3, none⟩ = some (.string ((rd_T23 l0 x5_1).f3)) ∧ w'.cell? ⟨(ad180.add ((x5_1).toNat * 9)).block, (ad180.add ((x5_1).toNat * 9)).off + 4, none⟩ = some (.int .i64 ((rd_T23 l0 x5_1).f4)) ∧ w'.cell? ⟨(ad180.add ((x5_1).toNat * 9)).block, (ad180.add ((x5_1).toNat * 9)).off + 5, none⟩ = some (.int .i64 ((rd_T23 l0 x5_1).f5)) ∧ w'.cell? ⟨(ad180.add ((x5_1).toNat * 9)).block, (ad180.add ((x5_1).toNat * 9)).off + 6, none⟩ = some (.bool ((rd_T23 l0 x5_1).f6)) ∧ w'.cell? ⟨(ad180.add ((x5_1).toNat * 9)).block, (ad180.add ((x5_1).toNat * 9)).off + 7, none⟩ = some (.int .i64 ((rd_T23 l0 x5_1).f7)) ∧ w'.cell? ⟨(ad180.add ((x5_1).toNat * 9)).block, (ad180.add ((x5_1).toNat * 9)).off + 8, none⟩ = some (.bool ((rd_T23 l0 x5_1).f8))) (ds := []) #[false, false, false, false, false, false, false, false, false, false, false, false, false, false, false, false] (by kernel_rfl) rfl rfl ⟨(blk_cell BK181.out 0).trans rfl, (blk_cell BK181.out 1).trans rfl, (blk_cell BK181.out 2).trans rfl, (blk_cell BK181.out 3).trans rfl, (blk_cell BK181.out 4).trans rfl, (blk_cell BK181.out 5).trans rfl, (blk_cell BK181.out 6).trans rfl, (blk_cell BK181.out 7).trans rfl, (blk_cell BK181.out 8).trans rfl, (blk_cell BK179.out 0).trans rfl, (blk_cell BK179.out 1).trans rfl, (blk_cell BK179.out 2).trans rfl, (blk_cell BK179.out 3).trans rfl, (blk_cell BK179.out 4).trans rfl, (blk_cell BK179.out 5).trans rfl, ((HB.out.cell (World.block_lt_of_cell? w _ hw183_0)).trans hw183_0), ((HB.out.cell (World.block_lt_of_cell? w _ hw183_1)).trans hw183_1), ((HB.out.cell (World.block_lt_of_cell? w _ hw183_2)).trans hw183_2), ((HB.out.cell (World.block_lt_of_cell? w _ hw183_3)).trans hw183_3), ((HB.out.cell (World.block_lt_of_cell? w _ hw183_4)).trans hw183_4), ((HB.out.cell (World.block_lt_of_cell? w _ hw183_5)).trans hw183_5), ((HB.out.cell (World.block_lt_of_cell? w _ hw183_6)).trans hw183_6), ((HB.out.cell (World.block_lt_of_cell? w _ hw183_7)).trans hw183_7), ((HB.out.cell (World.block_lt_of_cell? w _ hw183_8)).trans hw183_8)⟩ (fun hHeld => ?_); refine with_tabW partner_find.tab5 partner_find.bits5 (fun HT_ HW_ => ?_)
           generalize w23.drew = w24 at BK179 BK181 HB hx183_0 hx183_1 hx183_2 hx183_3 hx183_4 hx183_5 hx183_6 hx183_7 hx183_8 hHeld ⊢
           refine take_ (i := 0) (N := some 15) (v := ?_) (a' := ?_) #[true, false, false, false, false, false, false, false, false, false, false, false, false, false, false, false] rfl rfl (take_ofW HT_.out HW_.out (by kernel_rfl)) (fun _ _ _ h => h) (Or.inl ⟨by rfl, ?_⟩) hHeld ?_ ?_
           rotate_left
           ·rintro w' ⟨s0, s1, s2, s3, s4, s5, s6, s7, s8, s9, s10, s11, s12, s13, s14, s15, s16, s17, s18, s19, s20, s21, s22, s23⟩
            go_simp
            with_reducible rfl
           rotate_left
           ·simp only [Act.put, List.setIfInBounds_toArray, List.set_cons_zero, List.set_cons_succ, i64_w, i32_w]
            rfl
           refine take_ (i := 1) (N := some 16) (v := ?_) (a' := ?_) #[true, true, false, false, false, false, false, false, false, false, false, false, false, false, false, false] rfl rfl (take_ofW HT_.out HW_.out (by kernel_rfl)) (fun _ _ _ h => h) (Or.inl ⟨by rfl, ?_⟩) hHeld ?_ ?_
           rotate_left
           ·rintro w' ⟨s0, s1, s2, s3, s4, s5, s6, s7, s8, s9, s10, s11, s12, s13, s14, s15, s16, s17, s18, s19, s20, s21, s22, s23⟩
            go_simp
            with_reducible rfl
           rotate_left
           ·simp only [Act.put, List.setIfInBounds_toArray, List.set_cons_zero, List.set_cons_succ, i64_w, i32_w]
            rfl
           refine one_ (i := 2) (N := some 17) #[true, true, true, false, false, false, false, false, false, false, false, false, false, false, false, false] rfl rfl (one_of HT_.out (by kernel_rfl)) (by decide) (fun K hK => ?_)
           refine goes_ Tryd.func57 (by kernel_rfl) rfl #[.agg #[.string ((rd_T23 l0 x10_1).f0), .string ((rd_T23 l0 x10_1).f1), .string ((rd_T23 l0 x10_1).f2), .string ((rd_T23 l0 x10_1).f3), .int .i64 ((rd_T23 l0 x10_1).f4), .int .i64 ((rd_T23 l0 x10_1).f5), .bool ((rd_T23 l0 x10_1).f6), .int .i64 ((rd_T23 l0 x10_1).f7), .bool ((rd_T23 l0 x10_1).f8)], .agg #[.string a1_0, .string a1_1, .string a1_2, .string a1_3, .int .i64 a1_4, .bool a1_5]] (by rfl) rfl rfl Z45 ?_
           with_reducible refine (partner_applies.calls ((rd_T23 l0 x10_1).f0) ((rd_T23 l0 x10_1).f1) ((rd_T23 l0 x10_1).f2) ((rd_T23 l0 x10_1).f3) ((rd_T23 l0 x10_1).f4) ((rd_T23 l0 x10_1).f5) ((rd_T23 l0 x10_1).f6) ((rd_T23 l0 x10_1).f7) ((rd_T23 l0 x10_1).f8) a1_0 a1_1 a1_2 a1_3 a1_4 a1_5 true _ A7.out).mono ?_
           rintro e w25 ⟨rfl, hb⟩
           refine ⟨_, rfl, ?_⟩
           have n0_ := Aside0.mk (blk_below (g := gb179) (o := .cells #[.string a1_0, .string a1_1, .string a1_2, .string a1_3, .int .i64 a1_4, .bool a1_5] 37 (0, 0)) Z84 hb)
           have n1_ := Aside0.mk (blk_below (g := gb181) (o := .cells #[.string ((rd_T23 l0 x10_1).f0), .string ((rd_T23 l0 x10_1).f1), .string ((rd_T23 l0 x10_1).f2), .string ((rd_T23 l0 x10_1).f3), .int .i64 ((rd_T23 l0 x10_1).f4), .int .i64 ((rd_T23 l0 x10_1).f5), .bool ((rd_T23 l0 x10_1).f6), .int .i64 ((rd_T23 l0 x10_1).f7), .bool ((rd_T23 l0 x10_1).f8)] 23 (0, 0)) Z85 hb)
           have n2_ := Aside0.mk (below_step Z42 hb)
           clear BK179
           clear BK181
           clear HB
           have BK179 := n0_
           have BK181 := n1_
           have HB := n2_
           clear n0_ n1_ n2_
           (try clear hb)
           (try clear hb2)
           (try clear hk)
           (try clear hi)
           refine hK.out _ _ ⟨(blk_cell BK181.out 0).trans rfl, (blk_cell BK181.out 1).trans rfl, (blk_cell BK181.out 2).trans rfl, (blk_cell BK181.out 3).trans rfl, (blk_cell BK181.out 4).trans rfl, (blk_cell BK181.out 5).trans rfl, (blk_cell BK181.out 6).trans rfl, (blk_cell BK181.out 7).trans rfl, (blk_cell BK181.out 8).trans rfl, (blk_cell BK179.out 0).trans rfl, (blk_cell BK179.out 1).trans rfl, (blk_cell BK179.out 2).trans rfl, (blk_cell BK179.out 3).trans rfl, (blk_cell BK179.out 4).trans rfl, (blk_cell BK179.out 5).trans rfl, ((HB.out.cell (World.block_lt_of_cell? w _ hw183_0)).trans hw183_0), ((HB.out.cell (World.block_lt_of_cell? w _ hw183_1)).trans hw183_1), ((HB.out.cell (World.block_lt_of_cell? w _ hw183_2)).trans hw183_2), ((HB.out.cell (World.block_lt_of_cell? w _ hw183_3)).trans hw183_3), ((HB.out.cell (World.block_lt_of_cell? w _ hw183_4)).trans hw183_4), ((HB.out.cell (World.block_lt_of_cell? w _ hw183_5)).trans hw183_5), ((HB.out.cell (World.block_lt_of_cell? w _ hw183_6)).trans hw183_6), ((HB.out.cell (World.block_lt_of_cell? w _ hw183_7)).trans hw183_7), ((HB.out.cell (World.block_lt_of_cell? w _ hw183_8)).trans hw183_8)⟩ (fun hHeld => ?_)
           clear hK K
           refine norm_ (a' := ?_) ?_ ?_
           rotate_left
           ·show Act.put _ (some 17) _ = _
            simp only [Act.put, List.setIfInBounds_toArray, List.set_cons_zero, List.set_cons_succ, i64_w, i32_w]
            rfl
           refine pure_ (i := 3) (N := some 18) (v := ?_) (a' := ?_) #[true, true, true, true, false, false, false, false, false, false, false, false, false, false, false, false] rfl rfl (any_of HT_.out (by kernel_rfl)) (fun _ _ _ h => h) (Or.inl ⟨by rfl, ?_⟩) ?_ ?_
           rotate_left
           ·intro w'
            go_simp
            with_reducible rfl
           rotate_left
           ·simp only [Act.put, List.setIfInBounds_toArray, List.set_cons_zero, List.set_cons_succ, i64_w, i32_w]
            rfl
           refine pure_ (i := 4) (N := some 19) (v := ?_) (a' := ?_) #[true, true, true, true, true, false, false, false, false, false, false, false, false, false, false, false] rfl rfl (any_of HT_.out (by kernel_rfl)) (fun _ _ _ h => h) (Or.inl ⟨by rfl, ?_⟩) ?_ ?_
           rotate_left
           ·intro w'
            go_simp
            with_reducible rfl
           rotate_left
           ·simp only [Act.put, List.setIfInBounds_toArray, List.set_cons_zero, List.set_cons_succ, i64_w, i32_w]
            rfl
           refine pure_ (i := 5) (N := some 20) (v := ?_) (a' := ?_) #[true, true, true, true, true, true, false, false, false, false, false, false, false, false, false, false] rfl rfl (any_of HT_.out (by kernel_rfl)) (fun _ _ _ h => h) (Or.inl ⟨by rfl, ?_⟩) ?_ ?_
           rotate_left
           ·intro w'
            go_simp
            with_reducible rfl
           rotate_left
           ·simp only [Act.put, List.setIfInBounds_toArray, List.set_cons_zero, List.set_cons_succ, i64_w, i32_w]
            rfl
           refine pure_ (i := 6) (N := some 21) (v := ?_) (a' := ?_) #[true, true, true, true, true, true, true, false, false, false, false, false, false, false, false, false] rfl rfl (any_of HT_.out (by kernel_rfl)) (fun _ _ _ h => h) (Or.inl ⟨by rfl, ?_⟩) ?_ ?_
           rotate_left
           ·intro w'
            go_simp
            with_reducible rfl
           rotate_left
           ·simp only [Act.put, List.setIfInBounds_toArray, List.set_cons_zero, List.set_cons_succ, i64_w, i32_w]
            rfl
           refine pure_ (i := 8) (N := some 23) (v := ?_) (a' := ?_) #[true, true, true, true, true, true, true, false, true, false, false, false, false, false, false, false] rfl rfl (any_of HT_.out (by kernel_rfl)) (fun _ _ _ h => h) (Or.inl ⟨by rfl, ?_⟩) ?_ ?_
           rotate_left
           ·intro w'
            go_simp
            with_reducible rfl
           rotate_left
           ·simp only [Act.put, List.setIfInBounds_toArray, List.set_cons_zero, List.set_cons_succ, i64_w, i32_w]
            rfl
           refine pure_ (i := 9) (N := some 24) (v := ?_) (a' := ?_) #[true, true, true, true, true, true, true, false, true, true, false, false, false, false, false, false] rfl rfl (any_of HT_.out (by kernel_rfl)) (fun _ _ _ h => h) (Or.inl ⟨by rfl, ?_⟩) ?_ ?_
           rotate_left
           ·intro w'
            go_simp
            with_reducible rfl
           rotate_left
           ·simp only [Act.put, List.setIfInBounds_toArray, List.set_cons_zero, List.set_cons_succ, i64_w, i32_w]
            rfl
           refine pure_ (i := 10) (N := some 25) (v := ?_) (a' := ?_) #[true, true, true, true, true, true, true, false, true, true, true, false, false, false, false, false] rfl rfl (any_of HT_.out (by kernel_rfl)) (fun _ _ _ h => h) (Or.inl ⟨by rfl, ?_⟩) ?_ ?_
           rotate_left
           ·intro w'
            go_simp
            with_reducible rfl
           rotate_left
           ·simp only [Act.put, List.setIfInBounds_toArray, List.set_cons_zero, List.set_cons_succ, i64_w, i32_w]
            rfl
           refine take_ (i := 7) (N := some 22) (v := ?_) (a' := ?_) #[true, true, true, true, true, true, true, true, true, true, true, false, false, false, false, false] rfl rfl (take_ofW HT_.out HW_.out (by kernel_rfl)) (fun _ _ _ h => h) (Or.inl ⟨by rfl, ?_⟩) hHeld ?_ ?_
           rotate_left
           ·rintro w' ⟨s0, s1, s2, s3, s4, s5, s6, s7, s8, s9, s10, s11, s12, s13, s14, s15, s16, s17, s18, s19, s20, s21, s22, s23⟩
            go_simp
            with_reducible rfl
           rotate_left
           ·simp only [Act.put, List.setIfInBounds_toArray, List.set_cons_zero, List.set_cons_succ, i64_w, i32_w]
            rfl
           refine take_ (i := 11) (N := some 26) (v := ?_) (a' := ?_) #[true, true, true, true, true, true, true, true, true, true, true, true, false, false, false, false] rfl rfl (take_ofW HT_.out HW_.out (by kernel_rfl)) (fun _ _ _ h => h) (Or.inl ⟨by rfl, ?_⟩) hHeld ?_ ?_
           rotate_left
           ·rintro w' ⟨s0, s1, s2, s3, s4, s5, s6, s7, s8, s9, s10, s11, s12, s13, s14, s15, s16, s17, s18, s19, s20, s21, s22, s23⟩
            go_simp
            with_reducible rfl
           rotate_left
           ·simp only [Act.put, List.setIfInBounds_toArray, List.set_cons_zero, List.set_cons_succ, i64_w, i32_w]
            rfl
           refine one_ (i := 12) (N := some 27) #[true, true, true, true, true, true, true, true, true, true, true, true, true, false, false, false] rfl rfl (one_of HT_.out (by kernel_rfl)) (by decide) (fun K hK => ?_)
           refine goes_ Tryd.func44 (by kernel_rfl) rfl #[.agg #[.string ((rd_T23 l0 x10_1).f0), .string ((rd_T23 l0 x10_1).f1), .string ((rd_T23 l0 x10_1).f2), .string ((rd_T23 l0 x10_1).f3), .int .i64 ((rd_T23 l0 x10_1).f4), .int .i64 ((rd_T23 l0 x10_1).f5), .bool ((rd_T23 l0 x10_1).f6), .int .i64 ((rd_T23 l0 x10_1).f7), .bool ((rd_T23 l0 x10_1).f8)], .agg #[.string ((rd_T23 l0 x5_1).f0), .string ((rd_T23 l0 x5_1).f1), .string ((rd_T23 l0 x5_1).f2), .string ((rd_T23 l0 x5_1).f3), .int .i64 ((rd_T23 l0 x5_1).f4), .int .i64 ((rd_T23 l0 x5_1).f5), .bool ((rd_T23 l0 x5_1).f6), .int .i64 ((rd_T23 l0 x5_1).f7), .bool ((rd_T23 l0 x5_1).f8)]] (by rfl) rfl rfl Z45 ?_
           with_reducible refine (partner_better.calls k1 ((rd_T23 l0 x10_1).f0) ((rd_T23 l0 x10_1).f1) ((rd_T23 l0 x10_1).f2) ((rd_T23 l0 x10_1).f3) ((rd_T23 l0 x10_1).f4) ((rd_T23 l0 x10_1).f5) ((rd_T23 l0 x10_1).f6) ((rd_T23 l0 x10_1).f7) ((rd_T23 l0 x10_1).f8) ((rd_T23 l0 x5_1).f0) ((rd_T23 l0 x5_1).f1) ((rd_T23 l0 x5_1).f2) ((rd_T23 l0 x5_1).f3) ((rd_T23 l0 x5_1).f4) ((rd_T23 l0 x5_1).f5) ((rd_T23 l0 x5_1).f6) ((rd_T23 l0 x5_1).f7) ((rd_T23 l0 x5_1).f8) t184 _ A18.out).mono ?_
           rintro e w26 ⟨rfl, hb⟩
           refine ⟨_, rfl, ?_⟩
           have n0_ := Aside0.mk (blk_below (g := gb179) (o := .cells #[.string a1_0, .string a1_1, .string a1_2, .string a1_3, .int .i64 a1_4, .bool a1_5] 37 (0, 0)) Z84 hb)
           have n1_ := Aside0.mk (blk_below (g := gb181) (o := .cells #[.string ((rd_T23 l0 x10_1).f0), .string ((rd_T23 l0 x10_1).f1), .string ((rd_T23 l0 x10_1).f2), .string ((rd_T23 l0 x10_1).f3), .int .i64 ((rd_T23 l0 x10_1).f4), .int .i64 ((rd_T23 l0 x10_1).f5), .bool ((rd_T23 l0 x10_1).f6), .int .i64 ((rd_T23 l0 x10_1).f7), .bool ((rd_T23 l0 x10_1).f8)] 23 (0, 0)) Z85 hb)
           have n2_ := Aside0.mk (below_step Z42 hb)
           clear BK179
           clear BK181
           clear HB
           have BK179 := n0_
           have BK181 := n1_
           have HB := n2_
           clear n0_ n1_ n2_
           (try clear hb)
           (try clear hb2)
           (try clear hk)
           (try clear hi)
           refine hK.out _ _ ⟨(blk_cell BK181.out 0).trans rfl, (blk_cell BK181.out 1).trans rfl, (blk_cell BK181.out 2).trans rfl, (blk_cell BK181.out 3).trans rfl, (blk_cell BK181.out 4).trans rfl, (blk_cell BK181.out 5).trans rfl, (blk_cell BK181.out 6).trans rfl, (blk_cell BK181.out 7).trans rfl, (blk_cell BK181.out 8).trans rfl, (blk_cell BK179.out 0).trans rfl, (blk_cell BK179.out 1).trans rfl, (blk_cell BK179.out 2).trans rfl, (blk_cell BK179.out 3).trans rfl, (blk_cell BK179.out 4).trans rfl, (blk_cell BK179.out 5).trans rfl, ((HB.out.cell (World.block_lt_of_cell? w _ hw183_0)).trans hw183_0), ((HB.out.cell (World.block_lt_of_cell? w _ hw183_1)).trans hw183_1), ((HB.out.cell (World.block_lt_of_cell? w _ hw183_2)).trans hw183_2), ((HB.out.cell (World.block_lt_of_cell? w _ hw183_3)).trans hw183_3), ((HB.out.cell (World.block_lt_of_cell? w _ hw183_4)).trans hw183_4), ((HB.out.cell (World.block_lt_of_cell? w _ hw183_5)).trans hw183_5), ((HB.out.cell (World.block_lt_of_cell? w _ hw183_6)).trans hw183_6), ((HB.out.cell (World.block_lt_of_cell? w _ hw183_7)).trans hw183_7), ((HB.out.cell (World.block_lt_of_cell? w _ hw183_8)).trans hw183_8)⟩ (fun hHeld => ?_)
           clear hK K
           refine norm_ (a' := ?_) ?_ ?_
           rotate_left
           ·show Act.put _ (some 27) _ = _
            simp only [Act.put, List.setIfInBounds_toArray, List.set_cons_zero, List.set_cons_succ, i64_w, i32_w]
            rfl
           refine pure_ (i := 13) (N := some 28) (v := ?_) (a' := ?_) #[true, true, true, true, true, true, true, true, true, true, true, true, true, true, false, false] rfl rfl (any_of HT_.out (by kernel_rfl)) (fun _ _ _ h => h) (Or.inl ⟨by rfl, ?_⟩) ?_ ?_
           rotate_left
           ·intro w'
            go_simp
            with_reducible rfl
           rotate_left
           ·simp only [Act.put, List.setIfInBounds_toArray, List.set_cons_zero, List.set_cons_succ, i64_w, i32_w]
            rfl
           refine pure_ (i := 14) (N := some 29) (v := ?_) (a' := ?_) #[true, true, true, true, true, true, true, true, true, true, true, true, true, true, true, false] rfl rfl (any_of HT_.out (by kernel_rfl)) (fun _ _ _ h => h) (Or.inl ⟨by rfl, ?_⟩) ?_ ?_
           rotate_left
           ·intro w'
            go_simp
            with_reducible rfl
           rotate_left
           ·simp only [Act.put, List.setIfInBounds_toArray, List.set_cons_zero, List.set_cons_succ, i64_w, i32_w]
            rfl
           refine pure_ (i := 15) (N := some 30) (v := ?_) (a' := ?_) #[true, true, true, true, true, true, true, true, true, true, true, true, true, true, true, true] rfl rfl (any_of HT_.out (by kernel_rfl)) (fun _ _ _ h => h) (Or.inl ⟨by rfl, ?_⟩) ?_ ?_
           rotate_left
           ·intro w'
            go_simp
            with_reducible rfl
           rotate_left
           ·simp only [Act.put, List.setIfInBounds_toArray, List.set_cons_zero, List.set_cons_succ, i64_w, i32_w]
            rfl
           refine done_ (done_of HT_.out (by kernel_rfl)) ?_
           try go_wp2
           go_roundg k1
           case measure => have := HK1.out; omega
           case rel => exact ⟨(x10_1), (wrap64 (x10_1 + 1)), Z98, Z98, H', ⟨by have := HK1.out; omega⟩, ⟨Z84⟩, ⟨Z42⟩⟩
          ·rw [if_neg c19] at H
           have c19b0 : decide (t184 < 0) = false := decide_eq_false c19
           clear c19
           have H' := Aside0.mk H
           clear H
           have p180 : 0 ≤ (x10_1 : Int) := of_decide_eq_true Z101
           have q180 : x10_1 < (l0.length : Int) := of_decide_eq_true Z101
           obtain ⟨ad180, e180, hx180_0, hx180_1, hx180_2, hx180_3, hx180_4, hx180_5, hx180_6, hx180_7, hx180_8⟩ := at_T23 HR0.out x10_1 p180 q180
           cases e180
           replace hx180_0 := (HB.out.cell (World.block_lt_of_cell? w _ hx180_0)).trans hx180_0
           replace hx180_1 := (HB.out.cell (World.block_lt_of_cell? w _ hx180_1)).trans hx180_1
           replace hx180_2 := (HB.out.cell (World.block_lt_of_cell? w _ hx180_2)).trans hx180_2
           replace hx180_3 := (HB.out.cell (World.block_lt_of_cell? w _ hx180_3)).trans hx180_3
           replace hx180_4 := (HB.out.cell (World.block_lt_of_cell? w _ hx180_4)).trans hx180_4
           replace hx180_5 := (HB.out.cell (World.block_lt_of_cell? w _ hx180_5)).trans hx180_5
           replace hx180_6 := (HB.out.cell (World.block_lt_of_cell? w _ hx180_6)).trans hx180_6
           replace hx180_7 := (HB.out.cell (World.block_lt_of_cell? w _ hx180_7)).trans hx180_7
           replace hx180_8 := (HB.out.cell (World.block_lt_of_cell? w _ hx180_8)).trans hx180_8
           replace p180 := eq_true p180
           replace q180 := eq_true q180
           try go_wp2_with (first | ((with_reducible refine gate_dst (N := 7) rfl ?_); refine box_event ?hg (N := 7) ?hd (cs := #[.string (⟨#[]⟩ : ByteArray), .string (⟨#[]⟩ : ByteArray), .string (⟨#[]⟩ : ByteArray), .string (⟨#[]⟩ : ByteArray), .int .i64 0, .int .i64 0, .bool false, .int .i64 0, .bool false]) (t := 23) ?hr ?_; (case hd => rfl); (case hg => rfl); (case hr => exact Z103); intro gb181 hg w27 hbox hb; have n0_ := Aside0.mk (blk_below (g := gb179) (o := .cells #[.string a1_0, .string a1_1, .string a1_2, .string a1_3, .int .i64 a1_4, .bool a1_5] 37 (0, 0)) Z84 hb); have n1_ := Aside0.mk (below_step Z61 hb); have n2_ := Aside0.mk (hbox); have n3_ := Aside0.mk ((Z36 : w.heap.size ≤ gb181)); have n4_ := Aside0.mk ((Z36 : w.heap.size ≤ gb181)); have n5_ := Aside0.mk ((Z29 : gb179 ≠ gb181)); have n6_ := Aside0.mk ((Z30 : gb181 ≠ gb179)); clear BK179; clear HB; have BK179 := n0_; have HB := n1_; have BK181 := n2_; have GW181 := n3_; have GE181 := n4_; have NB179_181 := n5_; have NB181_179 := n6_; clear n0_ n1_ n2_ n3_ n4_ n5_ n6_; clear hb hbox hg; have hnb28 := NB181_179.out; have hnc28 := NB179_181.out; obtain ⟨hcz29_0, hcz29_1, hcz29_2, hcz29_3, hcz29_4, hcz29_5, hcz29_6, hcz29_7, hcz29_8, hfz29_0, hfz29_1, hfz29_2, hfz29_3, hfz29_4, hfz29_5, hfz29_6, hfz29_7, hfz29_8⟩ := bf9 BK181.out))
           have n0_ : Aside0 ((((((((((w27.setCell ⟨gb181, 0, none⟩ (.string ((rd_T23 l0 x10_1).f0))).setCell ⟨gb181, 1, none⟩ (.string ((rd_T23 l0 x10_1).f1))).setCell ⟨gb181, 2, none⟩ (.string ((rd_T23 l0 x10_1).f2))).setCell ⟨gb181, 3, none⟩ (.string ((rd_T23 l0 x10_1).f3))).setCell ⟨gb181, 4, none⟩ (.int .i64 ((rd_T23 l0 x10_1).f4))).setCell ⟨gb181, 5, none⟩ (.int .i64 ((rd_T23 l0 x10_1).f5))).setCell ⟨gb181, 6, none⟩ (.bool ((rd_T23 l0 x10_1).f6))).setCell ⟨gb181, 7, none⟩ (.int .i64 ((rd_T23 l0 x10_1).f7))).setCell ⟨gb181, 8, none⟩ (.bool ((rd_T23 l0 x10_1).f8))).heap[gb179]? = some (.cells #[.string a1_0, .string a1_1, .string a1_2, .string a1_3, .int .i64 a1_4, .bool a1_5] 37 (0, 0))) := ⟨Z4⟩
           have n1_ : Aside0 ((((((((((w27.setCell ⟨gb181, 0, none⟩ (.string ((rd_T23 l0 x10_1).f0))).setCell ⟨gb181, 1, none⟩ (.string ((rd_T23 l0 x10_1).f1))).setCell ⟨gb181, 2, none⟩ (.string ((rd_T23 l0 x10_1).f2))).setCell ⟨gb181, 3, none⟩ (.string ((rd_T23 l0 x10_1).f3))).setCell ⟨gb181, 4, none⟩ (.int .i64 ((rd_T23 l0 x10_1).f4))).setCell ⟨gb181, 5, none⟩ (.int .i64 ((rd_T23 l0 x10_1).f5))).setCell ⟨gb181, 6, none⟩ (.bool ((rd_T23 l0 x10_1).f6))).setCell ⟨gb181, 7, none⟩ (.int .i64 ((rd_T23 l0 x10_1).f7))).setCell ⟨gb181, 8, none⟩ (.bool ((rd_T23 l0 x10_1).f8))).heap[gb181]? = some (.cells #[.string ((rd_T23 l0 x10_1).f0), .string ((rd_T23 l0 x10_1).f1), .string ((rd_T23 l0 x10_1).f2), .string ((rd_T23 l0 x10_1).f3), .int .i64 ((rd_T23 l0 x10_1).f4), .int .i64 ((rd_T23 l0 x10_1).f5), .bool ((rd_T23 l0 x10_1).f6), .int .i64 ((rd_T23 l0 x10_1).f7), .bool ((rd_T23 l0 x10_1).f8)] 23 (0, 0))) := ⟨Z1⟩
           have n2_ : Aside0 (Below w.heap.size w (((((((((w27.setCell ⟨gb181, 0, none⟩ (.string ((rd_T23 l0 x10_1).f0))).setCell ⟨gb181, 1, none⟩ (.string ((rd_T23 l0 x10_1).f1))).setCell ⟨gb181, 2, none⟩ (.string ((rd_T23 l0 x10_1).f2))).setCell ⟨gb181, 3, none⟩ (.string ((rd_T23 l0 x10_1).f3))).setCell ⟨gb181, 4, none⟩ (.int .i64 ((rd_T23 l0 x10_1).f4))).setCell ⟨gb181, 5, none⟩ (.int .i64 ((rd_T23 l0 x10_1).f5))).setCell ⟨gb181, 6, none⟩ (.bool ((rd_T23 l0 x10_1).f6))).setCell ⟨gb181, 7, none⟩ (.int .i64 ((rd_T23 l0 x10_1).f7))).setCell ⟨gb181, 8, none⟩ (.bool ((rd_T23 l0 x10_1).f8)))) := ⟨Z42⟩
           (try clear BK179)
           (try clear BK181)
           (try clear HB)
           generalize (((((((((w27.setCell ⟨gb181, 0, none⟩ (.string ((rd_T23 l0 x10_1).f0))).setCell ⟨gb181, 1, none⟩ (.string ((rd_T23 l0 x10_1).f1))).setCell ⟨gb181, 2, none⟩ (.string ((rd_T23 l0 x10_1).f2))).setCell ⟨gb181, 3, none⟩ (.string ((rd_T23 l0 x10_1).f3))).setCell ⟨gb181, 4, none⟩ (.int .i64 ((rd_T23 l0 x10_1).f4))).setCell ⟨gb181, 5, none⟩ (.int .i64 ((rd_T23 l0 x10_1).f5))).setCell ⟨gb181, 6, none⟩ (.bool ((rd_T23 l0 x10_1).f6))).setCell ⟨gb181, 7, none⟩ (.int .i64 ((rd_T23 l0 x10_1).f7))).setCell ⟨gb181, 8, none⟩ (.bool ((rd_T23 l0 x10_1).f8))) = w30 at n0_ n1_ n2_ ⊢
           have BK179 := n0_
           have BK181 := n1_
           have HB := n2_
           clear n0_ n1_ n2_
           have n0_ := Aside0.mk (blk_drew BK179.out)
           have n1_ := Aside0.mk (blk_drew BK181.out)
           have n2_ := Aside0.mk (below_drew1 HB.out)
           clear BK179
           clear BK181
           clear HB
           have BK179 := n0_
           have BK181 := n1_
           have HB := n2_
           clear n0_ n1_ n2_
           have p183 : 0 ≤ (x5_1 : Int) := of_decide_eq_true Z101
           have q183 : x5_1 < (l0.length : Int) := of_decide_eq_true Z101
           obtain ⟨ad183, e183, hx183_0, hx183_1, hx183_2, hx183_3, hx183_4, hx183_5, hx183_6, hx183_7, hx183_8⟩ := at_T23 HR0.out x5_1 p183 q183
           have hw183_8 := hx183_8
           have hw183_7 := hx183_7
           have hw183_6 := hx183_6
           have hw183_5 := hx183_5
           have hw183_4 := hx183_4
           have hw183_3 := hx183_3
           have hw183_2 := hx183_2
           have hw183_1 := hx183_1
           have hw183_0 := hx183_0
           obtain rfl : ad180 = ad183 := (by injection e183)
           replace hx183_0 := (HB.out.cell (World.block_lt_of_cell? w _ hx183_0)).trans hx183_0
           replace hx183_1 := (HB.out.cell (World.block_lt_of_cell? w _ hx183_1)).trans hx183_1
           replace hx183_2 := (HB.out.cell (World.block_lt_of_cell? w _ hx183_2)).trans hx183_2
           replace hx183_3 := (HB.out.cell (World.block_lt_of_cell? w _ hx183_3)).trans hx183_3
           replace hx183_4 := (HB.out.cell (World.block_lt_of_cell? w _ hx183_4)).trans hx183_4
           replace hx183_5 := (HB.out.cell (World.block_lt_of_cell? w _ hx183_5)).trans hx183_5
           replace hx183_6 := (HB.out.cell (World.block_lt_of_cell? w _ hx183_6)).trans hx183_6
           replace hx183_7 := (HB.out.cell (World.block_lt_of_cell? w _ hx183_7)).trans hx183_7
           replace hx183_8 := (HB.out.cell (World.block_lt_of_cell? w _ hx183_8)).trans hx183_8
           replace p183 := eq_true p183
           replace q183 := eq_true q183
           refine start_ (n := 16) (S := fun w' => w'.cell? ⟨gb181, 0, none⟩ = some (.string ((rd_T23 l0 x10_1).f0)) ∧ w'.cell? ⟨gb181, 1, none⟩ = some (.string ((rd_T23 l0 x10_1).f1)) ∧ w'.cell? ⟨gb181, 2, none⟩ = some (.string ((rd_T23 l0 x10_1).f2)) ∧ w'.cell? ⟨gb181, 3, none⟩ = some (.string ((rd_T23 l0 x10_1).f3)) ∧ w'.cell? ⟨gb181, 4, none⟩ = some (.int .i64 ((rd_T23 l0 x10_1).f4)) ∧ w'.cell? ⟨gb181, 5, none⟩ = some (.int .i64 ((rd_T23 l0 x10_1).f5)) ∧ w'.cell? ⟨gb181, 6, none⟩ = some (.bool ((rd_T23 l0 x10_1).f6)) ∧ w'.cell? ⟨gb181, 7, none⟩ = some (.int .i64 ((rd_T23 l0 x10_1).f7)) ∧ w'.cell? ⟨gb181, 8, none⟩ = some (.bool ((rd_T23 l0 x10_1).f8)) ∧ w'.cell? ⟨gb179, 0, none⟩ = some (.string a1_0) ∧ w'.cell? ⟨gb179, 1, none⟩ = some (.string a1_1) ∧ w'.cell? ⟨gb179, 2, none⟩ = some (.string a1_2) ∧ w'.cell? ⟨gb179, 3, none⟩ = some (.string a1_3) ∧ w'.cell? ⟨gb179, 4, none⟩ = some (.int .i64 a1_4) ∧ w'.cell? ⟨gb179, 5, none⟩ = some (.bool a1_5) ∧ w'.cell? (ad180.add ((x5_1).toNat * 9)) = some (.string ((rd_T23 l0 x5_1).f0)) ∧ w'.cell? ⟨(ad180.add ((x5_1).toNat * 9)).block, (ad180.add ((x5_1).toNat * 9)).off + 1, none⟩ = some (.string ((rd_T23 l0 x5_1).f1)) ∧ w'.cell? ⟨(ad180.add ((x5_1).toNat * 9)).block, (ad180.add ((x5_1).toNat * 9)).off + 2, none⟩ = some (.string ((rd_T23 l0 x5_1).f2)) ∧ w'.cell? ⟨(ad180.add ((x5_1).toNat * 9)).block, (ad180.add ((x5_1).toNat * 9)).off + 3, none⟩ = some (.string ((rd_T23 l0 x5_1).f3)) ∧ w'.cell? ⟨(ad180.add ((x5_1).toNat * 9)).block, (ad180.add ((x5_1).toNat * 9)).off + 4, none⟩ = some (.int .i64 ((rd_T23 l0 x5_1).f4)) ∧ w'.cell? ⟨(ad180.add ((x5_1).toNat * 9)).block, (ad180.add ((x5_1).toNat * 9)).off + 5, none⟩ = some (.int .i64 ((rd_T23 l0 x5_1).f5)) ∧ w'.cell? ⟨(ad180.add ((x5_1).toNat * 9)).block, (ad180.add ((x5_1).toNat * 9)).off + 6, none⟩ = some (.bool ((rd_T23 l0 x5_1).f6)) ∧ w'.cell? ⟨(ad180.add ((x5_1).toNat * 9)).block, (ad180.add ((x5_1).toNat * 9)).off + 7, none⟩ = some (.int .i64 ((rd_T23 l0 x5_1).f7)) ∧ w'.cell? ⟨(ad180.add ((x5_1).toNat * 9)).block, (ad180.add ((x5_1).toNat * 9)).off + 8, none⟩ = some (.bool ((rd_T23 l0 x5_1).f8))) (ds := []) #[false, false, false, false, false, false, false, false, false, false, false, false, false, false, false, false] (by kernel_rfl) rfl rfl ⟨(blk_cell BK181.out 0).trans rfl, (blk_cell BK181.out 1).trans rfl, (blk_cell BK181.out 2).trans rfl, (blk_cell BK181.out 3).trans rfl, (blk_cell BK181.out 4).trans rfl, (blk_cell BK181.out 5).trans rfl, (blk_cell BK181.out 6).trans rfl, (blk_cell BK181.out 7).trans rfl, (blk_cell BK181.out 8).trans rfl, (blk_cell BK179.out 0).trans rfl, (blk_cell BK179.out 1).trans rfl, (blk_cell BK179.out 2).trans rfl, (blk_cell BK179.out 3).trans rfl, (blk_cell BK179.out 4).trans rfl, (blk_cell BK179.out 5).trans rfl, ((HB.out.cell (World.block_lt_of_cell? w _ hw183_0)).trans hw183_0), ((HB.out.cell (World.block_lt_of_cell? w _ hw183_1)).trans hw183_1), ((HB.out.cell (World.block_lt_of_cell? w _ hw183_2)).trans hw183_2), ((HB.out.cell (World.block_lt_of_cell? w _ hw183_3)).trans hw183_3), ((HB.out.cell (World.block_lt_of_cell? w _ hw183_4)).trans hw183_4), ((HB.out.cell (World.block_lt_of_cell? w _ hw183_5)).trans hw183_5), ((HB.out.cell (World.block_lt_of_cell? w _ hw183_6)).trans hw183_6), ((HB.out.cell (World.block_lt_of_cell? w _ hw183_7)).trans hw183_7), ((HB.out.cell (World.block_lt_of_cell? w _ hw183_8)).trans hw183_8)⟩ (fun hHeld => ?_); refine with_tabW partner_find.tab5 partner_find.bits5 (fun HT_ HW_ => ?_)
           generalize w30.drew = w31 at BK179 BK181 HB hx183_0 hx183_1 hx183_2 hx183_3 hx183_4 hx183_5 hx183_6 hx183_7 hx183_8 hHeld ⊢
           refine take_ (i := 0) (N := some 15) (v := ?_) (a' := ?_) #[true, false, false, false, false, false, false, false, false, false, false, false, false, false, false, false] rfl rfl (take_ofW HT_.out HW_.out (by kernel_rfl)) (fun _ _ _ h => h) (Or.inl ⟨by rfl, ?_⟩) hHeld ?_ ?_
           rotate_left
           ·rintro w' ⟨s0, s1, s2, s3, s4, s5, s6, s7, s8, s9, s10, s11, s12, s13, s14, s15, s16, s17, s18, s19, s20, s21, s22, s23⟩
            go_simp
            with_reducible rfl
           rotate_left
           ·simp only [Act.put, List.setIfInBounds_toArray, List.set_cons_zero, List.set_cons_succ, i64_w, i32_w]
            rfl
           refine take_ (i := 1) (N := some 16) (v := ?_) (a' := ?_) #[true, true, false, false, false, false, false, false, false, false, false, false, false, false, false, false] rfl rfl (take_ofW HT_.out HW_.out (by kernel_rfl)) (fun _ _ _ h => h) (Or.inl ⟨by rfl, ?_⟩) hHeld ?_ ?_
           rotate_left
           ·rintro w' ⟨s0, s1, s2, s3, s4, s5, s6, s7, s8, s9, s10, s11, s12, s13, s14, s15, s16, s17, s18, s19, s20, s21, s22, s23⟩
            go_simp
            with_reducible rfl
           rotate_left
           ·simp only [Act.put, List.setIfInBounds_toArray, List.set_cons_zero, List.set_cons_succ, i64_w, i32_w]
            rfl
           refine one_ (i := 2) (N := some 17) #[true, true, true, false, false, false, false, false, false, false, false, false, false, false, false, false] rfl rfl (one_of HT_.out (by kernel_rfl)) (by decide) (fun K hK => ?_)
           refine goes_ Tryd.func57 (by kernel_rfl) rfl #[.agg #[.string ((rd_T23 l0 x10_1).f0), .string ((rd_T23 l0 x10_1).f1), .string ((rd_T23 l0 x10_1).f2), .string ((rd_T23 l0 x10_1).f3), .int .i64 ((rd_T23 l0 x10_1).f4), .int .i64 ((rd_T23 l0 x10_1).f5), .bool ((rd_T23 l0 x10_1).f6), .int .i64 ((rd_T23 l0 x10_1).f7), .bool ((rd_T23 l0 x10_1).f8)], .agg #[.string a1_0, .string a1_1, .string a1_2, .string a1_3, .int .i64 a1_4, .bool a1_5]] (by rfl) rfl rfl Z45 ?_
           with_reducible refine (partner_applies.calls ((rd_T23 l0 x10_1).f0) ((rd_T23 l0 x10_1).f1) ((rd_T23 l0 x10_1).f2) ((rd_T23 l0 x10_1).f3) ((rd_T23 l0 x10_1).f4) ((rd_T23 l0 x10_1).f5) ((rd_T23 l0 x10_1).f6) ((rd_T23 l0 x10_1).f7) ((rd_T23 l0 x10_1).f8) a1_0 a1_1 a1_2 a1_3 a1_4 a1_5 true _ A7.out).mono ?_
           rintro e w32 ⟨rfl, hb⟩
           refine ⟨_, rfl, ?_⟩
           have n0_ := Aside0.mk (blk_below (g := gb179) (o := .cells #[.string a1_0, .string a1_1, .string a1_2, .string a1_3, .int .i64 a1_4, .bool a1_5] 37 (0, 0)) Z84 hb)
           have n1_ := Aside0.mk (blk_below (g := gb181) (o := .cells #[.string ((rd_T23 l0 x10_1).f0), .string ((rd_T23 l0 x10_1).f1), .string ((rd_T23 l0 x10_1).f2), .string ((rd_T23 l0 x10_1).f3), .int .i64 ((rd_T23 l0 x10_1).f4), .int .i64 ((rd_T23 l0 x10_1).f5), .bool ((rd_T23 l0 x10_1).f6), .int .i64 ((rd_T23 l0 x10_1).f7), .bool ((rd_T23 l0 x10_1).f8)] 23 (0, 0)) Z85 hb)
           have n2_ := Aside0.mk (below_step Z42 hb)
           clear BK179
           clear BK181
           clear HB
           have BK179 := n0_
           have BK181 := n1_
           have HB := n2_
           clear n0_ n1_ n2_
           (try clear hb)
           (try clear hb2)
           (try clear hk)
           (try clear hi)
           refine hK.out _ _ ⟨(blk_cell BK181.out 0).trans rfl, (blk_cell BK181.out 1).trans rfl, (blk_cell BK181.out 2).trans rfl, (blk_cell BK181.out 3).trans rfl, (blk_cell BK181.out 4).trans rfl, (blk_cell BK181.out 5).trans rfl, (blk_cell BK181.out 6).trans rfl, (blk_cell BK181.out 7).trans rfl, (blk_cell BK181.out 8).trans rfl, (blk_cell BK179.out 0).trans rfl, (blk_cell BK179.out 1).trans rfl, (blk_cell BK179.out 2).trans rfl, (blk_cell BK179.out 3).trans rfl, (blk_cell BK179.out 4).trans rfl, (blk_cell BK179.out 5).trans rfl, ((HB.out.cell (World.block_lt_of_cell? w _ hw183_0)).trans hw183_0), ((HB.out.cell (World.block_lt_of_cell? w _ hw183_1)).trans hw183_1), ((HB.out.cell (World.block_lt_of_cell? w _ hw183_2)).trans hw183_2), ((HB.out.cell (World.block_lt_of_cell? w _ hw183_3)).trans hw183_3), ((HB.out.cell (World.block_lt_of_cell? w _ hw183_4)).trans hw183_4), ((HB.out.cell (World.block_lt_of_cell? w _ hw183_5)).trans hw183_5), ((HB.out.cell (World.block_lt_of_cell? w _ hw183_6)).trans hw183_6), ((HB.out.cell (World.block_lt_of_cell? w _ hw183_7)).trans hw183_7), ((HB.out.cell (World.block_lt_of_cell? w _ hw183_8)).trans hw183_8)⟩ (fun hHeld => ?_)
           clear hK K
           refine norm_ (a' := ?_) ?_ ?_
           rotate_left
           ·show Act.put _ (some 17) _ = _
            simp only [Act.put, List.setIfInBounds_toArray, List.set_cons_zero, List.set_cons_succ, i64_w, i32_w]
            rfl
           refine pure_ (i := 3) (N := some 18) (v := ?_) (a' := ?_) #[true, true, true, true, false, false, false, false, false, false, false, false, false, false, false, false] rfl rfl (any_of HT_.out (by kernel_rfl)) (fun _ _ _ h => h) (Or.inl ⟨by rfl, ?_⟩) ?_ ?_
           rotate_left
           ·intro w'
            go_simp
            with_reducible rfl
           rotate_left
           ·simp only [Act.put, List.setIfInBounds_toArray, List.set_cons_zero, List.set_cons_succ, i64_w, i32_w]
            rfl
           refine pure_ (i := 4) (N := some 19) (v := ?_) (a' := ?_) #[true, true, true, true, true, false, false, false, false, false, false, false, false, false, false, false] rfl rfl (any_of HT_.out (by kernel_rfl)) (fun _ _ _ h => h) (Or.inl ⟨by rfl, ?_⟩) ?_ ?_
           rotate_left
           ·intro w'
            go_simp
            with_reducible rfl
           rotate_left
           ·simp only [Act.put, List.setIfInBounds_toArray, List.set_cons_zero, List.set_cons_succ, i64_w, i32_w]
            rfl
           refine pure_ (i := 5) (N := some 20) (v := ?_) (a' := ?_) #[true, true, true, true, true, true, false, false, false, false, false, false, false, false, false, false] rfl rfl (any_of HT_.out (by kernel_rfl)) (fun _ _ _ h => h) (Or.inl ⟨by rfl, ?_⟩) ?_ ?_
           rotate_left
           ·intro w'
            go_simp
            with_reducible rfl
           rotate_left
           ·simp only [Act.put, List.setIfInBounds_toArray, List.set_cons_zero, List.set_cons_succ, i64_w, i32_w]
            rfl
           refine pure_ (i := 6) (N := some 21) (v := ?_) (a' := ?_) #[true, true, true, true, true, true, true, false, false, false, false, false, false, false, false, false] rfl rfl (any_of HT_.out (by kernel_rfl)) (fun _ _ _ h => h) (Or.inl ⟨by rfl, ?_⟩) ?_ ?_
           rotate_left
           ·intro w'
            go_simp
            with_reducible rfl
           rotate_left
           ·simp only [Act.put, List.setIfInBounds_toArray, List.set_cons_zero, List.set_cons_succ, i64_w, i32_w]
            rfl
           refine pure_ (i := 8) (N := some 23) (v := ?_) (a' := ?_) #[true, true, true, true, true, true, true, false, true, false, false, false, false, false, false, false] rfl rfl (any_of HT_.out (by kernel_rfl)) (fun _ _ _ h => h) (Or.inl ⟨by rfl, ?_⟩) ?_ ?_
           rotate_left
           ·intro w'
            go_simp
            with_reducible rfl
           rotate_left
           ·simp only [Act.put, List.setIfInBounds_toArray, List.set_cons_zero, List.set_cons_succ, i64_w, i32_w]
            rfl
           refine pure_ (i := 9) (N := some 24) (v := ?_) (a' := ?_) #[true, true, true, true, true, true, true, false, true, true, false, false, false, false, false, false] rfl rfl (any_of HT_.out (by kernel_rfl)) (fun _ _ _ h => h) (Or.inl ⟨by rfl, ?_⟩) ?_ ?_
           rotate_left
           ·intro w'
            go_simp
            with_reducible rfl
           rotate_left
           ·simp only [Act.put, List.setIfInBounds_toArray, List.set_cons_zero, List.set_cons_succ, i64_w, i32_w]
            rfl
           refine pure_ (i := 10) (N := some 25) (v := ?_) (a' := ?_) #[true, true, true, true, true, true, true, false, true, true, true, false, false, false, false, false] rfl rfl (any_of HT_.out (by kernel_rfl)) (fun _ _ _ h => h) (Or.inl ⟨by rfl, ?_⟩) ?_ ?_
           rotate_left
           ·intro w'
            go_simp
            with_reducible rfl
           rotate_left
           ·simp only [Act.put, List.setIfInBounds_toArray, List.set_cons_zero, List.set_cons_succ, i64_w, i32_w]
            rfl
           refine take_ (i := 7) (N := some 22) (v := ?_) (a' := ?_) #[true, true, true, true, true, true, true, true, true, true, true, false, false, false, false, false] rfl rfl (take_ofW HT_.out HW_.out (by kernel_rfl)) (fun _ _ _ h => h) (Or.inl ⟨by rfl, ?_⟩) hHeld ?_ ?_
           rotate_left
           ·rintro w' ⟨s0, s1, s2, s3, s4, s5, s6, s7, s8, s9, s10, s11, s12, s13, s14, s15, s16, s17, s18, s19, s20, s21, s22, s23⟩
            go_simp
            with_reducible rfl
           rotate_left
           ·simp only [Act.put, List.setIfInBounds_toArray, List.set_cons_zero, List.set_cons_succ, i64_w, i32_w]
            rfl
           refine take_ (i := 11) (N := some 26) (v := ?_) (a' := ?_) #[true, true, true, true, true, true, true, true, true, true, true, true, false, false, false, false] rfl rfl (take_ofW HT_.out HW_.out (by kernel_rfl)) (fun _ _ _ h => h) (Or.inl ⟨by rfl, ?_⟩) hHeld ?_ ?_
           rotate_left
           ·rintro w' ⟨s0, s1, s2, s3, s4, s5, s6, s7, s8, s9, s10, s11, s12, s13, s14, s15, s16, s17, s18, s19, s20, s21, s22, s23⟩
            go_simp
            with_reducible rfl
           rotate_left
           ·simp only [Act.put, List.setIfInBounds_toArray, List.set_cons_zero, List.set_cons_succ, i64_w, i32_w]
            rfl
           refine one_ (i := 12) (N := some 27) #[true, true, true, true, true, true, true, true, true, true, true, true, true, false, false, false] rfl rfl (one_of HT_.out (by kernel_rfl)) (by decide) (fun K hK => ?_)
           refine goes_ Tryd.func44 (by kernel_rfl) rfl #[.agg #[.string ((rd_T23 l0 x10_1).f0), .string ((rd_T23 l0 x10_1).f1), .string ((rd_T23 l0 x10_1).f2), .string ((rd_T23 l0 x10_1).f3), .int .i64 ((rd_T23 l0 x10_1).f4), .int .i64 ((rd_T23 l0 x10_1).f5), .bool ((rd_T23 l0 x10_1).f6), .int .i64 ((rd_T23 l0 x10_1).f7), .bool ((rd_T23 l0 x10_1).f8)], .agg #[.string ((rd_T23 l0 x5_1).f0), .string ((rd_T23 l0 x5_1).f1), .string ((rd_T23 l0 x5_1).f2), .string ((rd_T23 l0 x5_1).f3), .int .i64 ((rd_T23 l0 x5_1).f4), .int .i64 ((rd_T23 l0 x5_1).f5), .bool ((rd_T23 l0 x5_1).f6), .int .i64 ((rd_T23 l0 x5_1).f7), .bool ((rd_T23 l0 x5_1).f8)]] (by rfl) rfl rfl Z45 ?_
           with_reducible refine (partner_better.calls k1 ((rd_T23 l0 x10_1).f0) ((rd_T23 l0 x10_1).f1) ((rd_T23 l0 x10_1).f2) ((rd_T23 l0 x10_1).f3) ((rd_T23 l0 x10_1).f4) ((rd_T23 l0 x10_1).f5) ((rd_T23 l0 x10_1).f6) ((rd_T23 l0 x10_1).f7) ((rd_T23 l0 x10_1).f8) ((rd_T23 l0 x5_1).f0) ((rd_T23 l0 x5_1).f1) ((rd_T23 l0 x5_1).f2) ((rd_T23 l0 x5_1).f3) ((rd_T23 l0 x5_1).f4) ((rd_T23 l0 x5_1).f5) ((rd_T23 l0 x5_1).f6) ((rd_T23 l0 x5_1).f7) ((rd_T23 l0 x5_1).f8) t184 _ A18.out).mono ?_
           rintro e w33 ⟨rfl, hb⟩
           refine ⟨_, rfl, ?_⟩
           have n0_ := Aside0.mk (blk_below (g := gb179) (o := .cells #[.string a1_0, .string a1_1, .string a1_2, .string a1_3, .int .i64 a1_4, .bool a1_5] 37 (0, 0)) Z84 hb)
           have n1_ := Aside0.mk (blk_below (g := gb181) (o := .cells #[.string ((rd_T23 l0 x10_1).f0), .string ((rd_T23 l0 x10_1).f1), .string ((rd_T23 l0 x10_1).f2), .string ((rd_T23 l0 x10_1).f3), .int .i64 ((rd_T23 l0 x10_1).f4), .int .i64 ((rd_T23 l0 x10_1).f5), .bool ((rd_T23 l0 x10_1).f6), .int .i64 ((rd_T23 l0 x10_1).f7), .bool ((rd_T23 l0 x10_1).f8)] 23 (0, 0)) Z85 hb)
           have n2_ := Aside0.mk (below_step Z42 hb)
           clear BK179
           clear BK181
           clear HB
           have BK179 := n0_
           have BK181 := n1_
           have HB := n2_
           clear n0_ n1_ n2_
           (try clear hb)
           (try clear hb2)
           (try clear hk)
           (try clear hi)
           refine hK.out _ _ ⟨(blk_cell BK181.out 0).trans rfl, (blk_cell BK181.out 1).trans rfl, (blk_cell BK181.out 2).trans rfl, (blk_cell BK181.out 3).trans rfl, (blk_cell BK181.out 4).trans rfl, (blk_cell BK181.out 5).trans rfl, (blk_cell BK181.out 6).trans rfl, (blk_cell BK181.out 7).trans rfl, (blk_cell BK181.out 8).trans rfl, (blk_cell BK179.out 0).trans rfl, (blk_cell BK179.out 1).trans rfl, (blk_cell BK179.out 2).trans rfl, (blk_cell BK179.out 3).trans rfl, (blk_cell BK179.out 4).trans rfl, (blk_cell BK179.out 5).trans rfl, ((HB.out.cell (World.block_lt_of_cell? w _ hw183_0)).trans hw183_0), ((HB.out.cell (World.block_lt_of_cell? w _ hw183_1)).trans hw183_1), ((HB.out.cell (World.block_lt_of_cell? w _ hw183_2)).trans hw183_2), ((HB.out.cell (World.block_lt_of_cell? w _ hw183_3)).trans hw183_3), ((HB.out.cell (World.block_lt_of_cell? w _ hw183_4)).trans hw183_4), ((HB.out.cell (World.block_lt_of_cell? w _ hw183_5)).trans hw183_5), ((HB.out.cell (World.block_lt_of_cell? w _ hw183_6)).trans hw183_6), ((HB.out.cell (World.block_lt_of_cell? w _ hw183_7)).trans hw183_7), ((HB.out.cell (World.block_lt_of_cell? w _ hw183_8)).trans hw183_8)⟩ (fun hHeld => ?_)
           clear hK K
           refine norm_ (a' := ?_) ?_ ?_
           rotate_left
           ·show Act.put _ (some 27) _ = _
            simp only [Act.put, List.setIfInBounds_toArray, List.set_cons_zero, List.set_cons_succ, i64_w, i32_w]
            rfl
           refine pure_ (i := 13) (N := some 28) (v := ?_) (a' := ?_) #[true, true, true, true, true, true, true, true, true, true, true, true, true, true, false, false] rfl rfl (any_of HT_.out (by kernel_rfl)) (fun _ _ _ h => h) (Or.inl ⟨by rfl, ?_⟩) ?_ ?_
           rotate_left
           ·intro w'
            go_simp
            with_reducible rfl
           rotate_left
           ·simp only [Act.put, List.setIfInBounds_toArray, List.set_cons_zero, List.set_cons_succ, i64_w, i32_w]
            rfl
           refine pure_ (i := 14) (N := some 29) (v := ?_) (a' := ?_) #[true, true, true, true, true, true, true, true, true, true, true, true, true, true, true, false] rfl rfl (any_of HT_.out (by kernel_rfl)) (fun _ _ _ h => h) (Or.inl ⟨by rfl, ?_⟩) ?_ ?_
           rotate_left
           ·intro w'
            go_simp
            with_reducible rfl
           rotate_left
           ·simp only [Act.put, List.setIfInBounds_toArray, List.set_cons_zero, List.set_cons_succ, i64_w, i32_w]
            rfl
           refine pure_ (i := 15) (N := some 30) (v := ?_) (a' := ?_) #[true, true, true, true, true, true, true, true, true, true, true, true, true, true, true, true] rfl rfl (any_of HT_.out (by kernel_rfl)) (fun _ _ _ h => h) (Or.inl ⟨by rfl, ?_⟩) ?_ ?_
           rotate_left
           ·intro w'
            go_simp
            with_reducible rfl
           rotate_left
           ·simp only [Act.put, List.setIfInBounds_toArray, List.set_cons_zero, List.set_cons_succ, i64_w, i32_w]
            rfl
           refine done_ (done_of HT_.out (by kernel_rfl)) ?_
           try go_wp2
           go_roundg k1
           case measure => have := HK1.out; omega
           case rel => exact ⟨(x5_1), (wrap64 (x10_1 + 1)), Z98, Z98, H', ⟨by have := HK1.out; omega⟩, ⟨Z84⟩, ⟨Z42⟩⟩
         ·rw [if_neg c17] at H
          exact absurd H (by simp)
        ·rw [if_neg c16] at H
         exact absurd H (by simp)
      ·replace c8 := Bool.eq_false_iff.mpr c8
       subst c8
       have H1 : (partner_find.l0 k1 l0 x5_1 l0 (l0.length : Int) (wrap64 (x10_1 + 1)) a1_0 a1_1 a1_2 a1_3 a1_4 a1_5) = some r := by rw [if_neg (show ¬ (false = true) by decide)] at H; exact H
       clear H
       have H := H1
       clear H1
       have H' := Aside0.mk H
       clear H
       have p180 : 0 ≤ (x10_1 : Int) := of_decide_eq_true Z101
       have q180 : x10_1 < (l0.length : Int) := of_decide_eq_true Z101
       obtain ⟨ad180, e180, hx180_0, hx180_1, hx180_2, hx180_3, hx180_4, hx180_5, hx180_6, hx180_7, hx180_8⟩ := at_T23 HR0.out x10_1 p180 q180
       cases e180
       replace hx180_0 := (HB.out.cell (World.block_lt_of_cell? w _ hx180_0)).trans hx180_0
       replace hx180_1 := (HB.out.cell (World.block_lt_of_cell? w _ hx180_1)).trans hx180_1
       replace hx180_2 := (HB.out.cell (World.block_lt_of_cell? w _ hx180_2)).trans hx180_2
       replace hx180_3 := (HB.out.cell (World.block_lt_of_cell? w _ hx180_3)).trans hx180_3
       replace hx180_4 := (HB.out.cell (World.block_lt_of_cell? w _ hx180_4)).trans hx180_4
       replace hx180_5 := (HB.out.cell (World.block_lt_of_cell? w _ hx180_5)).trans hx180_5
       replace hx180_6 := (HB.out.cell (World.block_lt_of_cell? w _ hx180_6)).trans hx180_6
       replace hx180_7 := (HB.out.cell (World.block_lt_of_cell? w _ hx180_7)).trans hx180_7
       replace hx180_8 := (HB.out.cell (World.block_lt_of_cell? w _ hx180_8)).trans hx180_8
       replace p180 := eq_true p180
       replace q180 := eq_true q180
       try go_wp2_with (first | ((with_reducible refine gate_dst (N := 7) rfl ?_); refine box_event ?hg (N := 7) ?hd (cs := #[.string (⟨#[]⟩ : ByteArray), .string (⟨#[]⟩ : ByteArray), .string (⟨#[]⟩ : ByteArray), .string (⟨#[]⟩ : ByteArray), .int .i64 0, .int .i64 0, .bool false, .int .i64 0, .bool false]) (t := 23) ?hr ?_; (case hd => rfl); (case hg => rfl); (case hr => exact Z103); intro gb181 hg w34 hbox hb; have n0_ := Aside0.mk (blk_below (g := gb179) (o := .cells #[.string a1_0, .string a1_1, .string a1_2, .string a1_3, .int .i64 a1_4, .bool a1_5] 37 (0, 0)) Z84 hb); have n1_ := Aside0.mk (below_step Z61 hb); have n2_ := Aside0.mk (hbox); have n3_ := Aside0.mk ((Z36 : w.heap.size ≤ gb181)); have n4_ := Aside0.mk ((Z36 : w.heap.size ≤ gb181)); have n5_ := Aside0.mk ((Z29 : gb179 ≠ gb181)); have n6_ := Aside0.mk ((Z30 : gb181 ≠ gb179)); clear BK179; clear HB; have BK179 := n0_; have HB := n1_; have BK181 := n2_; have GW181 := n3_; have GE181 := n4_; have NB179_181 := n5_; have NB181_179 := n6_; clear n0_ n1_ n2_ n3_ n4_ n5_ n6_; clear hb hbox hg; have hnb35 := NB181_179.out; have hnc35 := NB179_181.out; obtain ⟨hcz36_0, hcz36_1, hcz36_2, hcz36_3, hcz36_4, hcz36_5, hcz36_6, hcz36_7, hcz36_8, hfz36_0, hfz36_1, hfz36_2, hfz36_3, hfz36_4, hfz36_5, hfz36_6, hfz36_7, hfz36_8⟩ := bf9 BK181.out))
       have n0_ : Aside0 ((((((((((w34.setCell ⟨gb181, 0, none⟩ (.string ((rd_T23 l0 x10_1).f0))).setCell ⟨gb181, 1, none⟩ (.string ((rd_T23 l0 x10_1).f1))).setCell ⟨gb181, 2, none⟩ (.string ((rd_T23 l0 x10_1).f2))).setCell ⟨gb181, 3, none⟩ (.string ((rd_T23 l0 x10_1).f3))).setCell ⟨gb181, 4, none⟩ (.int .i64 ((rd_T23 l0 x10_1).f4))).setCell ⟨gb181, 5, none⟩ (.int .i64 ((rd_T23 l0 x10_1).f5))).setCell ⟨gb181, 6, none⟩ (.bool ((rd_T23 l0 x10_1).f6))).setCell ⟨gb181, 7, none⟩ (.int .i64 ((rd_T23 l0 x10_1).f7))).setCell ⟨gb181, 8, none⟩ (.bool ((rd_T23 l0 x10_1).f8))).heap[gb179]? = some (.cells #[.string a1_0, .string a1_1, .string a1_2, .string a1_3, .int .i64 a1_4, .bool a1_5] 37 (0, 0))) := ⟨Z4⟩
       have n1_ : Aside0 ((((((((((w34.setCell ⟨gb181, 0, none⟩ (.string ((rd_T23 l0 x10_1).f0))).setCell ⟨gb181, 1, none⟩ (.string ((rd_T23 l0 x10_1).f1))).setCell ⟨gb181, 2, none⟩ (.string ((rd_T23 l0 x10_1).f2))).setCell ⟨gb181, 3, none⟩ (.string ((rd_T23 l0 x10_1).f3))).setCell ⟨gb181, 4, none⟩ (.int .i64 ((rd_T23 l0 x10_1).f4))).setCell ⟨gb181, 5, none⟩ (.int .i64 ((rd_T23 l0 x10_1).f5))).setCell ⟨gb181, 6, none⟩ (.bool ((rd_T23 l0 x10_1).f6))).setCell ⟨gb181, 7, none⟩ (.int .i64 ((rd_T23 l0 x10_1).f7))).setCell ⟨gb181, 8, none⟩ (.bool ((rd_T23 l0 x10_1).f8))).heap[gb181]? = some (.cells #[.string ((rd_T23 l0 x10_1).f0), .string ((rd_T23 l0 x10_1).f1), .string ((rd_T23 l0 x10_1).f2), .string ((rd_T23 l0 x10_1).f3), .int .i64 ((rd_T23 l0 x10_1).f4), .int .i64 ((rd_T23 l0 x10_1).f5), .bool ((rd_T23 l0 x10_1).f6), .int .i64 ((rd_T23 l0 x10_1).f7), .bool ((rd_T23 l0 x10_1).f8)] 23 (0, 0))) := ⟨Z1⟩
       have n2_ : Aside0 (Below w.heap.size w (((((((((w34.setCell ⟨gb181, 0, none⟩ (.string ((rd_T23 l0 x10_1).f0))).setCell ⟨gb181, 1, none⟩ (.string ((rd_T23 l0 x10_1).f1))).setCell ⟨gb181, 2, none⟩ (.string ((rd_T23 l0 x10_1).f2))).setCell ⟨gb181, 3, none⟩ (.string ((rd_T23 l0 x10_1).f3))).setCell ⟨gb181, 4, none⟩ (.int .i64 ((rd_T23 l0 x10_1).f4))).setCell ⟨gb181, 5, none⟩ (.int .i64 ((rd_T23 l0 x10_1).f5))).setCell ⟨gb181, 6, none⟩ (.bool ((rd_T23 l0 x10_1).f6))).setCell ⟨gb181, 7, none⟩ (.int .i64 ((rd_T23 l0 x10_1).f7))).setCell ⟨gb181, 8, none⟩ (.bool ((rd_T23 l0 x10_1).f8)))) := ⟨Z42⟩
       (try clear BK179)
       (try clear BK181)
       (try clear HB)
       generalize (((((((((w34.setCell ⟨gb181, 0, none⟩ (.string ((rd_T23 l0 x10_1).f0))).setCell ⟨gb181, 1, none⟩ (.string ((rd_T23 l0 x10_1).f1))).setCell ⟨gb181, 2, none⟩ (.string ((rd_T23 l0 x10_1).f2))).setCell ⟨gb181, 3, none⟩ (.string ((rd_T23 l0 x10_1).f3))).setCell ⟨gb181, 4, none⟩ (.int .i64 ((rd_T23 l0 x10_1).f4))).setCell ⟨gb181, 5, none⟩ (.int .i64 ((rd_T23 l0 x10_1).f5))).setCell ⟨gb181, 6, none⟩ (.bool ((rd_T23 l0 x10_1).f6))).setCell ⟨gb181, 7, none⟩ (.int .i64 ((rd_T23 l0 x10_1).f7))).setCell ⟨gb181, 8, none⟩ (.bool ((rd_T23 l0 x10_1).f8))) = w37 at n0_ n1_ n2_ ⊢
       have BK179 := n0_
       have BK181 := n1_
       have HB := n2_
       clear n0_ n1_ n2_
       have n0_ := Aside0.mk (blk_drew BK179.out)
       have n1_ := Aside0.mk (blk_drew BK181.out)
       have n2_ := Aside0.mk (below_drew1 HB.out)
       clear BK179
       clear BK181
       clear HB
       have BK179 := n0_
       have BK181 := n1_
       have HB := n2_
       clear n0_ n1_ n2_
       refine start_ (n := 16) (S := fun w' => w'.cell? ⟨gb181, 0, none⟩ = some (.string ((rd_T23 l0 x10_1).f0)) ∧ w'.cell? ⟨gb181, 1, none⟩ = some (.string ((rd_T23 l0 x10_1).f1)) ∧ w'.cell? ⟨gb181, 2, none⟩ = some (.string ((rd_T23 l0 x10_1).f2)) ∧ w'.cell? ⟨gb181, 3, none⟩ = some (.string ((rd_T23 l0 x10_1).f3)) ∧ w'.cell? ⟨gb181, 4, none⟩ = some (.int .i64 ((rd_T23 l0 x10_1).f4)) ∧ w'.cell? ⟨gb181, 5, none⟩ = some (.int .i64 ((rd_T23 l0 x10_1).f5)) ∧ w'.cell? ⟨gb181, 6, none⟩ = some (.bool ((rd_T23 l0 x10_1).f6)) ∧ w'.cell? ⟨gb181, 7, none⟩ = some (.int .i64 ((rd_T23 l0 x10_1).f7)) ∧ w'.cell? ⟨gb181, 8, none⟩ = some (.bool ((rd_T23 l0 x10_1).f8)) ∧ w'.cell? ⟨gb179, 0, none⟩ = some (.string a1_0) ∧ w'.cell? ⟨gb179, 1, none⟩ = some (.string a1_1) ∧ w'.cell? ⟨gb179, 2, none⟩ = some (.string a1_2) ∧ w'.cell? ⟨gb179, 3, none⟩ = some (.string a1_3) ∧ w'.cell? ⟨gb179, 4, none⟩ = some (.int .i64 a1_4) ∧ w'.cell? ⟨gb179, 5, none⟩ = some (.bool a1_5)) (ds := []) #[false, false, false, false, false, false, false, false, false, false, false, false, false, false, false, false] (by kernel_rfl) rfl rfl ⟨(blk_cell BK181.out 0).trans rfl, (blk_cell BK181.out 1).trans rfl, (blk_cell BK181.out 2).trans rfl, (blk_cell BK181.out 3).trans rfl, (blk_cell BK181.out 4).trans rfl, (blk_cell BK181.out 5).trans rfl, (blk_cell BK181.out 6).trans rfl, (blk_cell BK181.out 7).trans rfl, (blk_cell BK181.out 8).trans rfl, (blk_cell BK179.out 0).trans rfl, (blk_cell BK179.out 1).trans rfl, (blk_cell BK179.out 2).trans rfl, (blk_cell BK179.out 3).trans rfl, (blk_cell BK179.out 4).trans rfl, (blk_cell BK179.out 5).trans rfl⟩ (fun hHeld => ?_); refine with_tabW partner_find.tab5 partner_find.bits5 (fun HT_ HW_ => ?_)
       generalize w37.drew = w38 at BK179 BK181 HB hHeld ⊢
       refine take_ (i := 0) (N := some 15) (v := ?_) (a' := ?_) #[true, false, false, false, false, false, false, false, false, false, false, false, false, false, false, false] rfl rfl (take_ofW HT_.out HW_.out (by kernel_rfl)) (fun _ _ _ h => h) (Or.inl ⟨by rfl, ?_⟩) hHeld ?_ ?_
       rotate_left
       ·rintro w' ⟨s0, s1, s2, s3, s4, s5, s6, s7, s8, s9, s10, s11, s12, s13, s14⟩
        go_simp
        with_reducible rfl
       rotate_left
       ·simp only [Act.put, List.setIfInBounds_toArray, List.set_cons_zero, List.set_cons_succ, i64_w, i32_w]
        rfl
       refine take_ (i := 1) (N := some 16) (v := ?_) (a' := ?_) #[true, true, false, false, false, false, false, false, false, false, false, false, false, false, false, false] rfl rfl (take_ofW HT_.out HW_.out (by kernel_rfl)) (fun _ _ _ h => h) (Or.inl ⟨by rfl, ?_⟩) hHeld ?_ ?_
       rotate_left
       ·rintro w' ⟨s0, s1, s2, s3, s4, s5, s6, s7, s8, s9, s10, s11, s12, s13, s14⟩
        go_simp
        with_reducible rfl
       rotate_left
       ·simp only [Act.put, List.setIfInBounds_toArray, List.set_cons_zero, List.set_cons_succ, i64_w, i32_w]
        rfl
       refine one_ (i := 2) (N := some 17) #[true, true, true, false, false, false, false, false, false, false, false, false, false, false, false, false] rfl rfl (one_of HT_.out (by kernel_rfl)) (by decide) (fun K hK => ?_)
       refine goes_ Tryd.func57 (by kernel_rfl) rfl #[.agg #[.string ((rd_T23 l0 x10_1).f0), .string ((rd_T23 l0 x10_1).f1), .string ((rd_T23 l0 x10_1).f2), .string ((rd_T23 l0 x10_1).f3), .int .i64 ((rd_T23 l0 x10_1).f4), .int .i64 ((rd_T23 l0 x10_1).f5), .bool ((rd_T23 l0 x10_1).f6), .int .i64 ((rd_T23 l0 x10_1).f7), .bool ((rd_T23 l0 x10_1).f8)], .agg #[.string a1_0, .string a1_1, .string a1_2, .string a1_3, .int .i64 a1_4, .bool a1_5]] (by rfl) rfl rfl Z45 ?_
       with_reducible refine (partner_applies.calls ((rd_T23 l0 x10_1).f0) ((rd_T23 l0 x10_1).f1) ((rd_T23 l0 x10_1).f2) ((rd_T23 l0 x10_1).f3) ((rd_T23 l0 x10_1).f4) ((rd_T23 l0 x10_1).f5) ((rd_T23 l0 x10_1).f6) ((rd_T23 l0 x10_1).f7) ((rd_T23 l0 x10_1).f8) a1_0 a1_1 a1_2 a1_3 a1_4 a1_5 false _ A7.out).mono ?_
       rintro e w39 ⟨rfl, hb⟩
       refine ⟨_, rfl, ?_⟩
       have n0_ := Aside0.mk (blk_below (g := gb179) (o := .cells #[.string a1_0, .string a1_1, .string a1_2, .string a1_3, .int .i64 a1_4, .bool a1_5] 37 (0, 0)) Z84 hb)
       have n1_ := Aside0.mk (blk_below (g := gb181) (o := .cells #[.string ((rd_T23 l0 x10_1).f0), .string ((rd_T23 l0 x10_1).f1), .string ((rd_T23 l0 x10_1).f2), .string ((rd_T23 l0 x10_1).f3), .int .i64 ((rd_T23 l0 x10_1).f4), .int .i64 ((rd_T23 l0 x10_1).f5), .bool ((rd_T23 l0 x10_1).f6), .int .i64 ((rd_T23 l0 x10_1).f7), .bool ((rd_T23 l0 x10_1).f8)] 23 (0, 0)) Z85 hb)
       have n2_ := Aside0.mk (below_step Z42 hb)
       clear BK179
       clear BK181
       clear HB
       have BK179 := n0_
       have BK181 := n1_
       have HB := n2_
       clear n0_ n1_ n2_
       (try clear hb)
       (try clear hb2)
       (try clear hk)
       (try clear hi)
       refine hK.out _ _ ⟨(blk_cell BK181.out 0).trans rfl, (blk_cell BK181.out 1).trans rfl, (blk_cell BK181.out 2).trans rfl, (blk_cell BK181.out 3).trans rfl, (blk_cell BK181.out 4).trans rfl, (blk_cell BK181.out 5).trans rfl, (blk_cell BK181.out 6).trans rfl, (blk_cell BK181.out 7).trans rfl, (blk_cell BK181.out 8).trans rfl, (blk_cell BK179.out 0).trans rfl, (blk_cell BK179.out 1).trans rfl, (blk_cell BK179.out 2).trans rfl, (blk_cell BK179.out 3).trans rfl, (blk_cell BK179.out 4).trans rfl, (blk_cell BK179.out 5).trans rfl⟩ (fun hHeld => ?_)
       clear hK K
       refine norm_ (a' := ?_) ?_ ?_
       rotate_left
       ·show Act.put _ (some 17) _ = _
        simp only [Act.put, List.setIfInBounds_toArray, List.set_cons_zero, List.set_cons_succ, i64_w, i32_w]
        rfl
       refine pure_ (i := 3) (N := some 18) (v := ?_) (a' := ?_) #[true, true, true, true, false, false, false, false, false, false, false, false, false, false, false, false] rfl rfl (any_of HT_.out (by kernel_rfl)) (fun _ _ _ h => h) (Or.inl ⟨by rfl, ?_⟩) ?_ ?_
       rotate_left
       ·intro w'
        go_simp
        with_reducible rfl
       rotate_left
       ·simp only [Act.put, List.setIfInBounds_toArray, List.set_cons_zero, List.set_cons_succ, i64_w, i32_w]
        rfl
       refine pure_ (i := 4) (N := some 19) (v := undef) (a' := ?_) #[true, true, true, true, true, false, false, false, false, false, false, false, false, false, false, false] rfl rfl (any_of HT_.out (by kernel_rfl)) (fun _ _ _ h => h) (Or.inr ⟨by rfl, rfl⟩) ?_ ?_
       rotate_left
       ·simp only [Act.put, List.setIfInBounds_toArray, List.set_cons_zero, List.set_cons_succ, i64_w, i32_w]
        rfl
       refine pure_ (i := 5) (N := some 20) (v := undef) (a' := ?_) #[true, true, true, true, true, true, false, false, false, false, false, false, false, false, false, false] rfl rfl (any_of HT_.out (by kernel_rfl)) (fun _ _ _ h => h) (Or.inr ⟨by rfl, rfl⟩) ?_ ?_
       rotate_left
       ·simp only [Act.put, List.setIfInBounds_toArray, List.set_cons_zero, List.set_cons_succ, i64_w, i32_w]
        rfl
       refine pure_ (i := 6) (N := some 21) (v := undef) (a' := ?_) #[true, true, true, true, true, true, true, false, false, false, false, false, false, false, false, false] rfl rfl (any_of HT_.out (by kernel_rfl)) (fun _ _ _ h => h) (Or.inr ⟨by rfl, rfl⟩) ?_ ?_
       rotate_left
       ·simp only [Act.put, List.setIfInBounds_toArray, List.set_cons_zero, List.set_cons_succ, i64_w, i32_w]
        rfl
       refine pure_ (i := 7) (N := some 22) (v := undef) (a' := ?_) #[true, true, true, true, true, true, true, true, false, false, false, false, false, false, false, false] rfl rfl (any_of HT_.out (by kernel_rfl)) (fun _ _ _ h => h) (Or.inr ⟨by rfl, rfl⟩) ?_ ?_
       rotate_left
       ·simp only [Act.put, List.setIfInBounds_toArray, List.set_cons_zero, List.set_cons_succ, i64_w, i32_w]
        rfl
       refine pure_ (i := 8) (N := some 23) (v := undef) (a' := ?_) #[true, true, true, true, true, true, true, true, true, false, false, false, false, false, false, false] rfl rfl (any_of HT_.out (by kernel_rfl)) (fun _ _ _ h => h) (Or.inr ⟨by rfl, rfl⟩) ?_ ?_
       rotate_left
       ·simp only [Act.put, List.setIfInBounds_toArray, List.set_cons_zero, List.set_cons_succ, i64_w, i32_w]
        rfl
       refine pure_ (i := 9) (N := some 24) (v := undef) (a' := ?_) #[true, true, true, true, true, true, true, true, true, true, false, false, false, false, false, false] rfl rfl (any_of HT_.out (by kernel_rfl)) (fun _ _ _ h => h) (Or.inr ⟨by rfl, rfl⟩) ?_ ?_
       rotate_left
       ·simp only [Act.put, List.setIfInBounds_toArray, List.set_cons_zero, List.set_cons_succ, i64_w, i32_w]
        rfl
       refine pure_ (i := 10) (N := some 25) (v := undef) (a' := ?_) #[true, true, true, true, true, true, true, true, true, true, true, false, false, false, false, false] rfl rfl (any_of HT_.out (by kernel_rfl)) (fun _ _ _ h => h) (Or.inr ⟨by rfl, rfl⟩) ?_ ?_
       rotate_left
       ·simp only [Act.put, List.setIfInBounds_toArray, List.set_cons_zero, List.set_cons_succ, i64_w, i32_w]
        rfl
       refine pure_ (i := 11) (N := some 26) (v := undef) (a' := ?_) #[true, true, true, true, true, true, true, true, true, true, true, true, false, false, false, false] rfl rfl (any_of HT_.out (by kernel_rfl)) (fun _ _ _ h => h) (Or.inr ⟨by rfl, rfl⟩) ?_ ?_
       rotate_left
       ·simp only [Act.put, List.setIfInBounds_toArray, List.set_cons_zero, List.set_cons_succ, i64_w, i32_w]
        rfl
       refine pure_ (i := 12) (N := some 27) (v := undef) (a' := ?_) #[true, true, true, true, true, true, true, true, true, true, true, true, true, false, false, false] rfl rfl (any_of HT_.out (by kernel_rfl)) (fun _ _ _ h => h) (Or.inr ⟨by rfl, rfl⟩) ?_ ?_
       rotate_left
       ·simp only [Act.put, List.setIfInBounds_toArray, List.set_cons_zero, List.set_cons_succ, i64_w, i32_w]
        rfl
       refine pure_ (i := 13) (N := some 28) (v := undef) (a' := ?_) #[true, true, true, true, true, true, true, true, true, true, true, true, true, true, false, false] rfl rfl (any_of HT_.out (by kernel_rfl)) (fun _ _ _ h => h) (Or.inr ⟨by rfl, rfl⟩) ?_ ?_
       rotate_left
       ·simp only [Act.put, List.setIfInBounds_toArray, List.set_cons_zero, List.set_cons_succ, i64_w, i32_w]
        rfl
       refine pure_ (i := 14) (N := some 29) (v := undef) (a' := ?_) #[true, true, true, true, true, true, true, true, true, true, true, true, true, true, true, false] rfl rfl (any_of HT_.out (by kernel_rfl)) (fun _ _ _ h => h) (Or.inr ⟨by rfl, rfl⟩) ?_ ?_
       rotate_left
       ·simp only [Act.put, List.setIfInBounds_toArray, List.set_cons_zero, List.set_cons_succ, i64_w, i32_w]
        rfl
       refine pure_ (i := 15) (N := some 30) (v := ?_) (a' := ?_) #[true, true, true, true, true, true, true, true, true, true, true, true, true, true, true, true] rfl rfl (any_of HT_.out (by kernel_rfl)) (fun _ _ _ h => h) (Or.inl ⟨by rfl, ?_⟩) ?_ ?_
       rotate_left
       ·intro w'
        go_simp
        with_reducible rfl
       rotate_left
       ·simp only [Act.put, List.setIfInBounds_toArray, List.set_cons_zero, List.set_cons_succ, i64_w, i32_w]
        rfl
       refine done_ (done_of HT_.out (by kernel_rfl)) ?_
       try go_wp2
       go_roundg k1
       case measure => have := HK1.out; omega
       case rel => exact ⟨(x5_1), (wrap64 (x10_1 + 1)), Z98, Z98, H', ⟨by have := HK1.out; omega⟩, ⟨Z84⟩, ⟨Z42⟩⟩
     ·rw [if_neg c6] at H
      exact absurd H (by simp)
    ·rw [if_neg c5] at H
     exact absurd H (by simp)
   ·rw [if_neg c4] at H
    have c4b0 : decide (x10_1 < (l0.length : Int)) = false := decide_eq_false c4
    clear c4
    obtain rfl := Option.some.inj H
    go_wp2
    go_ret
    exact ⟨Z66, Z61⟩

end Go.Proofs.YtdlgohhecicnoaaDoor.XPartnerNeverIsNever
