-- Walks of PartnerFindsMatchSpec: written by xprint.py out of the translation (hand-proved functions among them). Lean checks it.
import Derived.Test.YtdlgohhecicnoaaDoorXPartnerFindsMatchSpecx0
import Derived.Test.YtdlgohhecicnoaaDoorXPartnerFindsMatchSpecx1
import Derived.Test.YtdlgohhecicnoaaDoorXPartnerFindsMatchSpecx2
import Derived.Test.YtdlgohhecicnoaaDoorXPartnerFindsMatchSpecx8
namespace Go.Proofs.YtdlgohhecicnoaaDoor.XPartnerFindsMatchSpec
open Go.RowKit Go.Proofs.YtdlgohhecicnoaaDoorW.PrintWords Go.Proofs.YtdlgohhecicnoaaDoorW.PrintLast Go.Proofs.YtdlgohhecicnoaaDoorW.PrintMore
attribute [local go_sem] max2_int min2_int max_two min_two max_three min_three max_four min_four   -- for this text's walks alone
set_option linter.unusedVariables false
set_option linter.unusedSimpArgs false

attribute [local go_sem high] eqA31
/-! ### api_Address_92: function 92 -/
def api_Address_92.l0 : Nat → List (S31) → Int → Int → ByteArray → ByteArray → Option (Int)
 | 0, _, _, _, _, _ => none
 | k + 1, x0, x7, x8, x193000, x193001 => if x8 < x7 then (if 0 ≤ x8 then (if x8 < (x0.length : Int) then (if (x193000.toList == (((rd_T31 x0 x8).f0).toList) && (x193001.toList == (((rd_T31 x0 x8).f1).toList))) = true then (some x8) else (api_Address_92.l0 k x0 x7 (wrap64 (x8 + 1)) x193000 x193001)) else (none)) else (none)) else (some (-1))
def api_Address_92.f (k : Nat) (l0 : List (S31)) (a1_0 : ByteArray) (a1_1 : ByteArray) : Option (Int) := api_Address_92.l0 k l0 (l0.length : Int) 0 a1_0 a1_1
theorem api_Address_92.mono_l : ∀ k, (∀ y0 y1 y2 y3 y4, LeO (api_Address_92.l0 k y0 y1 y2 y3 y4) (api_Address_92.l0 (k + 1) y0 y1 y2 y3 y4))
 | 0 => fun _ _ _ _ _ r h => by simp [api_Address_92.l0] at h
 | k + 1 => by
  have ih0 := api_Address_92.mono_l k
  ·intro y0 y1 y2 y3 y4
   unfold api_Address_92.l0
   repeat' first
   | (with_reducible exact ih0 _ _ _ _ _)
   | (with_reducible exact LeO.refl _)
   | (with_reducible exact LeO.none _)
   | (with_reducible refine LeO.ite ?_ ?_)
   | (with_reducible refine LeO.bind ?_ (fun _ => ?_))
   | exact ih0 _ _ _ _ _
   | exact LeO.none _
   | refine LeO.ite ?_ ?_
   | refine LeO.bind ?_ (fun _ => ?_)
theorem api_Address_92.mono : ∀ a0 a1 a2 k, LeO (api_Address_92.f k a0 a1 a2) (api_Address_92.f (k + 1) a0 a1 a2) := by
 intro a0 a1 a2 k
 have ih0 := api_Address_92.mono_l k
 unfold api_Address_92.f
 repeat' first
   | (with_reducible exact ih0 _ _ _ _ _)
   | (with_reducible exact LeO.refl _)
   | (with_reducible exact LeO.none _)
   | (with_reducible refine LeO.ite ?_ ?_)
   | (with_reducible refine LeO.bind ?_ (fun _ => ?_))
   | exact ih0 _ _ _ _ _
   | exact LeO.none _
   | refine LeO.ite ?_ ?_
   | refine LeO.bind ?_ (fun _ => ?_)
set_option maxHeartbeats 8000000 in
set_option maxRecDepth 100000 in
theorem api_Address_92.calls (k : Nat) (A0 : Option Addr) (c0 : Nat) (l0 : List (S31)) (a1_0 : ByteArray) (a1_1 : ByteArray) (r : Int) (w : World) (hr0 : Kd.C k31 w A0 l0.length l0) (hc0 : l0.length ≤ c0) (h : api_Address_92.f k l0 a1_0 a1_1 = some r) :
  Calls Tryd.prog 92 #[.slice A0 l0.length c0, .agg #[.string a1_0, .string a1_1]] w fun e w' => e = .returned (.int .i64 r) ∧ Below w.heap.size w w' := by
 have hu31 := Tryd.underlying31
 have HR0 := Aside0.mk hr0
 have HC0 := Aside0.mk hc0
 clear hr0 hc0
 have HB := Aside0.mk (Below.refl w.heap.size w)
 have H : (api_Address_92.l0 k l0 (l0.length : Int) 0 a1_0 a1_1) = some r := h
 clear h
 have H' := Aside0.mk H
 clear H
 go_enter Tryd.func92, Tryd.ntmps92
 go_wp2_with (first | ((with_reducible refine gate_dst (N := 3) rfl ?_); refine box_event ?hg (N := 3) ?hd (cs := #[.string a1_0, .string a1_1]) (t := 31) ?hr ?_; (case hd => rfl); (case hg => rfl); (case hr => exact Z188); intro gb192 hg w3 hbox hb; have n0_ := Aside0.mk (below_step Z140 hb); have n1_ := Aside0.mk (hbox); have n2_ := Aside0.mk ((Z108 : w.heap.size ≤ gb192)); have n3_ := Aside0.mk ((Z108 : w.heap.size ≤ gb192)); clear HB; have HB := n0_; have BK192 := n1_; have GW192 := n2_; have GE192 := n3_; clear n0_ n1_ n2_ n3_; clear hb hbox hg))
 repeat (go_quiet (first | ((with_reducible refine gate_dst (N := 3) rfl ?_); refine box_event ?hg (N := 3) ?hd (cs := #[.string a1_0, .string a1_1]) (t := 31) ?hr ?_; (case hd => rfl); (case hg => rfl); (case hr => exact Z188); intro gb192 hg w3 hbox hb; have n0_ := Aside0.mk (below_step Z140 hb); have n1_ := Aside0.mk (hbox); have n2_ := Aside0.mk ((Z108 : w.heap.size ≤ gb192)); have n3_ := Aside0.mk ((Z108 : w.heap.size ≤ gb192)); clear HB; have HB := n0_; have BK192 := n1_; have GW192 := n2_; have GE192 := n3_; clear n0_ n1_ n2_ n3_; clear hb hbox hg)); try go_wp2_with (first | ((with_reducible refine gate_dst (N := 3) rfl ?_); refine box_event ?hg (N := 3) ?hd (cs := #[.string a1_0, .string a1_1]) (t := 31) ?hr ?_; (case hd => rfl); (case hg => rfl); (case hr => exact Z188); intro gb192 hg w3 hbox hb; have n0_ := Aside0.mk (below_step Z140 hb); have n1_ := Aside0.mk (hbox); have n2_ := Aside0.mk ((Z108 : w.heap.size ≤ gb192)); have n3_ := Aside0.mk ((Z108 : w.heap.size ≤ gb192)); clear HB; have HB := n0_; have BK192 := n1_; have GW192 := n2_; have GE192 := n3_; clear n0_ n1_ n2_ n3_; clear hb hbox hg)))
 go_loopg [8] k (fun kq v8 w' => ∃ (x8_1 : Int), v8 = .int .i64 x8_1 ∧ Aside0 (api_Address_92.l0 kq l0 (l0.length : Int) x8_1 a1_0 a1_1 = some r) ∧ Aside0 (kq ≤ k) ∧ Aside0 (w'.heap[gb192]? = some (.cells #[.string a1_0, .string a1_1] 31 (0, 0))) ∧ Aside0 (Below w.heap.size w w'))
 case atStart => exact ⟨(0), Z183, H', ⟨Nat.le_refl _⟩, ⟨by (with_reducible repeat (first | refine blk_drewN ?_ _ | refine blk_drew ?_ | refine blk_alloc ?_ _)); exact BK192.out⟩, ⟨Z123⟩⟩
 case round =>
  clear H'
  try clear p2
  obtain ⟨x8_1, rfl, HA, HK1, BK192, HB⟩ := hrel
  cases gk with
  | zero => exact absurd HA.out (by simp [api_Address_92.l0])
  | succ k1 =>
   have H := HA.out
   clear HA
   simp only [api_Address_92.l0] at H
   by_cases c4 : x8_1 < (l0.length : Int)
   ·rw [if_pos c4] at H
    have c4b0 : decide (x8_1 < (l0.length : Int)) = true := decide_eq_true c4
    clear c4
    by_cases c5 : 0 ≤ x8_1
    ·rw [if_pos c5] at H
     have c5b0 : decide (0 ≤ x8_1) = true := decide_eq_true c5
     clear c5
     by_cases c6 : x8_1 < (l0.length : Int)
     ·rw [if_pos c6] at H
      have c6b0 : decide (x8_1 < (l0.length : Int)) = true := decide_eq_true c6
      clear c6
      by_cases c7 : (a1_0.toList == (((rd_T31 l0 x8_1).f0).toList) && (a1_1.toList == (((rd_T31 l0 x8_1).f1).toList))) = true
      ·rw [if_pos c7] at H
       have c7b0 : (a1_0.toList == (((rd_T31 l0 x8_1).f0).toList) && (a1_1.toList == (((rd_T31 l0 x8_1).f1).toList))) = true := c7
       (try (have c7b1 : decide (a1_0.toList = (((rd_T31 l0 x8_1).f0).toList) && (a1_1.toList == (((rd_T31 l0 x8_1).f1).toList))) = true := by simpa using c7))
       (try (have c7b2 : (a1_0.toList == (((rd_T31 l0 x8_1).f0).toList) && (a1_1.toList == (((rd_T31 l0 x8_1).f1).toList))) = true := by simpa using c7))
       clear c7
       obtain rfl := Option.some.inj H
       have hcz8_0 : wr.cell? ⟨gb192, 0, none⟩ = some (.string a1_0) := (blk_cell BK192.out 0).trans rfl
       have hcz8_1 : wr.cell? ⟨gb192, 1, none⟩ = some (.string a1_1) := (blk_cell BK192.out 1).trans rfl
       have hfz8_0 := blk_frozen BK192.out 0
       have hfz8_1 := blk_frozen BK192.out 1
       have p193 : 0 ≤ (x8_1 : Int) := of_decide_eq_true Z186
       have q193 : x8_1 < (l0.length : Int) := of_decide_eq_true Z186
       obtain ⟨ad193, e193, hx193_0, hx193_1⟩ := at_T31 HR0.out x8_1 p193 q193
       cases e193
       replace hx193_0 := (HB.out.cell (World.block_lt_of_cell? w _ hx193_0)).trans hx193_0
       replace hx193_1 := (HB.out.cell (World.block_lt_of_cell? w _ hx193_1)).trans hx193_1
       replace p193 := eq_true p193
       replace q193 := eq_true q193
       go_wp2
       repeat (go_quiet (fail); try go_wp2)
       go_ret
       exact ⟨Z138, Z123⟩
      ·rw [if_neg c7] at H
       have c7b0 : (a1_0.toList == (((rd_T31 l0 x8_1).f0).toList) && (a1_1.toList == (((rd_T31 l0 x8_1).f1).toList))) = false := by simpa using c7
       (try (have c7b1 : decide (a1_0.toList = (((rd_T31 l0 x8_1).f0).toList) && (a1_1.toList == (((rd_T31 l0 x8_1).f1).toList))) = false := by simpa using c7))
       (try (have c7b2 : (a1_0.toList == (((rd_T31 l0 x8_1).f0).toList) && (a1_1.toList == (((rd_T31 l0 x8_1).f1).toList))) = false := by simpa using c7))
       (try (have c7b3 : ¬ (a1_0.toList = (((rd_T31 l0 x8_1).f0).toList) && (a1_1.toList == (((rd_T31 l0 x8_1).f1).toList))) := by simpa using c7))
       clear c7
       have H' := Aside0.mk H
       clear H
       have hcz9_0 : wr.cell? ⟨gb192, 0, none⟩ = some (.string a1_0) := (blk_cell BK192.out 0).trans rfl
       have hcz9_1 : wr.cell? ⟨gb192, 1, none⟩ = some (.string a1_1) := (blk_cell BK192.out 1).trans rfl
       have hfz9_0 := blk_frozen BK192.out 0
       have hfz9_1 := blk_frozen BK192.out 1
       have p193 : 0 ≤ (x8_1 : Int) := of_decide_eq_true Z186
       have q193 : x8_1 < (l0.length : Int) := of_decide_eq_true Z186
       obtain ⟨ad193, e193, hx193_0, hx193_1⟩ := at_T31 HR0.out x8_1 p193 q193
       cases e193
       replace hx193_0 := (HB.out.cell (World.block_lt_of_cell? w _ hx193_0)).trans hx193_0
       replace hx193_1 := (HB.out.cell (World.block_lt_of_cell? w _ hx193_1)).trans hx193_1
       replace p193 := eq_true p193
       replace q193 := eq_true q193
       go_wp2
       repeat (go_quiet (fail); try go_wp2)
       go_roundg k1
       case measure => have := HK1.out; omega
       case rel => exact ⟨(wrap64 (x8_1 + 1)), Z183, H', ⟨Z192⟩, ⟨by (with_reducible repeat (first | refine blk_drewN ?_ _ | refine blk_drew ?_ | refine blk_alloc ?_ _)); exact BK192.out⟩, ⟨Z123⟩⟩
     ·rw [if_neg c6] at H
      exact absurd H (by simp)
    ·rw [if_neg c5] at H
     exact absurd H (by simp)
   ·rw [if_neg c4] at H
    have c4b0 : decide (x8_1 < (l0.length : Int)) = false := decide_eq_false c4
    clear c4
    obtain rfl := Option.some.inj H
    go_wp2
    repeat (go_quiet (fail); try go_wp2)
    go_ret
    exact ⟨Z138, Z123⟩

/-! ### api_Address_51: function 51 -/
def api_Address_51.f (k : Nat) (l0 : List (S31)) (a1_0 : ByteArray) (a1_1 : ByteArray) : Option (Bool) := (api_Address_92.f k l0 a1_0 a1_1).bind fun t195 => (some (decide (t195 ≥ 0)))
theorem api_Address_51.mono : ∀ a0 a1 a2 k, LeO (api_Address_51.f k a0 a1 a2) (api_Address_51.f (k + 1) a0 a1 a2) := by
 intro a0 a1 a2 k
 unfold api_Address_51.f
 repeat' first
   | (with_reducible exact api_Address_92.mono _ _ _ _)
   | (with_reducible exact LeO.refl _)
   | (with_reducible exact LeO.none _)
   | (with_reducible refine LeO.ite ?_ ?_)
   | (with_reducible refine LeO.bind ?_ (fun _ => ?_))
   | exact api_Address_92.mono _ _ _ _
   | exact LeO.none _
   | refine LeO.ite ?_ ?_
   | refine LeO.bind ?_ (fun _ => ?_)
set_option maxHeartbeats 8000000 in
set_option maxRecDepth 100000 in
theorem api_Address_51.calls (k : Nat) (A0 : Option Addr) (c0 : Nat) (l0 : List (S31)) (a1_0 : ByteArray) (a1_1 : ByteArray) (r : Bool) (w : World) (hr0 : Kd.C k31 w A0 l0.length l0) (hc0 : l0.length ≤ c0) (h : api_Address_51.f k l0 a1_0 a1_1 = some r) :
  Calls Tryd.prog 51 #[.slice A0 l0.length c0, .agg #[.string a1_0, .string a1_1]] w fun e w' => e = .returned (.bool r) ∧ Below w.heap.size w w' := by
 have hu31 := Tryd.underlying31
 have HR0 := Aside0.mk hr0
 have HC0 := Aside0.mk hc0
 clear hr0 hc0
 have HB := Aside0.mk (Below.refl w.heap.size w)
 have H : ((api_Address_92.f k l0 a1_0 a1_1).bind fun t195 => (some (decide (t195 ≥ 0)))) = some r := h
 clear h
 replace H := Option.bind_eq_some_iff.mp H
 obtain ⟨t195, A30, H⟩ := H
 replace H : (some (decide (t195 ≥ 0))) = some r := H
 have A3 := Aside0.mk A30
 clear A30
 obtain rfl := Option.some.inj H
 go_enter Tryd.func51, Tryd.ntmps51
 go_wp2_with (first | ((with_reducible refine gate_dst (N := 3) rfl ?_); refine box_event ?hg (N := 3) ?hd (cs := #[.string a1_0, .string a1_1]) (t := 31) ?hr ?_; (case hd => rfl); (case hg => rfl); (case hr => exact Z188); intro gb194 hg w4 hbox hb; have n0_ := Aside0.mk (below_step Z140 hb); have n1_ := Aside0.mk (hbox); have n2_ := Aside0.mk ((Z108 : w.heap.size ≤ gb194)); have n3_ := Aside0.mk ((Z108 : w.heap.size ≤ gb194)); clear HB; have HB := n0_; have BK194 := n1_; have GW194 := n2_; have GE194 := n3_; clear n0_ n1_ n2_ n3_; clear hb hbox hg; obtain ⟨hcz5_0, hcz5_1, hfz5_0, hfz5_1⟩ := bf2 BK194.out) | ((with_reducible refine gate_callee (f := 92) rfl ?_); refine goesL_ (some 7) rfl rfl Tryd.func92 (by kernel_rfl) rfl #[.slice A0 l0.length c0, .agg #[.string a1_0, .string a1_1]] rfl Z104 ?_; (with_reducible refine (api_Address_92.calls k _ _ l0 a1_0 a1_1 t195 _ ?side1 ?side2 A3.out).mono ?_); (case side1 => exact Z105); (case side2 => exact Z193); rintro e w6 ⟨rfl, hb⟩; refine ⟨_, rfl, ?_⟩; have n0_ := Aside0.mk (blk_below (g := gb194) (o := .cells #[.string a1_0, .string a1_1] 31 (0, 0)) (by (with_reducible repeat (first | refine blk_drewN ?_ _ | refine blk_drew ?_ | refine blk_alloc ?_ _)); exact BK194.out) hb); have n1_ := Aside0.mk (below_step (by repeat (first | (with_reducible first | exact HB.out | apply below_alloc | apply pw_below_drewN | apply below_drew1 | refine below_set ?_ GE194.out) | exact HB.out)) hb); clear BK194; clear HB; have BK194 := n0_; have HB := n1_; clear n0_ n1_; (try clear hb); (try clear hb2); (try clear hk); (try clear hi)))
 go_ret
 exact ⟨Z138, by repeat (first | (with_reducible first | exact HB.out | apply below_alloc | apply pw_below_drewN | apply below_drew1 | refine below_set ?_ GE194.out) | exact HB.out)⟩

/-! ### interchangeref8_CheckPartners: function 17 -/
mutual
def interchangeref8_CheckPartners.l0 : Nat → List (S86) → List (S31) → List (S86) → Int → Int → Option (Int)
 | 0, _, _, _, _, _ => none
 | k + 1, x0, x3, x12, x13, x14 => if x14 < x13 then (if 0 ≤ x14 then (if x14 < (x12.length : Int) then ((interchangeref1_IsName.f k ((rd_T86 x12 x14).f0)).bind fun t198 => (if t198 = true then (if x14 > 0 then (if 0 ≤ (wrap64 (x14 - 1)) then (if (wrap64 (x14 - 1)) < (x0.length : Int) then (interchangeref8_CheckPartners.j1 k x0 x3 x12 x13 x14 (!(Op.bytesLess (((rd_T86 x0 (wrap64 (x14 - 1))).f0).toList) (((rd_T86 x12 x14).f0).toList))) ((rd_T86 x12 x14).f0) ((rd_T86 x12 x14).f1)) else (none)) else (none)) else (interchangeref8_CheckPartners.j1 k x0 x3 x12 x13 x14 false ((rd_T86 x12 x14).f0) ((rd_T86 x12 x14).f1))) else (some 5))) else (none)) else (none)) else (some 0)
def interchangeref8_CheckPartners.j1 : Nat → List (S86) → List (S31) → List (S86) → Int → Int → Bool → ByteArray → List (S31) → Option (Int)
 | 0, _, _, _, _, _, _, _, _ => none
 | k + 1, x0, x3, x12, x13, x14, x24, x198000, x198001 => if x24 = true then (some 8) else (if (x198001.length : Int) > 10 then (some 2) else (interchangeref8_CheckPartners.l1 k x0 x3 x12 x13 x14 x198001 (x198001.length : Int) 0))
def interchangeref8_CheckPartners.l1 : Nat → List (S86) → List (S31) → List (S86) → Int → Int → List (S31) → Int → Int → Option (Int)
 | 0, _, _, _, _, _, _, _, _ => none
 | k + 1, x0, x3, x12, x13, x14, x44, x45, x46 => if x46 < x45 then (if 0 ≤ x46 then (if x46 < (x44.length : Int) then ((interchangeref8_checkAddress.f k ((rd_T31 x44 x46).f0) ((rd_T31 x44 x46).f1)).bind fun t202 => (if t202 = 0 then ((api_Address_51.f k x3 ((rd_T31 x44 x46).f0) ((rd_T31 x44 x46).f1)).bind fun t203 => (if t203 = true then (some 7) else (if x3.length < 4398046511104 then (interchangeref8_CheckPartners.l1 k x0 (x3 ++ [(⟨(rd_T31 x44 x46).f0, (rd_T31 x44 x46).f1⟩ : S31)]) x12 x13 x14 x44 x45 (wrap64 (x46 + 1))) else (none)))) else (some t202))) else (none)) else (none)) else (interchangeref8_CheckPartners.l0 k x0 x3 x12 x13 (wrap64 (x14 + 1)))
end
def interchangeref8_CheckPartners.f (k : Nat) (l0 : List (S86)) : Option (Int) := if (l0.length : Int) > 200 then (some 2) else (interchangeref8_CheckPartners.l0 k l0 ([] : List (S31)) l0 (l0.length : Int) 0)
theorem interchangeref8_CheckPartners.mono_l : ∀ k, (∀ y0 y1 y2 y3 y4, LeO (interchangeref8_CheckPartners.l0 k y0 y1 y2 y3 y4) (interchangeref8_CheckPartners.l0 (k + 1) y0 y1 y2 y3 y4)) ∧ (∀ y0 y1 y2 y3 y4 y5 y6 y7, LeO (interchangeref8_CheckPartners.j1 k y0 y1 y2 y3 y4 y5 y6 y7) (interchangeref8_CheckPartners.j1 (k + 1) y0 y1 y2 y3 y4 y5 y6 y7)) ∧ (∀ y0 y1 y2 y3 y4 y5 y6 y7, LeO (interchangeref8_CheckPartners.l1 k y0 y1 y2 y3 y4 y5 y6 y7) (interchangeref8_CheckPartners.l1 (k + 1) y0 y1 y2 y3 y4 y5 y6 y7))
 | 0 => ⟨fun _ _ _ _ _ r h => by simp [interchangeref8_CheckPartners.l0] at h, fun _ _ _ _ _ _ _ _ r h => by simp [interchangeref8_CheckPartners.j1] at h, fun _ _ _ _ _ _ _ _ r h => by simp [interchangeref8_CheckPartners.l1] at h⟩
 | k + 1 => by
  obtain ⟨ih0, ih1, ih2⟩ := interchangeref8_CheckPartners.mono_l k
  refine ⟨?_, ?_, ?_⟩
  ·intro y0 y1 y2 y3 y4
   unfold interchangeref8_CheckPartners.l0
   repeat' first
   | (with_reducible exact ih0 _ _ _ _ _)
   | (with_reducible exact ih1 _ _ _ _ _ _ _ _)
   | (with_reducible exact ih2 _ _ _ _ _ _ _ _)
   | (with_reducible exact api_Address_51.mono _ _ _ _)
   | (with_reducible exact interchangeref1_IsName.mono _ _)
   | (with_reducible exact interchangeref8_checkAddress.mono _ _ _)
   | (with_reducible exact LeO.refl _)
   | (with_reducible exact LeO.none _)
   | (with_reducible refine LeO.ite ?_ ?_)
   | (with_reducible refine LeO.bind ?_ (fun _ => ?_))
   | exact ih0 _ _ _ _ _
   | exact ih1 _ _ _ _ _ _ _ _
   | exact ih2 _ _ _ _ _ _ _ _
   | exact api_Address_51.mono _ _ _ _
   | exact interchangeref1_IsName.mono _ _
   | exact interchangeref8_checkAddress.mono _ _ _
   | exact LeO.none _
   | refine LeO.ite ?_ ?_
   | refine LeO.bind ?_ (fun _ => ?_)
  ·intro y0 y1 y2 y3 y4 y5 y6 y7
   unfold interchangeref8_CheckPartners.j1
   repeat' first
   | (with_reducible exact ih0 _ _ _ _ _)
   | (with_reducible exact ih1 _ _ _ _ _ _ _ _)
   | (with_reducible exact ih2 _ _ _ _ _ _ _ _)
   | (with_reducible exact api_Address_51.mono _ _ _ _)
   | (with_reducible exact interchangeref1_IsName.mono _ _)
   | (with_reducible exact interchangeref8_checkAddress.mono _ _ _)
   | (with_reducible exact LeO.refl _)
   | (with_reducible exact LeO.none _)
   | (with_reducible refine LeO.ite ?_ ?_)
   | (with_reducible refine LeO.bind ?_ (fun _ => ?_))
   | exact ih0 _ _ _ _ _
   | exact ih1 _ _ _ _ _ _ _ _
   | exact ih2 _ _ _ _ _ _ _ _
   | exact api_Address_51.mono _ _ _ _
   | exact interchangeref1_IsName.mono _ _
   | exact interchangeref8_checkAddress.mono _ _ _
   | exact LeO.none _
   | refine LeO.ite ?_ ?_
   | refine LeO.bind ?_ (fun _ => ?_)
  ·intro y0 y1 y2 y3 y4 y5 y6 y7
   unfold interchangeref8_CheckPartners.l1
   repeat' first
   | (with_reducible exact ih0 _ _ _ _ _)
   | (with_reducible exact ih1 _ _ _ _ _ _ _ _)
   | (with_reducible exact ih2 _ _ _ _ _ _ _ _)
   | (with_reducible exact api_Address_51.mono _ _ _ _)
   | (with_reducible exact interchangeref1_IsName.mono _ _)
   | (with_reducible exact interchangeref8_checkAddress.mono _ _ _)
   | (with_reducible exact LeO.refl _)
   | (with_reducible exact LeO.none _)
   | (with_reducible refine LeO.ite ?_ ?_)
   | (with_reducible refine LeO.bind ?_ (fun _ => ?_))
   | exact ih0 _ _ _ _ _
   | exact ih1 _ _ _ _ _ _ _ _
   | exact ih2 _ _ _ _ _ _ _ _
   | exact api_Address_51.mono _ _ _ _
   | exact interchangeref1_IsName.mono _ _
   | exact interchangeref8_checkAddress.mono _ _ _
   | exact LeO.none _
   | refine LeO.ite ?_ ?_
   | refine LeO.bind ?_ (fun _ => ?_)
theorem interchangeref8_CheckPartners.mono : ∀ a0 k, LeO (interchangeref8_CheckPartners.f k a0) (interchangeref8_CheckPartners.f (k + 1) a0) := by
 intro a0 k
 obtain ⟨ih0, ih1, ih2⟩ := interchangeref8_CheckPartners.mono_l k
 unfold interchangeref8_CheckPartners.f
 repeat' first
   | (with_reducible exact ih0 _ _ _ _ _)
   | (with_reducible exact ih1 _ _ _ _ _ _ _ _)
   | (with_reducible exact ih2 _ _ _ _ _ _ _ _)
   | (with_reducible exact api_Address_51.mono _ _ _ _)
   | (with_reducible exact interchangeref1_IsName.mono _ _)
   | (with_reducible exact interchangeref8_checkAddress.mono _ _ _)
   | (with_reducible exact LeO.refl _)
   | (with_reducible exact LeO.none _)
   | (with_reducible refine LeO.ite ?_ ?_)
   | (with_reducible refine LeO.bind ?_ (fun _ => ?_))
   | exact ih0 _ _ _ _ _
   | exact ih1 _ _ _ _ _ _ _ _
   | exact ih2 _ _ _ _ _ _ _ _
   | exact api_Address_51.mono _ _ _ _
   | exact interchangeref1_IsName.mono _ _
   | exact interchangeref8_checkAddress.mono _ _ _
   | exact LeO.none _
   | refine LeO.ite ?_ ?_
   | refine LeO.bind ?_ (fun _ => ?_)
set_option maxHeartbeats 8000000 in
set_option maxRecDepth 100000 in
theorem interchangeref8_CheckPartners.calls (k : Nat) (A0 : Option Addr) (c0 : Nat) (l0 : List (S86)) (r : Int) (w : World) (hr0 : Kd.C k86 w A0 l0.length l0) (hc0 : l0.length ≤ c0) (h : interchangeref8_CheckPartners.f k l0 = some r) :
  Calls Tryd.prog 17 #[.slice A0 l0.length c0] w fun e w' => e = .returned (.int .i64 r) ∧ Below w.heap.size w w' := by
 have hu86 := Tryd.underlying86
 have hu31 := Tryd.underlying31
 have HR0 := Aside0.mk hr0
 have HC0 := Aside0.mk hc0
 clear hr0 hc0
 have HB := Aside0.mk (Below.refl w.heap.size w)
 have H : (if (l0.length : Int) > 200 then (some 2) else (interchangeref8_CheckPartners.l0 k l0 ([] : List (S31)) l0 (l0.length : Int) 0)) = some r := h
 clear h
 by_cases c2 : (l0.length : Int) > 200
 ·rw [if_pos c2] at H
  have c2b0 : decide (200 < (l0.length : Int)) = true := decide_eq_true c2
  have c2b1 : decide (200 < l0.length) = true := decide_eq_true (by omega)
  clear c2
  obtain rfl := Option.some.inj H
  go_enter Tryd.func17, Tryd.ntmps17
  go_wp2
  repeat (go_quiet (fail); try go_wp2)
  go_ret
  exact ⟨Z138, Z140⟩
 ·rw [if_neg c2] at H
  have c2b0 : decide (200 < (l0.length : Int)) = false := decide_eq_false c2
  have c2b1 : decide (200 < l0.length) = false := decide_eq_false (by omega)
  clear c2
  have H' := Aside0.mk H
  clear H
  go_enter Tryd.func17, Tryd.ntmps17
  go_wp2
  repeat (go_quiet (fail); try go_wp2)
  go_loopg [3, 14] k (fun kq v3 v14 w' => ∃ (x3_1 : List (S31)) (x14_1 : Int), v14 = .int .i64 x14_1 ∧ Aside0 (interchangeref8_CheckPartners.l0 kq l0 x3_1 l0 (l0.length : Int) x14_1 = some r) ∧ Aside0 (kq ≤ k) ∧ Aside0 (Kd.R k31 31 w' w.heap.size (fun _ => True) v3 x3_1) ∧ Aside0 (Below w.heap.size w w'))
  case atStart => exact ⟨(([] : List (S31))), (0), Z183, H', ⟨Nat.le_refl _⟩, ⟨by first | exact Kd.R_nil _ _ _ _ _ | exact Kd.N_nil _ _ _ _ _ | exact Kd.V_nil _ _ _ _ _ | exact Kd.Q_nil _ _ _ _ _ | exact Kd.S_nil _ _ _ _ _⟩, ⟨Z140⟩⟩
  case round =>
   clear H'
   try clear c1
   try clear c2
   try clear c2b0
   try clear c2b1
   try clear p2
   obtain ⟨x3_1, x14_1, rfl, HA, HK1, HO_3, HB⟩ := hrel
   cases gk with
   | zero => exact absurd HA.out (by simp [interchangeref8_CheckPartners.l0])
   | succ k1 =>
    have H := HA.out
    clear HA
    simp only [interchangeref8_CheckPartners.l0] at H
    by_cases c3 : x14_1 < (l0.length : Int)
    ·rw [if_pos c3] at H
     have c3b0 : decide (x14_1 < (l0.length : Int)) = true := decide_eq_true c3
     clear c3
     by_cases c4 : 0 ≤ x14_1
     ·rw [if_pos c4] at H
      have c4b0 : decide (0 ≤ x14_1) = true := decide_eq_true c4
      clear c4
      by_cases c5 : x14_1 < (l0.length : Int)
      ·rw [if_pos c5] at H
       have c5b0 : decide (x14_1 < (l0.length : Int)) = true := decide_eq_true c5
       clear c5
       replace H := Option.bind_eq_some_iff.mp H
       obtain ⟨t198, A60, H⟩ := H
       replace H : (if t198 = true then (if x14_1 > 0 then (if 0 ≤ (wrap64 (x14_1 - 1)) then (if (wrap64 (x14_1 - 1)) < (l0.length : Int) then (interchangeref8_CheckPartners.j1 k1 l0 x3_1 l0 (l0.length : Int) x14_1 (!(Op.bytesLess (((rd_T86 l0 (wrap64 (x14_1 - 1))).f0).toList) (((rd_T86 l0 x14_1).f0).toList))) ((rd_T86 l0 x14_1).f0) ((rd_T86 l0 x14_1).f1)) else (none)) else (none)) else (interchangeref8_CheckPartners.j1 k1 l0 x3_1 l0 (l0.length : Int) x14_1 false ((rd_T86 l0 x14_1).f0) ((rd_T86 l0 x14_1).f1))) else (some 5)) = some r := H
       have A6 := Aside0.mk A60
       clear A60
       by_cases c7 : t198 = true
       ·subst c7
        have H1 : (if x14_1 > 0 then (if 0 ≤ (wrap64 (x14_1 - 1)) then (if (wrap64 (x14_1 - 1)) < (l0.length : Int) then (interchangeref8_CheckPartners.j1 k1 l0 x3_1 l0 (l0.length : Int) x14_1 (!(Op.bytesLess (((rd_T86 l0 (wrap64 (x14_1 - 1))).f0).toList) (((rd_T86 l0 x14_1).f0).toList))) ((rd_T86 l0 x14_1).f0) ((rd_T86 l0 x14_1).f1)) else (none)) else (none)) else (interchangeref8_CheckPartners.j1 k1 l0 x3_1 l0 (l0.length : Int) x14_1 false ((rd_T86 l0 x14_1).f0) ((rd_T86 l0 x14_1).f1))) = some r := by rw [if_pos rfl] at H; exact H
        clear H
        have H := H1
        clear H1
        have HC8 := Aside0.mk H
        clear H
        have p196 : 0 ≤ (x14_1 : Int) := of_decide_eq_true Z186
        have q196 : x14_1 < (l0.length : Int) := of_decide_eq_true Z186
        obtain ⟨ad196, A196_1, c196_1, e196, hx196_0, hx196_1, hl196_1, hi196_1⟩ := at_T86 HR0.out x14_1 p196 q196
        cases e196
        replace hx196_0 := (HB.out.cell (World.block_lt_of_cell? w _ hx196_0)).trans hx196_0
        replace hx196_1 := (HB.out.cell (World.block_lt_of_cell? w _ hx196_1)).trans hx196_1
        have HR196_1 := Aside0.mk hi196_1
        have HC196_1 := Aside0.mk hl196_1
        clear hi196_1 hl196_1
        replace p196 := eq_true p196
        replace q196 := eq_true q196
        go_upto_region 9 with (first | ((with_reducible refine gate_dst (N := 5) rfl ?_); refine box_event ?hg (N := 5) ?hd (cs := #[.string (⟨#[]⟩ : ByteArray), .slice none 0 0]) (t := 86) ?hr ?_; (case hd => rfl); (case hg => rfl); (case hr => exact Z188); intro gb197 hg w9 hbox hb; have n0_ := Aside0.mk (Kd.R_below Z182 hb); have n1_ := Aside0.mk (below_step Z140 hb); have n2_ := Aside0.mk (hbox); have n3_ := Aside0.mk ((Z108 : w.heap.size ≤ gb197)); have n4_ := Aside0.mk ((Z108 : w.heap.size ≤ gb197)); clear HO_3; clear HB; have HO_3 := n0_; have HB := n1_; have BK197 := n2_; have GW197 := n3_; have GE197 := n4_; clear n0_ n1_ n2_ n3_ n4_; clear hb hbox hg; obtain ⟨hcz10_0, hcz10_1, hfz10_0, hfz10_1⟩ := bf2 BK197.out) | (go_at_call 50; (with_reducible refine (interchangeref1_IsName.calls k1 ((rd_T86 l0 x14_1).f0) true _ A6.out).mono ?_); rintro e w' ⟨rfl, ⟨nd, rfl⟩⟩; (try first | exact ⟨rfl, _, World.drewN_drewN _ _ _⟩ | exact ⟨rfl, _, Eq.trans (World.drewN_drewN _ _ _) (congrArg (World.drewN _) (Nat.add_assoc _ _ _))⟩)))
        repeat (go_quiet (first | ((with_reducible refine gate_dst (N := 5) rfl ?_); refine box_event ?hg (N := 5) ?hd (cs := #[.string (⟨#[]⟩ : ByteArray), .slice none 0 0]) (t := 86) ?hr ?_; (case hd => rfl); (case hg => rfl); (case hr => exact Z188); intro gb197 hg w9 hbox hb; have n0_ := Aside0.mk (Kd.R_below Z182 hb); have n1_ := Aside0.mk (below_step Z140 hb); have n2_ := Aside0.mk (hbox); have n3_ := Aside0.mk ((Z108 : w.heap.size ≤ gb197)); have n4_ := Aside0.mk ((Z108 : w.heap.size ≤ gb197)); clear HO_3; clear HB; have HO_3 := n0_; have HB := n1_; have BK197 := n2_; have GW197 := n3_; have GE197 := n4_; clear n0_ n1_ n2_ n3_ n4_; clear hb hbox hg; obtain ⟨hcz10_0, hcz10_1, hfz10_0, hfz10_1⟩ := bf2 BK197.out) | (go_at_call 50; (with_reducible refine (interchangeref1_IsName.calls k1 ((rd_T86 l0 x14_1).f0) true _ A6.out).mono ?_); rintro e w' ⟨rfl, ⟨nd, rfl⟩⟩; (try first | exact ⟨rfl, _, World.drewN_drewN _ _ _⟩ | exact ⟨rfl, _, Eq.trans (World.drewN_drewN _ _ _) (congrArg (World.drewN _) (Nat.add_assoc _ _ _))⟩))); go_upto_region 9 with (first | ((with_reducible refine gate_dst (N := 5) rfl ?_); refine box_event ?hg (N := 5) ?hd (cs := #[.string (⟨#[]⟩ : ByteArray), .slice none 0 0]) (t := 86) ?hr ?_; (case hd => rfl); (case hg => rfl); (case hr => exact Z188); intro gb197 hg w9 hbox hb; have n0_ := Aside0.mk (Kd.R_below Z182 hb); have n1_ := Aside0.mk (below_step Z140 hb); have n2_ := Aside0.mk (hbox); have n3_ := Aside0.mk ((Z108 : w.heap.size ≤ gb197)); have n4_ := Aside0.mk ((Z108 : w.heap.size ≤ gb197)); clear HO_3; clear HB; have HO_3 := n0_; have HB := n1_; have BK197 := n2_; have GW197 := n3_; have GE197 := n4_; clear n0_ n1_ n2_ n3_ n4_; clear hb hbox hg; obtain ⟨hcz10_0, hcz10_1, hfz10_0, hfz10_1⟩ := bf2 BK197.out) | (go_at_call 50; (with_reducible refine (interchangeref1_IsName.calls k1 ((rd_T86 l0 x14_1).f0) true _ A6.out).mono ?_); rintro e w' ⟨rfl, ⟨nd, rfl⟩⟩; (try first | exact ⟨rfl, _, World.drewN_drewN _ _ _⟩ | exact ⟨rfl, _, Eq.trans (World.drewN_drewN _ _ _) (congrArg (World.drewN _) (Nat.add_assoc _ _ _))⟩))))
        (try simp only [Act.put, List.setIfInBounds_toArray, List.set_cons_zero, List.set_cons_succ])
        go_cut [24] (fun v24 wc => ∃ (kq : Nat) (x24_7 : Bool), v24 = .bool x24_7 ∧ Aside0 (interchangeref8_CheckPartners.j1 kq l0 x3_1 l0 (l0.length : Int) x14_1 x24_7 ((rd_T86 l0 x14_1).f0) ((rd_T86 l0 x14_1).f1) = some r) ∧ Aside0 (kq ≤ k1) ∧ Aside0 (Kd.R k31 31 wc w.heap.size (fun _ => True) u3 x3_1) ∧ Aside0 (wc.heap[gb197]? = some (.cells #[.string ((rd_T86 l0 x14_1).f0), (.slice A196_1 ((rd_T86 l0 x14_1).f1).length c196_1)] 86 (0, 0))) ∧ Aside0 (Below w.heap.size w wc))
        case first =>
         have H := HC8.out
         clear HC8
         by_cases c11 : x14_1 > 0
         ·rw [if_pos c11] at H
          have c11b0 : decide (0 < x14_1) = true := decide_eq_true c11
          clear c11
          (first | rw [c11b0] | (simp only [i64_w, i32_w]; rw [c11b0]) | skip)
          obtain ⟨ji12, hji12⟩ : ∃ j_ : Int, (wrap64 (x14_1 - 1)) = j_ := ⟨_, rfl⟩
          replace H : (if 0 ≤ (ji12) then (if (ji12) < (l0.length : Int) then (interchangeref8_CheckPartners.j1 k1 l0 x3_1 l0 (l0.length : Int) x14_1 (!(Op.bytesLess (((rd_T86 l0 (ji12)).f0).toList) (((rd_T86 l0 x14_1).f0).toList))) ((rd_T86 l0 x14_1).f0) ((rd_T86 l0 x14_1).f1)) else (none)) else (none)) = some r := by first | (rw [hji12] at H; exact H) | (simp only [hji12] at H ⊢; exact H)
          have hji12w : (IntKind.i64.wrap (x14_1 - 1)) = ji12 := (i64_w _).trans hji12
          by_cases c13 : 0 ≤ (ji12)
          ·rw [if_pos c13] at H
           have c13b0 : decide (0 ≤ (ji12)) = true := decide_eq_true c13
           clear c13
           by_cases c14 : (ji12) < (l0.length : Int)
           ·rw [if_pos c14] at H
            have c14b0 : decide ((ji12) < (l0.length : Int)) = true := decide_eq_true c14
            clear c14
            have H' := Aside0.mk H
            clear H
            obtain ⟨hcz15_0, hcz15_1, hfz15_0, hfz15_1⟩ := bf2 BK197.out
            have p199 : 0 ≤ ((ji12) : Int) := of_decide_eq_true Z186
            have q199 : (ji12) < (l0.length : Int) := of_decide_eq_true Z186
            obtain ⟨ad199, A199_1, c199_1, e199, hx199_0, hx199_1, hl199_1, hi199_1⟩ := at_T86 HR0.out (ji12) p199 q199
            obtain rfl : ad196 = ad199 := (by injection e199)
            have hn199_0 : ad196.block ≠ gb197 := Nat.ne_of_lt (Nat.lt_of_lt_of_le (by have := World.block_lt_of_cell? _ _ hx199_0; first | rwa [add_block] at this | exact this) GW197.out)
            have hn199_1 : ad196.block ≠ gb197 := Nat.ne_of_lt (Nat.lt_of_lt_of_le (by have := World.block_lt_of_cell? _ _ hx199_0; first | rwa [add_block] at this | exact this) GW197.out)
            replace hx199_0 := (HB.out.cell (World.block_lt_of_cell? w _ hx199_0)).trans hx199_0
            replace hx199_1 := (HB.out.cell (World.block_lt_of_cell? w _ hx199_1)).trans hx199_1
            have HR199_1 := Aside0.mk hi199_1
            have HC199_1 := Aside0.mk hl199_1
            clear hi199_1 hl199_1
            replace hx199_0 := (cell_far (p := ⟨gb197, 0, none⟩) (by first | (rw [add_block]; exact hn199_0) | (show (Addr.add _ _).block ≠ _; rw [add_block]; exact hn199_0) | exact hn199_0) (.string ((rd_T86 l0 x14_1).f0))).trans hx199_0
            replace hx199_1 := (cell_far (p := ⟨gb197, 0, none⟩) (by first | (rw [add_block]; exact hn199_0) | (show (Addr.add _ _).block ≠ _; rw [add_block]; exact hn199_0) | exact hn199_0) (.string ((rd_T86 l0 x14_1).f0))).trans hx199_1
            replace hx199_0 := (cell_far (p := ⟨gb197, 1, none⟩) (by first | (rw [add_block]; exact hn199_1) | (show (Addr.add _ _).block ≠ _; rw [add_block]; exact hn199_1) | exact hn199_1) (.slice A196_1 ((rd_T86 l0 x14_1).f1).length c196_1)).trans hx199_0
            replace hx199_1 := (cell_far (p := ⟨gb197, 1, none⟩) (by first | (rw [add_block]; exact hn199_1) | (show (Addr.add _ _).block ≠ _; rw [add_block]; exact hn199_1) | exact hn199_1) (.slice A196_1 ((rd_T86 l0 x14_1).f1).length c196_1)).trans hx199_1
            (try have hy199_0 := fun (n_ : Nat) => (show ((((w9.drewN n_).setCell ⟨gb197, 0, none⟩ (.string ((rd_T86 l0 x14_1).f0))).setCell ⟨gb197, 1, none⟩ (.slice A196_1 ((rd_T86 l0 x14_1).f1).length c196_1))).cell? _ = some _ from hx199_0))
            (try have hy199_1 := fun (n_ : Nat) => (show ((((w9.drewN n_).setCell ⟨gb197, 0, none⟩ (.string ((rd_T86 l0 x14_1).f0))).setCell ⟨gb197, 1, none⟩ (.slice A196_1 ((rd_T86 l0 x14_1).f1).length c196_1))).cell? _ = some _ from hx199_1))
            clear hn199_0
            clear hn199_1
            replace p199 := eq_true p199
            replace q199 := eq_true q199
            go_wp2
            repeat (go_quiet (fail); try go_wp2)
            go_meet
            case rel => exact ⟨_, (!(Op.bytesLess (((rd_T86 l0 (ji12)).f0).toList) (((rd_T86 l0 x14_1).f0).toList))), (by first | rfl | (simp; done) | (simp only [← hji12] <;> (first | rfl | simp)) | (simp [*]; done)), H', ⟨Z185⟩, ⟨Z32⟩, ⟨Z12⟩, ⟨Z124⟩⟩
           ·rw [if_neg c14] at H
            exact absurd H (by simp)
          ·rw [if_neg c13] at H
           exact absurd H (by simp)
         ·rw [if_neg c11] at H
          have c11b0 : decide (0 < x14_1) = false := decide_eq_false c11
          clear c11
          (first | rw [c11b0] | (simp only [i64_w, i32_w]; rw [c11b0]) | skip)
          have H' := Aside0.mk H
          clear H
          go_wp2
          repeat (go_quiet (fail); try go_wp2)
          go_meet
          case rel => exact ⟨_, (false), Z183, H', ⟨Z185⟩, ⟨Z32⟩, ⟨Z12⟩, ⟨Z124⟩⟩
        case rest =>
         clear HC8
         try clear c1
         try clear p1
         try clear q1
         try clear hx1
         try clear c2
         try clear c2b0
         try clear c2b1
         try clear p2
         try clear c3
         try clear c3b0
         try clear c4
         try clear c4b0
         try clear c5
         try clear c5b0
         try clear p6
         try clear c7
         try clear c11
         try clear c11b0
         try clear c13
         try clear c13b0
         try clear c14
         try clear c14b0
         try clear hcz10_0
         try clear hcz10_1
         try clear hcz15_0
         try clear hcz15_1
         try clear hfz10_0
         try clear hfz10_1
         try clear hfz15_0
         try clear hfz15_1
         try clear hx196_0
         try clear hx196_1
         try clear hx199_0
         try clear hx199_1
         try clear p196
         try clear p199
         try clear p2
         try clear q196
         try clear q199
         obtain ⟨kq, x24_7, rfl, HA, HJ7, HO_3, BK197, HB⟩ := hcut
         cases kq with
         | zero => exact absurd HA.out (by simp [interchangeref8_CheckPartners.j1])
         | succ kj7 =>
          have H := HA.out
          clear HA
          simp only [interchangeref8_CheckPartners.j1] at H
          by_cases c16 : x24_7 = true
          ·subst c16
           have H1 : (some 8) = some r := by rw [if_pos rfl] at H; exact H
           clear H
           have H := H1
           clear H1
           obtain rfl := Option.some.inj H
           go_wp2
           repeat (go_quiet (fail); try go_wp2)
           go_ret
           exact ⟨Z138, Z124⟩
          ·replace c16 := Bool.eq_false_iff.mpr c16
           subst c16
           have H1 : (if (((rd_T86 l0 x14_1).f1).length : Int) > 10 then (some 2) else (interchangeref8_CheckPartners.l1 kj7 l0 x3_1 l0 (l0.length : Int) x14_1 ((rd_T86 l0 x14_1).f1) (((rd_T86 l0 x14_1).f1).length : Int) 0)) = some r := by rw [if_neg (show ¬ (false = true) by decide)] at H; exact H
           clear H
           have H := H1
           clear H1
           by_cases c17 : (((rd_T86 l0 x14_1).f1).length : Int) > 10
           ·rw [if_pos c17] at H
            have c17b0 : decide (10 < (((rd_T86 l0 x14_1).f1).length : Int)) = true := decide_eq_true c17
            have c17b1 : decide (10 < ((rd_T86 l0 x14_1).f1).length) = true := decide_eq_true (by omega)
            clear c17
            obtain rfl := Option.some.inj H
            have hcz18_0 : wc.cell? ⟨gb197, 0, none⟩ = some (.string ((rd_T86 l0 x14_1).f0)) := (blk_cell BK197.out 0).trans rfl
            have hcz18_1 : wc.cell? ⟨gb197, 1, none⟩ = some (.slice A196_1 ((rd_T86 l0 x14_1).f1).length c196_1) := (blk_cell BK197.out 1).trans rfl
            have hfz18_0 := blk_frozen BK197.out 0
            have hfz18_1 := blk_frozen BK197.out 1
            go_wp2
            repeat (go_quiet (fail); try go_wp2)
            go_ret
            exact ⟨Z138, Z124⟩
           ·rw [if_neg c17] at H
            have c17b0 : decide (10 < (((rd_T86 l0 x14_1).f1).length : Int)) = false := decide_eq_false c17
            have c17b1 : decide (10 < ((rd_T86 l0 x14_1).f1).length) = false := decide_eq_false (by omega)
            clear c17
            have H' := Aside0.mk H
            clear H
            have hcz19_0 : wc.cell? ⟨gb197, 0, none⟩ = some (.string ((rd_T86 l0 x14_1).f0)) := (blk_cell BK197.out 0).trans rfl
            have hcz19_1 : wc.cell? ⟨gb197, 1, none⟩ = some (.slice A196_1 ((rd_T86 l0 x14_1).f1).length c196_1) := (blk_cell BK197.out 1).trans rfl
            have hfz19_0 := blk_frozen BK197.out 0
            have hfz19_1 := blk_frozen BK197.out 1
            go_wp2
            repeat (go_quiet (fail); try go_wp2)
            go_loopg [3, 46] kj7 (fun kq v3 v46 w' => ∃ (x3_3 : List (S31)) (x46_3 : Int), v46 = .int .i64 x46_3 ∧ Aside0 (interchangeref8_CheckPartners.l1 kq l0 x3_3 l0 (l0.length : Int) x14_1 ((rd_T86 l0 x14_1).f1) (((rd_T86 l0 x14_1).f1).length : Int) x46_3 = some r) ∧ Aside0 (kq ≤ kj7) ∧ Aside0 (Kd.R k31 31 w' w.heap.size (fun _ => True) v3 x3_3) ∧ Aside0 (w'.heap[gb197]? = some (.cells #[.string ((rd_T86 l0 x14_1).f0), (.slice A196_1 ((rd_T86 l0 x14_1).f1).length c196_1)] 86 (0, 0))) ∧ Aside0 (Below w.heap.size w w'))
            case atStart => exact ⟨(x3_1), (0), Z183, H', ⟨Nat.le_refl _⟩, ⟨Z182⟩, ⟨Z158⟩, ⟨Z124⟩⟩
            case round =>
             clear H'
             try clear c1
             try clear p1
             try clear q1
             try clear hx1
             try clear c2
             try clear c2b0
             try clear c2b1
             try clear p2
             try clear c3
             try clear c3b0
             try clear c4
             try clear c4b0
             try clear c5
             try clear c5b0
             try clear p6
             try clear c7
             try clear c11
             try clear c11b0
             try clear c13
             try clear c13b0
             try clear c14
             try clear c14b0
             try clear c16
             try clear c17
             try clear c17b0
             try clear c17b1
             try clear c19
             try clear p19
             try clear q19
             try clear hx19
             try clear hcz10_0
             try clear hcz10_1
             try clear hcz15_0
             try clear hcz15_1
             try clear hcz18_0
             try clear hcz18_1
             try clear hcz19_0
             try clear hcz19_1
             try clear hfz10_0
             try clear hfz10_1
             try clear hfz15_0
             try clear hfz15_1
             try clear hfz18_0
             try clear hfz18_1
             try clear hfz19_0
             try clear hfz19_1
             try clear hx196_0
             try clear hx196_1
             try clear hx199_0
             try clear hx199_1
             try clear p1
             try clear p196
             try clear p199
             try clear p2
             try clear p6
             try clear q1
             try clear q196
             try clear q199
             obtain ⟨x3_3, x46_3, rfl, HA, HK3, HO_3, BK197, HB⟩ := hrel
             cases gk with
             | zero => exact absurd HA.out (by simp [interchangeref8_CheckPartners.l1])
             | succ k3 =>
              have H := HA.out
              clear HA
              simp only [interchangeref8_CheckPartners.l1] at H
              by_cases c20 : x46_3 < (((rd_T86 l0 x14_1).f1).length : Int)
              ·rw [if_pos c20] at H
               have c20b0 : decide (x46_3 < (((rd_T86 l0 x14_1).f1).length : Int)) = true := decide_eq_true c20
               clear c20
               by_cases c21 : 0 ≤ x46_3
               ·rw [if_pos c21] at H
                have c21b0 : decide (0 ≤ x46_3) = true := decide_eq_true c21
                clear c21
                by_cases c22 : x46_3 < (((rd_T86 l0 x14_1).f1).length : Int)
                ·rw [if_pos c22] at H
                 have c22b0 : decide (x46_3 < (((rd_T86 l0 x14_1).f1).length : Int)) = true := decide_eq_true c22
                 clear c22
                 replace H := Option.bind_eq_some_iff.mp H
                 obtain ⟨t202, A230, H⟩ := H
                 replace H : (if t202 = 0 then ((api_Address_51.f k3 x3_3 ((rd_T31 ((rd_T86 l0 x14_1).f1) x46_3).f0) ((rd_T31 ((rd_T86 l0 x14_1).f1) x46_3).f1)).bind fun t203 => (if t203 = true then (some 7) else (if x3_3.length < 4398046511104 then (interchangeref8_CheckPartners.l1 k3 l0 (x3_3 ++ [(⟨(rd_T31 ((rd_T86 l0 x14_1).f1) x46_3).f0, (rd_T31 ((rd_T86 l0 x14_1).f1) x46_3).f1⟩ : S31)]) l0 (l0.length : Int) x14_1 ((rd_T86 l0 x14_1).f1) (((rd_T86 l0 x14_1).f1).length : Int) (wrap64 (x46_3 + 1))) else (none)))) else (some t202)) = some r := H
                 have A23 := Aside0.mk A230
                 clear A230
                 by_cases c24 : t202 = 0
                 ·rw [if_pos c24] at H
                  have c24b0 : (t202 == 0) = true := beq_iff_eq.mpr c24
                  have c24b1 : (t202 != 0) = false := bne_eq_false_iff_eq.mpr c24
                  clear c24
                  replace H := Option.bind_eq_some_iff.mp H
                  obtain ⟨t203, A250, H⟩ := H
                  replace H : (if t203 = true then (some 7) else (if x3_3.length < 4398046511104 then (interchangeref8_CheckPartners.l1 k3 l0 (x3_3 ++ [(⟨(rd_T31 ((rd_T86 l0 x14_1).f1) x46_3).f0, (rd_T31 ((rd_T86 l0 x14_1).f1) x46_3).f1⟩ : S31)]) l0 (l0.length : Int) x14_1 ((rd_T86 l0 x14_1).f1) (((rd_T86 l0 x14_1).f1).length : Int) (wrap64 (x46_3 + 1))) else (none))) = some r := H
                  have A25 := Aside0.mk A250
                  clear A250
                  by_cases c26 : t203 = true
                  ·subst c26
                   have H1 : (some 7) = some r := by rw [if_pos rfl] at H; exact H
                   clear H
                   have H := H1
                   clear H1
                   obtain rfl := Option.some.inj H
                   have p200 : 0 ≤ (x46_3 : Int) := of_decide_eq_true Z186
                   have q200 : x46_3 < (((rd_T86 l0 x14_1).f1).length : Int) := of_decide_eq_true Z186
                   obtain ⟨ad200, e200, hx200_0, hx200_1⟩ := at_T31 HR196_1.out x46_3 p200 q200
                   cases e200
                   replace hx200_0 := (HB.out.cell (World.block_lt_of_cell? w _ hx200_0)).trans hx200_0
                   replace hx200_1 := (HB.out.cell (World.block_lt_of_cell? w _ hx200_1)).trans hx200_1
                   replace p200 := eq_true p200
                   replace q200 := eq_true q200
                   go_wp2_with (first | ((with_reducible refine gate_dst (N := 7) rfl ?_); refine box_event ?hg (N := 7) ?hd (cs := #[.string (⟨#[]⟩ : ByteArray), .string (⟨#[]⟩ : ByteArray)]) (t := 31) ?hr ?_; (case hd => rfl); (case hg => rfl); (case hr => exact Z188); intro gb201 hg w27 hbox hb; have n0_ := Aside0.mk (Kd.R_below (Kd.R_elderB Z182 gb201 (Nat.le_of_eq hg.symm)) hb); have n1_ := Aside0.mk (blk_below (g := gb197) (o := .cells #[.string ((rd_T86 l0 x14_1).f0), .slice (some ad200) ((rd_T86 l0 x14_1).f1).length c196_1] 86 (0, 0)) Z158 hb); have n2_ := Aside0.mk (below_step Z124 hb); have n3_ := Aside0.mk (hbox); have n4_ := Aside0.mk ((Z86 : w.heap.size ≤ gb201)); have n5_ := Aside0.mk ((Z86 : w.heap.size ≤ gb201)); have n6_ := Aside0.mk ((Z41 : gb197 ≠ gb201)); have n7_ := Aside0.mk ((Z42 : gb201 ≠ gb197)); clear HO_3; clear BK197; clear HB; have HO_3 := n0_; have BK197 := n1_; have HB := n2_; have BK201 := n3_; have GW201 := n4_; have GE201 := n5_; have NB197_201 := n6_; have NB201_197 := n7_; clear n0_ n1_ n2_ n3_ n4_ n5_ n6_ n7_; clear hb hbox hg; have hnb28 := NB201_197.out; have hnc28 := NB197_201.out; obtain ⟨hcz29_0, hcz29_1, hfz29_0, hfz29_1⟩ := bf2 BK201.out) | (go_at_call 46; (with_reducible refine (interchangeref8_checkAddress.calls k3 ((rd_T31 ((rd_T86 l0 x14_1).f1) x46_3).f0) ((rd_T31 ((rd_T86 l0 x14_1).f1) x46_3).f1) t202 _ A23.out).mono ?_); rintro e w30 ⟨rfl, hb⟩; have n0_ := Aside0.mk (Kd.R_below Z16 hb); have n1_ := Aside0.mk (blk_below (g := gb197) (o := .cells #[.string ((rd_T86 l0 x14_1).f0), .slice (some ad200) ((rd_T86 l0 x14_1).f1).length c196_1] 86 (0, 0)) Z18 hb); have n2_ := Aside0.mk (blk_below (g := gb201) (o := .cells #[.string ((rd_T31 ((rd_T86 l0 x14_1).f1) x46_3).f0), .string ((rd_T31 ((rd_T86 l0 x14_1).f1) x46_3).f1)] 31 (0, 0)) Z8 hb); have n3_ := Aside0.mk (below_step Z98 hb); clear HO_3; clear BK197; clear BK201; clear HB; have HO_3 := n0_; have BK197 := n1_; have BK201 := n2_; have HB := n3_; clear n0_ n1_ n2_ n3_; (try clear hb); (try clear hb2); (try clear hk); (try clear hi); obtain ⟨hcz31_0, hcz31_1, hfz31_0, hfz31_1⟩ := bf2 BK201.out; obtain ⟨Ao32, co32, eo32⟩ := Kd.R_slice HO_3.out; subst eo32) | (go_at_call 51; (with_reducible refine (api_Address_51.calls k3 _ _ x3_3 ((rd_T31 ((rd_T86 l0 x14_1).f1) x46_3).f0) ((rd_T31 ((rd_T86 l0 x14_1).f1) x46_3).f1) true _ ?side1 ?side2 A25.out).mono ?_); (case side1 => exact Z107); (case side2 => exact (Kd.R_reads' HO_3.out).2.1); rintro e w33 ⟨rfl, hb⟩; have n0_ := Aside0.mk (Kd.R_below Z182 hb); have n1_ := Aside0.mk (blk_below (g := gb197) (o := .cells #[.string ((rd_T86 l0 x14_1).f0), .slice (some ad200) ((rd_T86 l0 x14_1).f1).length c196_1] 86 (0, 0)) Z158 hb); have n2_ := Aside0.mk (blk_below (g := gb201) (o := .cells #[.string ((rd_T31 ((rd_T86 l0 x14_1).f1) x46_3).f0), .string ((rd_T31 ((rd_T86 l0 x14_1).f1) x46_3).f1)] 31 (0, 0)) Z159 hb); have n3_ := Aside0.mk (below_step Z98 hb); clear HO_3; clear BK197; clear BK201; clear HB; have HO_3 := n0_; have BK197 := n1_; have BK201 := n2_; have HB := n3_; clear n0_ n1_ n2_ n3_; (try clear hb); (try clear hb2); (try clear hk); (try clear hi)))
                   repeat (go_quiet (first | ((with_reducible refine gate_dst (N := 7) rfl ?_); refine box_event ?hg (N := 7) ?hd (cs := #[.string (⟨#[]⟩ : ByteArray), .string (⟨#[]⟩ : ByteArray)]) (t := 31) ?hr ?_; (case hd => rfl); (case hg => rfl); (case hr => exact Z188); intro gb201 hg w27 hbox hb; have n0_ := Aside0.mk (Kd.R_below (Kd.R_elderB Z182 gb201 (Nat.le_of_eq hg.symm)) hb); have n1_ := Aside0.mk (blk_below (g := gb197) (o := .cells #[.string ((rd_T86 l0 x14_1).f0), .slice (some ad200) ((rd_T86 l0 x14_1).f1).length c196_1] 86 (0, 0)) Z158 hb); have n2_ := Aside0.mk (below_step Z124 hb); have n3_ := Aside0.mk (hbox); have n4_ := Aside0.mk ((Z86 : w.heap.size ≤ gb201)); have n5_ := Aside0.mk ((Z86 : w.heap.size ≤ gb201)); have n6_ := Aside0.mk ((Z41 : gb197 ≠ gb201)); have n7_ := Aside0.mk ((Z42 : gb201 ≠ gb197)); clear HO_3; clear BK197; clear HB; have HO_3 := n0_; have BK197 := n1_; have HB := n2_; have BK201 := n3_; have GW201 := n4_; have GE201 := n5_; have NB197_201 := n6_; have NB201_197 := n7_; clear n0_ n1_ n2_ n3_ n4_ n5_ n6_ n7_; clear hb hbox hg; have hnb28 := NB201_197.out; have hnc28 := NB197_201.out; obtain ⟨hcz29_0, hcz29_1, hfz29_0, hfz29_1⟩ := bf2 BK201.out) | (go_at_call 46; (with_reducible refine (interchangeref8_checkAddress.calls k3 ((rd_T31 ((rd_T86 l0 x14_1).f1) x46_3).f0) ((rd_T31 ((rd_T86 l0 x14_1).f1) x46_3).f1) t202 _ A23.out).mono ?_); rintro e w30 ⟨rfl, hb⟩; have n0_ := Aside0.mk (Kd.R_below Z16 hb); have n1_ := Aside0.mk (blk_below (g := gb197) (o := .cells #[.string ((rd_T86 l0 x14_1).f0), .slice (some ad200) ((rd_T86 l0 x14_1).f1).length c196_1] 86 (0, 0)) Z18 hb); have n2_ := Aside0.mk (blk_below (g := gb201) (o := .cells #[.string ((rd_T31 ((rd_T86 l0 x14_1).f1) x46_3).f0), .string ((rd_T31 ((rd_T86 l0 x14_1).f1) x46_3).f1)] 31 (0, 0)) Z8 hb); have n3_ := Aside0.mk (below_step Z98 hb); clear HO_3; clear BK197; clear BK201; clear HB; have HO_3 := n0_; have BK197 := n1_; have BK201 := n2_; have HB := n3_; clear n0_ n1_ n2_ n3_; (try clear hb); (try clear hb2); (try clear hk); (try clear hi); obtain ⟨hcz31_0, hcz31_1, hfz31_0, hfz31_1⟩ := bf2 BK201.out; obtain ⟨Ao32, co32, eo32⟩ := Kd.R_slice HO_3.out; subst eo32) | (go_at_call 51; (with_reducible refine (api_Address_51.calls k3 _ _ x3_3 ((rd_T31 ((rd_T86 l0 x14_1).f1) x46_3).f0) ((rd_T31 ((rd_T86 l0 x14_1).f1) x46_3).f1) true _ ?side1 ?side2 A25.out).mono ?_); (case side1 => exact Z107); (case side2 => exact (Kd.R_reads' HO_3.out).2.1); rintro e w33 ⟨rfl, hb⟩; have n0_ := Aside0.mk (Kd.R_below Z182 hb); have n1_ := Aside0.mk (blk_below (g := gb197) (o := .cells #[.string ((rd_T86 l0 x14_1).f0), .slice (some ad200) ((rd_T86 l0 x14_1).f1).length c196_1] 86 (0, 0)) Z158 hb); have n2_ := Aside0.mk (blk_below (g := gb201) (o := .cells #[.string ((rd_T31 ((rd_T86 l0 x14_1).f1) x46_3).f0), .string ((rd_T31 ((rd_T86 l0 x14_1).f1) x46_3).f1)] 31 (0, 0)) Z159 hb); have n3_ := Aside0.mk (below_step Z98 hb); clear HO_3; clear BK197; clear BK201; clear HB; have HO_3 := n0_; have BK197 := n1_; have BK201 := n2_; have HB := n3_; clear n0_ n1_ n2_ n3_; (try clear hb); (try clear hb2); (try clear hk); (try clear hi))); try go_wp2_with (first | ((with_reducible refine gate_dst (N := 7) rfl ?_); refine box_event ?hg (N := 7) ?hd (cs := #[.string (⟨#[]⟩ : ByteArray), .string (⟨#[]⟩ : ByteArray)]) (t := 31) ?hr ?_; (case hd => rfl); (case hg => rfl); (case hr => exact Z188); intro gb201 hg w27 hbox hb; have n0_ := Aside0.mk (Kd.R_below (Kd.R_elderB Z182 gb201 (Nat.le_of_eq hg.symm)) hb); have n1_ := Aside0.mk (blk_below (g := gb197) (o := .cells #[.string ((rd_T86 l0 x14_1).f0), .slice (some ad200) ((rd_T86 l0 x14_1).f1).length c196_1] 86 (0, 0)) Z158 hb); have n2_ := Aside0.mk (below_step Z124 hb); have n3_ := Aside0.mk (hbox); have n4_ := Aside0.mk ((Z86 : w.heap.size ≤ gb201)); have n5_ := Aside0.mk ((Z86 : w.heap.size ≤ gb201)); have n6_ := Aside0.mk ((Z41 : gb197 ≠ gb201)); have n7_ := Aside0.mk ((Z42 : gb201 ≠ gb197)); clear HO_3; clear BK197; clear HB; have HO_3 := n0_; have BK197 := n1_; have HB := n2_; have BK201 := n3_; have GW201 := n4_; have GE201 := n5_; have NB197_201 := n6_; have NB201_197 := n7_; clear n0_ n1_ n2_ n3_ n4_ n5_ n6_ n7_; clear hb hbox hg; have hnb28 := NB201_197.out; have hnc28 := NB197_201.out; obtain ⟨hcz29_0, hcz29_1, hfz29_0, hfz29_1⟩ := bf2 BK201.out) | (go_at_call 46; (with_reducible refine (interchangeref8_checkAddress.calls k3 ((rd_T31 ((rd_T86 l0 x14_1).f1) x46_3).f0) ((rd_T31 ((rd_T86 l0 x14_1).f1) x46_3).f1) t202 _ A23.out).mono ?_); rintro e w30 ⟨rfl, hb⟩; have n0_ := Aside0.mk (Kd.R_below Z16 hb); have n1_ := Aside0.mk (blk_below (g := gb197) (o := .cells #[.string ((rd_T86 l0 x14_1).f0), .slice (some ad200) ((rd_T86 l0 x14_1).f1).length c196_1] 86 (0, 0)) Z18 hb); have n2_ := Aside0.mk (blk_below (g := gb201) (o := .cells #[.string ((rd_T31 ((rd_T86 l0 x14_1).f1) x46_3).f0), .string ((rd_T31 ((rd_T86 l0 x14_1).f1) x46_3).f1)] 31 (0, 0)) Z8 hb); have n3_ := Aside0.mk (below_step Z98 hb); clear HO_3; clear BK197; clear BK201; clear HB; have HO_3 := n0_; have BK197 := n1_; have BK201 := n2_; have HB := n3_; clear n0_ n1_ n2_ n3_; (try clear hb); (try clear hb2); (try clear hk); (try clear hi); obtain ⟨hcz31_0, hcz31_1, hfz31_0, hfz31_1⟩ := bf2 BK201.out; obtain ⟨Ao32, co32, eo32⟩ := Kd.R_slice HO_3.out; subst eo32) | (go_at_call 51; (with_reducible refine (api_Address_51.calls k3 _ _ x3_3 ((rd_T31 ((rd_T86 l0 x14_1).f1) x46_3).f0) ((rd_T31 ((rd_T86 l0 x14_1).f1) x46_3).f1) true _ ?side1 ?side2 A25.out).mono ?_); (case side1 => exact Z107); (case side2 => exact (Kd.R_reads' HO_3.out).2.1); rintro e w33 ⟨rfl, hb⟩; have n0_ := Aside0.mk (Kd.R_below Z182 hb); have n1_ := Aside0.mk (blk_below (g := gb197) (o := .cells #[.string ((rd_T86 l0 x14_1).f0), .slice (some ad200) ((rd_T86 l0 x14_1).f1).length c196_1] 86 (0, 0)) Z158 hb); have n2_ := Aside0.mk (blk_below (g := gb201) (o := .cells #[.string ((rd_T31 ((rd_T86 l0 x14_1).f1) x46_3).f0), .string ((rd_T31 ((rd_T86 l0 x14_1).f1) x46_3).f1)] 31 (0, 0)) Z159 hb); have n3_ := Aside0.mk (below_step Z98 hb); clear HO_3; clear BK197; clear BK201; clear HB; have HO_3 := n0_; have BK197 := n1_; have BK201 := n2_; have HB := n3_; clear n0_ n1_ n2_ n3_; (try clear hb); (try clear hb2); (try clear hk); (try clear hi))))
                   go_ret
                   exact ⟨Z138, Z98⟩
                  ·replace c26 := Bool.eq_false_iff.mpr c26
                   subst c26
                   have H1 : (if x3_3.length < 4398046511104 then (interchangeref8_CheckPartners.l1 k3 l0 (x3_3 ++ [(⟨(rd_T31 ((rd_T86 l0 x14_1).f1) x46_3).f0, (rd_T31 ((rd_T86 l0 x14_1).f1) x46_3).f1⟩ : S31)]) l0 (l0.length : Int) x14_1 ((rd_T86 l0 x14_1).f1) (((rd_T86 l0 x14_1).f1).length : Int) (wrap64 (x46_3 + 1))) else (none)) = some r := by rw [if_neg (show ¬ (false = true) by decide)] at H; exact H
                   clear H
                   have H := H1
                   clear H1
                   by_cases c34 : x3_3.length < 4398046511104
                   ·rw [if_pos c34] at H
                    have LMc34 := Aside0.mk c34
                    clear c34
                    obtain ⟨y204, hy204⟩ : ∃ y_ : List (S31), y_ = (x3_3 ++ [(⟨(rd_T31 ((rd_T86 l0 x14_1).f1) x46_3).f0, (rd_T31 ((rd_T86 l0 x14_1).f1) x46_3).f1⟩ : S31)]) := ⟨_, rfl⟩
                    replace H : (interchangeref8_CheckPartners.l1 k3 l0 y204 l0 (l0.length : Int) x14_1 ((rd_T86 l0 x14_1).f1) (((rd_T86 l0 x14_1).f1).length : Int) (wrap64 (x46_3 + 1))) = some r := by first | (rw [hy204]; with_reducible exact H) | (have H2_ := (Option.bind_some _ _).symm.trans H; rw [hy204]; with_reducible exact H2_) | (have H2_ := (Option.bind_some _ _).symm.trans H; with_reducible exact H2_) | with_reducible exact H | (rw [hy204]; exact H) | exact H
                    have Ny204 := Aside0.mk hy204
                    clear hy204
                    have H' := Aside0.mk H
                    clear H
                    have p200 : 0 ≤ (x46_3 : Int) := of_decide_eq_true Z186
                    have q200 : x46_3 < (((rd_T86 l0 x14_1).f1).length : Int) := of_decide_eq_true Z186
                    obtain ⟨ad200, e200, hx200_0, hx200_1⟩ := at_T31 HR196_1.out x46_3 p200 q200
                    cases e200
                    replace hx200_0 := (HB.out.cell (World.block_lt_of_cell? w _ hx200_0)).trans hx200_0
                    replace hx200_1 := (HB.out.cell (World.block_lt_of_cell? w _ hx200_1)).trans hx200_1
                    replace p200 := eq_true p200
                    replace q200 := eq_true q200
                    go_wp2_with (first | ((with_reducible refine gate_dst (N := 7) rfl ?_); refine box_event ?hg (N := 7) ?hd (cs := #[.string (⟨#[]⟩ : ByteArray), .string (⟨#[]⟩ : ByteArray)]) (t := 31) ?hr ?_; (case hd => rfl); (case hg => rfl); (case hr => exact Z188); intro gb201 hg w35 hbox hb; have n0_ := Aside0.mk (Kd.R_below (Kd.R_elderB Z182 gb201 (Nat.le_of_eq hg.symm)) hb); have n1_ := Aside0.mk (blk_below (g := gb197) (o := .cells #[.string ((rd_T86 l0 x14_1).f0), .slice (some ad200) ((rd_T86 l0 x14_1).f1).length c196_1] 86 (0, 0)) Z158 hb); have n2_ := Aside0.mk (below_step Z124 hb); have n3_ := Aside0.mk (hbox); have n4_ := Aside0.mk ((Z86 : w.heap.size ≤ gb201)); have n5_ := Aside0.mk ((Z86 : w.heap.size ≤ gb201)); have n6_ := Aside0.mk ((Z41 : gb197 ≠ gb201)); have n7_ := Aside0.mk ((Z42 : gb201 ≠ gb197)); clear HO_3; clear BK197; clear HB; have HO_3 := n0_; have BK197 := n1_; have HB := n2_; have BK201 := n3_; have GW201 := n4_; have GE201 := n5_; have NB197_201 := n6_; have NB201_197 := n7_; clear n0_ n1_ n2_ n3_ n4_ n5_ n6_ n7_; clear hb hbox hg; have hnb36 := NB201_197.out; have hnc36 := NB197_201.out; obtain ⟨hcz37_0, hcz37_1, hfz37_0, hfz37_1⟩ := bf2 BK201.out) | (go_at_call 46; (with_reducible refine (interchangeref8_checkAddress.calls k3 ((rd_T31 ((rd_T86 l0 x14_1).f1) x46_3).f0) ((rd_T31 ((rd_T86 l0 x14_1).f1) x46_3).f1) t202 _ A23.out).mono ?_); rintro e w38 ⟨rfl, hb⟩; have n0_ := Aside0.mk (Kd.R_below Z16 hb); have n1_ := Aside0.mk (blk_below (g := gb197) (o := .cells #[.string ((rd_T86 l0 x14_1).f0), .slice (some ad200) ((rd_T86 l0 x14_1).f1).length c196_1] 86 (0, 0)) Z18 hb); have n2_ := Aside0.mk (blk_below (g := gb201) (o := .cells #[.string ((rd_T31 ((rd_T86 l0 x14_1).f1) x46_3).f0), .string ((rd_T31 ((rd_T86 l0 x14_1).f1) x46_3).f1)] 31 (0, 0)) Z8 hb); have n3_ := Aside0.mk (below_step Z98 hb); clear HO_3; clear BK197; clear BK201; clear HB; have HO_3 := n0_; have BK197 := n1_; have BK201 := n2_; have HB := n3_; clear n0_ n1_ n2_ n3_; (try clear hb); (try clear hb2); (try clear hk); (try clear hi); obtain ⟨hcz39_0, hcz39_1, hfz39_0, hfz39_1⟩ := bf2 BK201.out; obtain ⟨Ao40, co40, eo40⟩ := Kd.R_slice HO_3.out; subst eo40) | (go_at_call 51; (with_reducible refine (api_Address_51.calls k3 _ _ x3_3 ((rd_T31 ((rd_T86 l0 x14_1).f1) x46_3).f0) ((rd_T31 ((rd_T86 l0 x14_1).f1) x46_3).f1) false _ ?side1 ?side2 A25.out).mono ?_); (case side1 => exact Z107); (case side2 => exact (Kd.R_reads' HO_3.out).2.1); rintro e w41 ⟨rfl, hb⟩; have n0_ := Aside0.mk (Kd.R_below Z182 hb); have n1_ := Aside0.mk (blk_below (g := gb197) (o := .cells #[.string ((rd_T86 l0 x14_1).f0), .slice (some ad200) ((rd_T86 l0 x14_1).f1).length c196_1] 86 (0, 0)) Z158 hb); have n2_ := Aside0.mk (blk_below (g := gb201) (o := .cells #[.string ((rd_T31 ((rd_T86 l0 x14_1).f1) x46_3).f0), .string ((rd_T31 ((rd_T86 l0 x14_1).f1) x46_3).f1)] 31 (0, 0)) Z159 hb); have n3_ := Aside0.mk (below_step Z98 hb); clear HO_3; clear BK197; clear BK201; clear HB; have HO_3 := n0_; have BK197 := n1_; have BK201 := n2_; have HB := n3_; clear n0_ n1_ n2_ n3_; (try clear hb); (try clear hb2); (try clear hk); (try clear hi); obtain ⟨hcz42_0, hcz42_1, hfz42_0, hfz42_1⟩ := bf2 BK201.out) | ((with_reducible refine gate_builtin (b := .append) (xs := #[.tmp 58, .tmp 60]) rfl ?_); at_builtin; refine Kd.R_append k31 (w0 := w) w.heap.size rfl (.tmp 58) (.tmp 60) 84 31 (.agg #[(.string ⟨#[]⟩), (.string ⟨#[]⟩)]) 32 rfl Tryd.underlying84 info31 rfl (by decide) (by omega) (.slice Ao40 x3_3.length co40) x3_3 (⟨(rd_T31 ((rd_T86 l0 x14_1).f1) x46_3).f0, (rd_T31 ((rd_T86 l0 x14_1).f1) x46_3).f1⟩ : S31) [.string ((rd_T31 ((rd_T86 l0 x14_1).f1) x46_3).f0), .string ((rd_T31 ((rd_T86 l0 x14_1).f1) x46_3).f1)] (fun k_ => k_ ≠ gb201) (fun _ => False) rfl rfl ?aP (fun _ hk => hk.elim) ?aF ?aO ?aB ?aS ?aL ?_; (case aP => exact k31_mkM _ _ _ (⟨(rd_T31 ((rd_T86 l0 x14_1).f1) x46_3).f0, (rd_T31 ((rd_T86 l0 x14_1).f1) x46_3).f1⟩ : S31)); (case aB => exact Z98); (case aF => exact (fun k_ hk => Kd.freshB (g := gb201) (o := .cells #[.string ((rd_T31 ((rd_T86 l0 x14_1).f1) x46_3).f0), .string ((rd_T31 ((rd_T86 l0 x14_1).f1) x46_3).f1)] 31 (0, 0)) Z159 k_ hk)); (case aO => exact Z141); (case aS => exact (below_size Z98)); (case aL => have := LMc34.out; omega); intro v205 w43 ho hb hg hat; rw [← Ny204.out] at ho; have n0_ := Aside0.mk (blk_grown (g := gb197) (o := .cells #[.string ((rd_T86 l0 x14_1).f0), .slice (some ad200) ((rd_T86 l0 x14_1).f1).length c196_1] 86 (0, 0)) Z158 hg (Kd.R_ne HO_3.out BK197.out (by decide))); have n1_ := Aside0.mk (blk_grown (g := gb201) (o := .cells #[.string ((rd_T31 ((rd_T86 l0 x14_1).f1) x46_3).f0), .string ((rd_T31 ((rd_T86 l0 x14_1).f1) x46_3).f1)] 31 (0, 0)) Z159 hg (Kd.R_away HO_3.out (fun _ hk => hk.2))); have n2_ := Aside0.mk (hb); have n3_ := Aside0.mk (ho); clear BK197; clear BK201; clear HB; clear HO_3; have BK197 := n0_; have BK201 := n1_; have HB := n2_; have HO206 := n3_; clear n0_ n1_ n2_ n3_; clear ho hb hg hat))
                    repeat (go_quiet (first | ((with_reducible refine gate_dst (N := 7) rfl ?_); refine box_event ?hg (N := 7) ?hd (cs := #[.string (⟨#[]⟩ : ByteArray), .string (⟨#[]⟩ : ByteArray)]) (t := 31) ?hr ?_; (case hd => rfl); (case hg => rfl); (case hr => exact Z188); intro gb201 hg w35 hbox hb; have n0_ := Aside0.mk (Kd.R_below (Kd.R_elderB Z182 gb201 (Nat.le_of_eq hg.symm)) hb); have n1_ := Aside0.mk (blk_below (g := gb197) (o := .cells #[.string ((rd_T86 l0 x14_1).f0), .slice (some ad200) ((rd_T86 l0 x14_1).f1).length c196_1] 86 (0, 0)) Z158 hb); have n2_ := Aside0.mk (below_step Z124 hb); have n3_ := Aside0.mk (hbox); have n4_ := Aside0.mk ((Z86 : w.heap.size ≤ gb201)); have n5_ := Aside0.mk ((Z86 : w.heap.size ≤ gb201)); have n6_ := Aside0.mk ((Z41 : gb197 ≠ gb201)); have n7_ := Aside0.mk ((Z42 : gb201 ≠ gb197)); clear HO_3; clear BK197; clear HB; have HO_3 := n0_; have BK197 := n1_; have HB := n2_; have BK201 := n3_; have GW201 := n4_; have GE201 := n5_; have NB197_201 := n6_; have NB201_197 := n7_; clear n0_ n1_ n2_ n3_ n4_ n5_ n6_ n7_; clear hb hbox hg; have hnb36 := NB201_197.out; have hnc36 := NB197_201.out; obtain ⟨hcz37_0, hcz37_1, hfz37_0, hfz37_1⟩ := bf2 BK201.out) | (go_at_call 46; (with_reducible refine (interchangeref8_checkAddress.calls k3 ((rd_T31 ((rd_T86 l0 x14_1).f1) x46_3).f0) ((rd_T31 ((rd_T86 l0 x14_1).f1) x46_3).f1) t202 _ A23.out).mono ?_); rintro e w38 ⟨rfl, hb⟩; have n0_ := Aside0.mk (Kd.R_below Z16 hb); have n1_ := Aside0.mk (blk_below (g := gb197) (o := .cells #[.string ((rd_T86 l0 x14_1).f0), .slice (some ad200) ((rd_T86 l0 x14_1).f1).length c196_1] 86 (0, 0)) Z18 hb); have n2_ := Aside0.mk (blk_below (g := gb201) (o := .cells #[.string ((rd_T31 ((rd_T86 l0 x14_1).f1) x46_3).f0), .string ((rd_T31 ((rd_T86 l0 x14_1).f1) x46_3).f1)] 31 (0, 0)) Z8 hb); have n3_ := Aside0.mk (below_step Z98 hb); clear HO_3; clear BK197; clear BK201; clear HB; have HO_3 := n0_; have BK197 := n1_; have BK201 := n2_; have HB := n3_; clear n0_ n1_ n2_ n3_; (try clear hb); (try clear hb2); (try clear hk); (try clear hi); obtain ⟨hcz39_0, hcz39_1, hfz39_0, hfz39_1⟩ := bf2 BK201.out; obtain ⟨Ao40, co40, eo40⟩ := Kd.R_slice HO_3.out; subst eo40) | (go_at_call 51; (with_reducible refine (api_Address_51.calls k3 _ _ x3_3 ((rd_T31 ((rd_T86 l0 x14_1).f1) x46_3).f0) ((rd_T31 ((rd_T86 l0 x14_1).f1) x46_3).f1) false _ ?side1 ?side2 A25.out).mono ?_); (case side1 => exact Z107); (case side2 => exact (Kd.R_reads' HO_3.out).2.1); rintro e w41 ⟨rfl, hb⟩; have n0_ := Aside0.mk (Kd.R_below Z182 hb); have n1_ := Aside0.mk (blk_below (g := gb197) (o := .cells #[.string ((rd_T86 l0 x14_1).f0), .slice (some ad200) ((rd_T86 l0 x14_1).f1).length c196_1] 86 (0, 0)) Z158 hb); have n2_ := Aside0.mk (blk_below (g := gb201) (o := .cells #[.string ((rd_T31 ((rd_T86 l0 x14_1).f1) x46_3).f0), .string ((rd_T31 ((rd_T86 l0 x14_1).f1) x46_3).f1)] 31 (0, 0)) Z159 hb); have n3_ := Aside0.mk (below_step Z98 hb); clear HO_3; clear BK197; clear BK201; clear HB; have HO_3 := n0_; have BK197 := n1_; have BK201 := n2_; have HB := n3_; clear n0_ n1_ n2_ n3_; (try clear hb); (try clear hb2); (try clear hk); (try clear hi); obtain ⟨hcz42_0, hcz42_1, hfz42_0, hfz42_1⟩ := bf2 BK201.out) | ((with_reducible refine gate_builtin (b := .append) (xs := #[.tmp 58, .tmp 60]) rfl ?_); at_builtin; refine Kd.R_append k31 (w0 := w) w.heap.size rfl (.tmp 58) (.tmp 60) 84 31 (.agg #[(.string ⟨#[]⟩), (.string ⟨#[]⟩)]) 32 rfl Tryd.underlying84 info31 rfl (by decide) (by omega) (.slice Ao40 x3_3.length co40) x3_3 (⟨(rd_T31 ((rd_T86 l0 x14_1).f1) x46_3).f0, (rd_T31 ((rd_T86 l0 x14_1).f1) x46_3).f1⟩ : S31) [.string ((rd_T31 ((rd_T86 l0 x14_1).f1) x46_3).f0), .string ((rd_T31 ((rd_T86 l0 x14_1).f1) x46_3).f1)] (fun k_ => k_ ≠ gb201) (fun _ => False) rfl rfl ?aP (fun _ hk => hk.elim) ?aF ?aO ?aB ?aS ?aL ?_; (case aP => exact k31_mkM _ _ _ (⟨(rd_T31 ((rd_T86 l0 x14_1).f1) x46_3).f0, (rd_T31 ((rd_T86 l0 x14_1).f1) x46_3).f1⟩ : S31)); (case aB => exact Z98); (case aF => exact (fun k_ hk => Kd.freshB (g := gb201) (o := .cells #[.string ((rd_T31 ((rd_T86 l0 x14_1).f1) x46_3).f0), .string ((rd_T31 ((rd_T86 l0 x14_1).f1) x46_3).f1)] 31 (0, 0)) Z159 k_ hk)); (case aO => exact Z141); (case aS => exact (below_size Z98)); (case aL => have := LMc34.out; omega); intro v205 w43 ho hb hg hat; rw [← Ny204.out] at ho; have n0_ := Aside0.mk (blk_grown (g := gb197) (o := .cells #[.string ((rd_T86 l0 x14_1).f0), .slice (some ad200) ((rd_T86 l0 x14_1).f1).length c196_1] 86 (0, 0)) Z158 hg (Kd.R_ne HO_3.out BK197.out (by decide))); have n1_ := Aside0.mk (blk_grown (g := gb201) (o := .cells #[.string ((rd_T31 ((rd_T86 l0 x14_1).f1) x46_3).f0), .string ((rd_T31 ((rd_T86 l0 x14_1).f1) x46_3).f1)] 31 (0, 0)) Z159 hg (Kd.R_away HO_3.out (fun _ hk => hk.2))); have n2_ := Aside0.mk (hb); have n3_ := Aside0.mk (ho); clear BK197; clear BK201; clear HB; clear HO_3; have BK197 := n0_; have BK201 := n1_; have HB := n2_; have HO206 := n3_; clear n0_ n1_ n2_ n3_; clear ho hb hg hat)); try go_wp2_with (first | ((with_reducible refine gate_dst (N := 7) rfl ?_); refine box_event ?hg (N := 7) ?hd (cs := #[.string (⟨#[]⟩ : ByteArray), .string (⟨#[]⟩ : ByteArray)]) (t := 31) ?hr ?_; (case hd => rfl); (case hg => rfl); (case hr => exact Z188); intro gb201 hg w35 hbox hb; have n0_ := Aside0.mk (Kd.R_below (Kd.R_elderB Z182 gb201 (Nat.le_of_eq hg.symm)) hb); have n1_ := Aside0.mk (blk_below (g := gb197) (o := .cells #[.string ((rd_T86 l0 x14_1).f0), .slice (some ad200) ((rd_T86 l0 x14_1).f1).length c196_1] 86 (0, 0)) Z158 hb); have n2_ := Aside0.mk (below_step Z124 hb); have n3_ := Aside0.mk (hbox); have n4_ := Aside0.mk ((Z86 : w.heap.size ≤ gb201)); have n5_ := Aside0.mk ((Z86 : w.heap.size ≤ gb201)); have n6_ := Aside0.mk ((Z41 : gb197 ≠ gb201)); have n7_ := Aside0.mk ((Z42 : gb201 ≠ gb197)); clear HO_3; clear BK197; clear HB; have HO_3 := n0_; have BK197 := n1_; have HB := n2_; have BK201 := n3_; have GW201 := n4_; have GE201 := n5_; have NB197_201 := n6_; have NB201_197 := n7_; clear n0_ n1_ n2_ n3_ n4_ n5_ n6_ n7_; clear hb hbox hg; have hnb36 := NB201_197.out; have hnc36 := NB197_201.out; obtain ⟨hcz37_0, hcz37_1, hfz37_0, hfz37_1⟩ := bf2 BK201.out) | (go_at_call 46; (with_reducible refine (interchangeref8_checkAddress.calls k3 ((rd_T31 ((rd_T86 l0 x14_1).f1) x46_3).f0) ((rd_T31 ((rd_T86 l0 x14_1).f1) x46_3).f1) t202 _ A23.out).mono ?_); rintro e w38 ⟨rfl, hb⟩; have n0_ := Aside0.mk (Kd.R_below Z16 hb); have n1_ := Aside0.mk (blk_below (g := gb197) (o := .cells #[.string ((rd_T86 l0 x14_1).f0), .slice (some ad200) ((rd_T86 l0 x14_1).f1).length c196_1] 86 (0, 0)) Z18 hb); have n2_ := Aside0.mk (blk_below (g := gb201) (o := .cells #[.string ((rd_T31 ((rd_T86 l0 x14_1).f1) x46_3).f0), .string ((rd_T31 ((rd_T86 l0 x14_1).f1) x46_3).f1)] 31 (0, 0)) Z8 hb); have n3_ := Aside0.mk (below_step Z98 hb); clear HO_3; clear BK197; clear BK201; clear HB; have HO_3 := n0_; have BK197 := n1_; have BK201 := n2_; have HB := n3_; clear n0_ n1_ n2_ n3_; (try clear hb); (try clear hb2); (try clear hk); (try clear hi); obtain ⟨hcz39_0, hcz39_1, hfz39_0, hfz39_1⟩ := bf2 BK201.out; obtain ⟨Ao40, co40, eo40⟩ := Kd.R_slice HO_3.out; subst eo40) | (go_at_call 51; (with_reducible refine (api_Address_51.calls k3 _ _ x3_3 ((rd_T31 ((rd_T86 l0 x14_1).f1) x46_3).f0) ((rd_T31 ((rd_T86 l0 x14_1).f1) x46_3).f1) false _ ?side1 ?side2 A25.out).mono ?_); (case side1 => exact Z107); (case side2 => exact (Kd.R_reads' HO_3.out).2.1); rintro e w41 ⟨rfl, hb⟩; have n0_ := Aside0.mk (Kd.R_below Z182 hb); have n1_ := Aside0.mk (blk_below (g := gb197) (o := .cells #[.string ((rd_T86 l0 x14_1).f0), .slice (some ad200) ((rd_T86 l0 x14_1).f1).length c196_1] 86 (0, 0)) Z158 hb); have n2_ := Aside0.mk (blk_below (g := gb201) (o := .cells #[.string ((rd_T31 ((rd_T86 l0 x14_1).f1) x46_3).f0), .string ((rd_T31 ((rd_T86 l0 x14_1).f1) x46_3).f1)] 31 (0, 0)) Z159 hb); have n3_ := Aside0.mk (below_step Z98 hb); clear HO_3; clear BK197; clear BK201; clear HB; have HO_3 := n0_; have BK197 := n1_; have BK201 := n2_; have HB := n3_; clear n0_ n1_ n2_ n3_; (try clear hb); (try clear hb2); (try clear hk); (try clear hi); obtain ⟨hcz42_0, hcz42_1, hfz42_0, hfz42_1⟩ := bf2 BK201.out) | ((with_reducible refine gate_builtin (b := .append) (xs := #[.tmp 58, .tmp 60]) rfl ?_); at_builtin; refine Kd.R_append k31 (w0 := w) w.heap.size rfl (.tmp 58) (.tmp 60) 84 31 (.agg #[(.string ⟨#[]⟩), (.string ⟨#[]⟩)]) 32 rfl Tryd.underlying84 info31 rfl (by decide) (by omega) (.slice Ao40 x3_3.length co40) x3_3 (⟨(rd_T31 ((rd_T86 l0 x14_1).f1) x46_3).f0, (rd_T31 ((rd_T86 l0 x14_1).f1) x46_3).f1⟩ : S31) [.string ((rd_T31 ((rd_T86 l0 x14_1).f1) x46_3).f0), .string ((rd_T31 ((rd_T86 l0 x14_1).f1) x46_3).f1)] (fun k_ => k_ ≠ gb201) (fun _ => False) rfl rfl ?aP (fun _ hk => hk.elim) ?aF ?aO ?aB ?aS ?aL ?_; (case aP => exact k31_mkM _ _ _ (⟨(rd_T31 ((rd_T86 l0 x14_1).f1) x46_3).f0, (rd_T31 ((rd_T86 l0 x14_1).f1) x46_3).f1⟩ : S31)); (case aB => exact Z98); (case aF => exact (fun k_ hk => Kd.freshB (g := gb201) (o := .cells #[.string ((rd_T31 ((rd_T86 l0 x14_1).f1) x46_3).f0), .string ((rd_T31 ((rd_T86 l0 x14_1).f1) x46_3).f1)] 31 (0, 0)) Z159 k_ hk)); (case aO => exact Z141); (case aS => exact (below_size Z98)); (case aL => have := LMc34.out; omega); intro v205 w43 ho hb hg hat; rw [← Ny204.out] at ho; have n0_ := Aside0.mk (blk_grown (g := gb197) (o := .cells #[.string ((rd_T86 l0 x14_1).f0), .slice (some ad200) ((rd_T86 l0 x14_1).f1).length c196_1] 86 (0, 0)) Z158 hg (Kd.R_ne HO_3.out BK197.out (by decide))); have n1_ := Aside0.mk (blk_grown (g := gb201) (o := .cells #[.string ((rd_T31 ((rd_T86 l0 x14_1).f1) x46_3).f0), .string ((rd_T31 ((rd_T86 l0 x14_1).f1) x46_3).f1)] 31 (0, 0)) Z159 hg (Kd.R_away HO_3.out (fun _ hk => hk.2))); have n2_ := Aside0.mk (hb); have n3_ := Aside0.mk (ho); clear BK197; clear BK201; clear HB; clear HO_3; have BK197 := n0_; have BK201 := n1_; have HB := n2_; have HO206 := n3_; clear n0_ n1_ n2_ n3_; clear ho hb hg hat)))
                    go_roundg k3
                    case measure => have := HK1.out; have := HJ7.out; have := HK3.out; omega
                    case rel => exact ⟨(y204), (wrap64 (x46_3 + 1)), Z183, H', ⟨by have := HK1.out; have := HJ7.out; have := HK3.out; omega⟩, ⟨by (with_reducible repeat (first | apply Kd.R_alloc | apply Kd.R_drewN | apply Kd.R_drew)); exact Kd.R_mono HO206.out (fun _ hk => trivial)⟩, ⟨Z158⟩, ⟨Z98⟩⟩
                   ·rw [if_neg c34] at H
                    exact absurd H (by simp)
                 ·rw [if_neg c24] at H
                  have c24b0 : (t202 == 0) = false := beq_eq_false_iff_ne.mpr c24
                  have c24b1 : (t202 != 0) = true := bne_iff_ne.mpr c24
                  obtain rfl := Option.some.inj H
                  have p200 : 0 ≤ (x46_3 : Int) := of_decide_eq_true Z186
                  have q200 : x46_3 < (((rd_T86 l0 x14_1).f1).length : Int) := of_decide_eq_true Z186
                  obtain ⟨ad200, e200, hx200_0, hx200_1⟩ := at_T31 HR196_1.out x46_3 p200 q200
                  cases e200
                  replace hx200_0 := (HB.out.cell (World.block_lt_of_cell? w _ hx200_0)).trans hx200_0
                  replace hx200_1 := (HB.out.cell (World.block_lt_of_cell? w _ hx200_1)).trans hx200_1
                  replace p200 := eq_true p200
                  replace q200 := eq_true q200
                  go_wp2_with (first | ((with_reducible refine gate_dst (N := 7) rfl ?_); refine box_event ?hg (N := 7) ?hd (cs := #[.string (⟨#[]⟩ : ByteArray), .string (⟨#[]⟩ : ByteArray)]) (t := 31) ?hr ?_; (case hd => rfl); (case hg => rfl); (case hr => exact Z188); intro gb201 hg w44 hbox hb; have n0_ := Aside0.mk (Kd.R_below (Kd.R_elderB Z182 gb201 (Nat.le_of_eq hg.symm)) hb); have n1_ := Aside0.mk (blk_below (g := gb197) (o := .cells #[.string ((rd_T86 l0 x14_1).f0), .slice (some ad200) ((rd_T86 l0 x14_1).f1).length c196_1] 86 (0, 0)) Z158 hb); have n2_ := Aside0.mk (below_step Z124 hb); have n3_ := Aside0.mk (hbox); have n4_ := Aside0.mk ((Z86 : w.heap.size ≤ gb201)); have n5_ := Aside0.mk ((Z86 : w.heap.size ≤ gb201)); have n6_ := Aside0.mk ((Z41 : gb197 ≠ gb201)); have n7_ := Aside0.mk ((Z42 : gb201 ≠ gb197)); clear HO_3; clear BK197; clear HB; have HO_3 := n0_; have BK197 := n1_; have HB := n2_; have BK201 := n3_; have GW201 := n4_; have GE201 := n5_; have NB197_201 := n6_; have NB201_197 := n7_; clear n0_ n1_ n2_ n3_ n4_ n5_ n6_ n7_; clear hb hbox hg; have hnb45 := NB201_197.out; have hnc45 := NB197_201.out; obtain ⟨hcz46_0, hcz46_1, hfz46_0, hfz46_1⟩ := bf2 BK201.out) | (go_at_call 46; (with_reducible refine (interchangeref8_checkAddress.calls k3 ((rd_T31 ((rd_T86 l0 x14_1).f1) x46_3).f0) ((rd_T31 ((rd_T86 l0 x14_1).f1) x46_3).f1) t202 _ A23.out).mono ?_); rintro e w47 ⟨rfl, hb⟩; have n0_ := Aside0.mk (Kd.R_below Z16 hb); have n1_ := Aside0.mk (blk_below (g := gb197) (o := .cells #[.string ((rd_T86 l0 x14_1).f0), .slice (some ad200) ((rd_T86 l0 x14_1).f1).length c196_1] 86 (0, 0)) Z18 hb); have n2_ := Aside0.mk (blk_below (g := gb201) (o := .cells #[.string ((rd_T31 ((rd_T86 l0 x14_1).f1) x46_3).f0), .string ((rd_T31 ((rd_T86 l0 x14_1).f1) x46_3).f1)] 31 (0, 0)) Z8 hb); have n3_ := Aside0.mk (below_step Z98 hb); clear HO_3; clear BK197; clear BK201; clear HB; have HO_3 := n0_; have BK197 := n1_; have BK201 := n2_; have HB := n3_; clear n0_ n1_ n2_ n3_; (try clear hb); (try clear hb2); (try clear hk); (try clear hi)))
                  repeat (go_quiet (first | ((with_reducible refine gate_dst (N := 7) rfl ?_); refine box_event ?hg (N := 7) ?hd (cs := #[.string (⟨#[]⟩ : ByteArray), .string (⟨#[]⟩ : ByteArray)]) (t := 31) ?hr ?_; (case hd => rfl); (case hg => rfl); (case hr => exact Z188); intro gb201 hg w44 hbox hb; have n0_ := Aside0.mk (Kd.R_below (Kd.R_elderB Z182 gb201 (Nat.le_of_eq hg.symm)) hb); have n1_ := Aside0.mk (blk_below (g := gb197) (o := .cells #[.string ((rd_T86 l0 x14_1).f0), .slice (some ad200) ((rd_T86 l0 x14_1).f1).length c196_1] 86 (0, 0)) Z158 hb); have n2_ := Aside0.mk (below_step Z124 hb); have n3_ := Aside0.mk (hbox); have n4_ := Aside0.mk ((Z86 : w.heap.size ≤ gb201)); have n5_ := Aside0.mk ((Z86 : w.heap.size ≤ gb201)); have n6_ := Aside0.mk ((Z41 : gb197 ≠ gb201)); have n7_ := Aside0.mk ((Z42 : gb201 ≠ gb197)); clear HO_3; clear BK197; clear HB; have HO_3 := n0_; have BK197 := n1_; have HB := n2_; have BK201 := n3_; have GW201 := n4_; have GE201 := n5_; have NB197_201 := n6_; have NB201_197 := n7_; clear n0_ n1_ n2_ n3_ n4_ n5_ n6_ n7_; clear hb hbox hg; have hnb45 := NB201_197.out; have hnc45 := NB197_201.out; obtain ⟨hcz46_0, hcz46_1, hfz46_0, hfz46_1⟩ := bf2 BK201.out) | (go_at_call 46; (with_reducible refine (interchangeref8_checkAddress.calls k3 ((rd_T31 ((rd_T86 l0 x14_1).f1) x46_3).f0) ((rd_T31 ((rd_T86 l0 x14_1).f1) x46_3).f1) t202 _ A23.out).mono ?_); rintro e w47 ⟨rfl, hb⟩; have n0_ := Aside0.mk (Kd.R_below Z16 hb); have n1_ := Aside0.mk (blk_below (g := gb197) (o := .cells #[.string ((rd_T86 l0 x14_1).f0), .slice (some ad200) ((rd_T86 l0 x14_1).f1).length c196_1] 86 (0, 0)) Z18 hb); have n2_ := Aside0.mk (blk_below (g := gb201) (o := .cells #[.string ((rd_T31 ((rd_T86 l0 x14_1).f1) x46_3).f0), .string ((rd_T31 ((rd_T86 l0 x14_1).f1) x46_3).f1)] 31 (0, 0)) Z8 hb); have n3_ := Aside0.mk (below_step Z98 hb); clear HO_3; clear BK197; clear BK201; clear HB; have HO_3 := n0_; have BK197 := n1_; have BK201 := n2_; have HB := n3_; clear n0_ n1_ n2_ n3_; (try clear hb); (try clear hb2); (try clear hk); (try clear hi))); try go_wp2_with (first | ((with_reducible refine gate_dst (N := 7) rfl ?_); refine box_event ?hg (N := 7) ?hd (cs := #[.string (⟨#[]⟩ : ByteArray), .string (⟨#[]⟩ : ByteArray)]) (t := 31) ?hr ?_; (case hd => rfl); (case hg => rfl); (case hr => exact Z188); intro gb201 hg w44 hbox hb; have n0_ := Aside0.mk (Kd.R_below (Kd.R_elderB Z182 gb201 (Nat.le_of_eq hg.symm)) hb); have n1_ := Aside0.mk (blk_below (g := gb197) (o := .cells #[.string ((rd_T86 l0 x14_1).f0), .slice (some ad200) ((rd_T86 l0 x14_1).f1).length c196_1] 86 (0, 0)) Z158 hb); have n2_ := Aside0.mk (below_step Z124 hb); have n3_ := Aside0.mk (hbox); have n4_ := Aside0.mk ((Z86 : w.heap.size ≤ gb201)); have n5_ := Aside0.mk ((Z86 : w.heap.size ≤ gb201)); have n6_ := Aside0.mk ((Z41 : gb197 ≠ gb201)); have n7_ := Aside0.mk ((Z42 : gb201 ≠ gb197)); clear HO_3; clear BK197; clear HB; have HO_3 := n0_; have BK197 := n1_; have HB := n2_; have BK201 := n3_; have GW201 := n4_; have GE201 := n5_; have NB197_201 := n6_; have NB201_197 := n7_; clear n0_ n1_ n2_ n3_ n4_ n5_ n6_ n7_; clear hb hbox hg; have hnb45 := NB201_197.out; have hnc45 := NB197_201.out; obtain ⟨hcz46_0, hcz46_1, hfz46_0, hfz46_1⟩ := bf2 BK201.out) | (go_at_call 46; (with_reducible refine (interchangeref8_checkAddress.calls k3 ((rd_T31 ((rd_T86 l0 x14_1).f1) x46_3).f0) ((rd_T31 ((rd_T86 l0 x14_1).f1) x46_3).f1) t202 _ A23.out).mono ?_); rintro e w47 ⟨rfl, hb⟩; have n0_ := Aside0.mk (Kd.R_below Z16 hb); have n1_ := Aside0.mk (blk_below (g := gb197) (o := .cells #[.string ((rd_T86 l0 x14_1).f0), .slice (some ad200) ((rd_T86 l0 x14_1).f1).length c196_1] 86 (0, 0)) Z18 hb); have n2_ := Aside0.mk (blk_below (g := gb201) (o := .cells #[.string ((rd_T31 ((rd_T86 l0 x14_1).f1) x46_3).f0), .string ((rd_T31 ((rd_T86 l0 x14_1).f1) x46_3).f1)] 31 (0, 0)) Z8 hb); have n3_ := Aside0.mk (below_step Z98 hb); clear HO_3; clear BK197; clear BK201; clear HB; have HO_3 := n0_; have BK197 := n1_; have BK201 := n2_; have HB := n3_; clear n0_ n1_ n2_ n3_; (try clear hb); (try clear hb2); (try clear hk); (try clear hi))))
                  go_ret
                  exact ⟨Z138, Z98⟩
                ·rw [if_neg c22] at H
                 exact absurd H (by simp)
               ·rw [if_neg c21] at H
                exact absurd H (by simp)
              ·rw [if_neg c20] at H
               have c20b0 : decide (x46_3 < (((rd_T86 l0 x14_1).f1).length : Int)) = false := decide_eq_false c20
               clear c20
               have H' := Aside0.mk H
               clear H
               go_wp2
               repeat (go_quiet (fail); try go_wp2)
               go_roundg k3
               case measure => have := HK1.out; have := HJ7.out; have := HK3.out; omega
               case rel => exact ⟨(x3_3), (wrap64 (x14_1 + 1)), Z183, H', ⟨by have := HK1.out; have := HJ7.out; have := HK3.out; omega⟩, ⟨Z182⟩, ⟨Z124⟩⟩
       ·replace c7 := Bool.eq_false_iff.mpr c7
        subst c7
        have H1 : (some 5) = some r := by rw [if_neg (show ¬ (false = true) by decide)] at H; exact H
        clear H
        have H := H1
        clear H1
        obtain rfl := Option.some.inj H
        have p196 : 0 ≤ (x14_1 : Int) := of_decide_eq_true Z186
        have q196 : x14_1 < (l0.length : Int) := of_decide_eq_true Z186
        obtain ⟨ad196, A196_1, c196_1, e196, hx196_0, hx196_1, hl196_1, hi196_1⟩ := at_T86 HR0.out x14_1 p196 q196
        cases e196
        replace hx196_0 := (HB.out.cell (World.block_lt_of_cell? w _ hx196_0)).trans hx196_0
        replace hx196_1 := (HB.out.cell (World.block_lt_of_cell? w _ hx196_1)).trans hx196_1
        have HR196_1 := Aside0.mk hi196_1
        have HC196_1 := Aside0.mk hl196_1
        clear hi196_1 hl196_1
        replace p196 := eq_true p196
        replace q196 := eq_true q196
        go_wp2_with (first | ((with_reducible refine gate_dst (N := 5) rfl ?_); refine box_event ?hg (N := 5) ?hd (cs := #[.string (⟨#[]⟩ : ByteArray), .slice none 0 0]) (t := 86) ?hr ?_; (case hd => rfl); (case hg => rfl); (case hr => exact Z188); intro gb197 hg w48 hbox hb; have n0_ := Aside0.mk (Kd.R_below Z182 hb); have n1_ := Aside0.mk (below_step Z140 hb); have n2_ := Aside0.mk (hbox); have n3_ := Aside0.mk ((Z108 : w.heap.size ≤ gb197)); have n4_ := Aside0.mk ((Z108 : w.heap.size ≤ gb197)); clear HO_3; clear HB; have HO_3 := n0_; have HB := n1_; have BK197 := n2_; have GW197 := n3_; have GE197 := n4_; clear n0_ n1_ n2_ n3_ n4_; clear hb hbox hg; obtain ⟨hcz49_0, hcz49_1, hfz49_0, hfz49_1⟩ := bf2 BK197.out) | (go_at_call 50; (with_reducible refine (interchangeref1_IsName.calls k1 ((rd_T86 l0 x14_1).f0) false _ A6.out).mono ?_); rintro e w' ⟨rfl, ⟨nd, rfl⟩⟩; (try first | exact ⟨rfl, _, World.drewN_drewN _ _ _⟩ | exact ⟨rfl, _, Eq.trans (World.drewN_drewN _ _ _) (congrArg (World.drewN _) (Nat.add_assoc _ _ _))⟩)))
        repeat (go_quiet (first | ((with_reducible refine gate_dst (N := 5) rfl ?_); refine box_event ?hg (N := 5) ?hd (cs := #[.string (⟨#[]⟩ : ByteArray), .slice none 0 0]) (t := 86) ?hr ?_; (case hd => rfl); (case hg => rfl); (case hr => exact Z188); intro gb197 hg w48 hbox hb; have n0_ := Aside0.mk (Kd.R_below Z182 hb); have n1_ := Aside0.mk (below_step Z140 hb); have n2_ := Aside0.mk (hbox); have n3_ := Aside0.mk ((Z108 : w.heap.size ≤ gb197)); have n4_ := Aside0.mk ((Z108 : w.heap.size ≤ gb197)); clear HO_3; clear HB; have HO_3 := n0_; have HB := n1_; have BK197 := n2_; have GW197 := n3_; have GE197 := n4_; clear n0_ n1_ n2_ n3_ n4_; clear hb hbox hg; obtain ⟨hcz49_0, hcz49_1, hfz49_0, hfz49_1⟩ := bf2 BK197.out) | (go_at_call 50; (with_reducible refine (interchangeref1_IsName.calls k1 ((rd_T86 l0 x14_1).f0) false _ A6.out).mono ?_); rintro e w' ⟨rfl, ⟨nd, rfl⟩⟩; (try first | exact ⟨rfl, _, World.drewN_drewN _ _ _⟩ | exact ⟨rfl, _, Eq.trans (World.drewN_drewN _ _ _) (congrArg (World.drewN _) (Nat.add_assoc _ _ _))⟩))); try go_wp2_with (first | ((with_reducible refine gate_dst (N := 5) rfl ?_); refine box_event ?hg (N := 5) ?hd (cs := #[.string (⟨#[]⟩ : ByteArray), .slice none 0 0]) (t := 86) ?hr ?_; (case hd => rfl); (case hg => rfl); (case hr => exact Z188); intro gb197 hg w48 hbox hb; have n0_ := Aside0.mk (Kd.R_below Z182 hb); have n1_ := Aside0.mk (below_step Z140 hb); have n2_ := Aside0.mk (hbox); have n3_ := Aside0.mk ((Z108 : w.heap.size ≤ gb197)); have n4_ := Aside0.mk ((Z108 : w.heap.size ≤ gb197)); clear HO_3; clear HB; have HO_3 := n0_; have HB := n1_; have BK197 := n2_; have GW197 := n3_; have GE197 := n4_; clear n0_ n1_ n2_ n3_ n4_; clear hb hbox hg; obtain ⟨hcz49_0, hcz49_1, hfz49_0, hfz49_1⟩ := bf2 BK197.out) | (go_at_call 50; (with_reducible refine (interchangeref1_IsName.calls k1 ((rd_T86 l0 x14_1).f0) false _ A6.out).mono ?_); rintro e w' ⟨rfl, ⟨nd, rfl⟩⟩; (try first | exact ⟨rfl, _, World.drewN_drewN _ _ _⟩ | exact ⟨rfl, _, Eq.trans (World.drewN_drewN _ _ _) (congrArg (World.drewN _) (Nat.add_assoc _ _ _))⟩))))
        go_ret
        exact ⟨Z138, Z124⟩
      ·rw [if_neg c5] at H
       exact absurd H (by simp)
     ·rw [if_neg c4] at H
      exact absurd H (by simp)
    ·rw [if_neg c3] at H
     have c3b0 : decide (x14_1 < (l0.length : Int)) = false := decide_eq_false c3
     clear c3
     obtain rfl := Option.some.inj H
     go_wp2
     repeat (go_quiet (fail); try go_wp2)
     go_ret
     exact ⟨Z138, Z140⟩

/-! ### interchangeref8_isAny: function 94 -/
def interchangeref8_isAny.f (k : Nat) (a0 : ByteArray) : Option (Bool) := if a0.toList = ([] : List UInt8) then (some true) else ((interchangeref1_IsName.f k a0).bind fun t207 => (some t207))
theorem interchangeref8_isAny.mono : ∀ a0 k, LeO (interchangeref8_isAny.f k a0) (interchangeref8_isAny.f (k + 1) a0) := by
 intro a0 k
 unfold interchangeref8_isAny.f
 repeat' first
   | (with_reducible exact interchangeref1_IsName.mono _ _)
   | (with_reducible exact LeO.refl _)
   | (with_reducible exact LeO.none _)
   | (with_reducible refine LeO.ite ?_ ?_)
   | (with_reducible refine LeO.bind ?_ (fun _ => ?_))
   | exact interchangeref1_IsName.mono _ _
   | exact LeO.none _
   | refine LeO.ite ?_ ?_
   | refine LeO.bind ?_ (fun _ => ?_)
set_option maxHeartbeats 8000000 in
set_option maxRecDepth 100000 in
theorem interchangeref8_isAny.calls (k : Nat) (a0 : ByteArray) (r : Bool) (w : World) (h : interchangeref8_isAny.f k a0 = some r) :
  Calls Tryd.prog 94 #[.string a0] w fun e w' => e = .returned (.bool r) ∧ Drawn0 w w' := by
 have H : (if a0.toList = ([] : List UInt8) then (some true) else ((interchangeref1_IsName.f k a0).bind fun t207 => (some t207))) = some r := h
 clear h
 by_cases c2 : a0.toList = ([] : List UInt8)
 ·rw [if_pos c2] at H
  have c2b0 : (a0.toList == ([] : List UInt8)) = true := beq_iff_eq.mpr c2
  have c2b1 : (a0.toList != ([] : List UInt8)) = false := bne_eq_false_iff_eq.mpr c2
  clear c2
  obtain rfl := Option.some.inj H
  go_enter Tryd.func94, Tryd.ntmps94
  go_wp2
  go_ret
  exact ⟨Z187, Z184⟩
 ·rw [if_neg c2] at H
  have c2b0 : (a0.toList == ([] : List UInt8)) = false := beq_eq_false_iff_ne.mpr c2
  have c2b1 : (a0.toList != ([] : List UInt8)) = true := bne_iff_ne.mpr c2
  replace H := Option.bind_eq_some_iff.mp H
  obtain ⟨t207, A30, H⟩ := H
  replace H : (some t207) = some r := H
  have A3 := Aside0.mk A30
  clear A30
  obtain rfl := Option.some.inj H
  go_enter Tryd.func94, Tryd.ntmps94
  go_wp2_with (first | (go_at_call 50; (with_reducible refine (interchangeref1_IsName.calls k a0 t207 _ A3.out).mono ?_); rintro e w' ⟨rfl, ⟨nd, rfl⟩⟩))
  go_ret
  exact ⟨Z187, Z184⟩

/-! ### interchangeref1_within: function 141 -/
def interchangeref1_within.f (a0 : Int) (a1 : Int) (a2 : Int) : Option (Bool) := if a1 ≤ a0 then (some (decide (a0 ≤ a2))) else (some false)
set_option maxHeartbeats 8000000 in
set_option maxRecDepth 100000 in
theorem interchangeref1_within.calls (a0 : Int) (a1 : Int) (a2 : Int) (r : Bool) (w : World) (h : interchangeref1_within.f a0 a1 a2 = some r) :
  Calls Tryd.prog 141 #[.int .i64 a0, .int .i64 a1, .int .i64 a2] w fun e w' => e = .returned (.bool r) ∧ Drawn0 w w' := by
 have H : (if a1 ≤ a0 then (some (decide (a0 ≤ a2))) else (some false)) = some r := h
 clear h
 by_cases c4 : a1 ≤ a0
 ·rw [if_pos c4] at H
  have c4b0 : decide (a1 ≤ a0) = true := decide_eq_true c4
  clear c4
  obtain rfl := Option.some.inj H
  go_enter Tryd.func141, Tryd.ntmps141
  go_wp2
  go_ret
  exact ⟨Z187, Z184⟩
 ·rw [if_neg c4] at H
  have c4b0 : decide (a1 ≤ a0) = false := decide_eq_false c4
  clear c4
  obtain rfl := Option.some.inj H
  go_enter Tryd.func141, Tryd.ntmps141
  go_wp2
  go_ret
  exact ⟨Z187, Z184⟩

/-! ### interchangeref1_isDay: function 121 -/
def interchangeref1_isDay.f (a0 : Int) : Option (Bool) := (interchangeref1_within.f a0 1 3652059).bind fun t208 => (some t208)
set_option maxHeartbeats 8000000 in
set_option maxRecDepth 100000 in
theorem interchangeref1_isDay.calls (a0 : Int) (r : Bool) (w : World) (h : interchangeref1_isDay.f a0 = some r) :
  Calls Tryd.prog 121 #[.int .i64 a0] w fun e w' => e = .returned (.bool r) ∧ Drawn0 w w' := by
 have H : ((interchangeref1_within.f a0 1 3652059).bind fun t208 => (some t208)) = some r := h
 clear h
 replace H := Option.bind_eq_some_iff.mp H
 obtain ⟨t208, A20, H⟩ := H
 replace H : (some t208) = some r := H
 have A2 := Aside0.mk A20
 clear A20
 obtain rfl := Option.some.inj H
 go_enter Tryd.func121, Tryd.ntmps121
 go_wp2_with (first | ((with_reducible refine gate_callee (f := 141) rfl ?_); refine goesL_ (some 4) rfl rfl Tryd.func141 (by kernel_rfl) rfl #[.int .i64 a0, .int .i64 1, .int .i64 3652059] rfl Z104 ?_; (with_reducible refine (interchangeref1_within.calls a0 1 3652059 t208 _ A2.out).mono ?_); rintro e w' ⟨rfl, ⟨nd, rfl⟩⟩; refine ⟨_, rfl, ?_⟩))
 go_ret
 exact ⟨Z187, Z184⟩

/-! ### interchangeref1_IsDay: function 95 -/
def interchangeref1_IsDay.f (a0 : Int) : Option (Bool) := (interchangeref1_isDay.f a0).bind fun t209 => (some t209)
set_option maxHeartbeats 8000000 in
set_option maxRecDepth 100000 in
theorem interchangeref1_IsDay.calls (a0 : Int) (r : Bool) (w : World) (h : interchangeref1_IsDay.f a0 = some r) :
  Calls Tryd.prog 95 #[.int .i64 a0] w fun e w' => e = .returned (.bool r) ∧ Drawn0 w w' := by
 have H : ((interchangeref1_isDay.f a0).bind fun t209 => (some t209)) = some r := h
 clear h
 replace H := Option.bind_eq_some_iff.mp H
 obtain ⟨t209, A20, H⟩ := H
 replace H : (some t209) = some r := H
 have A2 := Aside0.mk A20
 clear A20
 obtain rfl := Option.some.inj H
 go_enter Tryd.func95, Tryd.ntmps95
 go_wp2_with (first | ((with_reducible refine gate_callee (f := 121) rfl ?_); refine goesL_ (some 4) rfl rfl Tryd.func121 (by kernel_rfl) rfl #[.int .i64 a0] rfl Z104 ?_; (with_reducible refine (interchangeref1_isDay.calls a0 t209 _ A2.out).mono ?_); rintro e w' ⟨rfl, ⟨nd, rfl⟩⟩; refine ⟨_, rfl, ?_⟩))
 go_ret
 exact ⟨Z187, Z184⟩

end Go.Proofs.YtdlgohhecicnoaaDoor.XPartnerFindsMatchSpec
