-- Walks of PartnerNeverIsNever: written by xprint.py out of the translation (hand-proved functions among them). Lean checks it.
import Derived.Test.YtdlgohhecicnoaaDoorXPartnerNeverIsNeverx0
import Derived.Test.YtdlgohhecicnoaaDoorXPartnerNeverIsNeverx1
namespace Go.Proofs.YtdlgohhecicnoaaDoor.XPartnerNeverIsNever
open Go.RowKit Go.Proofs.YtdlgohhecicnoaaDoorW.PrintWords Go.Proofs.YtdlgohhecicnoaaDoorW.PrintLast Go.Proofs.YtdlgohhecicnoaaDoorW.PrintMore
attribute [local go_sem] max2_int min2_int max_two min_two max_three min_three max_four min_four   -- for this text's walks alone
set_option linter.unusedVariables false
set_option linter.unusedSimpArgs false

/-! ### partner_CheckPartners: function 18 -/
mutual
def partner_CheckPartners.l0 : Nat → List (S86) → List (S31) → List (S86) → Int → Int → Option (Int)
 | 0, _, _, _, _, _ => none
 | k + 1, x0, x3, x13, x14, x15 => if x15 < x14 then (if 0 ≤ x15 then (if x15 < (x13.length : Int) then ((kit_IsName.f ((rd_T86 x13 x15).f0)).bind fun t120 => (if t120 = true then (if x15 > 0 then (if 0 ≤ (wrap64 (x15 - 1)) then (if (wrap64 (x15 - 1)) < (x0.length : Int) then (partner_CheckPartners.j1 k x0 x3 x13 x14 x15 (!(Op.bytesLess (((rd_T86 x0 (wrap64 (x15 - 1))).f0).toList) (((rd_T86 x13 x15).f0).toList))) ((rd_T86 x13 x15).f0) ((rd_T86 x13 x15).f1)) else (none)) else (none)) else (partner_CheckPartners.j1 k x0 x3 x13 x14 x15 false ((rd_T86 x13 x15).f0) ((rd_T86 x13 x15).f1))) else (some 5))) else (none)) else (none)) else (some 0)
def partner_CheckPartners.j1 : Nat → List (S86) → List (S31) → List (S86) → Int → Int → Bool → ByteArray → List (S31) → Option (Int)
 | 0, _, _, _, _, _, _, _, _ => none
 | k + 1, x0, x3, x13, x14, x15, x25, x120000, x120001 => if x25 = true then (some 8) else (if (x120001.length : Int) > 10 then (some 2) else (partner_CheckPartners.l1 k x0 x3 x13 x14 x15 x120001 (x120001.length : Int) 0))
def partner_CheckPartners.l1 : Nat → List (S86) → List (S31) → List (S86) → Int → Int → List (S31) → Int → Int → Option (Int)
 | 0, _, _, _, _, _, _, _, _ => none
 | k + 1, x0, x3, x13, x14, x15, x45, x46, x47 => if x47 < x46 then (if 0 ≤ x47 then (if x47 < (x45.length : Int) then ((partner_addressFault.f k ((rd_T31 x45 x47).f0) ((rd_T31 x45 x47).f1)).bind fun t124 => (if t124 = 0 then ((map_has_adr.f x3 ((rd_T31 x45 x47).f0) ((rd_T31 x45 x47).f1)).bind fun bt125 => (if bt125.1 = true then (some 7) else ((map_put_adr.f bt125.2 ((rd_T31 x45 x47).f0) ((rd_T31 x45 x47).f1)).bind fun t127 => (partner_CheckPartners.l1 k x0 t127 x13 x14 x15 x45 x46 (wrap64 (x47 + 1)))))) else (some t124))) else (none)) else (none)) else (partner_CheckPartners.l0 k x0 x3 x13 x14 (wrap64 (x15 + 1)))
end
def partner_CheckPartners.f (k : Nat) (l0 : List (S86)) : Option (Int) := if (l0.length : Int) > 200 then (some 2) else ((map_mk_adr.f).bind fun t115 => (partner_CheckPartners.l0 k l0 t115 l0 (l0.length : Int) 0))
theorem partner_CheckPartners.mono_l : ∀ k, (∀ y0 y1 y2 y3 y4, LeO (partner_CheckPartners.l0 k y0 y1 y2 y3 y4) (partner_CheckPartners.l0 (k + 1) y0 y1 y2 y3 y4)) ∧ (∀ y0 y1 y2 y3 y4 y5 y6 y7, LeO (partner_CheckPartners.j1 k y0 y1 y2 y3 y4 y5 y6 y7) (partner_CheckPartners.j1 (k + 1) y0 y1 y2 y3 y4 y5 y6 y7)) ∧ (∀ y0 y1 y2 y3 y4 y5 y6 y7, LeO (partner_CheckPartners.l1 k y0 y1 y2 y3 y4 y5 y6 y7) (partner_CheckPartners.l1 (k + 1) y0 y1 y2 y3 y4 y5 y6 y7))
 | 0 => ⟨fun _ _ _ _ _ r h => by simp [partner_CheckPartners.l0] at h, fun _ _ _ _ _ _ _ _ r h => by simp [partner_CheckPartners.j1] at h, fun _ _ _ _ _ _ _ _ r h => by simp [partner_CheckPartners.l1] at h⟩
 | k + 1 => by
  obtain ⟨ih0, ih1, ih2⟩ := partner_CheckPartners.mono_l k
  refine ⟨?_, ?_, ?_⟩
  ·intro y0 y1 y2 y3 y4
   unfold partner_CheckPartners.l0
   repeat' first
   | (with_reducible exact ih0 _ _ _ _ _)
   | (with_reducible exact ih1 _ _ _ _ _ _ _ _)
   | (with_reducible exact ih2 _ _ _ _ _ _ _ _)
   | (with_reducible exact partner_addressFault.mono _ _ _)
   | (with_reducible exact LeO.refl _)
   | (with_reducible exact LeO.none _)
   | (with_reducible refine LeO.ite ?_ ?_)
   | (with_reducible refine LeO.bind ?_ (fun _ => ?_))
   | exact ih0 _ _ _ _ _
   | exact ih1 _ _ _ _ _ _ _ _
   | exact ih2 _ _ _ _ _ _ _ _
   | exact partner_addressFault.mono _ _ _
   | exact LeO.none _
   | refine LeO.ite ?_ ?_
   | refine LeO.bind ?_ (fun _ => ?_)
  ·intro y0 y1 y2 y3 y4 y5 y6 y7
   unfold partner_CheckPartners.j1
   repeat' first
   | (with_reducible exact ih0 _ _ _ _ _)
   | (with_reducible exact ih1 _ _ _ _ _ _ _ _)
   | (with_reducible exact ih2 _ _ _ _ _ _ _ _)
   | (with_reducible exact partner_addressFault.mono _ _ _)
   | (with_reducible exact LeO.refl _)
   | (with_reducible exact LeO.none _)
   | (with_reducible refine LeO.ite ?_ ?_)
   | (with_reducible refine LeO.bind ?_ (fun _ => ?_))
   | exact ih0 _ _ _ _ _
   | exact ih1 _ _ _ _ _ _ _ _
   | exact ih2 _ _ _ _ _ _ _ _
   | exact partner_addressFault.mono _ _ _
   | exact LeO.none _
   | refine LeO.ite ?_ ?_
   | refine LeO.bind ?_ (fun _ => ?_)
  ·intro y0 y1 y2 y3 y4 y5 y6 y7
   unfold partner_CheckPartners.l1
   repeat' first
   | (with_reducible exact ih0 _ _ _ _ _)
   | (with_reducible exact ih1 _ _ _ _ _ _ _ _)
   | (with_reducible exact ih2 _ _ _ _ _ _ _ _)
   | (with_reducible exact partner_addressFault.mono _ _ _)
   | (with_reducible exact LeO.refl _)
   | (with_reducible exact LeO.none _)
   | (with_reducible refine LeO.ite ?_ ?_)
   | (with_reducible refine LeO.bind ?_ (fun _ => ?_))
   | exact ih0 _ _ _ _ _
   | exact ih1 _ _ _ _ _ _ _ _
   | exact ih2 _ _ _ _ _ _ _ _
   | exact partner_addressFault.mono _ _ _
   | exact LeO.none _
   | refine LeO.ite ?_ ?_
   | refine LeO.bind ?_ (fun _ => ?_)
theorem partner_CheckPartners.mono : ∀ a0 k, LeO (partner_CheckPartners.f k a0) (partner_CheckPartners.f (k + 1) a0) := by
 intro a0 k
 obtain ⟨ih0, ih1, ih2⟩ := partner_CheckPartners.mono_l k
 unfold partner_CheckPartners.f
 repeat' first
   | (with_reducible exact ih0 _ _ _ _ _)
   | (with_reducible exact ih1 _ _ _ _ _ _ _ _)
   | (with_reducible exact ih2 _ _ _ _ _ _ _ _)
   | (with_reducible exact partner_addressFault.mono _ _ _)
   | (with_reducible exact LeO.refl _)
   | (with_reducible exact LeO.none _)
   | (with_reducible refine LeO.ite ?_ ?_)
   | (with_reducible refine LeO.bind ?_ (fun _ => ?_))
   | exact ih0 _ _ _ _ _
   | exact ih1 _ _ _ _ _ _ _ _
   | exact ih2 _ _ _ _ _ _ _ _
   | exact partner_addressFault.mono _ _ _
   | exact LeO.none _
   | refine LeO.ite ?_ ?_
   | refine LeO.bind ?_ (fun _ => ?_)
set_option maxHeartbeats 8000000 in
set_option maxRecDepth 100000 in
theorem partner_CheckPartners.calls (k : Nat) (A0 : Option Addr) (c0 : Nat) (l0 : List (S86)) (r : Int) (w : World) (hr0 : Kd.C k86 w A0 l0.length l0) (hc0 : l0.length ≤ c0) (h : partner_CheckPartners.f k l0 = some r) :
  Calls Tryd.prog 18 #[.slice A0 l0.length c0] w fun e w' => e = .returned (.int .i64 r) ∧ Below w.heap.size w w' := by
 have hu86 := Tryd.underlying86
 have hu31 := Tryd.underlying31
 have HR0 := Aside0.mk hr0
 have HC0 := Aside0.mk hc0
 clear hr0 hc0
 have HB := Aside0.mk (Below.refl w.heap.size w)
 have H : (if (l0.length : Int) > 200 then (some 2) else ((map_mk_adr.f).bind fun t115 => (partner_CheckPartners.l0 k l0 t115 l0 (l0.length : Int) 0))) = some r := h
 clear h
 by_cases c2 : (l0.length : Int) > 200
 ·rw [if_pos c2] at H
  have c2b0 : decide (200 < (l0.length : Int)) = true := decide_eq_true c2
  have c2b1 : decide (200 < l0.length) = true := decide_eq_true (by omega)
  clear c2
  obtain rfl := Option.some.inj H
  go_enter Tryd.func18, Tryd.ntmps18
  go_wp2
  repeat (go_quiet (fail); try go_wp2)
  go_ret
  exact ⟨Z66, Z70⟩
 ·rw [if_neg c2] at H
  have c2b0 : decide (200 < (l0.length : Int)) = false := decide_eq_false c2
  have c2b1 : decide (200 < l0.length) = false := decide_eq_false (by omega)
  clear c2
  replace H := Option.bind_eq_some_iff.mp H
  obtain ⟨t115, A30, H⟩ := H
  replace H : (partner_CheckPartners.l0 k l0 t115 l0 (l0.length : Int) 0) = some r := H
  have A3 := Aside0.mk A30
  clear A30
  have H' := Aside0.mk H
  clear H
  go_enter Tryd.func18, Tryd.ntmps18
  go_wp2_with (first | ((with_reducible refine XMap.mapMk_ rfl rfl ?_); (refine (map_mk_adr.calls  t115 _ A3.out).mono ?_); rintro e w4 ⟨v116, rfl, ho0, hb⟩; refine XMap.ret_of ?_; have n0_ := Aside0.mk (XMap.R_lower ho0 (below_size Z70)); have n1_ := Aside0.mk (below_step Z70 hb); clear HB; have HO117 := n0_; have HB := n1_; clear n0_ n1_; (try clear hb); (try clear hb2); (try clear hk); (try clear hi); (try clear ho0)))
  repeat (go_quiet (first | ((with_reducible refine XMap.mapMk_ rfl rfl ?_); (refine (map_mk_adr.calls  t115 _ A3.out).mono ?_); rintro e w4 ⟨v116, rfl, ho0, hb⟩; refine XMap.ret_of ?_; have n0_ := Aside0.mk (XMap.R_lower ho0 (below_size Z70)); have n1_ := Aside0.mk (below_step Z70 hb); clear HB; have HO117 := n0_; have HB := n1_; clear n0_ n1_; (try clear hb); (try clear hb2); (try clear hk); (try clear hi); (try clear ho0))); try go_wp2_with (first | ((with_reducible refine XMap.mapMk_ rfl rfl ?_); (refine (map_mk_adr.calls  t115 _ A3.out).mono ?_); rintro e w4 ⟨v116, rfl, ho0, hb⟩; refine XMap.ret_of ?_; have n0_ := Aside0.mk (XMap.R_lower ho0 (below_size Z70)); have n1_ := Aside0.mk (below_step Z70 hb); clear HB; have HO117 := n0_; have HB := n1_; clear n0_ n1_; (try clear hb); (try clear hb2); (try clear hk); (try clear hi); (try clear ho0))))
  go_loopg [15] k (fun kq v15 w' => ∃ (x3_1 : List (S31)) (x15_1 : Int), v15 = .int .i64 x15_1 ∧ Aside0 (partner_CheckPartners.l0 kq l0 x3_1 l0 (l0.length : Int) x15_1 = some r) ∧ Aside0 (kq ≤ k) ∧ Aside0 (MpR w' w.heap.size (fun _ => True) v116 x3_1) ∧ Aside0 (Below w.heap.size w w'))
  case atStart => exact ⟨(t115), (0), Z98, H', ⟨Nat.le_refl _⟩, ⟨by (with_reducible repeat (first | apply XMap.R_alloc | apply XMap.R_drewN | apply XMap.R_drew)); exact HO117.out⟩, ⟨Z70⟩⟩
  case round =>
   clear H'
   try clear c1
   try clear c2
   try clear c2b0
   try clear c2b1
   try clear p2
   obtain ⟨x3_1, x15_1, rfl, HA, HK1, HO_3, HB⟩ := hrel
   cases gk with
   | zero => exact absurd HA.out (by simp [partner_CheckPartners.l0])
   | succ k1 =>
    have H := HA.out
    clear HA
    simp only [partner_CheckPartners.l0] at H
    by_cases c5 : x15_1 < (l0.length : Int)
    ·rw [if_pos c5] at H
     have c5b0 : decide (x15_1 < (l0.length : Int)) = true := decide_eq_true c5
     clear c5
     by_cases c6 : 0 ≤ x15_1
     ·rw [if_pos c6] at H
      have c6b0 : decide (0 ≤ x15_1) = true := decide_eq_true c6
      clear c6
      by_cases c7 : x15_1 < (l0.length : Int)
      ·rw [if_pos c7] at H
       have c7b0 : decide (x15_1 < (l0.length : Int)) = true := decide_eq_true c7
       clear c7
       replace H := Option.bind_eq_some_iff.mp H
       obtain ⟨t120, A80, H⟩ := H
       replace H : (if t120 = true then (if x15_1 > 0 then (if 0 ≤ (wrap64 (x15_1 - 1)) then (if (wrap64 (x15_1 - 1)) < (l0.length : Int) then (partner_CheckPartners.j1 k1 l0 x3_1 l0 (l0.length : Int) x15_1 (!(Op.bytesLess (((rd_T86 l0 (wrap64 (x15_1 - 1))).f0).toList) (((rd_T86 l0 x15_1).f0).toList))) ((rd_T86 l0 x15_1).f0) ((rd_T86 l0 x15_1).f1)) else (none)) else (none)) else (partner_CheckPartners.j1 k1 l0 x3_1 l0 (l0.length : Int) x15_1 false ((rd_T86 l0 x15_1).f0) ((rd_T86 l0 x15_1).f1))) else (some 5)) = some r := H
       have A8 := Aside0.mk A80
       clear A80
       by_cases c9 : t120 = true
       ·subst c9
        have H1 : (if x15_1 > 0 then (if 0 ≤ (wrap64 (x15_1 - 1)) then (if (wrap64 (x15_1 - 1)) < (l0.length : Int) then (partner_CheckPartners.j1 k1 l0 x3_1 l0 (l0.length : Int) x15_1 (!(Op.bytesLess (((rd_T86 l0 (wrap64 (x15_1 - 1))).f0).toList) (((rd_T86 l0 x15_1).f0).toList))) ((rd_T86 l0 x15_1).f0) ((rd_T86 l0 x15_1).f1)) else (none)) else (none)) else (partner_CheckPartners.j1 k1 l0 x3_1 l0 (l0.length : Int) x15_1 false ((rd_T86 l0 x15_1).f0) ((rd_T86 l0 x15_1).f1))) = some r := by rw [if_pos rfl] at H; exact H
        clear H
        have H := H1
        clear H1
        have HC10 := Aside0.mk H
        clear H
        have p118 : 0 ≤ (x15_1 : Int) := of_decide_eq_true Z101
        have q118 : x15_1 < (l0.length : Int) := of_decide_eq_true Z101
        obtain ⟨ad118, A118_1, c118_1, e118, hx118_0, hx118_1, hl118_1, hi118_1⟩ := at_T86 HR0.out x15_1 p118 q118
        cases e118
        replace hx118_0 := (HB.out.cell (World.block_lt_of_cell? w _ hx118_0)).trans hx118_0
        replace hx118_1 := (HB.out.cell (World.block_lt_of_cell? w _ hx118_1)).trans hx118_1
        have HR118_1 := Aside0.mk hi118_1
        have HC118_1 := Aside0.mk hl118_1
        clear hi118_1 hl118_1
        replace p118 := eq_true p118
        replace q118 := eq_true q118
        go_upto_region 9 with (first | ((with_reducible refine gate_dst (N := 5) rfl ?_); refine box_event ?hg (N := 5) ?hd (cs := #[.string (⟨#[]⟩ : ByteArray), .slice none 0 0]) (t := 86) ?hr ?_; (case hd => rfl); (case hg => rfl); (case hr => exact Z103); intro gb119 hg w11 hbox hb; have n0_ := Aside0.mk (XMap.R_below Z92 hb); have n1_ := Aside0.mk (below_step Z70 hb); have n2_ := Aside0.mk (hbox); have n3_ := Aside0.mk ((Z49 : w.heap.size ≤ gb119)); have n4_ := Aside0.mk ((Z49 : w.heap.size ≤ gb119)); clear HO_3; clear HB; have HO_3 := n0_; have HB := n1_; have BK119 := n2_; have GW119 := n3_; have GE119 := n4_; clear n0_ n1_ n2_ n3_ n4_; clear hb hbox hg; obtain ⟨hcz12_0, hcz12_1, hfz12_0, hfz12_1⟩ := bf2 BK119.out) | (go_at_call 52; (with_reducible refine (kit_IsName.calls ((rd_T86 l0 x15_1).f0) true _ A8.out).mono ?_); rintro e w13 ⟨rfl, hb⟩; have n0_ := Aside0.mk (XMap.R_below Z18 hb); have n1_ := Aside0.mk (blk_below (g := gb119) (o := .cells #[.string ((rd_T86 l0 x15_1).f0), .slice A118_1 ((rd_T86 l0 x15_1).f1).length c118_1] 86 (0, 0)) Z13 hb); have n2_ := Aside0.mk (below_step Z53 hb); clear HO_3; clear BK119; clear HB; have HO_3 := n0_; have BK119 := n1_; have HB := n2_; clear n0_ n1_ n2_; (try clear hb); (try clear hb2); (try clear hk); (try clear hi)))
        repeat (go_quiet (first | ((with_reducible refine gate_dst (N := 5) rfl ?_); refine box_event ?hg (N := 5) ?hd (cs := #[.string (⟨#[]⟩ : ByteArray), .slice none 0 0]) (t := 86) ?hr ?_; (case hd => rfl); (case hg => rfl); (case hr => exact Z103); intro gb119 hg w11 hbox hb; have n0_ := Aside0.mk (XMap.R_below Z92 hb); have n1_ := Aside0.mk (below_step Z70 hb); have n2_ := Aside0.mk (hbox); have n3_ := Aside0.mk ((Z49 : w.heap.size ≤ gb119)); have n4_ := Aside0.mk ((Z49 : w.heap.size ≤ gb119)); clear HO_3; clear HB; have HO_3 := n0_; have HB := n1_; have BK119 := n2_; have GW119 := n3_; have GE119 := n4_; clear n0_ n1_ n2_ n3_ n4_; clear hb hbox hg; obtain ⟨hcz12_0, hcz12_1, hfz12_0, hfz12_1⟩ := bf2 BK119.out) | (go_at_call 52; (with_reducible refine (kit_IsName.calls ((rd_T86 l0 x15_1).f0) true _ A8.out).mono ?_); rintro e w13 ⟨rfl, hb⟩; have n0_ := Aside0.mk (XMap.R_below Z18 hb); have n1_ := Aside0.mk (blk_below (g := gb119) (o := .cells #[.string ((rd_T86 l0 x15_1).f0), .slice A118_1 ((rd_T86 l0 x15_1).f1).length c118_1] 86 (0, 0)) Z13 hb); have n2_ := Aside0.mk (below_step Z53 hb); clear HO_3; clear BK119; clear HB; have HO_3 := n0_; have BK119 := n1_; have HB := n2_; clear n0_ n1_ n2_; (try clear hb); (try clear hb2); (try clear hk); (try clear hi))); go_upto_region 9 with (first | ((with_reducible refine gate_dst (N := 5) rfl ?_); refine box_event ?hg (N := 5) ?hd (cs := #[.string (⟨#[]⟩ : ByteArray), .slice none 0 0]) (t := 86) ?hr ?_; (case hd => rfl); (case hg => rfl); (case hr => exact Z103); intro gb119 hg w11 hbox hb; have n0_ := Aside0.mk (XMap.R_below Z92 hb); have n1_ := Aside0.mk (below_step Z70 hb); have n2_ := Aside0.mk (hbox); have n3_ := Aside0.mk ((Z49 : w.heap.size ≤ gb119)); have n4_ := Aside0.mk ((Z49 : w.heap.size ≤ gb119)); clear HO_3; clear HB; have HO_3 := n0_; have HB := n1_; have BK119 := n2_; have GW119 := n3_; have GE119 := n4_; clear n0_ n1_ n2_ n3_ n4_; clear hb hbox hg; obtain ⟨hcz12_0, hcz12_1, hfz12_0, hfz12_1⟩ := bf2 BK119.out) | (go_at_call 52; (with_reducible refine (kit_IsName.calls ((rd_T86 l0 x15_1).f0) true _ A8.out).mono ?_); rintro e w13 ⟨rfl, hb⟩; have n0_ := Aside0.mk (XMap.R_below Z18 hb); have n1_ := Aside0.mk (blk_below (g := gb119) (o := .cells #[.string ((rd_T86 l0 x15_1).f0), .slice A118_1 ((rd_T86 l0 x15_1).f1).length c118_1] 86 (0, 0)) Z13 hb); have n2_ := Aside0.mk (below_step Z53 hb); clear HO_3; clear BK119; clear HB; have HO_3 := n0_; have BK119 := n1_; have HB := n2_; clear n0_ n1_ n2_; (try clear hb); (try clear hb2); (try clear hk); (try clear hi))))
        (try simp only [Act.put, List.setIfInBounds_toArray, List.set_cons_zero, List.set_cons_succ])
        go_cut [25] (fun v25 wc => ∃ (kq : Nat) (x25_9 : Bool), v25 = .bool x25_9 ∧ Aside0 (partner_CheckPartners.j1 kq l0 x3_1 l0 (l0.length : Int) x15_1 x25_9 ((rd_T86 l0 x15_1).f0) ((rd_T86 l0 x15_1).f1) = some r) ∧ Aside0 (kq ≤ k1) ∧ Aside0 (MpR wc w.heap.size (fun _ => True) v116 x3_1) ∧ Aside0 (wc.heap[gb119]? = some (.cells #[.string ((rd_T86 l0 x15_1).f0), (.slice A118_1 ((rd_T86 l0 x15_1).f1).length c118_1)] 86 (0, 0))) ∧ Aside0 (Below w.heap.size w wc))
        case first =>
         have H := HC10.out
         clear HC10
         by_cases c14 : x15_1 > 0
         ·rw [if_pos c14] at H
          have c14b0 : decide (0 < x15_1) = true := decide_eq_true c14
          clear c14
          (first | rw [c14b0] | (simp only [i64_w, i32_w]; rw [c14b0]) | skip)
          obtain ⟨ji15, hji15⟩ : ∃ j_ : Int, (wrap64 (x15_1 - 1)) = j_ := ⟨_, rfl⟩
          replace H : (if 0 ≤ (ji15) then (if (ji15) < (l0.length : Int) then (partner_CheckPartners.j1 k1 l0 x3_1 l0 (l0.length : Int) x15_1 (!(Op.bytesLess (((rd_T86 l0 (ji15)).f0).toList) (((rd_T86 l0 x15_1).f0).toList))) ((rd_T86 l0 x15_1).f0) ((rd_T86 l0 x15_1).f1)) else (none)) else (none)) = some r := by first | (rw [hji15] at H; exact H) | (simp only [hji15] at H ⊢; exact H)
          have hji15w : (IntKind.i64.wrap (x15_1 - 1)) = ji15 := (i64_w _).trans hji15
          by_cases c16 : 0 ≤ (ji15)
          ·rw [if_pos c16] at H
           have c16b0 : decide (0 ≤ (ji15)) = true := decide_eq_true c16
           clear c16
           by_cases c17 : (ji15) < (l0.length : Int)
           ·rw [if_pos c17] at H
            have c17b0 : decide ((ji15) < (l0.length : Int)) = true := decide_eq_true c17
            clear c17
            have H' := Aside0.mk H
            clear H
            obtain ⟨hcz18_0, hcz18_1, hfz18_0, hfz18_1⟩ := bf2 BK119.out
            have p121 : 0 ≤ ((ji15) : Int) := of_decide_eq_true Z101
            have q121 : (ji15) < (l0.length : Int) := of_decide_eq_true Z101
            obtain ⟨ad121, A121_1, c121_1, e121, hx121_0, hx121_1, hl121_1, hi121_1⟩ := at_T86 HR0.out (ji15) p121 q121
            obtain rfl : ad118 = ad121 := (by injection e121)
            replace hx121_0 := (HB.out.cell (World.block_lt_of_cell? w _ hx121_0)).trans hx121_0
            replace hx121_1 := (HB.out.cell (World.block_lt_of_cell? w _ hx121_1)).trans hx121_1
            have HR121_1 := Aside0.mk hi121_1
            have HC121_1 := Aside0.mk hl121_1
            clear hi121_1 hl121_1
            replace p121 := eq_true p121
            replace q121 := eq_true q121
            go_wp2
            repeat (go_quiet (fail); try go_wp2)
            go_meet
            case rel => exact ⟨_, (!(Op.bytesLess (((rd_T86 l0 (ji15)).f0).toList) (((rd_T86 l0 x15_1).f0).toList))), (by first | rfl | (simp; done) | (simp only [← hji15] <;> (first | rfl | simp)) | (simp [*]; done)), H', ⟨Z100⟩, ⟨Z92⟩, ⟨Z73⟩, ⟨Z53⟩⟩
           ·rw [if_neg c17] at H
            exact absurd H (by simp)
          ·rw [if_neg c16] at H
           exact absurd H (by simp)
         ·rw [if_neg c14] at H
          have c14b0 : decide (0 < x15_1) = false := decide_eq_false c14
          clear c14
          (first | rw [c14b0] | (simp only [i64_w, i32_w]; rw [c14b0]) | skip)
          have H' := Aside0.mk H
          clear H
          go_wp2
          repeat (go_quiet (fail); try go_wp2)
          go_meet
          case rel => exact ⟨_, (false), Z98, H', ⟨Z100⟩, ⟨Z92⟩, ⟨Z73⟩, ⟨Z53⟩⟩
        case rest =>
         clear HC10
         try clear c1
         try clear p1
         try clear q1
         try clear hx1
         try clear c2
         try clear c2b0
         try clear c2b1
         try clear p2
         try clear c5
         try clear c5b0
         try clear c6
         try clear c6b0
         try clear p6
         try clear c7
         try clear c7b0
         try clear c9
         try clear c11
         try clear p11
         try clear q11
         try clear hx11
         try clear c12
         try clear p12
         try clear q12
         try clear hx12
         try clear c14
         try clear c14b0
         try clear c16
         try clear c16b0
         try clear c17
         try clear c17b0
         try clear c18
         try clear hcz12_0
         try clear hcz12_1
         try clear hcz18_0
         try clear hcz18_1
         try clear hfz12_0
         try clear hfz12_1
         try clear hfz18_0
         try clear hfz18_1
         try clear hx118_0
         try clear hx118_1
         try clear hx121_0
         try clear hx121_1
         try clear p118
         try clear p121
         try clear p2
         try clear q118
         try clear q121
         obtain ⟨kq, x25_9, rfl, HA, HJ9, HO_3, BK119, HB⟩ := hcut
         cases kq with
         | zero => exact absurd HA.out (by simp [partner_CheckPartners.j1])
         | succ kj9 =>
          have H := HA.out
          clear HA
          simp only [partner_CheckPartners.j1] at H
          by_cases c19 : x25_9 = true
          ·subst c19
           have H1 : (some 8) = some r := by rw [if_pos rfl] at H; exact H
           clear H
           have H := H1
           clear H1
           obtain rfl := Option.some.inj H
           go_wp2
           repeat (go_quiet (fail); try go_wp2)
           go_ret
           exact ⟨Z66, Z53⟩
          ·replace c19 := Bool.eq_false_iff.mpr c19
           subst c19
           have H1 : (if (((rd_T86 l0 x15_1).f1).length : Int) > 10 then (some 2) else (partner_CheckPartners.l1 kj9 l0 x3_1 l0 (l0.length : Int) x15_1 ((rd_T86 l0 x15_1).f1) (((rd_T86 l0 x15_1).f1).length : Int) 0)) = some r := by rw [if_neg (show ¬ (false = true) by decide)] at H; exact H
           clear H
           have H := H1
           clear H1
           by_cases c20 : (((rd_T86 l0 x15_1).f1).length : Int) > 10
           ·rw [if_pos c20] at H
            have c20b0 : decide (10 < (((rd_T86 l0 x15_1).f1).length : Int)) = true := decide_eq_true c20
            have c20b1 : decide (10 < ((rd_T86 l0 x15_1).f1).length) = true := decide_eq_true (by omega)
            clear c20
            obtain rfl := Option.some.inj H
            have hcz21_0 : wc.cell? ⟨gb119, 0, none⟩ = some (.string ((rd_T86 l0 x15_1).f0)) := (blk_cell BK119.out 0).trans rfl
            have hcz21_1 : wc.cell? ⟨gb119, 1, none⟩ = some (.slice A118_1 ((rd_T86 l0 x15_1).f1).length c118_1) := (blk_cell BK119.out 1).trans rfl
            have hfz21_0 := blk_frozen BK119.out 0
            have hfz21_1 := blk_frozen BK119.out 1
            go_wp2
            repeat (go_quiet (fail); try go_wp2)
            go_ret
            exact ⟨Z66, Z53⟩
           ·rw [if_neg c20] at H
            have c20b0 : decide (10 < (((rd_T86 l0 x15_1).f1).length : Int)) = false := decide_eq_false c20
            have c20b1 : decide (10 < ((rd_T86 l0 x15_1).f1).length) = false := decide_eq_false (by omega)
            clear c20
            have H' := Aside0.mk H
            clear H
            have hcz22_0 : wc.cell? ⟨gb119, 0, none⟩ = some (.string ((rd_T86 l0 x15_1).f0)) := (blk_cell BK119.out 0).trans rfl
            have hcz22_1 : wc.cell? ⟨gb119, 1, none⟩ = some (.slice A118_1 ((rd_T86 l0 x15_1).f1).length c118_1) := (blk_cell BK119.out 1).trans rfl
            have hfz22_0 := blk_frozen BK119.out 0
            have hfz22_1 := blk_frozen BK119.out 1
            go_wp2
            repeat (go_quiet (fail); try go_wp2)
            go_loopg [47] kj9 (fun kq v47 w' => ∃ (x3_3 : List (S31)) (x47_3 : Int), v47 = .int .i64 x47_3 ∧ Aside0 (partner_CheckPartners.l1 kq l0 x3_3 l0 (l0.length : Int) x15_1 ((rd_T86 l0 x15_1).f1) (((rd_T86 l0 x15_1).f1).length : Int) x47_3 = some r) ∧ Aside0 (kq ≤ kj9) ∧ Aside0 (MpR w' w.heap.size (fun _ => True) v116 x3_3) ∧ Aside0 (w'.heap[gb119]? = some (.cells #[.string ((rd_T86 l0 x15_1).f0), (.slice A118_1 ((rd_T86 l0 x15_1).f1).length c118_1)] 86 (0, 0))) ∧ Aside0 (Below w.heap.size w w'))
            case atStart => exact ⟨(x3_1), (0), Z98, H', ⟨Nat.le_refl _⟩, ⟨Z92⟩, ⟨Z73⟩, ⟨Z53⟩⟩
            case round =>
             clear H'
             try clear c1
             try clear p1
             try clear q1
             try clear hx1
             try clear c2
             try clear c2b0
             try clear c2b1
             try clear p2
             try clear c5
             try clear c5b0
             try clear c6
             try clear c6b0
             try clear p6
             try clear c7
             try clear c7b0
             try clear c9
             try clear c11
             try clear p11
             try clear q11
             try clear hx11
             try clear c12
             try clear p12
             try clear q12
             try clear hx12
             try clear c14
             try clear c14b0
             try clear c16
             try clear c16b0
             try clear c17
             try clear c17b0
             try clear c18
             try clear c19
             try clear c20
             try clear c20b0
             try clear c20b1
             try clear hcz12_0
             try clear hcz12_1
             try clear hcz18_0
             try clear hcz18_1
             try clear hcz21_0
             try clear hcz21_1
             try clear hcz22_0
             try clear hcz22_1
             try clear hfz12_0
             try clear hfz12_1
             try clear hfz18_0
             try clear hfz18_1
             try clear hfz21_0
             try clear hfz21_1
             try clear hfz22_0
             try clear hfz22_1
             try clear hx118_0
             try clear hx118_1
             try clear hx121_0
             try clear hx121_1
             try clear p1
             try clear p11
             try clear p118
             try clear p12
             try clear p121
             try clear p2
             try clear p6
             try clear q1
             try clear q11
             try clear q118
             try clear q12
             try clear q121
             obtain ⟨x3_3, x47_3, rfl, HA, HK3, HO_3, BK119, HB⟩ := hrel
             cases gk with
             | zero => exact absurd HA.out (by simp [partner_CheckPartners.l1])
             | succ k3 =>
              have H := HA.out
              clear HA
              simp only [partner_CheckPartners.l1] at H
              by_cases c23 : x47_3 < (((rd_T86 l0 x15_1).f1).length : Int)
              ·rw [if_pos c23] at H
               have c23b0 : decide (x47_3 < (((rd_T86 l0 x15_1).f1).length : Int)) = true := decide_eq_true c23
               clear c23
               by_cases c24 : 0 ≤ x47_3
               ·rw [if_pos c24] at H
                have c24b0 : decide (0 ≤ x47_3) = true := decide_eq_true c24
                clear c24
                by_cases c25 : x47_3 < (((rd_T86 l0 x15_1).f1).length : Int)
                ·rw [if_pos c25] at H
                 have c25b0 : decide (x47_3 < (((rd_T86 l0 x15_1).f1).length : Int)) = true := decide_eq_true c25
                 clear c25
                 replace H := Option.bind_eq_some_iff.mp H
                 obtain ⟨t124, A260, H⟩ := H
                 replace H : (if t124 = 0 then ((map_has_adr.f x3_3 ((rd_T31 ((rd_T86 l0 x15_1).f1) x47_3).f0) ((rd_T31 ((rd_T86 l0 x15_1).f1) x47_3).f1)).bind fun bt125 => (if bt125.1 = true then (some 7) else ((map_put_adr.f bt125.2 ((rd_T31 ((rd_T86 l0 x15_1).f1) x47_3).f0) ((rd_T31 ((rd_T86 l0 x15_1).f1) x47_3).f1)).bind fun t127 => (partner_CheckPartners.l1 k3 l0 t127 l0 (l0.length : Int) x15_1 ((rd_T86 l0 x15_1).f1) (((rd_T86 l0 x15_1).f1).length : Int) (wrap64 (x47_3 + 1)))))) else (some t124)) = some r := H
                 have A26 := Aside0.mk A260
                 clear A260
                 by_cases c27 : t124 = 0
                 ·rw [if_pos c27] at H
                  have c27b0 : (t124 == 0) = true := beq_iff_eq.mpr c27
                  have c27b1 : (t124 != 0) = false := bne_eq_false_iff_eq.mpr c27
                  clear c27
                  replace H := Option.bind_eq_some_iff.mp H
                  obtain ⟨⟨t125, t126⟩, A280, H⟩ := H
                  replace H : (if t125 = true then (some 7) else ((map_put_adr.f t126 ((rd_T31 ((rd_T86 l0 x15_1).f1) x47_3).f0) ((rd_T31 ((rd_T86 l0 x15_1).f1) x47_3).f1)).bind fun t127 => (partner_CheckPartners.l1 k3 l0 t127 l0 (l0.length : Int) x15_1 ((rd_T86 l0 x15_1).f1) (((rd_T86 l0 x15_1).f1).length : Int) (wrap64 (x47_3 + 1))))) = some r := H
                  have A28 := Aside0.mk A280
                  clear A280
                  by_cases c29 : t125 = true
                  ·subst c29
                   have H1 : (some 7) = some r := by rw [if_pos rfl] at H; exact H
                   clear H
                   have H := H1
                   clear H1
                   obtain rfl := Option.some.inj H
                   have p122 : 0 ≤ (x47_3 : Int) := of_decide_eq_true Z101
                   have q122 : x47_3 < (((rd_T86 l0 x15_1).f1).length : Int) := of_decide_eq_true Z101
                   obtain ⟨ad122, e122, hx122_0, hx122_1⟩ := at_T31 HR118_1.out x47_3 p122 q122
                   cases e122
                   replace hx122_0 := (HB.out.cell (World.block_lt_of_cell? w _ hx122_0)).trans hx122_0
                   replace hx122_1 := (HB.out.cell (World.block_lt_of_cell? w _ hx122_1)).trans hx122_1
                   replace p122 := eq_true p122
                   replace q122 := eq_true q122
                   go_wp2_with (first | ((with_reducible refine gate_dst (N := 7) rfl ?_); refine box_event ?hg (N := 7) ?hd (cs := #[.string (⟨#[]⟩ : ByteArray), .string (⟨#[]⟩ : ByteArray)]) (t := 31) ?hr ?_; (case hd => rfl); (case hg => rfl); (case hr => exact Z103); intro gb123 hg w30 hbox hb; have n0_ := Aside0.mk (XMap.R_below (XMap.R_elderB Z92 gb123 (Nat.le_of_eq hg.symm)) hb); have n1_ := Aside0.mk (blk_below (g := gb119) (o := .cells #[.string ((rd_T86 l0 x15_1).f0), .slice (some ad122) ((rd_T86 l0 x15_1).f1).length c118_1] 86 (0, 0)) Z73 hb); have n2_ := Aside0.mk (below_step Z53 hb); have n3_ := Aside0.mk (hbox); have n4_ := Aside0.mk ((Z33 : w.heap.size ≤ gb123)); have n5_ := Aside0.mk ((Z33 : w.heap.size ≤ gb123)); have n6_ := Aside0.mk ((Z27 : gb119 ≠ gb123)); have n7_ := Aside0.mk ((Z28 : gb123 ≠ gb119)); clear HO_3; clear BK119; clear HB; have HO_3 := n0_; have BK119 := n1_; have HB := n2_; have BK123 := n3_; have GW123 := n4_; have GE123 := n5_; have NB119_123 := n6_; have NB123_119 := n7_; clear n0_ n1_ n2_ n3_ n4_ n5_ n6_ n7_; clear hb hbox hg; have hnb31 := NB123_119.out; have hnc31 := NB119_123.out; obtain ⟨hcz32_0, hcz32_1, hfz32_0, hfz32_1⟩ := bf2 BK123.out) | (go_at_call 48; (with_reducible refine (partner_addressFault.calls k3 ((rd_T31 ((rd_T86 l0 x15_1).f1) x47_3).f0) ((rd_T31 ((rd_T86 l0 x15_1).f1) x47_3).f1) t124 _ A26.out).mono ?_); rintro e w33 ⟨rfl, hb⟩; have n0_ := Aside0.mk (XMap.R_below Z16 hb); have n1_ := Aside0.mk (blk_below (g := gb119) (o := .cells #[.string ((rd_T86 l0 x15_1).f0), .slice (some ad122) ((rd_T86 l0 x15_1).f1).length c118_1] 86 (0, 0)) Z17 hb); have n2_ := Aside0.mk (blk_below (g := gb123) (o := .cells #[.string ((rd_T31 ((rd_T86 l0 x15_1).f1) x47_3).f0), .string ((rd_T31 ((rd_T86 l0 x15_1).f1) x47_3).f1)] 31 (0, 0)) Z12 hb); have n3_ := Aside0.mk (below_step Z38 hb); clear HO_3; clear BK119; clear BK123; clear HB; have HO_3 := n0_; have BK119 := n1_; have BK123 := n2_; have HB := n3_; clear n0_ n1_ n2_ n3_; (try clear hb); (try clear hb2); (try clear hk); (try clear hi); obtain ⟨hcz34_0, hcz34_1, hfz34_0, hfz34_1⟩ := bf2 BK123.out; obtain ⟨Ao35, co35, eo35⟩ := XMap.R_slice HO_3.out; subst eo35) | ((with_reducible refine XMap.mapHas_ rfl rfl rfl rfl ?_); (refine (map_has_adr.calls (fun k_ => some k_ = XMap.mOwn (.map (some Ao35))) (.map (some Ao35)) x3_3 ((rd_T31 ((rd_T86 l0 x15_1).f1) x47_3).f0) ((rd_T31 ((rd_T86 l0 x15_1).f1) x47_3).f1) true t126 w _ ?side1 ?side2 A28.out).mono ?_); (case side1 => exact Z38); (case side2 => exact Z105); rintro e w36 ⟨rfl, hy0, hb, hkp⟩; refine XMap.ret_of ?_; have n0_ := Aside0.mk (XMap.R_reok rfl hy0 (fun k_ e_ => XMap.R_ok HO_3.out k_ e_)); have n1_ := Aside0.mk (blk_kept Z73 hkp (fun hs_ => (fun e_ => (XMap.R_ne HO_3.out BK119.out (by decide)) e_) hs_)); have n2_ := Aside0.mk (blk_kept Z74 hkp (fun hs_ => (fun e_ => (XMap.R_away HO_3.out (fun _ hk => hk.2)) e_) hs_)); have n3_ := Aside0.mk (hb); clear HO_3; clear BK119; clear BK123; clear HB; have HO_3 := n0_; have BK119 := n1_; have BK123 := n2_; have HB := n3_; clear n0_ n1_ n2_ n3_; (try clear hb); (try clear hkp); (try clear hy0)))
                   repeat (go_quiet (first | ((with_reducible refine gate_dst (N := 7) rfl ?_); refine box_event ?hg (N := 7) ?hd (cs := #[.string (⟨#[]⟩ : ByteArray), .string (⟨#[]⟩ : ByteArray)]) (t := 31) ?hr ?_; (case hd => rfl); (case hg => rfl); (case hr => exact Z103); intro gb123 hg w30 hbox hb; have n0_ := Aside0.mk (XMap.R_below (XMap.R_elderB Z92 gb123 (Nat.le_of_eq hg.symm)) hb); have n1_ := Aside0.mk (blk_below (g := gb119) (o := .cells #[.string ((rd_T86 l0 x15_1).f0), .slice (some ad122) ((rd_T86 l0 x15_1).f1).length c118_1] 86 (0, 0)) Z73 hb); have n2_ := Aside0.mk (below_step Z53 hb); have n3_ := Aside0.mk (hbox); have n4_ := Aside0.mk ((Z33 : w.heap.size ≤ gb123)); have n5_ := Aside0.mk ((Z33 : w.heap.size ≤ gb123)); have n6_ := Aside0.mk ((Z27 : gb119 ≠ gb123)); have n7_ := Aside0.mk ((Z28 : gb123 ≠ gb119)); clear HO_3; clear BK119; clear HB; have HO_3 := n0_; have BK119 := n1_; have HB := n2_; have BK123 := n3_; have GW123 := n4_; have GE123 := n5_; have NB119_123 := n6_; have NB123_119 := n7_; clear n0_ n1_ n2_ n3_ n4_ n5_ n6_ n7_; clear hb hbox hg; have hnb31 := NB123_119.out; have hnc31 := NB119_123.out; obtain ⟨hcz32_0, hcz32_1, hfz32_0, hfz32_1⟩ := bf2 BK123.out) | (go_at_call 48; (with_reducible refine (partner_addressFault.calls k3 ((rd_T31 ((rd_T86 l0 x15_1).f1) x47_3).f0) ((rd_T31 ((rd_T86 l0 x15_1).f1) x47_3).f1) t124 _ A26.out).mono ?_); rintro e w33 ⟨rfl, hb⟩; have n0_ := Aside0.mk (XMap.R_below Z16 hb); have n1_ := Aside0.mk (blk_below (g := gb119) (o := .cells #[.string ((rd_T86 l0 x15_1).f0), .slice (some ad122) ((rd_T86 l0 x15_1).f1).length c118_1] 86 (0, 0)) Z17 hb); have n2_ := Aside0.mk (blk_below (g := gb123) (o := .cells #[.string ((rd_T31 ((rd_T86 l0 x15_1).f1) x47_3).f0), .string ((rd_T31 ((rd_T86 l0 x15_1).f1) x47_3).f1)] 31 (0, 0)) Z12 hb); have n3_ := Aside0.mk (below_step Z38 hb); clear HO_3; clear BK119; clear BK123; clear HB; have HO_3 := n0_; have BK119 := n1_; have BK123 := n2_; have HB := n3_; clear n0_ n1_ n2_ n3_; (try clear hb); (try clear hb2); (try clear hk); (try clear hi); obtain ⟨hcz34_0, hcz34_1, hfz34_0, hfz34_1⟩ := bf2 BK123.out; obtain ⟨Ao35, co35, eo35⟩ := XMap.R_slice HO_3.out; subst eo35) | ((with_reducible refine XMap.mapHas_ rfl rfl rfl rfl ?_); (refine (map_has_adr.calls (fun k_ => some k_ = XMap.mOwn (.map (some Ao35))) (.map (some Ao35)) x3_3 ((rd_T31 ((rd_T86 l0 x15_1).f1) x47_3).f0) ((rd_T31 ((rd_T86 l0 x15_1).f1) x47_3).f1) true t126 w _ ?side1 ?side2 A28.out).mono ?_); (case side1 => exact Z38); (case side2 => exact Z105); rintro e w36 ⟨rfl, hy0, hb, hkp⟩; refine XMap.ret_of ?_; have n0_ := Aside0.mk (XMap.R_reok rfl hy0 (fun k_ e_ => XMap.R_ok HO_3.out k_ e_)); have n1_ := Aside0.mk (blk_kept Z73 hkp (fun hs_ => (fun e_ => (XMap.R_ne HO_3.out BK119.out (by decide)) e_) hs_)); have n2_ := Aside0.mk (blk_kept Z74 hkp (fun hs_ => (fun e_ => (XMap.R_away HO_3.out (fun _ hk => hk.2)) e_) hs_)); have n3_ := Aside0.mk (hb); clear HO_3; clear BK119; clear BK123; clear HB; have HO_3 := n0_; have BK119 := n1_; have BK123 := n2_; have HB := n3_; clear n0_ n1_ n2_ n3_; (try clear hb); (try clear hkp); (try clear hy0))); try go_wp2_with (first | ((with_reducible refine gate_dst (N := 7) rfl ?_); refine box_event ?hg (N := 7) ?hd (cs := #[.string (⟨#[]⟩ : ByteArray), .string (⟨#[]⟩ : ByteArray)]) (t := 31) ?hr ?_; (case hd => rfl); (case hg => rfl); (case hr => exact Z103); intro gb123 hg w30 hbox hb; have n0_ := Aside0.mk (XMap.R_below (XMap.R_elderB Z92 gb123 (Nat.le_of_eq hg.symm)) hb); have n1_ := Aside0.mk (blk_below (g := gb119) (o := .cells #[.string ((rd_T86 l0 x15_1).f0), .slice (some ad122) ((rd_T86 l0 x15_1).f1).length c118_1] 86 (0, 0)) Z73 hb); have n2_ := Aside0.mk (below_step Z53 hb); have n3_ := Aside0.mk (hbox); have n4_ := Aside0.mk ((Z33 : w.heap.size ≤ gb123)); have n5_ := Aside0.mk ((Z33 : w.heap.size ≤ gb123)); have n6_ := Aside0.mk ((Z27 : gb119 ≠ gb123)); have n7_ := Aside0.mk ((Z28 : gb123 ≠ gb119)); clear HO_3; clear BK119; clear HB; have HO_3 := n0_; have BK119 := n1_; have HB := n2_; have BK123 := n3_; have GW123 := n4_; have GE123 := n5_; have NB119_123 := n6_; have NB123_119 := n7_; clear n0_ n1_ n2_ n3_ n4_ n5_ n6_ n7_; clear hb hbox hg; have hnb31 := NB123_119.out; have hnc31 := NB119_123.out; obtain ⟨hcz32_0, hcz32_1, hfz32_0, hfz32_1⟩ := bf2 BK123.out) | (go_at_call 48; (with_reducible refine (partner_addressFault.calls k3 ((rd_T31 ((rd_T86 l0 x15_1).f1) x47_3).f0) ((rd_T31 ((rd_T86 l0 x15_1).f1) x47_3).f1) t124 _ A26.out).mono ?_); rintro e w33 ⟨rfl, hb⟩; have n0_ := Aside0.mk (XMap.R_below Z16 hb); have n1_ := Aside0.mk (blk_below (g := gb119) (o := .cells #[.string ((rd_T86 l0 x15_1).f0), .slice (some ad122) ((rd_T86 l0 x15_1).f1).length c118_1] 86 (0, 0)) Z17 hb); have n2_ := Aside0.mk (blk_below (g := gb123) (o := .cells #[.string ((rd_T31 ((rd_T86 l0 x15_1).f1) x47_3).f0), .string ((rd_T31 ((rd_T86 l0 x15_1).f1) x47_3).f1)] 31 (0, 0)) Z12 hb); have n3_ := Aside0.mk (below_step Z38 hb); clear HO_3; clear BK119; clear BK123; clear HB; have HO_3 := n0_; have BK119 := n1_; have BK123 := n2_; have HB := n3_; clear n0_ n1_ n2_ n3_; (try clear hb); (try clear hb2); (try clear hk); (try clear hi); obtain ⟨hcz34_0, hcz34_1, hfz34_0, hfz34_1⟩ := bf2 BK123.out; obtain ⟨Ao35, co35, eo35⟩ := XMap.R_slice HO_3.out; subst eo35) | ((with_reducible refine XMap.mapHas_ rfl rfl rfl rfl ?_); (refine (map_has_adr.calls (fun k_ => some k_ = XMap.mOwn (.map (some Ao35))) (.map (some Ao35)) x3_3 ((rd_T31 ((rd_T86 l0 x15_1).f1) x47_3).f0) ((rd_T31 ((rd_T86 l0 x15_1).f1) x47_3).f1) true t126 w _ ?side1 ?side2 A28.out).mono ?_); (case side1 => exact Z38); (case side2 => exact Z105); rintro e w36 ⟨rfl, hy0, hb, hkp⟩; refine XMap.ret_of ?_; have n0_ := Aside0.mk (XMap.R_reok rfl hy0 (fun k_ e_ => XMap.R_ok HO_3.out k_ e_)); have n1_ := Aside0.mk (blk_kept Z73 hkp (fun hs_ => (fun e_ => (XMap.R_ne HO_3.out BK119.out (by decide)) e_) hs_)); have n2_ := Aside0.mk (blk_kept Z74 hkp (fun hs_ => (fun e_ => (XMap.R_away HO_3.out (fun _ hk => hk.2)) e_) hs_)); have n3_ := Aside0.mk (hb); clear HO_3; clear BK119; clear BK123; clear HB; have HO_3 := n0_; have BK119 := n1_; have BK123 := n2_; have HB := n3_; clear n0_ n1_ n2_ n3_; (try clear hb); (try clear hkp); (try clear hy0))))
                   go_ret
                   exact ⟨Z66, Z38⟩
                  ·replace c29 := Bool.eq_false_iff.mpr c29
                   subst c29
                   have H1 : ((map_put_adr.f t126 ((rd_T31 ((rd_T86 l0 x15_1).f1) x47_3).f0) ((rd_T31 ((rd_T86 l0 x15_1).f1) x47_3).f1)).bind fun t127 => (partner_CheckPartners.l1 k3 l0 t127 l0 (l0.length : Int) x15_1 ((rd_T86 l0 x15_1).f1) (((rd_T86 l0 x15_1).f1).length : Int) (wrap64 (x47_3 + 1)))) = some r := by rw [if_neg (show ¬ (false = true) by decide)] at H; exact H
                   clear H
                   have H := H1
                   clear H1
                   replace H := Option.bind_eq_some_iff.mp H
                   obtain ⟨t127, A370, H⟩ := H
                   replace H : (partner_CheckPartners.l1 k3 l0 t127 l0 (l0.length : Int) x15_1 ((rd_T86 l0 x15_1).f1) (((rd_T86 l0 x15_1).f1).length : Int) (wrap64 (x47_3 + 1))) = some r := H
                   have A37 := Aside0.mk A370
                   clear A370
                   have H' := Aside0.mk H
                   clear H
                   have p122 : 0 ≤ (x47_3 : Int) := of_decide_eq_true Z101
                   have q122 : x47_3 < (((rd_T86 l0 x15_1).f1).length : Int) := of_decide_eq_true Z101
                   obtain ⟨ad122, e122, hx122_0, hx122_1⟩ := at_T31 HR118_1.out x47_3 p122 q122
                   cases e122
                   replace hx122_0 := (HB.out.cell (World.block_lt_of_cell? w _ hx122_0)).trans hx122_0
                   replace hx122_1 := (HB.out.cell (World.block_lt_of_cell? w _ hx122_1)).trans hx122_1
                   replace p122 := eq_true p122
                   replace q122 := eq_true q122
                   go_wp2_with (first | ((with_reducible refine gate_dst (N := 7) rfl ?_); refine box_event ?hg (N := 7) ?hd (cs := #[.string (⟨#[]⟩ : ByteArray), .string (⟨#[]⟩ : ByteArray)]) (t := 31) ?hr ?_; (case hd => rfl); (case hg => rfl); (case hr => exact Z103); intro gb123 hg w38 hbox hb; have n0_ := Aside0.mk (XMap.R_below (XMap.R_elderB Z92 gb123 (Nat.le_of_eq hg.symm)) hb); have n1_ := Aside0.mk (blk_below (g := gb119) (o := .cells #[.string ((rd_T86 l0 x15_1).f0), .slice (some ad122) ((rd_T86 l0 x15_1).f1).length c118_1] 86 (0, 0)) Z73 hb); have n2_ := Aside0.mk (below_step Z53 hb); have n3_ := Aside0.mk (hbox); have n4_ := Aside0.mk ((Z33 : w.heap.size ≤ gb123)); have n5_ := Aside0.mk ((Z33 : w.heap.size ≤ gb123)); have n6_ := Aside0.mk ((Z27 : gb119 ≠ gb123)); have n7_ := Aside0.mk ((Z28 : gb123 ≠ gb119)); clear HO_3; clear BK119; clear HB; have HO_3 := n0_; have BK119 := n1_; have HB := n2_; have BK123 := n3_; have GW123 := n4_; have GE123 := n5_; have NB119_123 := n6_; have NB123_119 := n7_; clear n0_ n1_ n2_ n3_ n4_ n5_ n6_ n7_; clear hb hbox hg; have hnb39 := NB123_119.out; have hnc39 := NB119_123.out; obtain ⟨hcz40_0, hcz40_1, hfz40_0, hfz40_1⟩ := bf2 BK123.out) | (go_at_call 48; (with_reducible refine (partner_addressFault.calls k3 ((rd_T31 ((rd_T86 l0 x15_1).f1) x47_3).f0) ((rd_T31 ((rd_T86 l0 x15_1).f1) x47_3).f1) t124 _ A26.out).mono ?_); rintro e w41 ⟨rfl, hb⟩; have n0_ := Aside0.mk (XMap.R_below Z16 hb); have n1_ := Aside0.mk (blk_below (g := gb119) (o := .cells #[.string ((rd_T86 l0 x15_1).f0), .slice (some ad122) ((rd_T86 l0 x15_1).f1).length c118_1] 86 (0, 0)) Z17 hb); have n2_ := Aside0.mk (blk_below (g := gb123) (o := .cells #[.string ((rd_T31 ((rd_T86 l0 x15_1).f1) x47_3).f0), .string ((rd_T31 ((rd_T86 l0 x15_1).f1) x47_3).f1)] 31 (0, 0)) Z12 hb); have n3_ := Aside0.mk (below_step Z38 hb); clear HO_3; clear BK119; clear BK123; clear HB; have HO_3 := n0_; have BK119 := n1_; have BK123 := n2_; have HB := n3_; clear n0_ n1_ n2_ n3_; (try clear hb); (try clear hb2); (try clear hk); (try clear hi); obtain ⟨hcz42_0, hcz42_1, hfz42_0, hfz42_1⟩ := bf2 BK123.out; obtain ⟨Ao43, co43, eo43⟩ := XMap.R_slice HO_3.out; subst eo43) | ((with_reducible refine XMap.mapHas_ rfl rfl rfl rfl ?_); (refine (map_has_adr.calls (fun k_ => some k_ = XMap.mOwn (.map (some Ao43))) (.map (some Ao43)) x3_3 ((rd_T31 ((rd_T86 l0 x15_1).f1) x47_3).f0) ((rd_T31 ((rd_T86 l0 x15_1).f1) x47_3).f1) false t126 w _ ?side1 ?side2 A28.out).mono ?_); (case side1 => exact Z38); (case side2 => exact Z105); rintro e w44 ⟨rfl, hy0, hb, hkp⟩; refine XMap.ret_of ?_; have n0_ := Aside0.mk (XMap.R_reok rfl hy0 (fun k_ e_ => XMap.R_ok HO_3.out k_ e_)); have n1_ := Aside0.mk (blk_kept Z73 hkp (fun hs_ => (fun e_ => (XMap.R_ne HO_3.out BK119.out (by decide)) e_) hs_)); have n2_ := Aside0.mk (blk_kept Z74 hkp (fun hs_ => (fun e_ => (XMap.R_away HO_3.out (fun _ hk => hk.2)) e_) hs_)); have n3_ := Aside0.mk (hb); clear HO_3; clear BK119; clear BK123; clear HB; have HO_3 := n0_; have BK119 := n1_; have BK123 := n2_; have HB := n3_; clear n0_ n1_ n2_ n3_; (try clear hb); (try clear hkp); (try clear hy0); obtain ⟨hcz45_0, hcz45_1, hfz45_0, hfz45_1⟩ := bf2 BK123.out) | ((with_reducible refine XMap.mapPut_ rfl rfl rfl rfl rfl rfl ?_); (refine (map_put_adr.calls (fun k_ => some k_ = XMap.mOwn (.map (some Ao43))) (.map (some Ao43)) t126 ((rd_T31 ((rd_T86 l0 x15_1).f1) x47_3).f0) ((rd_T31 ((rd_T86 l0 x15_1).f1) x47_3).f1) t127 w _ ?side1 ?side2 A37.out).mono ?_); (case side1 => exact Z38); (case side2 => exact Z105); rintro e w46 ⟨rfl, hy0, hb, hkp⟩; refine XMap.ret_of ?_; have n0_ := Aside0.mk (XMap.R_reok rfl hy0 (fun k_ e_ => XMap.R_ok HO_3.out k_ e_)); have n1_ := Aside0.mk (blk_kept Z73 hkp (fun hs_ => (fun e_ => (XMap.R_ne HO_3.out BK119.out (by decide)) e_) hs_)); have n2_ := Aside0.mk (blk_kept Z74 hkp (fun hs_ => (fun e_ => (XMap.R_away HO_3.out (fun _ hk => hk.2)) e_) hs_)); have n3_ := Aside0.mk (hb); clear HO_3; clear BK119; clear BK123; clear HB; have HO_3 := n0_; have BK119 := n1_; have BK123 := n2_; have HB := n3_; clear n0_ n1_ n2_ n3_; (try clear hb); (try clear hkp); (try clear hy0)))
                   repeat (go_quiet (first | ((with_reducible refine gate_dst (N := 7) rfl ?_); refine box_event ?hg (N := 7) ?hd (cs := #[.string (⟨#[]⟩ : ByteArray), .string (⟨#[]⟩ : ByteArray)]) (t := 31) ?hr ?_; (case hd => rfl); (case hg => rfl); (case hr => exact Z103); intro gb123 hg w38 hbox hb; have n0_ := Aside0.mk (XMap.R_below (XMap.R_elderB Z92 gb123 (Nat.le_of_eq hg.symm)) hb); have n1_ := Aside0.mk (blk_below (g := gb119) (o := .cells #[.string ((rd_T86 l0 x15_1).f0), .slice (some ad122) ((rd_T86 l0 x15_1).f1).length c118_1] 86 (0, 0)) Z73 hb); have n2_ := Aside0.mk (below_step Z53 hb); have n3_ := Aside0.mk (hbox); have n4_ := Aside0.mk ((Z33 : w.heap.size ≤ gb123)); have n5_ := Aside0.mk ((Z33 : w.heap.size ≤ gb123)); have n6_ := Aside0.mk ((Z27 : gb119 ≠ gb123)); have n7_ := Aside0.mk ((Z28 : gb123 ≠ gb119)); clear HO_3; clear BK119; clear HB; have HO_3 := n0_; have BK119 := n1_; have HB := n2_; have BK123 := n3_; have GW123 := n4_; have GE123 := n5_; have NB119_123 := n6_; have NB123_119 := n7_; clear n0_ n1_ n2_ n3_ n4_ n5_ n6_ n7_; clear hb hbox hg; have hnb39 := NB123_119.out; have hnc39 := NB119_123.out; obtain ⟨hcz40_0, hcz40_1, hfz40_0, hfz40_1⟩ := bf2 BK123.out) | (go_at_call 48; (with_reducible refine (partner_addressFault.calls k3 ((rd_T31 ((rd_T86 l0 x15_1).f1) x47_3).f0) ((rd_T31 ((rd_T86 l0 x15_1).f1) x47_3).f1) t124 _ A26.out).mono ?_); rintro e w41 ⟨rfl, hb⟩; have n0_ := Aside0.mk (XMap.R_below Z16 hb); have n1_ := Aside0.mk (blk_below (g := gb119) (o := .cells #[.string ((rd_T86 l0 x15_1).f0), .slice (some ad122) ((rd_T86 l0 x15_1).f1).length c118_1] 86 (0, 0)) Z17 hb); have n2_ := Aside0.mk (blk_below (g := gb123) (o := .cells #[.string ((rd_T31 ((rd_T86 l0 x15_1).f1) x47_3).f0), .string ((rd_T31 ((rd_T86 l0 x15_1).f1) x47_3).f1)] 31 (0, 0)) Z12 hb); have n3_ := Aside0.mk (below_step Z38 hb); clear HO_3; clear BK119; clear BK123; clear HB; have HO_3 := n0_; have BK119 := n1_; have BK123 := n2_; have HB := n3_; clear n0_ n1_ n2_ n3_; (try clear hb); (try clear hb2); (try clear hk); (try clear hi); obtain ⟨hcz42_0, hcz42_1, hfz42_0, hfz42_1⟩ := bf2 BK123.out; obtain ⟨Ao43, co43, eo43⟩ := XMap.R_slice HO_3.out; subst eo43) | ((with_reducible refine XMap.mapHas_ rfl rfl rfl rfl ?_); (refine (map_has_adr.calls (fun k_ => some k_ = XMap.mOwn (.map (some Ao43))) (.map (some Ao43)) x3_3 ((rd_T31 ((rd_T86 l0 x15_1).f1) x47_3).f0) ((rd_T31 ((rd_T86 l0 x15_1).f1) x47_3).f1) false t126 w _ ?side1 ?side2 A28.out).mono ?_); (case side1 => exact Z38); (case side2 => exact Z105); rintro e w44 ⟨rfl, hy0, hb, hkp⟩; refine XMap.ret_of ?_; have n0_ := Aside0.mk (XMap.R_reok rfl hy0 (fun k_ e_ => XMap.R_ok HO_3.out k_ e_)); have n1_ := Aside0.mk (blk_kept Z73 hkp (fun hs_ => (fun e_ => (XMap.R_ne HO_3.out BK119.out (by decide)) e_) hs_)); have n2_ := Aside0.mk (blk_kept Z74 hkp (fun hs_ => (fun e_ => (XMap.R_away HO_3.out (fun _ hk => hk.2)) e_) hs_)); have n3_ := Aside0.mk (hb); clear HO_3; clear BK119; clear BK123; clear HB; have HO_3 := n0_; have BK119 := n1_; have BK123 := n2_; have HB := n3_; clear n0_ n1_ n2_ n3_; (try clear hb); (try clear hkp); (try clear hy0); obtain ⟨hcz45_0, hcz45_1, hfz45_0, hfz45_1⟩ := bf2 BK123.out) | ((with_reducible refine XMap.mapPut_ rfl rfl rfl rfl rfl rfl ?_); (refine (map_put_adr.calls (fun k_ => some k_ = XMap.mOwn (.map (some Ao43))) (.map (some Ao43)) t126 ((rd_T31 ((rd_T86 l0 x15_1).f1) x47_3).f0) ((rd_T31 ((rd_T86 l0 x15_1).f1) x47_3).f1) t127 w _ ?side1 ?side2 A37.out).mono ?_); (case side1 => exact Z38); (case side2 => exact Z105); rintro e w46 ⟨rfl, hy0, hb, hkp⟩; refine XMap.ret_of ?_; have n0_ := Aside0.mk (XMap.R_reok rfl hy0 (fun k_ e_ => XMap.R_ok HO_3.out k_ e_)); have n1_ := Aside0.mk (blk_kept Z73 hkp (fun hs_ => (fun e_ => (XMap.R_ne HO_3.out BK119.out (by decide)) e_) hs_)); have n2_ := Aside0.mk (blk_kept Z74 hkp (fun hs_ => (fun e_ => (XMap.R_away HO_3.out (fun _ hk => hk.2)) e_) hs_)); have n3_ := Aside0.mk (hb); clear HO_3; clear BK119; clear BK123; clear HB; have HO_3 := n0_; have BK119 := n1_; have BK123 := n2_; have HB := n3_; clear n0_ n1_ n2_ n3_; (try clear hb); (try clear hkp); (try clear hy0))); try go_wp2_with (first | ((with_reducible refine gate_dst (N := 7) rfl ?_); refine box_event ?hg (N := 7) ?hd (cs := #[.string (⟨#[]⟩ : ByteArray), .string (⟨#[]⟩ : ByteArray)]) (t := 31) ?hr ?_; (case hd => rfl); (case hg => rfl); (case hr => exact Z103); intro gb123 hg w38 hbox hb; have n0_ := Aside0.mk (XMap.R_below (XMap.R_elderB Z92 gb123 (Nat.le_of_eq hg.symm)) hb); have n1_ := Aside0.mk (blk_below (g := gb119) (o := .cells #[.string ((rd_T86 l0 x15_1).f0), .slice (some ad122) ((rd_T86 l0 x15_1).f1).length c118_1] 86 (0, 0)) Z73 hb); have n2_ := Aside0.mk (below_step Z53 hb); have n3_ := Aside0.mk (hbox); have n4_ := Aside0.mk ((Z33 : w.heap.size ≤ gb123)); have n5_ := Aside0.mk ((Z33 : w.heap.size ≤ gb123)); have n6_ := Aside0.mk ((Z27 : gb119 ≠ gb123)); have n7_ := Aside0.mk ((Z28 : gb123 ≠ gb119)); clear HO_3; clear BK119; clear HB; have HO_3 := n0_; have BK119 := n1_; have HB := n2_; have BK123 := n3_; have GW123 := n4_; have GE123 := n5_; have NB119_123 := n6_; have NB123_119 := n7_; clear n0_ n1_ n2_ n3_ n4_ n5_ n6_ n7_; clear hb hbox hg; have hnb39 := NB123_119.out; have hnc39 := NB119_123.out; obtain ⟨hcz40_0, hcz40_1, hfz40_0, hfz40_1⟩ := bf2 BK123.out) | (go_at_call 48; (with_reducible refine (partner_addressFault.calls k3 ((rd_T31 ((rd_T86 l0 x15_1).f1) x47_3).f0) ((rd_T31 ((rd_T86 l0 x15_1).f1) x47_3).f1) t124 _ A26.out).mono ?_); rintro e w41 ⟨rfl, hb⟩; have n0_ := Aside0.mk (XMap.R_below Z16 hb); have n1_ := Aside0.mk (blk_below (g := gb119) (o := .cells #[.string ((rd_T86 l0 x15_1).f0), .slice (some ad122) ((rd_T86 l0 x15_1).f1).length c118_1] 86 (0, 0)) Z17 hb); have n2_ := Aside0.mk (blk_below (g := gb123) (o := .cells #[.string ((rd_T31 ((rd_T86 l0 x15_1).f1) x47_3).f0), .string ((rd_T31 ((rd_T86 l0 x15_1).f1) x47_3).f1)] 31 (0, 0)) Z12 hb); have n3_ := Aside0.mk (below_step Z38 hb); clear HO_3; clear BK119; clear BK123; clear HB; have HO_3 := n0_; have BK119 := n1_; have BK123 := n2_; have HB := n3_; clear n0_ n1_ n2_ n3_; (try clear hb); (try clear hb2); (try clear hk); (try clear hi); obtain ⟨hcz42_0, hcz42_1, hfz42_0, hfz42_1⟩ := bf2 BK123.out; obtain ⟨Ao43, co43, eo43⟩ := XMap.R_slice HO_3.out; subst eo43) | ((with_reducible refine XMap.mapHas_ rfl rfl rfl rfl ?_); (refine (map_has_adr.calls (fun k_ => some k_ = XMap.mOwn (.map (some Ao43))) (.map (some Ao43)) x3_3 ((rd_T31 ((rd_T86 l0 x15_1).f1) x47_3).f0) ((rd_T31 ((rd_T86 l0 x15_1).f1) x47_3).f1) false t126 w _ ?side1 ?side2 A28.out).mono ?_); (case side1 => exact Z38); (case side2 => exact Z105); rintro e w44 ⟨rfl, hy0, hb, hkp⟩; refine XMap.ret_of ?_; have n0_ := Aside0.mk (XMap.R_reok rfl hy0 (fun k_ e_ => XMap.R_ok HO_3.out k_ e_)); have n1_ := Aside0.mk (blk_kept Z73 hkp (fun hs_ => (fun e_ => (XMap.R_ne HO_3.out BK119.out (by decide)) e_) hs_)); have n2_ := Aside0.mk (blk_kept Z74 hkp (fun hs_ => (fun e_ => (XMap.R_away HO_3.out (fun _ hk => hk.2)) e_) hs_)); have n3_ := Aside0.mk (hb); clear HO_3; clear BK119; clear BK123; clear HB; have HO_3 := n0_; have BK119 := n1_; have BK123 := n2_; have HB := n3_; clear n0_ n1_ n2_ n3_; (try clear hb); (try clear hkp); (try clear hy0); obtain ⟨hcz45_0, hcz45_1, hfz45_0, hfz45_1⟩ := bf2 BK123.out) | ((with_reducible refine XMap.mapPut_ rfl rfl rfl rfl rfl rfl ?_); (refine (map_put_adr.calls (fun k_ => some k_ = XMap.mOwn (.map (some Ao43))) (.map (some Ao43)) t126 ((rd_T31 ((rd_T86 l0 x15_1).f1) x47_3).f0) ((rd_T31 ((rd_T86 l0 x15_1).f1) x47_3).f1) t127 w _ ?side1 ?side2 A37.out).mono ?_); (case side1 => exact Z38); (case side2 => exact Z105); rintro e w46 ⟨rfl, hy0, hb, hkp⟩; refine XMap.ret_of ?_; have n0_ := Aside0.mk (XMap.R_reok rfl hy0 (fun k_ e_ => XMap.R_ok HO_3.out k_ e_)); have n1_ := Aside0.mk (blk_kept Z73 hkp (fun hs_ => (fun e_ => (XMap.R_ne HO_3.out BK119.out (by decide)) e_) hs_)); have n2_ := Aside0.mk (blk_kept Z74 hkp (fun hs_ => (fun e_ => (XMap.R_away HO_3.out (fun _ hk => hk.2)) e_) hs_)); have n3_ := Aside0.mk (hb); clear HO_3; clear BK119; clear BK123; clear HB; have HO_3 := n0_; have BK119 := n1_; have BK123 := n2_; have HB := n3_; clear n0_ n1_ n2_ n3_; (try clear hb); (try clear hkp); (try clear hy0))))
                   go_roundg k3
                   case measure => have := HK1.out; have := HJ9.out; have := HK3.out; omega
                   case rel => exact ⟨(t127), (wrap64 (x47_3 + 1)), Z98, H', ⟨by have := HK1.out; have := HJ9.out; have := HK3.out; omega⟩, ⟨by (with_reducible repeat (first | apply XMap.R_alloc | apply XMap.R_drewN | apply XMap.R_drew)); exact XMap.R_mono HO_3.out (fun _ hk => trivial)⟩, ⟨Z73⟩, ⟨Z38⟩⟩
                 ·rw [if_neg c27] at H
                  have c27b0 : (t124 == 0) = false := beq_eq_false_iff_ne.mpr c27
                  have c27b1 : (t124 != 0) = true := bne_iff_ne.mpr c27
                  obtain rfl := Option.some.inj H
                  have p122 : 0 ≤ (x47_3 : Int) := of_decide_eq_true Z101
                  have q122 : x47_3 < (((rd_T86 l0 x15_1).f1).length : Int) := of_decide_eq_true Z101
                  obtain ⟨ad122, e122, hx122_0, hx122_1⟩ := at_T31 HR118_1.out x47_3 p122 q122
                  cases e122
                  replace hx122_0 := (HB.out.cell (World.block_lt_of_cell? w _ hx122_0)).trans hx122_0
                  replace hx122_1 := (HB.out.cell (World.block_lt_of_cell? w _ hx122_1)).trans hx122_1
                  replace p122 := eq_true p122
                  replace q122 := eq_true q122
                  go_wp2_with (first | ((with_reducible refine gate_dst (N := 7) rfl ?_); refine box_event ?hg (N := 7) ?hd (cs := #[.string (⟨#[]⟩ : ByteArray), .string (⟨#[]⟩ : ByteArray)]) (t := 31) ?hr ?_; (case hd => rfl); (case hg => rfl); (case hr => exact Z103); intro gb123 hg w47 hbox hb; have n0_ := Aside0.mk (XMap.R_below (XMap.R_elderB Z92 gb123 (Nat.le_of_eq hg.symm)) hb); have n1_ := Aside0.mk (blk_below (g := gb119) (o := .cells #[.string ((rd_T86 l0 x15_1).f0), .slice (some ad122) ((rd_T86 l0 x15_1).f1).length c118_1] 86 (0, 0)) Z73 hb); have n2_ := Aside0.mk (below_step Z53 hb); have n3_ := Aside0.mk (hbox); have n4_ := Aside0.mk ((Z33 : w.heap.size ≤ gb123)); have n5_ := Aside0.mk ((Z33 : w.heap.size ≤ gb123)); have n6_ := Aside0.mk ((Z27 : gb119 ≠ gb123)); have n7_ := Aside0.mk ((Z28 : gb123 ≠ gb119)); clear HO_3; clear BK119; clear HB; have HO_3 := n0_; have BK119 := n1_; have HB := n2_; have BK123 := n3_; have GW123 := n4_; have GE123 := n5_; have NB119_123 := n6_; have NB123_119 := n7_; clear n0_ n1_ n2_ n3_ n4_ n5_ n6_ n7_; clear hb hbox hg; have hnb48 := NB123_119.out; have hnc48 := NB119_123.out; obtain ⟨hcz49_0, hcz49_1, hfz49_0, hfz49_1⟩ := bf2 BK123.out) | (go_at_call 48; (with_reducible refine (partner_addressFault.calls k3 ((rd_T31 ((rd_T86 l0 x15_1).f1) x47_3).f0) ((rd_T31 ((rd_T86 l0 x15_1).f1) x47_3).f1) t124 _ A26.out).mono ?_); rintro e w50 ⟨rfl, hb⟩; have n0_ := Aside0.mk (XMap.R_below Z16 hb); have n1_ := Aside0.mk (blk_below (g := gb119) (o := .cells #[.string ((rd_T86 l0 x15_1).f0), .slice (some ad122) ((rd_T86 l0 x15_1).f1).length c118_1] 86 (0, 0)) Z17 hb); have n2_ := Aside0.mk (blk_below (g := gb123) (o := .cells #[.string ((rd_T31 ((rd_T86 l0 x15_1).f1) x47_3).f0), .string ((rd_T31 ((rd_T86 l0 x15_1).f1) x47_3).f1)] 31 (0, 0)) Z12 hb); have n3_ := Aside0.mk (below_step Z38 hb); clear HO_3; clear BK119; clear BK123; clear HB; have HO_3 := n0_; have BK119 := n1_; have BK123 := n2_; have HB := n3_; clear n0_ n1_ n2_ n3_; (try clear hb); (try clear hb2); (try clear hk); (try clear hi)))
                  repeat (go_quiet (first | ((with_reducible refine gate_dst (N := 7) rfl ?_); refine box_event ?hg (N := 7) ?hd (cs := #[.string (⟨#[]⟩ : ByteArray), .string (⟨#[]⟩ : ByteArray)]) (t := 31) ?hr ?_; (case hd => rfl); (case hg => rfl); (case hr => exact Z103); intro gb123 hg w47 hbox hb; have n0_ := Aside0.mk (XMap.R_below (XMap.R_elderB Z92 gb123 (Nat.le_of_eq hg.symm)) hb); have n1_ := Aside0.mk (blk_below (g := gb119) (o := .cells #[.string ((rd_T86 l0 x15_1).f0), .slice (some ad122) ((rd_T86 l0 x15_1).f1).length c118_1] 86 (0, 0)) Z73 hb); have n2_ := Aside0.mk (below_step Z53 hb); have n3_ := Aside0.mk (hbox); have n4_ := Aside0.mk ((Z33 : w.heap.size ≤ gb123)); have n5_ := Aside0.mk ((Z33 : w.heap.size ≤ gb123)); have n6_ := Aside0.mk ((Z27 : gb119 ≠ gb123)); have n7_ := Aside0.mk ((Z28 : gb123 ≠ gb119)); clear HO_3; clear BK119; clear HB; have HO_3 := n0_; have BK119 := n1_; have HB := n2_; have BK123 := n3_; have GW123 := n4_; have GE123 := n5_; have NB119_123 := n6_; have NB123_119 := n7_; clear n0_ n1_ n2_ n3_ n4_ n5_ n6_ n7_; clear hb hbox hg; have hnb48 := NB123_119.out; have hnc48 := NB119_123.out; obtain ⟨hcz49_0, hcz49_1, hfz49_0, hfz49_1⟩ := bf2 BK123.out) | (go_at_call 48; (with_reducible refine (partner_addressFault.calls k3 ((rd_T31 ((rd_T86 l0 x15_1).f1) x47_3).f0) ((rd_T31 ((rd_T86 l0 x15_1).f1) x47_3).f1) t124 _ A26.out).mono ?_); rintro e w50 ⟨rfl, hb⟩; have n0_ := Aside0.mk (XMap.R_below Z16 hb); have n1_ := Aside0.mk (blk_below (g := gb119) (o := .cells #[.string ((rd_T86 l0 x15_1).f0), .slice (some ad122) ((rd_T86 l0 x15_1).f1).length c118_1] 86 (0, 0)) Z17 hb); have n2_ := Aside0.mk (blk_below (g := gb123) (o := .cells #[.string ((rd_T31 ((rd_T86 l0 x15_1).f1) x47_3).f0), .string ((rd_T31 ((rd_T86 l0 x15_1).f1) x47_3).f1)] 31 (0, 0)) Z12 hb); have n3_ := Aside0.mk (below_step Z38 hb); clear HO_3; clear BK119; clear BK123; clear HB; have HO_3 := n0_; have BK119 := n1_; have BK123 := n2_; have HB := n3_; clear n0_ n1_ n2_ n3_; (try clear hb); (try clear hb2); (try clear hk); (try clear hi))); try go_wp2_with (first | ((with_reducible refine gate_dst (N := 7) rfl ?_); refine box_event ?hg (N := 7) ?hd (cs := #[.string (⟨#[]⟩ : ByteArray), .string (⟨#[]⟩ : ByteArray)]) (t := 31) ?hr ?_; (case hd => rfl); (case hg => rfl); (case hr => exact Z103); intro gb123 hg w47 hbox hb; have n0_ := Aside0.mk (XMap.R_below (XMap.R_elderB Z92 gb123 (Nat.le_of_eq hg.symm)) hb); have n1_ := Aside0.mk (blk_below (g := gb119) (o := .cells #[.string ((rd_T86 l0 x15_1).f0), .slice (some ad122) ((rd_T86 l0 x15_1).f1).length c118_1] 86 (0, 0)) Z73 hb); have n2_ := Aside0.mk (below_step Z53 hb); have n3_ := Aside0.mk (hbox); have n4_ := Aside0.mk ((Z33 : w.heap.size ≤ gb123)); have n5_ := Aside0.mk ((Z33 : w.heap.size ≤ gb123)); have n6_ := Aside0.mk ((Z27 : gb119 ≠ gb123)); have n7_ := Aside0.mk ((Z28 : gb123 ≠ gb119)); clear HO_3; clear BK119; clear HB; have HO_3 := n0_; have BK119 := n1_; have HB := n2_; have BK123 := n3_; have GW123 := n4_; have GE123 := n5_; have NB119_123 := n6_; have NB123_119 := n7_; clear n0_ n1_ n2_ n3_ n4_ n5_ n6_ n7_; clear hb hbox hg; have hnb48 := NB123_119.out; have hnc48 := NB119_123.out; obtain ⟨hcz49_0, hcz49_1, hfz49_0, hfz49_1⟩ := bf2 BK123.out) | (go_at_call 48; (with_reducible refine (partner_addressFault.calls k3 ((rd_T31 ((rd_T86 l0 x15_1).f1) x47_3).f0) ((rd_T31 ((rd_T86 l0 x15_1).f1) x47_3).f1) t124 _ A26.out).mono ?_); rintro e w50 ⟨rfl, hb⟩; have n0_ := Aside0.mk (XMap.R_below Z16 hb); have n1_ := Aside0.mk (blk_below (g := gb119) (o := .cells #[.string ((rd_T86 l0 x15_1).f0), .slice (some ad122) ((rd_T86 l0 x15_1).f1).length c118_1] 86 (0, 0)) Z17 hb); have n2_ := Aside0.mk (blk_below (g := gb123) (o := .cells #[.string ((rd_T31 ((rd_T86 l0 x15_1).f1) x47_3).f0), .string ((rd_T31 ((rd_T86 l0 x15_1).f1) x47_3).f1)] 31 (0, 0)) Z12 hb); have n3_ := Aside0.mk (below_step Z38 hb); clear HO_3; clear BK119; clear BK123; clear HB; have HO_3 := n0_; have BK119 := n1_; have BK123 := n2_; have HB := n3_; clear n0_ n1_ n2_ n3_; (try clear hb); (try clear hb2); (try clear hk); (try clear hi))))
                  go_ret
                  exact ⟨Z66, Z38⟩
                ·rw [if_neg c25] at H
                 exact absurd H (by simp)
               ·rw [if_neg c24] at H
                exact absurd H (by simp)
              ·rw [if_neg c23] at H
               have c23b0 : decide (x47_3 < (((rd_T86 l0 x15_1).f1).length : Int)) = false := decide_eq_false c23
               clear c23
               have H' := Aside0.mk H
               clear H
               go_wp2
               repeat (go_quiet (fail); try go_wp2)
               go_roundg k3
               case measure => have := HK1.out; have := HJ9.out; have := HK3.out; omega
               case rel => exact ⟨(x3_3), (wrap64 (x15_1 + 1)), Z98, H', ⟨by have := HK1.out; have := HJ9.out; have := HK3.out; omega⟩, ⟨Z92⟩, ⟨Z53⟩⟩
       ·replace c9 := Bool.eq_false_iff.mpr c9
        subst c9
        have H1 : (some 5) = some r := by rw [if_neg (show ¬ (false = true) by decide)] at H; exact H
        clear H
        have H := H1
        clear H1
        obtain rfl := Option.some.inj H
        have p118 : 0 ≤ (x15_1 : Int) := of_decide_eq_true Z101
        have q118 : x15_1 < (l0.length : Int) := of_decide_eq_true Z101
        obtain ⟨ad118, A118_1, c118_1, e118, hx118_0, hx118_1, hl118_1, hi118_1⟩ := at_T86 HR0.out x15_1 p118 q118
        cases e118
        replace hx118_0 := (HB.out.cell (World.block_lt_of_cell? w _ hx118_0)).trans hx118_0
        replace hx118_1 := (HB.out.cell (World.block_lt_of_cell? w _ hx118_1)).trans hx118_1
        have HR118_1 := Aside0.mk hi118_1
        have HC118_1 := Aside0.mk hl118_1
        clear hi118_1 hl118_1
        replace p118 := eq_true p118
        replace q118 := eq_true q118
        go_wp2_with (first | ((with_reducible refine gate_dst (N := 5) rfl ?_); refine box_event ?hg (N := 5) ?hd (cs := #[.string (⟨#[]⟩ : ByteArray), .slice none 0 0]) (t := 86) ?hr ?_; (case hd => rfl); (case hg => rfl); (case hr => exact Z103); intro gb119 hg w51 hbox hb; have n0_ := Aside0.mk (XMap.R_below Z92 hb); have n1_ := Aside0.mk (below_step Z70 hb); have n2_ := Aside0.mk (hbox); have n3_ := Aside0.mk ((Z49 : w.heap.size ≤ gb119)); have n4_ := Aside0.mk ((Z49 : w.heap.size ≤ gb119)); clear HO_3; clear HB; have HO_3 := n0_; have HB := n1_; have BK119 := n2_; have GW119 := n3_; have GE119 := n4_; clear n0_ n1_ n2_ n3_ n4_; clear hb hbox hg; obtain ⟨hcz52_0, hcz52_1, hfz52_0, hfz52_1⟩ := bf2 BK119.out) | (go_at_call 52; (with_reducible refine (kit_IsName.calls ((rd_T86 l0 x15_1).f0) false _ A8.out).mono ?_); rintro e w53 ⟨rfl, hb⟩; have n0_ := Aside0.mk (XMap.R_below Z18 hb); have n1_ := Aside0.mk (blk_below (g := gb119) (o := .cells #[.string ((rd_T86 l0 x15_1).f0), .slice A118_1 ((rd_T86 l0 x15_1).f1).length c118_1] 86 (0, 0)) Z13 hb); have n2_ := Aside0.mk (below_step Z53 hb); clear HO_3; clear BK119; clear HB; have HO_3 := n0_; have BK119 := n1_; have HB := n2_; clear n0_ n1_ n2_; (try clear hb); (try clear hb2); (try clear hk); (try clear hi)))
        repeat (go_quiet (first | ((with_reducible refine gate_dst (N := 5) rfl ?_); refine box_event ?hg (N := 5) ?hd (cs := #[.string (⟨#[]⟩ : ByteArray), .slice none 0 0]) (t := 86) ?hr ?_; (case hd => rfl); (case hg => rfl); (case hr => exact Z103); intro gb119 hg w51 hbox hb; have n0_ := Aside0.mk (XMap.R_below Z92 hb); have n1_ := Aside0.mk (below_step Z70 hb); have n2_ := Aside0.mk (hbox); have n3_ := Aside0.mk ((Z49 : w.heap.size ≤ gb119)); have n4_ := Aside0.mk ((Z49 : w.heap.size ≤ gb119)); clear HO_3; clear HB; have HO_3 := n0_; have HB := n1_; have BK119 := n2_; have GW119 := n3_; have GE119 := n4_; clear n0_ n1_ n2_ n3_ n4_; clear hb hbox hg; obtain ⟨hcz52_0, hcz52_1, hfz52_0, hfz52_1⟩ := bf2 BK119.out) | (go_at_call 52; (with_reducible refine (kit_IsName.calls ((rd_T86 l0 x15_1).f0) false _ A8.out).mono ?_); rintro e w53 ⟨rfl, hb⟩; have n0_ := Aside0.mk (XMap.R_below Z18 hb); have n1_ := Aside0.mk (blk_below (g := gb119) (o := .cells #[.string ((rd_T86 l0 x15_1).f0), .slice A118_1 ((rd_T86 l0 x15_1).f1).length c118_1] 86 (0, 0)) Z13 hb); have n2_ := Aside0.mk (below_step Z53 hb); clear HO_3; clear BK119; clear HB; have HO_3 := n0_; have BK119 := n1_; have HB := n2_; clear n0_ n1_ n2_; (try clear hb); (try clear hb2); (try clear hk); (try clear hi))); try go_wp2_with (first | ((with_reducible refine gate_dst (N := 5) rfl ?_); refine box_event ?hg (N := 5) ?hd (cs := #[.string (⟨#[]⟩ : ByteArray), .slice none 0 0]) (t := 86) ?hr ?_; (case hd => rfl); (case hg => rfl); (case hr => exact Z103); intro gb119 hg w51 hbox hb; have n0_ := Aside0.mk (XMap.R_below Z92 hb); have n1_ := Aside0.mk (below_step Z70 hb); have n2_ := Aside0.mk (hbox); have n3_ := Aside0.mk ((Z49 : w.heap.size ≤ gb119)); have n4_ := Aside0.mk ((Z49 : w.heap.size ≤ gb119)); clear HO_3; clear HB; have HO_3 := n0_; have HB := n1_; have BK119 := n2_; have GW119 := n3_; have GE119 := n4_; clear n0_ n1_ n2_ n3_ n4_; clear hb hbox hg; obtain ⟨hcz52_0, hcz52_1, hfz52_0, hfz52_1⟩ := bf2 BK119.out) | (go_at_call 52; (with_reducible refine (kit_IsName.calls ((rd_T86 l0 x15_1).f0) false _ A8.out).mono ?_); rintro e w53 ⟨rfl, hb⟩; have n0_ := Aside0.mk (XMap.R_below Z18 hb); have n1_ := Aside0.mk (blk_below (g := gb119) (o := .cells #[.string ((rd_T86 l0 x15_1).f0), .slice A118_1 ((rd_T86 l0 x15_1).f1).length c118_1] 86 (0, 0)) Z13 hb); have n2_ := Aside0.mk (below_step Z53 hb); clear HO_3; clear BK119; clear HB; have HO_3 := n0_; have BK119 := n1_; have HB := n2_; clear n0_ n1_ n2_; (try clear hb); (try clear hb2); (try clear hk); (try clear hi))))
        go_ret
        exact ⟨Z66, Z53⟩
      ·rw [if_neg c7] at H
       exact absurd H (by simp)
     ·rw [if_neg c6] at H
      exact absurd H (by simp)
    ·rw [if_neg c5] at H
     have c5b0 : decide (x15_1 < (l0.length : Int)) = false := decide_eq_false c5
     clear c5
     obtain rfl := Option.some.inj H
     go_wp2
     repeat (go_quiet (fail); try go_wp2)
     go_ret
     exact ⟨Z66, Z70⟩

/-! ### partner_isAny: function 85 -/
def partner_isAny.f (a0 : ByteArray) : Option (Bool) := if a0.toList = ([] : List UInt8) then (some true) else ((kit_IsName.f a0).bind fun t128 => (some t128))
set_option maxHeartbeats 8000000 in
set_option maxRecDepth 100000 in
theorem partner_isAny.calls (a0 : ByteArray) (r : Bool) (w : World) (h : partner_isAny.f a0 = some r) :
  Calls Tryd.prog 85 #[.string a0] w fun e w' => e = .returned (.bool r) ∧ Below w.heap.size w w' := by
 have HB := Aside0.mk (Below.refl w.heap.size w)
 have H : (if a0.toList = ([] : List UInt8) then (some true) else ((kit_IsName.f a0).bind fun t128 => (some t128))) = some r := h
 clear h
 by_cases c2 : a0.toList = ([] : List UInt8)
 ·rw [if_pos c2] at H
  have c2b0 : (a0.toList == ([] : List UInt8)) = true := beq_iff_eq.mpr c2
  have c2b1 : (a0.toList != ([] : List UInt8)) = false := bne_eq_false_iff_eq.mpr c2
  clear c2
  obtain rfl := Option.some.inj H
  go_enter Tryd.func85, Tryd.ntmps85
  go_wp2
  go_ret
  exact ⟨Z66, Z70⟩
 ·rw [if_neg c2] at H
  have c2b0 : (a0.toList == ([] : List UInt8)) = false := beq_eq_false_iff_ne.mpr c2
  have c2b1 : (a0.toList != ([] : List UInt8)) = true := bne_iff_ne.mpr c2
  replace H := Option.bind_eq_some_iff.mp H
  obtain ⟨t128, A30, H⟩ := H
  replace H : (some t128) = some r := H
  have A3 := Aside0.mk A30
  clear A30
  obtain rfl := Option.some.inj H
  go_enter Tryd.func85, Tryd.ntmps85
  go_wp2_with (first | (go_at_call 52; (with_reducible refine (kit_IsName.calls a0 t128 _ A3.out).mono ?_); rintro e w4 ⟨rfl, hb⟩; have n0_ := Aside0.mk (below_step Z70 hb); clear HB; have HB := n0_; clear n0_; (try clear hb); (try clear hb2); (try clear hk); (try clear hi)))
  go_ret
  exact ⟨Z66, Z70⟩

end Go.Proofs.YtdlgohhecicnoaaDoor.XPartnerNeverIsNever
