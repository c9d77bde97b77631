-- Walks of PartnerFindsMatchSpec: written by xprint.py out of the translation (hand-proved functions among them). Lean checks it.
import Derived.Test.YtdlgohhecicnoaaDoorXPartnerFindsMatchSpecx0
import Derived.Test.YtdlgohhecicnoaaDoorXPartnerFindsMatchSpecx2
import Derived.Test.YtdlgohhecicnoaaDoorXPartnerFindsMatchSpecx9
namespace Go.Proofs.YtdlgohhecicnoaaDoor.XPartnerFindsMatchSpec
open Go.RowKit Go.Proofs.YtdlgohhecicnoaaDoorW.PrintWords Go.Proofs.YtdlgohhecicnoaaDoorW.PrintLast Go.Proofs.YtdlgohhecicnoaaDoorW.PrintMore
attribute [local go_sem] max2_int min2_int max_two min_two max_three min_three max_four min_four   -- for this text's walks alone
set_option linter.unusedVariables false
set_option linter.unusedSimpArgs false

/-! ### partner_partnerOf: function 49 -/
def partner_partnerOf.l0 : Nat → List (S86) → Int → Int → ByteArray → ByteArray → Option (ByteArray)
 | 0, _, _, _, _, _ => none
 | k + 1, x7, x8, x9, x280000, x280001 => if x9 < x8 then (if 0 ≤ x9 then (if x9 < (x7.length : Int) then ((api_Address_51.f k ((rd_T86 x7 x9).f1) x280000 x280001).bind fun t282 => (if t282 = true then (some ((rd_T86 x7 x9).f0)) else (partner_partnerOf.l0 k x7 x8 (wrap64 (x9 + 1)) x280000 x280001))) else (none)) else (none)) else (some (⟨#[]⟩ : ByteArray))
def partner_partnerOf.f (k : Nat) (l0 : List (S86)) (a1_0 : ByteArray) (a1_1 : ByteArray) : Option (ByteArray) := partner_partnerOf.l0 k l0 (l0.length : Int) 0 a1_0 a1_1
theorem partner_partnerOf.mono_l : ∀ k, (∀ y0 y1 y2 y3 y4, LeO (partner_partnerOf.l0 k y0 y1 y2 y3 y4) (partner_partnerOf.l0 (k + 1) y0 y1 y2 y3 y4))
 | 0 => fun _ _ _ _ _ r h => by simp [partner_partnerOf.l0] at h
 | k + 1 => by
  have ih0 := partner_partnerOf.mono_l k
  ·intro y0 y1 y2 y3 y4
   unfold partner_partnerOf.l0
   repeat' first
   | (with_reducible exact ih0 _ _ _ _ _)
   | (with_reducible exact api_Address_51.mono _ _ _ _)
   | (with_reducible exact LeO.refl _)
   | (with_reducible exact LeO.none _)
   | (with_reducible refine LeO.ite ?_ ?_)
   | (with_reducible refine LeO.bind ?_ (fun _ => ?_))
   | exact ih0 _ _ _ _ _
   | exact api_Address_51.mono _ _ _ _
   | exact LeO.none _
   | refine LeO.ite ?_ ?_
   | refine LeO.bind ?_ (fun _ => ?_)
theorem partner_partnerOf.mono : ∀ a0 a1 a2 k, LeO (partner_partnerOf.f k a0 a1 a2) (partner_partnerOf.f (k + 1) a0 a1 a2) := by
 intro a0 a1 a2 k
 have ih0 := partner_partnerOf.mono_l k
 unfold partner_partnerOf.f
 repeat' first
   | (with_reducible exact ih0 _ _ _ _ _)
   | (with_reducible exact api_Address_51.mono _ _ _ _)
   | (with_reducible exact LeO.refl _)
   | (with_reducible exact LeO.none _)
   | (with_reducible refine LeO.ite ?_ ?_)
   | (with_reducible refine LeO.bind ?_ (fun _ => ?_))
   | exact ih0 _ _ _ _ _
   | exact api_Address_51.mono _ _ _ _
   | exact LeO.none _
   | refine LeO.ite ?_ ?_
   | refine LeO.bind ?_ (fun _ => ?_)
set_option maxHeartbeats 8000000 in
set_option maxRecDepth 100000 in
theorem partner_partnerOf.calls (k : Nat) (A0 : Option Addr) (c0 : Nat) (l0 : List (S86)) (a1_0 : ByteArray) (a1_1 : ByteArray) (r : ByteArray) (w : World) (hr0 : Kd.C k86 w A0 l0.length l0) (hc0 : l0.length ≤ c0) (h : partner_partnerOf.f k l0 a1_0 a1_1 = some r) :
  Calls Tryd.prog 49 #[.slice A0 l0.length c0, .agg #[.string a1_0, .string a1_1]] w fun e w' => e = .returned (.string r) ∧ Below w.heap.size w w' := by
 have hu31 := Tryd.underlying31
 have hu86 := Tryd.underlying86
 have HR0 := Aside0.mk hr0
 have HC0 := Aside0.mk hc0
 clear hr0 hc0
 have HB := Aside0.mk (Below.refl w.heap.size w)
 have H : (partner_partnerOf.l0 k l0 (l0.length : Int) 0 a1_0 a1_1) = some r := h
 clear h
 have H' := Aside0.mk H
 clear H
 go_enter Tryd.func49, Tryd.ntmps49
 go_wp2_with (first | ((with_reducible refine gate_dst (N := 3) rfl ?_); refine box_event ?hg (N := 3) ?hd (cs := #[.string a1_0, .string a1_1]) (t := 31) ?hr ?_; (case hd => rfl); (case hg => rfl); (case hr => exact Z188); intro gb279 hg w3 hbox hb; have n0_ := Aside0.mk (below_step Z140 hb); have n1_ := Aside0.mk (hbox); have n2_ := Aside0.mk ((Z108 : w.heap.size ≤ gb279)); have n3_ := Aside0.mk ((Z108 : w.heap.size ≤ gb279)); clear HB; have HB := n0_; have BK279 := n1_; have GW279 := n2_; have GE279 := n3_; clear n0_ n1_ n2_ n3_; clear hb hbox hg))
 go_loopg [9] k (fun kq v9 w' => ∃ (x9_1 : Int), v9 = .int .i64 x9_1 ∧ Aside0 (partner_partnerOf.l0 kq l0 (l0.length : Int) x9_1 a1_0 a1_1 = some r) ∧ Aside0 (kq ≤ k) ∧ Aside0 (w'.heap[gb279]? = some (.cells #[.string a1_0, .string a1_1] 31 (0, 0))) ∧ Aside0 (Below w.heap.size w w'))
 case atStart => exact ⟨(0), Z183, H', ⟨Nat.le_refl _⟩, ⟨Z173⟩, ⟨Z136⟩⟩
 case round =>
  clear H'
  try clear p2
  obtain ⟨x9_1, rfl, HA, HK1, BK279, HB⟩ := hrel
  cases gk with
  | zero => exact absurd HA.out (by simp [partner_partnerOf.l0])
  | succ k1 =>
   have H := HA.out
   clear HA
   simp only [partner_partnerOf.l0] at H
   by_cases c4 : x9_1 < (l0.length : Int)
   ·rw [if_pos c4] at H
    have c4b0 : decide (x9_1 < (l0.length : Int)) = true := decide_eq_true c4
    clear c4
    by_cases c5 : 0 ≤ x9_1
    ·rw [if_pos c5] at H
     have c5b0 : decide (0 ≤ x9_1) = true := decide_eq_true c5
     clear c5
     by_cases c6 : x9_1 < (l0.length : Int)
     ·rw [if_pos c6] at H
      have c6b0 : decide (x9_1 < (l0.length : Int)) = true := decide_eq_true c6
      clear c6
      replace H := Option.bind_eq_some_iff.mp H
      obtain ⟨t282, A70, H⟩ := H
      replace H : (if t282 = true then (some ((rd_T86 l0 x9_1).f0)) else (partner_partnerOf.l0 k1 l0 (l0.length : Int) (wrap64 (x9_1 + 1)) a1_0 a1_1)) = some r := H
      have A7 := Aside0.mk A70
      clear A70
      by_cases c8 : t282 = true
      ·subst c8
       have H1 : (some ((rd_T86 l0 x9_1).f0)) = some r := by rw [if_pos rfl] at H; exact H
       clear H
       have H := H1
       clear H1
       obtain rfl := Option.some.inj H
       have p280 : 0 ≤ (x9_1 : Int) := of_decide_eq_true Z186
       have q280 : x9_1 < (l0.length : Int) := of_decide_eq_true Z186
       obtain ⟨ad280, A280_1, c280_1, e280, hx280_0, hx280_1, hl280_1, hi280_1⟩ := at_T86 HR0.out x9_1 p280 q280
       cases e280
       replace hx280_0 := (HB.out.cell (World.block_lt_of_cell? w _ hx280_0)).trans hx280_0
       replace hx280_1 := (HB.out.cell (World.block_lt_of_cell? w _ hx280_1)).trans hx280_1
       have HR280_1 := Aside0.mk hi280_1
       have HC280_1 := Aside0.mk hl280_1
       clear hi280_1 hl280_1
       replace p280 := eq_true p280
       replace q280 := eq_true q280
       go_wp2_with (first | ((with_reducible refine gate_dst (N := 6) rfl ?_); refine box_event ?hg (N := 6) ?hd (cs := #[.string (⟨#[]⟩ : ByteArray), .slice none 0 0]) (t := 86) ?hr ?_; (case hd => rfl); (case hg => rfl); (case hr => exact Z188); intro gb281 hg w9 hbox hb; have n0_ := Aside0.mk (blk_below (g := gb279) (o := .cells #[.string a1_0, .string a1_1] 31 (0, 0)) Z173 hb); have n1_ := Aside0.mk (below_step Z136 hb); have n2_ := Aside0.mk (hbox); have n3_ := Aside0.mk ((Z91 : w.heap.size ≤ gb281)); have n4_ := Aside0.mk ((Z91 : w.heap.size ≤ gb281)); have n5_ := Aside0.mk ((Z74 : gb279 ≠ gb281)); have n6_ := Aside0.mk ((Z75 : gb281 ≠ gb279)); clear BK279; clear HB; have BK279 := n0_; have HB := n1_; have BK281 := n2_; have GW281 := n3_; have GE281 := n4_; have NB279_281 := n5_; have NB281_279 := n6_; clear n0_ n1_ n2_ n3_ n4_ n5_ n6_; clear hb hbox hg; have hnb10 := NB281_279.out; have hnc10 := NB279_281.out; obtain ⟨hcz11_0, hcz11_1, hfz11_0, hfz11_1⟩ := bf2 BK281.out; obtain ⟨hcz12_0, hcz12_1, hfz12_0, hfz12_1⟩ := bf2 BK279.out) | ((with_reducible refine gate_callee (f := 51) rfl ?_); refine goesL_ (some 16) rfl rfl Tryd.func51 (by kernel_rfl) rfl #[.slice A280_1 ((rd_T86 l0 x9_1).f1).length c280_1, .agg #[.string a1_0, .string a1_1]] rfl Z104 ?_; (with_reducible refine (api_Address_51.calls k1 _ _ ((rd_T86 l0 x9_1).f1) a1_0 a1_1 true _ ?side1 ?side2 A7.out).mono ?_); (case side1 => exact Z61); (case side2 => exact HC280_1.out); rintro e w13 ⟨rfl, hb⟩; refine ⟨_, rfl, ?_⟩; have n0_ := Aside0.mk (blk_below (g := gb279) (o := .cells #[.string a1_0, .string a1_1] 31 (0, 0)) Z23 hb); have n1_ := Aside0.mk (blk_below (g := gb281) (o := .cells #[.string ((rd_T86 l0 x9_1).f0), .slice A280_1 ((rd_T86 l0 x9_1).f1).length c280_1] 86 (0, 0)) Z14 hb); have n2_ := Aside0.mk (below_step Z103 hb); clear BK279; clear BK281; clear HB; have BK279 := n0_; have BK281 := n1_; have HB := n2_; clear n0_ n1_ n2_; (try clear hb); (try clear hb2); (try clear hk); (try clear hi); obtain ⟨hcz14_0, hcz14_1, hfz14_0, hfz14_1⟩ := bf2 BK281.out))
       go_ret
       exact ⟨Z138, Z103⟩
      ·replace c8 := Bool.eq_false_iff.mpr c8
       subst c8
       have H1 : (partner_partnerOf.l0 k1 l0 (l0.length : Int) (wrap64 (x9_1 + 1)) a1_0 a1_1) = some r := by rw [if_neg (show ¬ (false = true) by decide)] at H; exact H
       clear H
       have H := H1
       clear H1
       have H' := Aside0.mk H
       clear H
       have p280 : 0 ≤ (x9_1 : Int) := of_decide_eq_true Z186
       have q280 : x9_1 < (l0.length : Int) := of_decide_eq_true Z186
       obtain ⟨ad280, A280_1, c280_1, e280, hx280_0, hx280_1, hl280_1, hi280_1⟩ := at_T86 HR0.out x9_1 p280 q280
       cases e280
       replace hx280_0 := (HB.out.cell (World.block_lt_of_cell? w _ hx280_0)).trans hx280_0
       replace hx280_1 := (HB.out.cell (World.block_lt_of_cell? w _ hx280_1)).trans hx280_1
       have HR280_1 := Aside0.mk hi280_1
       have HC280_1 := Aside0.mk hl280_1
       clear hi280_1 hl280_1
       replace p280 := eq_true p280
       replace q280 := eq_true q280
       go_wp2_with (first | ((with_reducible refine gate_dst (N := 6) rfl ?_); refine box_event ?hg (N := 6) ?hd (cs := #[.string (⟨#[]⟩ : ByteArray), .slice none 0 0]) (t := 86) ?hr ?_; (case hd => rfl); (case hg => rfl); (case hr => exact Z188); intro gb281 hg w15 hbox hb; have n0_ := Aside0.mk (blk_below (g := gb279) (o := .cells #[.string a1_0, .string a1_1] 31 (0, 0)) Z173 hb); have n1_ := Aside0.mk (below_step Z136 hb); have n2_ := Aside0.mk (hbox); have n3_ := Aside0.mk ((Z91 : w.heap.size ≤ gb281)); have n4_ := Aside0.mk ((Z91 : w.heap.size ≤ gb281)); have n5_ := Aside0.mk ((Z74 : gb279 ≠ gb281)); have n6_ := Aside0.mk ((Z75 : gb281 ≠ gb279)); clear BK279; clear HB; have BK279 := n0_; have HB := n1_; have BK281 := n2_; have GW281 := n3_; have GE281 := n4_; have NB279_281 := n5_; have NB281_279 := n6_; clear n0_ n1_ n2_ n3_ n4_ n5_ n6_; clear hb hbox hg; have hnb16 := NB281_279.out; have hnc16 := NB279_281.out; obtain ⟨hcz17_0, hcz17_1, hfz17_0, hfz17_1⟩ := bf2 BK281.out; obtain ⟨hcz18_0, hcz18_1, hfz18_0, hfz18_1⟩ := bf2 BK279.out) | ((with_reducible refine gate_callee (f := 51) rfl ?_); refine goesL_ (some 16) rfl rfl Tryd.func51 (by kernel_rfl) rfl #[.slice A280_1 ((rd_T86 l0 x9_1).f1).length c280_1, .agg #[.string a1_0, .string a1_1]] rfl Z104 ?_; (with_reducible refine (api_Address_51.calls k1 _ _ ((rd_T86 l0 x9_1).f1) a1_0 a1_1 false _ ?side1 ?side2 A7.out).mono ?_); (case side1 => exact Z61); (case side2 => exact HC280_1.out); rintro e w19 ⟨rfl, hb⟩; refine ⟨_, rfl, ?_⟩; have n0_ := Aside0.mk (blk_below (g := gb279) (o := .cells #[.string a1_0, .string a1_1] 31 (0, 0)) Z23 hb); have n1_ := Aside0.mk (blk_below (g := gb281) (o := .cells #[.string ((rd_T86 l0 x9_1).f0), .slice A280_1 ((rd_T86 l0 x9_1).f1).length c280_1] 86 (0, 0)) Z14 hb); have n2_ := Aside0.mk (below_step Z103 hb); clear BK279; clear BK281; clear HB; have BK279 := n0_; have BK281 := n1_; have HB := n2_; clear n0_ n1_ n2_; (try clear hb); (try clear hb2); (try clear hk); (try clear hi)))
       go_roundg k1
       case measure => have := HK1.out; omega
       case rel => exact ⟨(wrap64 (x9_1 + 1)), Z183, H', ⟨Z192⟩, ⟨Z173⟩, ⟨Z103⟩⟩
     ·rw [if_neg c6] at H
      exact absurd H (by simp)
    ·rw [if_neg c5] at H
     exact absurd H (by simp)
   ·rw [if_neg c4] at H
    have c4b0 : decide (x9_1 < (l0.length : Int)) = false := decide_eq_false c4
    clear c4
    obtain rfl := Option.some.inj H
    go_wp2
    go_ret
    exact ⟨Z138, Z136⟩

end Go.Proofs.YtdlgohhecicnoaaDoor.XPartnerFindsMatchSpec
