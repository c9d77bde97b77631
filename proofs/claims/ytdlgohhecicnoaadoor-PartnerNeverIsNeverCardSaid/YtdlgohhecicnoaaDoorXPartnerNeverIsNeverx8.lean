-- Walks of PartnerNeverIsNever: written by xprint.py out of the translation (hand-proved functions among them). Lean checks it.
import Derived.Test.YtdlgohhecicnoaaDoorXPartnerNeverIsNeverx0
import Derived.Test.YtdlgohhecicnoaaDoorXPartnerNeverIsNeverx1
import Derived.Test.YtdlgohhecicnoaaDoorXPartnerNeverIsNeverx6
import Derived.Test.YtdlgohhecicnoaaDoorXPartnerNeverIsNeverx7
namespace Go.Proofs.YtdlgohhecicnoaaDoor.XPartnerNeverIsNever
open Go.RowKit Go.Proofs.YtdlgohhecicnoaaDoorW.PrintWords Go.Proofs.YtdlgohhecicnoaaDoorW.PrintLast Go.Proofs.YtdlgohhecicnoaaDoorW.PrintMore
attribute [local go_sem] max2_int min2_int max_two min_two max_three min_three max_four min_four   -- for this text's walks alone
set_option linter.unusedVariables false
set_option linter.unusedSimpArgs false

/-! ### partner_hides: function 84 -/
mutual
def partner_hides.l0 : Nat → Int → ByteArray → ByteArray → List (S23) → Int → List (S23) → Int → Int → ByteArray → ByteArray → ByteArray → ByteArray → Int → Int → Bool → Int → Bool → Option (Bool)
 | 0, _, _, _, _, _, _, _, _, _, _, _, _, _, _, _, _, _ => none
 | k + 1, x1, x2, x3, x10, x11, x29, x30, x31, x206000, x206001, x206002, x206003, x206004, x206005, x206006, x206007, x206008 => if x31 < x30 then (if 0 ≤ x31 then (if x31 < (x29.length : Int) then (if ((rd_T23 x29 x31).f0).toList = x206000.toList then (if ((rd_T23 x29 x31).f1).toList = x206001.toList then (partner_hides.j1 k x1 x2 x3 x10 x11 x31 x29 x30 x31 (((rd_T23 x29 x31).f6) == x206006) x206000 x206001 x206002 x206003 x206004 x206005 x206006 x206007 x206008 ((rd_T23 x29 x31).f0) ((rd_T23 x29 x31).f1) ((rd_T23 x29 x31).f2) ((rd_T23 x29 x31).f3) ((rd_T23 x29 x31).f4) ((rd_T23 x29 x31).f5) ((rd_T23 x29 x31).f6) ((rd_T23 x29 x31).f7) ((rd_T23 x29 x31).f8)) else (partner_hides.j1 k x1 x2 x3 x10 x11 x31 x29 x30 x31 false x206000 x206001 x206002 x206003 x206004 x206005 x206006 x206007 x206008 ((rd_T23 x29 x31).f0) ((rd_T23 x29 x31).f1) ((rd_T23 x29 x31).f2) ((rd_T23 x29 x31).f3) ((rd_T23 x29 x31).f4) ((rd_T23 x29 x31).f5) ((rd_T23 x29 x31).f6) ((rd_T23 x29 x31).f7) ((rd_T23 x29 x31).f8))) else (partner_hides.j1 k x1 x2 x3 x10 x11 x31 x29 x30 x31 false x206000 x206001 x206002 x206003 x206004 x206005 x206006 x206007 x206008 ((rd_T23 x29 x31).f0) ((rd_T23 x29 x31).f1) ((rd_T23 x29 x31).f2) ((rd_T23 x29 x31).f3) ((rd_T23 x29 x31).f4) ((rd_T23 x29 x31).f5) ((rd_T23 x29 x31).f6) ((rd_T23 x29 x31).f7) ((rd_T23 x29 x31).f8))) else (none)) else (none)) else ((partner_changes.f k x10 x206004).bind fun t216 => (partner_hides.l1 k x2 x3 x10 x11 t216 (t216.length : Int) 0 x206000 x206001 x206002 x206003 x206004 x206005 x206006 x206007 x206008))
def partner_hides.j1 : Nat → Int → ByteArray → ByteArray → List (S23) → Int → Int → List (S23) → Int → Int → Bool → ByteArray → ByteArray → ByteArray → ByteArray → Int → Int → Bool → Int → Bool → ByteArray → ByteArray → ByteArray → ByteArray → Int → Int → Bool → Int → Bool → Option (Bool)
 | 0, _, _, _, _, _, _, _, _, _, _, _, _, _, _, _, _, _, _, _, _, _, _, _, _, _, _, _, _ => none
 | k + 1, x1, x2, x3, x10, x11, x12, x29, x30, x31, x54, x206000, x206001, x206002, x206003, x206004, x206005, x206006, x206007, x206008, x210000, x210001, x210002, x210003, x210004, x210005, x210006, x210007, x210008 => if x54 = true then (if x12 = x1 then (if x10.length < 1353245080339 then (partner_hides.l0 k x1 x2 x3 (x10 ++ [(⟨x210000, x210001, x210002, x210003, x210004, x210005, x210006, x210007, x210008⟩ : S23)]) (x10.length : Int) x29 x30 (wrap64 (x31 + 1)) x206000 x206001 x206002 x206003 x206004 x206005 x206006 x206007 x206008) else (none)) else (if x10.length < 1353245080339 then (partner_hides.l0 k x1 x2 x3 (x10 ++ [(⟨x210000, x210001, x210002, x210003, x210004, x210005, x210006, x210007, x210008⟩ : S23)]) x11 x29 x30 (wrap64 (x31 + 1)) x206000 x206001 x206002 x206003 x206004 x206005 x206006 x206007 x206008) else (none))) else (partner_hides.l0 k x1 x2 x3 x10 x11 x29 x30 (wrap64 (x31 + 1)) x206000 x206001 x206002 x206003 x206004 x206005 x206006 x206007 x206008)
def partner_hides.l1 : Nat → ByteArray → ByteArray → List (S23) → Int → List Int → Int → Int → ByteArray → ByteArray → ByteArray → ByteArray → Int → Int → Bool → Int → Bool → Option (Bool)
 | 0, _, _, _, _, _, _, _, _, _, _, _, _, _, _, _, _ => none
 | k + 1, x2, x3, x10, x11, x68, x69, x70, x206000, x206001, x206002, x206003, x206004, x206005, x206006, x206007, x206008 => if x70 < x69 then (if 0 ≤ x70 then (if x70 < (x68.length : Int) then (if (rd x68 x70) > x206005 then (some true) else ((partner_find.f k x10 x206000 x206001 x2 x3 (rd x68 x70) x206006).bind fun t221 => (if t221 = x11 then (some false) else (partner_hides.l1 k x2 x3 x10 x11 x68 x69 (wrap64 (x70 + 1)) x206000 x206001 x206002 x206003 x206004 x206005 x206006 x206007 x206008)))) else (none)) else (none)) else (some true)
end
def partner_hides.f (k : Nat) (l0 : List (S23)) (a1 : Int) (a2 : ByteArray) (a3 : ByteArray) : Option (Bool) := if 0 ≤ a1 then (if a1 < (l0.length : Int) then ((partner_withOwn.f ((rd_T23 l0 a1).f2) a2).bind fun t206 => ((partner_withOwn.f ((rd_T23 l0 a1).f3) a3).bind fun t207 => (partner_hides.l0 k a1 t206 t207 ([] : List (S23)) (-1) l0 (l0.length : Int) 0 ((rd_T23 l0 a1).f0) ((rd_T23 l0 a1).f1) ((rd_T23 l0 a1).f2) ((rd_T23 l0 a1).f3) ((rd_T23 l0 a1).f4) ((rd_T23 l0 a1).f5) ((rd_T23 l0 a1).f6) ((rd_T23 l0 a1).f7) ((rd_T23 l0 a1).f8)))) else (none)) else (none)
theorem partner_hides.mono_l : ∀ k, (∀ y0 y1 y2 y3 y4 y5 y6 y7 y8 y9 y10 y11 y12 y13 y14 y15 y16, LeO (partner_hides.l0 k y0 y1 y2 y3 y4 y5 y6 y7 y8 y9 y10 y11 y12 y13 y14 y15 y16) (partner_hides.l0 (k + 1) y0 y1 y2 y3 y4 y5 y6 y7 y8 y9 y10 y11 y12 y13 y14 y15 y16)) ∧ (∀ y0 y1 y2 y3 y4 y5 y6 y7 y8 y9 y10 y11 y12 y13 y14 y15 y16 y17 y18 y19 y20 y21 y22 y23 y24 y25 y26 y27, LeO (partner_hides.j1 k y0 y1 y2 y3 y4 y5 y6 y7 y8 y9 y10 y11 y12 y13 y14 y15 y16 y17 y18 y19 y20 y21 y22 y23 y24 y25 y26 y27) (partner_hides.j1 (k + 1) y0 y1 y2 y3 y4 y5 y6 y7 y8 y9 y10 y11 y12 y13 y14 y15 y16 y17 y18 y19 y20 y21 y22 y23 y24 y25 y26 y27)) ∧ (∀ y0 y1 y2 y3 y4 y5 y6 y7 y8 y9 y10 y11 y12 y13 y14 y15, LeO (partner_hides.l1 k y0 y1 y2 y3 y4 y5 y6 y7 y8 y9 y10 y11 y12 y13 y14 y15) (partner_hides.l1 (k + 1) y0 y1 y2 y3 y4 y5 y6 y7 y8 y9 y10 y11 y12 y13 y14 y15))
 | 0 => ⟨fun _ _ _ _ _ _ _ _ _ _ _ _ _ _ _ _ _ r h => by simp [partner_hides.l0] at h, fun _ _ _ _ _ _ _ _ _ _ _ _ _ _ _ _ _ _ _ _ _ _ _ _ _ _ _ _ r h => by simp [partner_hides.j1] at h, fun _ _ _ _ _ _ _ _ _ _ _ _ _ _ _ _ r h => by simp [partner_hides.l1] at h⟩
 | k + 1 => by
  obtain ⟨ih0, ih1, ih2⟩ := partner_hides.mono_l k
  refine ⟨?_, ?_, ?_⟩
  ·intro y0 y1 y2 y3 y4 y5 y6 y7 y8 y9 y10 y11 y12 y13 y14 y15 y16
   unfold partner_hides.l0
   repeat' first
   | (with_reducible exact ih0 _ _ _ _ _ _ _ _ _ _ _ _ _ _ _ _ _)
   | (with_reducible exact ih1 _ _ _ _ _ _ _ _ _ _ _ _ _ _ _ _ _ _ _ _ _ _ _ _ _ _ _ _)
   | (with_reducible exact ih2 _ _ _ _ _ _ _ _ _ _ _ _ _ _ _ _)
   | (with_reducible exact partner_changes.mono _ _ _)
   | (with_reducible exact partner_find.mono _ _ _ _ _ _ _ _)
   | (with_reducible exact LeO.refl _)
   | (with_reducible exact LeO.none _)
   | (with_reducible refine LeO.ite ?_ ?_)
   | (with_reducible refine LeO.bind ?_ (fun _ => ?_))
   | exact ih0 _ _ _ _ _ _ _ _ _ _ _ _ _ _ _ _ _
   | exact ih1 _ _ _ _ _ _ _ _ _ _ _ _ _ _ _ _ _ _ _ _ _ _ _ _ _ _ _ _
   | exact ih2 _ _ _ _ _ _ _ _ _ _ _ _ _ _ _ _
   | exact partner_changes.mono _ _ _
   | exact partner_find.mono _ _ _ _ _ _ _ _
   | exact LeO.none _
   | refine LeO.ite ?_ ?_
   | refine LeO.bind ?_ (fun _ => ?_)
  ·intro y0 y1 y2 y3 y4 y5 y6 y7 y8 y9 y10 y11 y12 y13 y14 y15 y16 y17 y18 y19 y20 y21 y22 y23 y24 y25 y26 y27
   unfold partner_hides.j1
   repeat' first
   | (with_reducible exact ih0 _ _ _ _ _ _ _ _ _ _ _ _ _ _ _ _ _)
   | (with_reducible exact ih1 _ _ _ _ _ _ _ _ _ _ _ _ _ _ _ _ _ _ _ _ _ _ _ _ _ _ _ _)
   | (with_reducible exact ih2 _ _ _ _ _ _ _ _ _ _ _ _ _ _ _ _)
   | (with_reducible exact partner_changes.mono _ _ _)
   | (with_reducible exact partner_find.mono _ _ _ _ _ _ _ _)
   | (with_reducible exact LeO.refl _)
   | (with_reducible exact LeO.none _)
   | (with_reducible refine LeO.ite ?_ ?_)
   | (with_reducible refine LeO.bind ?_ (fun _ => ?_))
   | exact ih0 _ _ _ _ _ _ _ _ _ _ _ _ _ _ _ _ _
   | exact ih1 _ _ _ _ _ _ _ _ _ _ _ _ _ _ _ _ _ _ _ _ _ _ _ _ _ _ _ _
   | exact ih2 _ _ _ _ _ _ _ _ _ _ _ _ _ _ _ _
   | exact partner_changes.mono _ _ _
   | exact partner_find.mono _ _ _ _ _ _ _ _
   | exact LeO.none _
   | refine LeO.ite ?_ ?_
   | refine LeO.bind ?_ (fun _ => ?_)
  ·intro y0 y1 y2 y3 y4 y5 y6 y7 y8 y9 y10 y11 y12 y13 y14 y15
   unfold partner_hides.l1
   repeat' first
   | (with_reducible exact ih0 _ _ _ _ _ _ _ _ _ _ _ _ _ _ _ _ _)
   | (with_reducible exact ih1 _ _ _ _ _ _ _ _ _ _ _ _ _ _ _ _ _ _ _ _ _ _ _ _ _ _ _ _)
   | (with_reducible exact ih2 _ _ _ _ _ _ _ _ _ _ _ _ _ _ _ _)
   | (with_reducible exact partner_changes.mono _ _ _)
   | (with_reducible exact partner_find.mono _ _ _ _ _ _ _ _)
   | (with_reducible exact LeO.refl _)
   | (with_reducible exact LeO.none _)
   | (with_reducible refine LeO.ite ?_ ?_)
   | (with_reducible refine LeO.bind ?_ (fun _ => ?_))
   | exact ih0 _ _ _ _ _ _ _ _ _ _ _ _ _ _ _ _ _
   | exact ih1 _ _ _ _ _ _ _ _ _ _ _ _ _ _ _ _ _ _ _ _ _ _ _ _ _ _ _ _
   | exact ih2 _ _ _ _ _ _ _ _ _ _ _ _ _ _ _ _
   | exact partner_changes.mono _ _ _
   | exact partner_find.mono _ _ _ _ _ _ _ _
   | exact LeO.none _
   | refine LeO.ite ?_ ?_
   | refine LeO.bind ?_ (fun _ => ?_)
theorem partner_hides.mono : ∀ a0 a1 a2 a3 k, LeO (partner_hides.f k a0 a1 a2 a3) (partner_hides.f (k + 1) a0 a1 a2 a3) := by
 intro a0 a1 a2 a3 k
 obtain ⟨ih0, ih1, ih2⟩ := partner_hides.mono_l k
 unfold partner_hides.f
 repeat' first
   | (with_reducible exact ih0 _ _ _ _ _ _ _ _ _ _ _ _ _ _ _ _ _)
   | (with_reducible exact ih1 _ _ _ _ _ _ _ _ _ _ _ _ _ _ _ _ _ _ _ _ _ _ _ _ _ _ _ _)
   | (with_reducible exact ih2 _ _ _ _ _ _ _ _ _ _ _ _ _ _ _ _)
   | (with_reducible exact partner_changes.mono _ _ _)
   | (with_reducible exact partner_find.mono _ _ _ _ _ _ _ _)
   | (with_reducible exact LeO.refl _)
   | (with_reducible exact LeO.none _)
   | (with_reducible refine LeO.ite ?_ ?_)
   | (with_reducible refine LeO.bind ?_ (fun _ => ?_))
   | exact ih0 _ _ _ _ _ _ _ _ _ _ _ _ _ _ _ _ _
   | exact ih1 _ _ _ _ _ _ _ _ _ _ _ _ _ _ _ _ _ _ _ _ _ _ _ _ _ _ _ _
   | exact ih2 _ _ _ _ _ _ _ _ _ _ _ _ _ _ _ _
   | exact partner_changes.mono _ _ _
   | exact partner_find.mono _ _ _ _ _ _ _ _
   | exact LeO.none _
   | refine LeO.ite ?_ ?_
   | refine LeO.bind ?_ (fun _ => ?_)
set_option maxHeartbeats 8000000 in
set_option maxRecDepth 100000 in
theorem partner_hides.calls (k : Nat) (A0 : Option Addr) (c0 : Nat) (l0 : List (S23)) (a1 : Int) (a2 : ByteArray) (a3 : ByteArray) (r : Bool) (w : World) (hr0 : Kd.C k23 w A0 l0.length l0) (hc0 : l0.length ≤ c0) (h : partner_hides.f k l0 a1 a2 a3 = some r) :
  Calls Tryd.prog 84 #[.slice A0 l0.length c0, .int .i64 a1, .string a2, .string a3] w fun e w' => e = .returned (.bool r) ∧ Below w.heap.size w w' := by
 have hu23 := Tryd.underlying23
 have hu37 := Tryd.underlying37
 have HR0 := Aside0.mk hr0
 have HC0 := Aside0.mk hc0
 clear hr0 hc0
 have HB := Aside0.mk (Below.refl w.heap.size w)
 have H : (if 0 ≤ a1 then (if a1 < (l0.length : Int) then ((partner_withOwn.f ((rd_T23 l0 a1).f2) a2).bind fun t206 => ((partner_withOwn.f ((rd_T23 l0 a1).f3) a3).bind fun t207 => (partner_hides.l0 k a1 t206 t207 ([] : List (S23)) (-1) l0 (l0.length : Int) 0 ((rd_T23 l0 a1).f0) ((rd_T23 l0 a1).f1) ((rd_T23 l0 a1).f2) ((rd_T23 l0 a1).f3) ((rd_T23 l0 a1).f4) ((rd_T23 l0 a1).f5) ((rd_T23 l0 a1).f6) ((rd_T23 l0 a1).f7) ((rd_T23 l0 a1).f8)))) else (none)) else (none)) = some r := h
 clear h
 by_cases c5 : 0 ≤ a1
 ·rw [if_pos c5] at H
  have c5b0 : decide (0 ≤ a1) = true := decide_eq_true c5
  clear c5
  by_cases c6 : a1 < (l0.length : Int)
  ·rw [if_pos c6] at H
   have c6b0 : decide (a1 < (l0.length : Int)) = true := decide_eq_true c6
   clear c6
   replace H := Option.bind_eq_some_iff.mp H
   obtain ⟨t206, A70, H⟩ := H
   replace H : ((partner_withOwn.f ((rd_T23 l0 a1).f3) a3).bind fun t207 => (partner_hides.l0 k a1 t206 t207 ([] : List (S23)) (-1) l0 (l0.length : Int) 0 ((rd_T23 l0 a1).f0) ((rd_T23 l0 a1).f1) ((rd_T23 l0 a1).f2) ((rd_T23 l0 a1).f3) ((rd_T23 l0 a1).f4) ((rd_T23 l0 a1).f5) ((rd_T23 l0 a1).f6) ((rd_T23 l0 a1).f7) ((rd_T23 l0 a1).f8))) = some r := H
   have A7 := Aside0.mk A70
   clear A70
   replace H := Option.bind_eq_some_iff.mp H
   obtain ⟨t207, A80, H⟩ := H
   replace H : (partner_hides.l0 k a1 t206 t207 ([] : List (S23)) (-1) l0 (l0.length : Int) 0 ((rd_T23 l0 a1).f0) ((rd_T23 l0 a1).f1) ((rd_T23 l0 a1).f2) ((rd_T23 l0 a1).f3) ((rd_T23 l0 a1).f4) ((rd_T23 l0 a1).f5) ((rd_T23 l0 a1).f6) ((rd_T23 l0 a1).f7) ((rd_T23 l0 a1).f8)) = some r := H
   have A8 := Aside0.mk A80
   clear A80
   have H' := Aside0.mk H
   clear H
   have p204 : 0 ≤ (a1 : Int) := of_decide_eq_true Z101
   have q204 : a1 < (l0.length : Int) := of_decide_eq_true Z101
   obtain ⟨ad204, e204, hx204_0, hx204_1, hx204_2, hx204_3, hx204_4, hx204_5, hx204_6, hx204_7, hx204_8⟩ := at_T23 HR0.out a1 p204 q204
   cases e204
   replace p204 := eq_true p204
   replace q204 := eq_true q204
   go_enter Tryd.func84, Tryd.ntmps84
   go_wp2_with (first | ((with_reducible refine gate_dst (N := 9) rfl ?_); refine box_event ?hg (N := 9) ?hd (cs := #[.string (⟨#[]⟩ : ByteArray), .string (⟨#[]⟩ : ByteArray), .string (⟨#[]⟩ : ByteArray), .string (⟨#[]⟩ : ByteArray), .int .i64 0, .int .i64 0, .bool false, .int .i64 0, .bool false]) (t := 23) ?hr ?_; (case hd => rfl); (case hg => rfl); (case hr => exact Z103); intro gb205 hg w9 hbox hb; have n0_ := Aside0.mk (below_step Z70 hb); have n1_ := Aside0.mk (hbox); have n2_ := Aside0.mk ((Z49 : w.heap.size ≤ gb205)); have n3_ := Aside0.mk ((Z49 : w.heap.size ≤ gb205)); clear HB; have HB := n0_; have BK205 := n1_; have GW205 := n2_; have GE205 := n3_; clear n0_ n1_ n2_ n3_; clear hb hbox hg; obtain ⟨hcz10_0, hcz10_1, hcz10_2, hcz10_3, hcz10_4, hcz10_5, hcz10_6, hcz10_7, hcz10_8, hfz10_0, hfz10_1, hfz10_2, hfz10_3, hfz10_4, hfz10_5, hfz10_6, hfz10_7, hfz10_8⟩ := bf9 BK205.out) | (go_at_call 113; (with_reducible refine (partner_withOwn.calls ((rd_T23 l0 a1).f2) a2 t206 _ A7.out).mono ?_); rintro e w' ⟨rfl, ⟨nd, rfl⟩⟩; (try first | exact ⟨rfl, _, World.drewN_drewN _ _ _⟩ | exact ⟨rfl, _, Eq.trans (World.drewN_drewN _ _ _) (congrArg (World.drewN _) (Nat.add_assoc _ _ _))⟩)) | (go_at_call 113; (with_reducible refine (partner_withOwn.calls ((rd_T23 l0 a1).f3) a3 t207 _ A8.out).mono ?_); rintro e w' ⟨rfl, ⟨nd, rfl⟩⟩; (try first | exact ⟨rfl, _, World.drewN_drewN _ _ _⟩ | exact ⟨rfl, _, Eq.trans (World.drewN_drewN _ _ _) (congrArg (World.drewN _) (Nat.add_assoc _ _ _))⟩)))
   repeat (go_quiet (first | ((with_reducible refine gate_dst (N := 9) rfl ?_); refine box_event ?hg (N := 9) ?hd (cs := #[.string (⟨#[]⟩ : ByteArray), .string (⟨#[]⟩ : ByteArray), .string (⟨#[]⟩ : ByteArray), .string (⟨#[]⟩ : ByteArray), .int .i64 0, .int .i64 0, .bool false, .int .i64 0, .bool false]) (t := 23) ?hr ?_; (case hd => rfl); (case hg => rfl); (case hr => exact Z103); intro gb205 hg w9 hbox hb; have n0_ := Aside0.mk (below_step Z70 hb); have n1_ := Aside0.mk (hbox); have n2_ := Aside0.mk ((Z49 : w.heap.size ≤ gb205)); have n3_ := Aside0.mk ((Z49 : w.heap.size ≤ gb205)); clear HB; have HB := n0_; have BK205 := n1_; have GW205 := n2_; have GE205 := n3_; clear n0_ n1_ n2_ n3_; clear hb hbox hg; obtain ⟨hcz10_0, hcz10_1, hcz10_2, hcz10_3, hcz10_4, hcz10_5, hcz10_6, hcz10_7, hcz10_8, hfz10_0, hfz10_1, hfz10_2, hfz10_3, hfz10_4, hfz10_5, hfz10_6, hfz10_7, hfz10_8⟩ := bf9 BK205.out) | (go_at_call 113; (with_reducible refine (partner_withOwn.calls ((rd_T23 l0 a1).f2) a2 t206 _ A7.out).mono ?_); rintro e w' ⟨rfl, ⟨nd, rfl⟩⟩; (try first | exact ⟨rfl, _, World.drewN_drewN _ _ _⟩ | exact ⟨rfl, _, Eq.trans (World.drewN_drewN _ _ _) (congrArg (World.drewN _) (Nat.add_assoc _ _ _))⟩)) | (go_at_call 113; (with_reducible refine (partner_withOwn.calls ((rd_T23 l0 a1).f3) a3 t207 _ A8.out).mono ?_); rintro e w' ⟨rfl, ⟨nd, rfl⟩⟩; (try first | exact ⟨rfl, _, World.drewN_drewN _ _ _⟩ | exact ⟨rfl, _, Eq.trans (World.drewN_drewN _ _ _) (congrArg (World.drewN _) (Nat.add_assoc _ _ _))⟩))); try go_wp2_with (first | ((with_reducible refine gate_dst (N := 9) rfl ?_); refine box_event ?hg (N := 9) ?hd (cs := #[.string (⟨#[]⟩ : ByteArray), .string (⟨#[]⟩ : ByteArray), .string (⟨#[]⟩ : ByteArray), .string (⟨#[]⟩ : ByteArray), .int .i64 0, .int .i64 0, .bool false, .int .i64 0, .bool false]) (t := 23) ?hr ?_; (case hd => rfl); (case hg => rfl); (case hr => exact Z103); intro gb205 hg w9 hbox hb; have n0_ := Aside0.mk (below_step Z70 hb); have n1_ := Aside0.mk (hbox); have n2_ := Aside0.mk ((Z49 : w.heap.size ≤ gb205)); have n3_ := Aside0.mk ((Z49 : w.heap.size ≤ gb205)); clear HB; have HB := n0_; have BK205 := n1_; have GW205 := n2_; have GE205 := n3_; clear n0_ n1_ n2_ n3_; clear hb hbox hg; obtain ⟨hcz10_0, hcz10_1, hcz10_2, hcz10_3, hcz10_4, hcz10_5, hcz10_6, hcz10_7, hcz10_8, hfz10_0, hfz10_1, hfz10_2, hfz10_3, hfz10_4, hfz10_5, hfz10_6, hfz10_7, hfz10_8⟩ := bf9 BK205.out) | (go_at_call 113; (with_reducible refine (partner_withOwn.calls ((rd_T23 l0 a1).f2) a2 t206 _ A7.out).mono ?_); rintro e w' ⟨rfl, ⟨nd, rfl⟩⟩; (try first | exact ⟨rfl, _, World.drewN_drewN _ _ _⟩ | exact ⟨rfl, _, Eq.trans (World.drewN_drewN _ _ _) (congrArg (World.drewN _) (Nat.add_assoc _ _ _))⟩)) | (go_at_call 113; (with_reducible refine (partner_withOwn.calls ((rd_T23 l0 a1).f3) a3 t207 _ A8.out).mono ?_); rintro e w' ⟨rfl, ⟨nd, rfl⟩⟩; (try first | exact ⟨rfl, _, World.drewN_drewN _ _ _⟩ | exact ⟨rfl, _, Eq.trans (World.drewN_drewN _ _ _) (congrArg (World.drewN _) (Nat.add_assoc _ _ _))⟩))))
   go_loopg [10, 11, 31] k (fun kq v10 v11 v31 w' => ∃ (x10_1 : List (S23)) (x11_1 : Int) (x31_1 : Int), v11 = .int .i64 x11_1 ∧ v31 = .int .i64 x31_1 ∧ Aside0 (partner_hides.l0 kq a1 t206 t207 x10_1 x11_1 l0 (l0.length : Int) x31_1 ((rd_T23 l0 a1).f0) ((rd_T23 l0 a1).f1) ((rd_T23 l0 a1).f2) ((rd_T23 l0 a1).f3) ((rd_T23 l0 a1).f4) ((rd_T23 l0 a1).f5) ((rd_T23 l0 a1).f6) ((rd_T23 l0 a1).f7) ((rd_T23 l0 a1).f8) = some r) ∧ Aside0 (kq ≤ k) ∧ Aside0 (Kd.R k23 23 w' w.heap.size (fun k_ => k_ ≠ gb205) v10 x10_1) ∧ Aside0 (w'.heap[gb205]? = some (.cells #[.string ((rd_T23 l0 a1).f0), .string ((rd_T23 l0 a1).f1), .string ((rd_T23 l0 a1).f2), .string ((rd_T23 l0 a1).f3), .int .i64 ((rd_T23 l0 a1).f4), .int .i64 ((rd_T23 l0 a1).f5), .bool ((rd_T23 l0 a1).f6), .int .i64 ((rd_T23 l0 a1).f7), .bool ((rd_T23 l0 a1).f8)] 23 (0, 0))) ∧ Aside0 (Below w.heap.size w w'))
   case atStart => exact ⟨(([] : List (S23))), ((-1)), (0), Z98, Z98, H', ⟨Nat.le_refl _⟩, ⟨Z69⟩, ⟨by (with_reducible repeat (first | refine blk_drewN ?_ _ | refine blk_drew ?_ | refine blk_alloc ?_ _)); refine blk_put (cs := #[.string ((rd_T23 l0 a1).f0), .string ((rd_T23 l0 a1).f1), .string ((rd_T23 l0 a1).f2), .string ((rd_T23 l0 a1).f3), .int .i64 ((rd_T23 l0 a1).f4), .int .i64 ((rd_T23 l0 a1).f5), .bool ((rd_T23 l0 a1).f6), .int .i64 ((rd_T23 l0 a1).f7), .bool false]) ?_ 8 _ rfl; (with_reducible repeat (first | refine blk_drewN ?_ _ | refine blk_drew ?_ | refine blk_alloc ?_ _)); refine blk_put (cs := #[.string ((rd_T23 l0 a1).f0), .string ((rd_T23 l0 a1).f1), .string ((rd_T23 l0 a1).f2), .string ((rd_T23 l0 a1).f3), .int .i64 ((rd_T23 l0 a1).f4), .int .i64 ((rd_T23 l0 a1).f5), .bool ((rd_T23 l0 a1).f6), .int .i64 0, .bool false]) ?_ 7 _ rfl; (with_reducible repeat (first | refine blk_drewN ?_ _ | refine blk_drew ?_ | refine blk_alloc ?_ _)); refine blk_put (cs := #[.string ((rd_T23 l0 a1).f0), .string ((rd_T23 l0 a1).f1), .string ((rd_T23 l0 a1).f2), .string ((rd_T23 l0 a1).f3), .int .i64 ((rd_T23 l0 a1).f4), .int .i64 ((rd_T23 l0 a1).f5), .bool false, .int .i64 0, .bool false]) ?_ 6 _ rfl; (with_reducible repeat (first | refine blk_drewN ?_ _ | refine blk_drew ?_ | refine blk_alloc ?_ _)); refine blk_put (cs := #[.string ((rd_T23 l0 a1).f0), .string ((rd_T23 l0 a1).f1), .string ((rd_T23 l0 a1).f2), .string ((rd_T23 l0 a1).f3), .int .i64 ((rd_T23 l0 a1).f4), .int .i64 0, .bool false, .int .i64 0, .bool false]) ?_ 5 _ rfl; (with_reducible repeat (first | refine blk_drewN ?_ _ | refine blk_drew ?_ | refine blk_alloc ?_ _)); refine blk_put (cs := #[.string ((rd_T23 l0 a1).f0), .string ((rd_T23 l0 a1).f1), .string ((rd_T23 l0 a1).f2), .string ((rd_T23 l0 a1).f3), .int .i64 0, .int .i64 0, .bool false, .int .i64 0, .bool false]) ?_ 4 _ rfl; (with_reducible repeat (first | refine blk_drewN ?_ _ | refine blk_drew ?_ | refine blk_alloc ?_ _)); refine blk_put (cs := #[.string ((rd_T23 l0 a1).f0), .string ((rd_T23 l0 a1).f1), .string ((rd_T23 l0 a1).f2), .string (⟨#[]⟩ : ByteArray), .int .i64 0, .int .i64 0, .bool false, .int .i64 0, .bool false]) ?_ 3 _ rfl; (with_reducible repeat (first | refine blk_drewN ?_ _ | refine blk_drew ?_ | refine blk_alloc ?_ _)); refine blk_put (cs := #[.string ((rd_T23 l0 a1).f0), .string ((rd_T23 l0 a1).f1), .string (⟨#[]⟩ : ByteArray), .string (⟨#[]⟩ : ByteArray), .int .i64 0, .int .i64 0, .bool false, .int .i64 0, .bool false]) ?_ 2 _ rfl; (with_reducible repeat (first | refine blk_drewN ?_ _ | refine blk_drew ?_ | refine blk_alloc ?_ _)); refine blk_put (cs := #[.string ((rd_T23 l0 a1).f0), .string (⟨#[]⟩ : ByteArray), .string (⟨#[]⟩ : ByteArray), .string (⟨#[]⟩ : ByteArray), .int .i64 0, .int .i64 0, .bool false, .int .i64 0, .bool false]) ?_ 1 _ rfl; (with_reducible repeat (first | refine blk_drewN ?_ _ | refine blk_drew ?_ | refine blk_alloc ?_ _)); refine blk_put (cs := #[.string (⟨#[]⟩ : ByteArray), .string (⟨#[]⟩ : ByteArray), .string (⟨#[]⟩ : ByteArray), .string (⟨#[]⟩ : ByteArray), .int .i64 0, .int .i64 0, .bool false, .int .i64 0, .bool false]) ?_ 0 _ rfl; (with_reducible repeat (first | refine blk_drewN ?_ _ | refine blk_drew ?_ | refine blk_alloc ?_ _)); exact BK205.out⟩, ⟨Z64⟩⟩
   case round =>
    clear H'
    try clear p2
    try clear q2
    try clear hx2
    try clear c5
    try clear c5b0
    try clear c6
    try clear c6b0
    try clear c8
    try clear hcz10_0
    try clear hcz10_1
    try clear hcz10_2
    try clear hcz10_3
    try clear hcz10_4
    try clear hcz10_5
    try clear hcz10_6
    try clear hcz10_7
    try clear hcz10_8
    try clear hfz10_0
    try clear hfz10_1
    try clear hfz10_2
    try clear hfz10_3
    try clear hfz10_4
    try clear hfz10_5
    try clear hfz10_6
    try clear hfz10_7
    try clear hfz10_8
    try clear hx204_0
    try clear hx204_1
    try clear hx204_2
    try clear hx204_3
    try clear hx204_4
    try clear hx204_5
    try clear hx204_6
    try clear hx204_7
    try clear hx204_8
    try clear p204
    try clear q204
    obtain ⟨x10_1, x11_1, x31_1, rfl, rfl, HA, HK1, HO_10, BK205, HB⟩ := hrel
    cases gk with
    | zero => exact absurd HA.out (by simp [partner_hides.l0])
    | succ k1 =>
     have H := HA.out
     clear HA
     simp only [partner_hides.l0] at H
     by_cases c11 : x31_1 < (l0.length : Int)
     ·rw [if_pos c11] at H
      have c11b0 : decide (x31_1 < (l0.length : Int)) = true := decide_eq_true c11
      clear c11
      by_cases c12 : 0 ≤ x31_1
      ·rw [if_pos c12] at H
       have c12b0 : decide (0 ≤ x31_1) = true := decide_eq_true c12
       clear c12
       by_cases c13 : x31_1 < (l0.length : Int)
       ·rw [if_pos c13] at H
        have c13b0 : decide (x31_1 < (l0.length : Int)) = true := decide_eq_true c13
        clear c13
        have HC14 := Aside0.mk H
        clear H
        have p208 : 0 ≤ (x31_1 : Int) := of_decide_eq_true Z101
        have q208 : x31_1 < (l0.length : Int) := of_decide_eq_true Z101
        obtain ⟨ad208, e208, hx208_0, hx208_1, hx208_2, hx208_3, hx208_4, hx208_5, hx208_6, hx208_7, hx208_8⟩ := at_T23 HR0.out x31_1 p208 q208
        obtain rfl : ad204 = ad208 := (by injection e208)
        replace hx208_0 := (HB.out.cell (World.block_lt_of_cell? w _ hx208_0)).trans hx208_0
        replace hx208_1 := (HB.out.cell (World.block_lt_of_cell? w _ hx208_1)).trans hx208_1
        replace hx208_2 := (HB.out.cell (World.block_lt_of_cell? w _ hx208_2)).trans hx208_2
        replace hx208_3 := (HB.out.cell (World.block_lt_of_cell? w _ hx208_3)).trans hx208_3
        replace hx208_4 := (HB.out.cell (World.block_lt_of_cell? w _ hx208_4)).trans hx208_4
        replace hx208_5 := (HB.out.cell (World.block_lt_of_cell? w _ hx208_5)).trans hx208_5
        replace hx208_6 := (HB.out.cell (World.block_lt_of_cell? w _ hx208_6)).trans hx208_6
        replace hx208_7 := (HB.out.cell (World.block_lt_of_cell? w _ hx208_7)).trans hx208_7
        replace hx208_8 := (HB.out.cell (World.block_lt_of_cell? w _ hx208_8)).trans hx208_8
        replace p208 := eq_true p208
        replace q208 := eq_true q208
        go_upto_region 8 with (first | ((with_reducible refine gate_dst (N := 13) rfl ?_); refine box_event ?hg (N := 13) ?hd (cs := #[.string (⟨#[]⟩ : ByteArray), .string (⟨#[]⟩ : ByteArray), .string (⟨#[]⟩ : ByteArray), .string (⟨#[]⟩ : ByteArray), .int .i64 0, .int .i64 0, .bool false, .int .i64 0, .bool false]) (t := 23) ?hr ?_; (case hd => rfl); (case hg => rfl); (case hr => exact Z103); intro gb209 hg w15 hbox hb; have n0_ := Aside0.mk (Kd.R_below (Kd.R_elderB Z93 gb209 (Nat.le_of_eq hg.symm)) hb); have n1_ := Aside0.mk (blk_below (g := gb205) (o := .cells #[.string ((rd_T23 l0 a1).f0), .string ((rd_T23 l0 a1).f1), .string ((rd_T23 l0 a1).f2), .string ((rd_T23 l0 a1).f3), .int .i64 ((rd_T23 l0 a1).f4), .int .i64 ((rd_T23 l0 a1).f5), .bool ((rd_T23 l0 a1).f6), .int .i64 ((rd_T23 l0 a1).f7), .bool ((rd_T23 l0 a1).f8)] 23 (0, 0)) Z88 hb); have n2_ := Aside0.mk (below_step Z64 hb); have n3_ := Aside0.mk (hbox); have n4_ := Aside0.mk ((Z37 : w.heap.size ≤ gb209)); have n5_ := Aside0.mk ((Z37 : w.heap.size ≤ gb209)); have n6_ := Aside0.mk ((Z14 : gb205 ≠ gb209)); have n7_ := Aside0.mk ((Z15 : gb209 ≠ gb205)); clear HO_10; clear BK205; clear HB; have HO_10 := n0_; have BK205 := n1_; have HB := n2_; have BK209 := n3_; have GW209 := n4_; have GE209 := n5_; have NB205_209 := n6_; have NB209_205 := n7_; clear n0_ n1_ n2_ n3_ n4_ n5_ n6_ n7_; clear hb hbox hg; have hnb16 := NB209_205.out; have hnc16 := NB205_209.out; obtain ⟨hcz17_0, hcz17_1, hcz17_2, hcz17_3, hcz17_4, hcz17_5, hcz17_6, hcz17_7, hcz17_8, hfz17_0, hfz17_1, hfz17_2, hfz17_3, hfz17_4, hfz17_5, hfz17_6, hfz17_7, hfz17_8⟩ := bf9 BK209.out))
        repeat (go_quiet (first | ((with_reducible refine gate_dst (N := 13) rfl ?_); refine box_event ?hg (N := 13) ?hd (cs := #[.string (⟨#[]⟩ : ByteArray), .string (⟨#[]⟩ : ByteArray), .string (⟨#[]⟩ : ByteArray), .string (⟨#[]⟩ : ByteArray), .int .i64 0, .int .i64 0, .bool false, .int .i64 0, .bool false]) (t := 23) ?hr ?_; (case hd => rfl); (case hg => rfl); (case hr => exact Z103); intro gb209 hg w15 hbox hb; have n0_ := Aside0.mk (Kd.R_below (Kd.R_elderB Z93 gb209 (Nat.le_of_eq hg.symm)) hb); have n1_ := Aside0.mk (blk_below (g := gb205) (o := .cells #[.string ((rd_T23 l0 a1).f0), .string ((rd_T23 l0 a1).f1), .string ((rd_T23 l0 a1).f2), .string ((rd_T23 l0 a1).f3), .int .i64 ((rd_T23 l0 a1).f4), .int .i64 ((rd_T23 l0 a1).f5), .bool ((rd_T23 l0 a1).f6), .int .i64 ((rd_T23 l0 a1).f7), .bool ((rd_T23 l0 a1).f8)] 23 (0, 0)) Z88 hb); have n2_ := Aside0.mk (below_step Z64 hb); have n3_ := Aside0.mk (hbox); have n4_ := Aside0.mk ((Z37 : w.heap.size ≤ gb209)); have n5_ := Aside0.mk ((Z37 : w.heap.size ≤ gb209)); have n6_ := Aside0.mk ((Z14 : gb205 ≠ gb209)); have n7_ := Aside0.mk ((Z15 : gb209 ≠ gb205)); clear HO_10; clear BK205; clear HB; have HO_10 := n0_; have BK205 := n1_; have HB := n2_; have BK209 := n3_; have GW209 := n4_; have GE209 := n5_; have NB205_209 := n6_; have NB209_205 := n7_; clear n0_ n1_ n2_ n3_ n4_ n5_ n6_ n7_; clear hb hbox hg; have hnb16 := NB209_205.out; have hnc16 := NB205_209.out; obtain ⟨hcz17_0, hcz17_1, hcz17_2, hcz17_3, hcz17_4, hcz17_5, hcz17_6, hcz17_7, hcz17_8, hfz17_0, hfz17_1, hfz17_2, hfz17_3, hfz17_4, hfz17_5, hfz17_6, hfz17_7, hfz17_8⟩ := bf9 BK209.out)); go_upto_region 8 with (first | ((with_reducible refine gate_dst (N := 13) rfl ?_); refine box_event ?hg (N := 13) ?hd (cs := #[.string (⟨#[]⟩ : ByteArray), .string (⟨#[]⟩ : ByteArray), .string (⟨#[]⟩ : ByteArray), .string (⟨#[]⟩ : ByteArray), .int .i64 0, .int .i64 0, .bool false, .int .i64 0, .bool false]) (t := 23) ?hr ?_; (case hd => rfl); (case hg => rfl); (case hr => exact Z103); intro gb209 hg w15 hbox hb; have n0_ := Aside0.mk (Kd.R_below (Kd.R_elderB Z93 gb209 (Nat.le_of_eq hg.symm)) hb); have n1_ := Aside0.mk (blk_below (g := gb205) (o := .cells #[.string ((rd_T23 l0 a1).f0), .string ((rd_T23 l0 a1).f1), .string ((rd_T23 l0 a1).f2), .string ((rd_T23 l0 a1).f3), .int .i64 ((rd_T23 l0 a1).f4), .int .i64 ((rd_T23 l0 a1).f5), .bool ((rd_T23 l0 a1).f6), .int .i64 ((rd_T23 l0 a1).f7), .bool ((rd_T23 l0 a1).f8)] 23 (0, 0)) Z88 hb); have n2_ := Aside0.mk (below_step Z64 hb); have n3_ := Aside0.mk (hbox); have n4_ := Aside0.mk ((Z37 : w.heap.size ≤ gb209)); have n5_ := Aside0.mk ((Z37 : w.heap.size ≤ gb209)); have n6_ := Aside0.mk ((Z14 : gb205 ≠ gb209)); have n7_ := Aside0.mk ((Z15 : gb209 ≠ gb205)); clear HO_10; clear BK205; clear HB; have HO_10 := n0_; have BK205 := n1_; have HB := n2_; have BK209 := n3_; have GW209 := n4_; have GE209 := n5_; have NB205_209 := n6_; have NB209_205 := n7_; clear n0_ n1_ n2_ n3_ n4_ n5_ n6_ n7_; clear hb hbox hg; have hnb16 := NB209_205.out; have hnc16 := NB205_209.out; obtain ⟨hcz17_0, hcz17_1, hcz17_2, hcz17_3, hcz17_4, hcz17_5, hcz17_6, hcz17_7, hcz17_8, hfz17_0, hfz17_1, hfz17_2, hfz17_3, hfz17_4, hfz17_5, hfz17_6, hfz17_7, hfz17_8⟩ := bf9 BK209.out)))
        (try simp only [Act.put, List.setIfInBounds_toArray, List.set_cons_zero, List.set_cons_succ])
        go_cut [54] (fun v54 wc => ∃ (kq : Nat) (x54_13 : Bool), v54 = .bool x54_13 ∧ Aside0 (partner_hides.j1 kq a1 t206 t207 x10_1 x11_1 x31_1 l0 (l0.length : Int) x31_1 x54_13 ((rd_T23 l0 a1).f0) ((rd_T23 l0 a1).f1) ((rd_T23 l0 a1).f2) ((rd_T23 l0 a1).f3) ((rd_T23 l0 a1).f4) ((rd_T23 l0 a1).f5) ((rd_T23 l0 a1).f6) ((rd_T23 l0 a1).f7) ((rd_T23 l0 a1).f8) ((rd_T23 l0 x31_1).f0) ((rd_T23 l0 x31_1).f1) ((rd_T23 l0 x31_1).f2) ((rd_T23 l0 x31_1).f3) ((rd_T23 l0 x31_1).f4) ((rd_T23 l0 x31_1).f5) ((rd_T23 l0 x31_1).f6) ((rd_T23 l0 x31_1).f7) ((rd_T23 l0 x31_1).f8) = some r) ∧ Aside0 (kq ≤ k1) ∧ Aside0 (Kd.R k23 23 wc w.heap.size (fun k_ => k_ ≠ gb205 ∧ k_ ≠ gb209) u10 x10_1) ∧ Aside0 (wc.heap[gb205]? = some (.cells #[.string ((rd_T23 l0 a1).f0), .string ((rd_T23 l0 a1).f1), .string ((rd_T23 l0 a1).f2), .string ((rd_T23 l0 a1).f3), .int .i64 ((rd_T23 l0 a1).f4), .int .i64 ((rd_T23 l0 a1).f5), .bool ((rd_T23 l0 a1).f6), .int .i64 ((rd_T23 l0 a1).f7), .bool ((rd_T23 l0 a1).f8)] 23 (0, 0))) ∧ Aside0 (wc.heap[gb209]? = some (.cells #[.string ((rd_T23 l0 x31_1).f0), .string ((rd_T23 l0 x31_1).f1), .string ((rd_T23 l0 x31_1).f2), .string ((rd_T23 l0 x31_1).f3), .int .i64 ((rd_T23 l0 x31_1).f4), .int .i64 ((rd_T23 l0 x31_1).f5), .bool ((rd_T23 l0 x31_1).f6), .int .i64 ((rd_T23 l0 x31_1).f7), .bool ((rd_T23 l0 x31_1).f8)] 23 (0, 0))) ∧ Aside0 (Below w.heap.size w wc))
        case first =>
         have H := HC14.out
         clear HC14
         by_cases c18 : ((rd_T23 l0 x31_1).f0).toList = ((rd_T23 l0 a1).f0).toList
         ·rw [if_pos c18] at H
          have c18b0 : (((rd_T23 l0 x31_1).f0).toList == ((rd_T23 l0 a1).f0).toList) = true := beq_iff_eq.mpr c18
          have c18b1 : (((rd_T23 l0 x31_1).f0).toList != ((rd_T23 l0 a1).f0).toList) = false := bne_eq_false_iff_eq.mpr c18
          clear c18
          (first | rw [c18b0] | (simp only [i64_w, i32_w]; rw [c18b0]) | skip)
          by_cases c19 : ((rd_T23 l0 x31_1).f1).toList = ((rd_T23 l0 a1).f1).toList
          ·rw [if_pos c19] at H
           have c19b0 : (((rd_T23 l0 x31_1).f1).toList == ((rd_T23 l0 a1).f1).toList) = true := beq_iff_eq.mpr c19
           have c19b1 : (((rd_T23 l0 x31_1).f1).toList != ((rd_T23 l0 a1).f1).toList) = false := bne_eq_false_iff_eq.mpr c19
           clear c19
           have H' := Aside0.mk H
           clear H
           have hnb20 := NB209_205.out
           have hnc20 := NB205_209.out
           obtain ⟨hcz21_0, hcz21_1, hcz21_2, hcz21_3, hcz21_4, hcz21_5, hcz21_6, hcz21_7, hcz21_8, hfz21_0, hfz21_1, hfz21_2, hfz21_3, hfz21_4, hfz21_5, hfz21_6, hfz21_7, hfz21_8⟩ := bf9 BK209.out
           obtain ⟨hcz22_0, hcz22_1, hcz22_2, hcz22_3, hcz22_4, hcz22_5, hcz22_6, hcz22_7, hcz22_8, hfz22_0, hfz22_1, hfz22_2, hfz22_3, hfz22_4, hfz22_5, hfz22_6, hfz22_7, hfz22_8⟩ := bf9 BK205.out
           go_wp2
           repeat (go_quiet (fail); try go_wp2)
           go_meet
           case rel => exact ⟨_, ((((rd_T23 l0 x31_1).f6) == ((rd_T23 l0 a1).f6))), Z98, H', ⟨Z100⟩, ⟨Z6⟩, ⟨Z5⟩, ⟨Z2⟩, ⟨Z43⟩⟩
          ·rw [if_neg c19] at H
           have c19b0 : (((rd_T23 l0 x31_1).f1).toList == ((rd_T23 l0 a1).f1).toList) = false := beq_eq_false_iff_ne.mpr c19
           have c19b1 : (((rd_T23 l0 x31_1).f1).toList != ((rd_T23 l0 a1).f1).toList) = true := bne_iff_ne.mpr c19
           have H' := Aside0.mk H
           clear H
           have hnb23 := NB209_205.out
           have hnc23 := NB205_209.out
           obtain ⟨hcz24_0, hcz24_1, hcz24_2, hcz24_3, hcz24_4, hcz24_5, hcz24_6, hcz24_7, hcz24_8, hfz24_0, hfz24_1, hfz24_2, hfz24_3, hfz24_4, hfz24_5, hfz24_6, hfz24_7, hfz24_8⟩ := bf9 BK209.out
           obtain ⟨hcz25_0, hcz25_1, hcz25_2, hcz25_3, hcz25_4, hcz25_5, hcz25_6, hcz25_7, hcz25_8, hfz25_0, hfz25_1, hfz25_2, hfz25_3, hfz25_4, hfz25_5, hfz25_6, hfz25_7, hfz25_8⟩ := bf9 BK205.out
           go_wp2
           repeat (go_quiet (fail); try go_wp2)
           go_meet
           case rel => exact ⟨_, (false), Z98, H', ⟨Z100⟩, ⟨Z6⟩, ⟨Z5⟩, ⟨Z2⟩, ⟨Z43⟩⟩
         ·rw [if_neg c18] at H
          have c18b0 : (((rd_T23 l0 x31_1).f0).toList == ((rd_T23 l0 a1).f0).toList) = false := beq_eq_false_iff_ne.mpr c18
          have c18b1 : (((rd_T23 l0 x31_1).f0).toList != ((rd_T23 l0 a1).f0).toList) = true := bne_iff_ne.mpr c18
          (first | rw [c18b0] | (simp only [i64_w, i32_w]; rw [c18b0]) | skip)
          have H' := Aside0.mk H
          clear H
          have hnb26 := NB209_205.out
          have hnc26 := NB205_209.out
          obtain ⟨hcz27_0, hcz27_1, hcz27_2, hcz27_3, hcz27_4, hcz27_5, hcz27_6, hcz27_7, hcz27_8, hfz27_0, hfz27_1, hfz27_2, hfz27_3, hfz27_4, hfz27_5, hfz27_6, hfz27_7, hfz27_8⟩ := bf9 BK209.out
          obtain ⟨hcz28_0, hcz28_1, hcz28_2, hcz28_3, hcz28_4, hcz28_5, hcz28_6, hcz28_7, hcz28_8, hfz28_0, hfz28_1, hfz28_2, hfz28_3, hfz28_4, hfz28_5, hfz28_6, hfz28_7, hfz28_8⟩ := bf9 BK205.out
          go_wp2
          repeat (go_quiet (fail); try go_wp2)
          go_meet
          case rel => exact ⟨_, (false), Z98, H', ⟨Z100⟩, ⟨Z6⟩, ⟨Z5⟩, ⟨Z2⟩, ⟨Z43⟩⟩
        case rest =>
         clear HC14
         try clear c1
         try clear c2
         try clear p2
         try clear q2
         try clear hx2
         try clear c5
         try clear c5b0
         try clear c6
         try clear c6b0
         try clear c8
         try clear c11
         try clear c11b0
         try clear c12
         try clear c12b0
         try clear c13
         try clear c13b0
         try clear c16
         try clear c18
         try clear c18b0
         try clear c18b1
         try clear c19
         try clear c19b0
         try clear c19b1
         try clear c20
         try clear p20
         try clear q20
         try clear hx20
         try clear c23
         try clear c26
         try clear hcz10_0
         try clear hcz10_1
         try clear hcz10_2
         try clear hcz10_3
         try clear hcz10_4
         try clear hcz10_5
         try clear hcz10_6
         try clear hcz10_7
         try clear hcz10_8
         try clear hcz17_0
         try clear hcz17_1
         try clear hcz17_2
         try clear hcz17_3
         try clear hcz17_4
         try clear hcz17_5
         try clear hcz17_6
         try clear hcz17_7
         try clear hcz17_8
         try clear hcz21_0
         try clear hcz21_1
         try clear hcz21_2
         try clear hcz21_3
         try clear hcz21_4
         try clear hcz21_5
         try clear hcz21_6
         try clear hcz21_7
         try clear hcz21_8
         try clear hcz22_0
         try clear hcz22_1
         try clear hcz22_2
         try clear hcz22_3
         try clear hcz22_4
         try clear hcz22_5
         try clear hcz22_6
         try clear hcz22_7
         try clear hcz22_8
         try clear hcz24_0
         try clear hcz24_1
         try clear hcz24_2
         try clear hcz24_3
         try clear hcz24_4
         try clear hcz24_5
         try clear hcz24_6
         try clear hcz24_7
         try clear hcz24_8
         try clear hcz25_0
         try clear hcz25_1
         try clear hcz25_2
         try clear hcz25_3
         try clear hcz25_4
         try clear hcz25_5
         try clear hcz25_6
         try clear hcz25_7
         try clear hcz25_8
         try clear hcz27_0
         try clear hcz27_1
         try clear hcz27_2
         try clear hcz27_3
         try clear hcz27_4
         try clear hcz27_5
         try clear hcz27_6
         try clear hcz27_7
         try clear hcz27_8
         try clear hcz28_0
         try clear hcz28_1
         try clear hcz28_2
         try clear hcz28_3
         try clear hcz28_4
         try clear hcz28_5
         try clear hcz28_6
         try clear hcz28_7
         try clear hcz28_8
         try clear hfz10_0
         try clear hfz10_1
         try clear hfz10_2
         try clear hfz10_3
         try clear hfz10_4
         try clear hfz10_5
         try clear hfz10_6
         try clear hfz10_7
         try clear hfz10_8
         try clear hfz17_0
         try clear hfz17_1
         try clear hfz17_2
         try clear hfz17_3
         try clear hfz17_4
         try clear hfz17_5
         try clear hfz17_6
         try clear hfz17_7
         try clear hfz17_8
         try clear hfz21_0
         try clear hfz21_1
         try clear hfz21_2
         try clear hfz21_3
         try clear hfz21_4
         try clear hfz21_5
         try clear hfz21_6
         try clear hfz21_7
         try clear hfz21_8
         try clear hfz22_0
         try clear hfz22_1
         try clear hfz22_2
         try clear hfz22_3
         try clear hfz22_4
         try clear hfz22_5
         try clear hfz22_6
         try clear hfz22_7
         try clear hfz22_8
         try clear hfz24_0
         try clear hfz24_1
         try clear hfz24_2
         try clear hfz24_3
         try clear hfz24_4
         try clear hfz24_5
         try clear hfz24_6
         try clear hfz24_7
         try clear hfz24_8
         try clear hfz25_0
         try clear hfz25_1
         try clear hfz25_2
         try clear hfz25_3
         try clear hfz25_4
         try clear hfz25_5
         try clear hfz25_6
         try clear hfz25_7
         try clear hfz25_8
         try clear hfz27_0
         try clear hfz27_1
         try clear hfz27_2
         try clear hfz27_3
         try clear hfz27_4
         try clear hfz27_5
         try clear hfz27_6
         try clear hfz27_7
         try clear hfz27_8
         try clear hfz28_0
         try clear hfz28_1
         try clear hfz28_2
         try clear hfz28_3
         try clear hfz28_4
         try clear hfz28_5
         try clear hfz28_6
         try clear hfz28_7
         try clear hfz28_8
         try clear hx204_0
         try clear hx204_1
         try clear hx204_2
         try clear hx204_3
         try clear hx204_4
         try clear hx204_5
         try clear hx204_6
         try clear hx204_7
         try clear hx204_8
         try clear hx208_0
         try clear hx208_1
         try clear hx208_2
         try clear hx208_3
         try clear hx208_4
         try clear hx208_5
         try clear hx208_6
         try clear hx208_7
         try clear hx208_8
         try clear p2
         try clear p204
         try clear p208
         try clear q2
         try clear q204
         try clear q208
         obtain ⟨kq, x54_13, rfl, HA, HJ13, HO_10, BK205, BK209, HB⟩ := hcut
         cases kq with
         | zero => exact absurd HA.out (by simp [partner_hides.j1])
         | succ kj13 =>
          have H := HA.out
          clear HA
          simp only [partner_hides.j1] at H
          by_cases c29 : x54_13 = true
          ·subst c29
           have H1 : (if x31_1 = a1 then (if x10_1.length < 1353245080339 then (partner_hides.l0 kj13 a1 t206 t207 (x10_1 ++ [(⟨((rd_T23 l0 x31_1).f0), ((rd_T23 l0 x31_1).f1), ((rd_T23 l0 x31_1).f2), ((rd_T23 l0 x31_1).f3), ((rd_T23 l0 x31_1).f4), ((rd_T23 l0 x31_1).f5), ((rd_T23 l0 x31_1).f6), ((rd_T23 l0 x31_1).f7), ((rd_T23 l0 x31_1).f8)⟩ : S23)]) (x10_1.length : Int) l0 (l0.length : Int) (wrap64 (x31_1 + 1)) ((rd_T23 l0 a1).f0) ((rd_T23 l0 a1).f1) ((rd_T23 l0 a1).f2) ((rd_T23 l0 a1).f3) ((rd_T23 l0 a1).f4) ((rd_T23 l0 a1).f5) ((rd_T23 l0 a1).f6) ((rd_T23 l0 a1).f7) ((rd_T23 l0 a1).f8)) else (none)) else (if x10_1.length < 1353245080339 then (partner_hides.l0 kj13 a1 t206 t207 (x10_1 ++ [(⟨((rd_T23 l0 x31_1).f0), ((rd_T23 l0 x31_1).f1), ((rd_T23 l0 x31_1).f2), ((rd_T23 l0 x31_1).f3), ((rd_T23 l0 x31_1).f4), ((rd_T23 l0 x31_1).f5), ((rd_T23 l0 x31_1).f6), ((rd_T23 l0 x31_1).f7), ((rd_T23 l0 x31_1).f8)⟩ : S23)]) x11_1 l0 (l0.length : Int) (wrap64 (x31_1 + 1)) ((rd_T23 l0 a1).f0) ((rd_T23 l0 a1).f1) ((rd_T23 l0 a1).f2) ((rd_T23 l0 a1).f3) ((rd_T23 l0 a1).f4) ((rd_T23 l0 a1).f5) ((rd_T23 l0 a1).f6) ((rd_T23 l0 a1).f7) ((rd_T23 l0 a1).f8)) else (none))) = some r := by rw [if_pos rfl] at H; exact H
           clear H
           have H := H1
           clear H1
           by_cases c30 : x31_1 = a1
           ·rw [if_pos c30] at H
            have c30b0 : (x31_1 == a1) = true := beq_iff_eq.mpr c30
            have c30b1 : (x31_1 != a1) = false := bne_eq_false_iff_eq.mpr c30
            clear c30
            by_cases c31 : x10_1.length < 1353245080339
            ·rw [if_pos c31] at H
             have LMc31 := Aside0.mk c31
             clear c31
             obtain ⟨y210, hy210⟩ : ∃ y_ : List (S23), y_ = (x10_1 ++ [(⟨((rd_T23 l0 x31_1).f0), ((rd_T23 l0 x31_1).f1), ((rd_T23 l0 x31_1).f2), ((rd_T23 l0 x31_1).f3), ((rd_T23 l0 x31_1).f4), ((rd_T23 l0 x31_1).f5), ((rd_T23 l0 x31_1).f6), ((rd_T23 l0 x31_1).f7), ((rd_T23 l0 x31_1).f8)⟩ : S23)]) := ⟨_, rfl⟩
             replace H : (partner_hides.l0 kj13 a1 t206 t207 y210 (x10_1.length : Int) l0 (l0.length : Int) (wrap64 (x31_1 + 1)) ((rd_T23 l0 a1).f0) ((rd_T23 l0 a1).f1) ((rd_T23 l0 a1).f2) ((rd_T23 l0 a1).f3) ((rd_T23 l0 a1).f4) ((rd_T23 l0 a1).f5) ((rd_T23 l0 a1).f6) ((rd_T23 l0 a1).f7) ((rd_T23 l0 a1).f8)) = some r := by first | (rw [hy210]; with_reducible exact H) | (have H2_ := (Option.bind_some _ _).symm.trans H; rw [hy210]; with_reducible exact H2_) | (have H2_ := (Option.bind_some _ _).symm.trans H; with_reducible exact H2_) | with_reducible exact H | (rw [hy210]; exact H) | exact H
             have Ny210 := Aside0.mk hy210
             clear hy210
             have H' := Aside0.mk H
             clear H
             obtain ⟨Ao32, co32, eo32⟩ := Kd.R_slice HO_10.out
             subst eo32
             have hnb33 := NB209_205.out
             have hnc33 := NB205_209.out
             have hcz34_0 : wc.cell? ⟨gb209, 0, none⟩ = some (.string ((rd_T23 l0 x31_1).f0)) := (blk_cell BK209.out 0).trans rfl
             have hcz34_1 : wc.cell? ⟨gb209, 1, none⟩ = some (.string ((rd_T23 l0 x31_1).f1)) := (blk_cell BK209.out 1).trans rfl
             have hcz34_2 : wc.cell? ⟨gb209, 2, none⟩ = some (.string ((rd_T23 l0 x31_1).f2)) := (blk_cell BK209.out 2).trans rfl
             have hcz34_3 : wc.cell? ⟨gb209, 3, none⟩ = some (.string ((rd_T23 l0 x31_1).f3)) := (blk_cell BK209.out 3).trans rfl
             have hcz34_4 : wc.cell? ⟨gb209, 4, none⟩ = some (.int .i64 ((rd_T23 l0 x31_1).f4)) := (blk_cell BK209.out 4).trans rfl
             have hcz34_5 : wc.cell? ⟨gb209, 5, none⟩ = some (.int .i64 ((rd_T23 l0 x31_1).f5)) := (blk_cell BK209.out 5).trans rfl
             have hcz34_6 : wc.cell? ⟨gb209, 6, none⟩ = some (.bool ((rd_T23 l0 x31_1).f6)) := (blk_cell BK209.out 6).trans rfl
             have hcz34_7 : wc.cell? ⟨gb209, 7, none⟩ = some (.int .i64 ((rd_T23 l0 x31_1).f7)) := (blk_cell BK209.out 7).trans rfl
             have hcz34_8 : wc.cell? ⟨gb209, 8, none⟩ = some (.bool ((rd_T23 l0 x31_1).f8)) := (blk_cell BK209.out 8).trans rfl
             have hfz34_0 := blk_frozen BK209.out 0
             have hfz34_1 := blk_frozen BK209.out 1
             have hfz34_2 := blk_frozen BK209.out 2
             have hfz34_3 := blk_frozen BK209.out 3
             have hfz34_4 := blk_frozen BK209.out 4
             have hfz34_5 := blk_frozen BK209.out 5
             have hfz34_6 := blk_frozen BK209.out 6
             have hfz34_7 := blk_frozen BK209.out 7
             have hfz34_8 := blk_frozen BK209.out 8
             go_wp2_with (first | ((with_reducible refine gate_builtin (b := .append) (xs := #[.tmp 60, .tmp 62]) rfl ?_); at_builtin; refine Kd.R_append k23 (w0 := w) w.heap.size rfl (.tmp 60) (.tmp 62) 59 23 (.agg #[(.string ⟨#[]⟩), (.string ⟨#[]⟩), (.string ⟨#[]⟩), (.string ⟨#[]⟩), (.int .i64 0), (.int .i64 0), (.bool false), (.int .i64 0), (.bool false)]) 104 rfl Tryd.underlying59 info23 rfl (by decide) (by omega) (.slice Ao32 x10_1.length co32) x10_1 (⟨((rd_T23 l0 x31_1).f0), ((rd_T23 l0 x31_1).f1), ((rd_T23 l0 x31_1).f2), ((rd_T23 l0 x31_1).f3), ((rd_T23 l0 x31_1).f4), ((rd_T23 l0 x31_1).f5), ((rd_T23 l0 x31_1).f6), ((rd_T23 l0 x31_1).f7), ((rd_T23 l0 x31_1).f8)⟩ : S23) [.string ((rd_T23 l0 x31_1).f0), .string ((rd_T23 l0 x31_1).f1), .string ((rd_T23 l0 x31_1).f2), .string ((rd_T23 l0 x31_1).f3), .int .i64 ((rd_T23 l0 x31_1).f4), .int .i64 ((rd_T23 l0 x31_1).f5), .bool ((rd_T23 l0 x31_1).f6), .int .i64 ((rd_T23 l0 x31_1).f7), .bool ((rd_T23 l0 x31_1).f8)] (fun k_ => k_ ≠ gb205 ∧ k_ ≠ gb209) (fun _ => False) rfl rfl ?aP (fun _ hk => hk.elim) ?aF ?aO ?aB ?aS ?aL ?_; (case aP => exact k23_mkM _ _ _ (⟨((rd_T23 l0 x31_1).f0), ((rd_T23 l0 x31_1).f1), ((rd_T23 l0 x31_1).f2), ((rd_T23 l0 x31_1).f3), ((rd_T23 l0 x31_1).f4), ((rd_T23 l0 x31_1).f5), ((rd_T23 l0 x31_1).f6), ((rd_T23 l0 x31_1).f7), ((rd_T23 l0 x31_1).f8)⟩ : S23)); (case aB => exact Z43); (case aF => exact (fun k_ hk => ⟨Kd.freshB (g := gb205) (o := .cells #[.string ((rd_T23 l0 a1).f0), .string ((rd_T23 l0 a1).f1), .string ((rd_T23 l0 a1).f2), .string ((rd_T23 l0 a1).f3), .int .i64 ((rd_T23 l0 a1).f4), .int .i64 ((rd_T23 l0 a1).f5), .bool ((rd_T23 l0 a1).f6), .int .i64 ((rd_T23 l0 a1).f7), .bool ((rd_T23 l0 a1).f8)] 23 (0, 0)) Z88 k_ hk, Kd.freshB (g := gb209) (o := .cells #[.string ((rd_T23 l0 x31_1).f0), .string ((rd_T23 l0 x31_1).f1), .string ((rd_T23 l0 x31_1).f2), .string ((rd_T23 l0 x31_1).f3), .int .i64 ((rd_T23 l0 x31_1).f4), .int .i64 ((rd_T23 l0 x31_1).f5), .bool ((rd_T23 l0 x31_1).f6), .int .i64 ((rd_T23 l0 x31_1).f7), .bool ((rd_T23 l0 x31_1).f8)] 23 (0, 0)) Z89 k_ hk⟩)); (case aO => exact Z93); (case aS => exact (below_size Z43)); (case aL => have := LMc31.out; omega); intro v211 w35 ho hb hg hat; rw [← Ny210.out] at ho; have n0_ := Aside0.mk (blk_grown (g := gb205) (o := .cells #[.string ((rd_T23 l0 a1).f0), .string ((rd_T23 l0 a1).f1), .string ((rd_T23 l0 a1).f2), .string ((rd_T23 l0 a1).f3), .int .i64 ((rd_T23 l0 a1).f4), .int .i64 ((rd_T23 l0 a1).f5), .bool ((rd_T23 l0 a1).f6), .int .i64 ((rd_T23 l0 a1).f7), .bool ((rd_T23 l0 a1).f8)] 23 (0, 0)) Z88 hg (Kd.R_away HO_10.out (fun _ hk => hk.1))); have n1_ := Aside0.mk (blk_grown (g := gb209) (o := .cells #[.string ((rd_T23 l0 x31_1).f0), .string ((rd_T23 l0 x31_1).f1), .string ((rd_T23 l0 x31_1).f2), .string ((rd_T23 l0 x31_1).f3), .int .i64 ((rd_T23 l0 x31_1).f4), .int .i64 ((rd_T23 l0 x31_1).f5), .bool ((rd_T23 l0 x31_1).f6), .int .i64 ((rd_T23 l0 x31_1).f7), .bool ((rd_T23 l0 x31_1).f8)] 23 (0, 0)) Z89 hg (Kd.R_away HO_10.out (fun _ hk => hk.2))); have n2_ := Aside0.mk (hb); have n3_ := Aside0.mk (ho); clear BK205; clear BK209; clear HB; clear HO_10; have BK205 := n0_; have BK209 := n1_; have HB := n2_; have HO212 := n3_; clear n0_ n1_ n2_ n3_; clear ho hb hg hat))
             repeat (go_quiet (first | ((with_reducible refine gate_builtin (b := .append) (xs := #[.tmp 60, .tmp 62]) rfl ?_); at_builtin; refine Kd.R_append k23 (w0 := w) w.heap.size rfl (.tmp 60) (.tmp 62) 59 23 (.agg #[(.string ⟨#[]⟩), (.string ⟨#[]⟩), (.string ⟨#[]⟩), (.string ⟨#[]⟩), (.int .i64 0), (.int .i64 0), (.bool false), (.int .i64 0), (.bool false)]) 104 rfl Tryd.underlying59 info23 rfl (by decide) (by omega) (.slice Ao32 x10_1.length co32) x10_1 (⟨((rd_T23 l0 x31_1).f0), ((rd_T23 l0 x31_1).f1), ((rd_T23 l0 x31_1).f2), ((rd_T23 l0 x31_1).f3), ((rd_T23 l0 x31_1).f4), ((rd_T23 l0 x31_1).f5), ((rd_T23 l0 x31_1).f6), ((rd_T23 l0 x31_1).f7), ((rd_T23 l0 x31_1).f8)⟩ : S23) [.string ((rd_T23 l0 x31_1).f0), .string ((rd_T23 l0 x31_1).f1), .string ((rd_T23 l0 x31_1).f2), .string ((rd_T23 l0 x31_1).f3), .int .i64 ((rd_T23 l0 x31_1).f4), .int .i64 ((rd_T23 l0 x31_1).f5), .bool ((rd_T23 l0 x31_1).f6), .int .i64 ((rd_T23 l0 x31_1).f7), .bool ((rd_T23 l0 x31_1).f8)] (fun k_ => k_ ≠ gb205 ∧ k_ ≠ gb209) (fun _ => False) rfl rfl ?aP (fun _ hk => hk.elim) ?aF ?aO ?aB ?aS ?aL ?_; (case aP => exact k23_mkM _ _ _ (⟨((rd_T23 l0 x31_1).f0), ((rd_T23 l0 x31_1).f1), ((rd_T23 l0 x31_1).f2), ((rd_T23 l0 x31_1).f3), ((rd_T23 l0 x31_1).f4), ((rd_T23 l0 x31_1).f5), ((rd_T23 l0 x31_1).f6), ((rd_T23 l0 x31_1).f7), ((rd_T23 l0 x31_1).f8)⟩ : S23)); (case aB => exact Z43); (case aF => exact (fun k_ hk => ⟨Kd.freshB (g := gb205) (o := .cells #[.string ((rd_T23 l0 a1).f0), .string ((rd_T23 l0 a1).f1), .string ((rd_T23 l0 a1).f2), .string ((rd_T23 l0 a1).f3), .int .i64 ((rd_T23 l0 a1).f4), .int .i64 ((rd_T23 l0 a1).f5), .bool ((rd_T23 l0 a1).f6), .int .i64 ((rd_T23 l0 a1).f7), .bool ((rd_T23 l0 a1).f8)] 23 (0, 0)) Z88 k_ hk, Kd.freshB (g := gb209) (o := .cells #[.string ((rd_T23 l0 x31_1).f0), .string ((rd_T23 l0 x31_1).f1), .string ((rd_T23 l0 x31_1).f2), .string ((rd_T23 l0 x31_1).f3), .int .i64 ((rd_T23 l0 x31_1).f4), .int .i64 ((rd_T23 l0 x31_1).f5), .bool ((rd_T23 l0 x31_1).f6), .int .i64 ((rd_T23 l0 x31_1).f7), .bool ((rd_T23 l0 x31_1).f8)] 23 (0, 0)) Z89 k_ hk⟩)); (case aO => exact Z93); (case aS => exact (below_size Z43)); (case aL => have := LMc31.out; omega); intro v211 w35 ho hb hg hat; rw [← Ny210.out] at ho; have n0_ := Aside0.mk (blk_grown (g := gb205) (o := .cells #[.string ((rd_T23 l0 a1).f0), .string ((rd_T23 l0 a1).f1), .string ((rd_T23 l0 a1).f2), .string ((rd_T23 l0 a1).f3), .int .i64 ((rd_T23 l0 a1).f4), .int .i64 ((rd_T23 l0 a1).f5), .bool ((rd_T23 l0 a1).f6), .int .i64 ((rd_T23 l0 a1).f7), .bool ((rd_T23 l0 a1).f8)] 23 (0, 0)) Z88 hg (Kd.R_away HO_10.out (fun _ hk => hk.1))); have n1_ := Aside0.mk (blk_grown (g := gb209) (o := .cells #[.string ((rd_T23 l0 x31_1).f0), .string ((rd_T23 l0 x31_1).f1), .string ((rd_T23 l0 x31_1).f2), .string ((rd_T23 l0 x31_1).f3), .int .i64 ((rd_T23 l0 x31_1).f4), .int .i64 ((rd_T23 l0 x31_1).f5), .bool ((rd_T23 l0 x31_1).f6), .int .i64 ((rd_T23 l0 x31_1).f7), .bool ((rd_T23 l0 x31_1).f8)] 23 (0, 0)) Z89 hg (Kd.R_away HO_10.out (fun _ hk => hk.2))); have n2_ := Aside0.mk (hb); have n3_ := Aside0.mk (ho); clear BK205; clear BK209; clear HB; clear HO_10; have BK205 := n0_; have BK209 := n1_; have HB := n2_; have HO212 := n3_; clear n0_ n1_ n2_ n3_; clear ho hb hg hat)); try go_wp2_with (first | ((with_reducible refine gate_builtin (b := .append) (xs := #[.tmp 60, .tmp 62]) rfl ?_); at_builtin; refine Kd.R_append k23 (w0 := w) w.heap.size rfl (.tmp 60) (.tmp 62) 59 23 (.agg #[(.string ⟨#[]⟩), (.string ⟨#[]⟩), (.string ⟨#[]⟩), (.string ⟨#[]⟩), (.int .i64 0), (.int .i64 0), (.bool false), (.int .i64 0), (.bool false)]) 104 rfl Tryd.underlying59 info23 rfl (by decide) (by omega) (.slice Ao32 x10_1.length co32) x10_1 (⟨((rd_T23 l0 x31_1).f0), ((rd_T23 l0 x31_1).f1), ((rd_T23 l0 x31_1).f2), ((rd_T23 l0 x31_1).f3), ((rd_T23 l0 x31_1).f4), ((rd_T23 l0 x31_1).f5), ((rd_T23 l0 x31_1).f6), ((rd_T23 l0 x31_1).f7), ((rd_T23 l0 x31_1).f8)⟩ : S23) [.string ((rd_T23 l0 x31_1).f0), .string ((rd_T23 l0 x31_1).f1), .string ((rd_T23 l0 x31_1).f2), .string ((rd_T23 l0 x31_1).f3), .int .i64 ((rd_T23 l0 x31_1).f4), .int .i64 ((rd_T23 l0 x31_1).f5), .bool ((rd_T23 l0 x31_1).f6), .int .i64 ((rd_T23 l0 x31_1).f7), .bool ((rd_T23 l0 x31_1).f8)] (fun k_ => k_ ≠ gb205 ∧ k_ ≠ gb209) (fun _ => False) rfl rfl ?aP (fun _ hk => hk.elim) ?aF ?aO ?aB ?aS ?aL ?_; (case aP => exact k23_mkM _ _ _ (⟨((rd_T23 l0 x31_1).f0), ((rd_T23 l0 x31_1).f1), ((rd_T23 l0 x31_1).f2), ((rd_T23 l0 x31_1).f3), ((rd_T23 l0 x31_1).f4), ((rd_T23 l0 x31_1).f5), ((rd_T23 l0 x31_1).f6), ((rd_T23 l0 x31_1).f7), ((rd_T23 l0 x31_1).f8)⟩ : S23)); (case aB => exact Z43); (case aF => exact (fun k_ hk => ⟨Kd.freshB (g := gb205) (o := .cells #[.string ((rd_T23 l0 a1).f0), .string ((rd_T23 l0 a1).f1), .string ((rd_T23 l0 a1).f2), .string ((rd_T23 l0 a1).f3), .int .i64 ((rd_T23 l0 a1).f4), .int .i64 ((rd_T23 l0 a1).f5), .bool ((rd_T23 l0 a1).f6), .int .i64 ((rd_T23 l0 a1).f7), .bool ((rd_T23 l0 a1).f8)] 23 (0, 0)) Z88 k_ hk, Kd.freshB (g := gb209) (o := .cells #[.string ((rd_T23 l0 x31_1).f0), .string ((rd_T23 l0 x31_1).f1), .string ((rd_T23 l0 x31_1).f2), .string ((rd_T23 l0 x31_1).f3), .int .i64 ((rd_T23 l0 x31_1).f4), .int .i64 ((rd_T23 l0 x31_1).f5), .bool ((rd_T23 l0 x31_1).f6), .int .i64 ((rd_T23 l0 x31_1).f7), .bool ((rd_T23 l0 x31_1).f8)] 23 (0, 0)) Z89 k_ hk⟩)); (case aO => exact Z93); (case aS => exact (below_size Z43)); (case aL => have := LMc31.out; omega); intro v211 w35 ho hb hg hat; rw [← Ny210.out] at ho; have n0_ := Aside0.mk (blk_grown (g := gb205) (o := .cells #[.string ((rd_T23 l0 a1).f0), .string ((rd_T23 l0 a1).f1), .string ((rd_T23 l0 a1).f2), .string ((rd_T23 l0 a1).f3), .int .i64 ((rd_T23 l0 a1).f4), .int .i64 ((rd_T23 l0 a1).f5), .bool ((rd_T23 l0 a1).f6), .int .i64 ((rd_T23 l0 a1).f7), .bool ((rd_T23 l0 a1).f8)] 23 (0, 0)) Z88 hg (Kd.R_away HO_10.out (fun _ hk => hk.1))); have n1_ := Aside0.mk (blk_grown (g := gb209) (o := .cells #[.string ((rd_T23 l0 x31_1).f0), .string ((rd_T23 l0 x31_1).f1), .string ((rd_T23 l0 x31_1).f2), .string ((rd_T23 l0 x31_1).f3), .int .i64 ((rd_T23 l0 x31_1).f4), .int .i64 ((rd_T23 l0 x31_1).f5), .bool ((rd_T23 l0 x31_1).f6), .int .i64 ((rd_T23 l0 x31_1).f7), .bool ((rd_T23 l0 x31_1).f8)] 23 (0, 0)) Z89 hg (Kd.R_away HO_10.out (fun _ hk => hk.2))); have n2_ := Aside0.mk (hb); have n3_ := Aside0.mk (ho); clear BK205; clear BK209; clear HB; clear HO_10; have BK205 := n0_; have BK209 := n1_; have HB := n2_; have HO212 := n3_; clear n0_ n1_ n2_ n3_; clear ho hb hg hat)))
             go_roundg kj13
             case measure => have := HK1.out; have := HJ13.out; omega
             case rel => exact ⟨(y210), ((x10_1.length : Int)), (wrap64 (x31_1 + 1)), Z98, Z98, H', ⟨by have := HK1.out; have := HJ13.out; omega⟩, ⟨by (with_reducible repeat (first | apply Kd.R_alloc | apply Kd.R_drewN | apply Kd.R_drew)); exact Kd.R_mono HO212.out (fun _ hk => hk.1)⟩, ⟨Z88⟩, ⟨Z43⟩⟩
            ·rw [if_neg c31] at H
             exact absurd H (by simp)
           ·rw [if_neg c30] at H
            have c30b0 : (x31_1 == a1) = false := beq_eq_false_iff_ne.mpr c30
            have c30b1 : (x31_1 != a1) = true := bne_iff_ne.mpr c30
            by_cases c36 : x10_1.length < 1353245080339
            ·rw [if_pos c36] at H
             have LMc36 := Aside0.mk c36
             clear c36
             obtain ⟨y213, hy213⟩ : ∃ y_ : List (S23), y_ = (x10_1 ++ [(⟨((rd_T23 l0 x31_1).f0), ((rd_T23 l0 x31_1).f1), ((rd_T23 l0 x31_1).f2), ((rd_T23 l0 x31_1).f3), ((rd_T23 l0 x31_1).f4), ((rd_T23 l0 x31_1).f5), ((rd_T23 l0 x31_1).f6), ((rd_T23 l0 x31_1).f7), ((rd_T23 l0 x31_1).f8)⟩ : S23)]) := ⟨_, rfl⟩
             replace H : (partner_hides.l0 kj13 a1 t206 t207 y213 x11_1 l0 (l0.length : Int) (wrap64 (x31_1 + 1)) ((rd_T23 l0 a1).f0) ((rd_T23 l0 a1).f1) ((rd_T23 l0 a1).f2) ((rd_T23 l0 a1).f3) ((rd_T23 l0 a1).f4) ((rd_T23 l0 a1).f5) ((rd_T23 l0 a1).f6) ((rd_T23 l0 a1).f7) ((rd_T23 l0 a1).f8)) = some r := by first | (rw [hy213]; with_reducible exact H) | (have H2_ := (Option.bind_some _ _).symm.trans H; rw [hy213]; with_reducible exact H2_) | (have H2_ := (Option.bind_some _ _).symm.trans H; with_reducible exact H2_) | with_reducible exact H | (rw [hy213]; exact H) | exact H
             have Ny213 := Aside0.mk hy213
             clear hy213
             have H' := Aside0.mk H
             clear H
             have hnb37 := NB209_205.out
             have hnc37 := NB205_209.out
             have hcz38_0 : wc.cell? ⟨gb209, 0, none⟩ = some (.string ((rd_T23 l0 x31_1).f0)) := (blk_cell BK209.out 0).trans rfl
             have hcz38_1 : wc.cell? ⟨gb209, 1, none⟩ = some (.string ((rd_T23 l0 x31_1).f1)) := (blk_cell BK209.out 1).trans rfl
             have hcz38_2 : wc.cell? ⟨gb209, 2, none⟩ = some (.string ((rd_T23 l0 x31_1).f2)) := (blk_cell BK209.out 2).trans rfl
             have hcz38_3 : wc.cell? ⟨gb209, 3, none⟩ = some (.string ((rd_T23 l0 x31_1).f3)) := (blk_cell BK209.out 3).trans rfl
             have hcz38_4 : wc.cell? ⟨gb209, 4, none⟩ = some (.int .i64 ((rd_T23 l0 x31_1).f4)) := (blk_cell BK209.out 4).trans rfl
             have hcz38_5 : wc.cell? ⟨gb209, 5, none⟩ = some (.int .i64 ((rd_T23 l0 x31_1).f5)) := (blk_cell BK209.out 5).trans rfl
             have hcz38_6 : wc.cell? ⟨gb209, 6, none⟩ = some (.bool ((rd_T23 l0 x31_1).f6)) := (blk_cell BK209.out 6).trans rfl
             have hcz38_7 : wc.cell? ⟨gb209, 7, none⟩ = some (.int .i64 ((rd_T23 l0 x31_1).f7)) := (blk_cell BK209.out 7).trans rfl
             have hcz38_8 : wc.cell? ⟨gb209, 8, none⟩ = some (.bool ((rd_T23 l0 x31_1).f8)) := (blk_cell BK209.out 8).trans rfl
             have hfz38_0 := blk_frozen BK209.out 0
             have hfz38_1 := blk_frozen BK209.out 1
             have hfz38_2 := blk_frozen BK209.out 2
             have hfz38_3 := blk_frozen BK209.out 3
             have hfz38_4 := blk_frozen BK209.out 4
             have hfz38_5 := blk_frozen BK209.out 5
             have hfz38_6 := blk_frozen BK209.out 6
             have hfz38_7 := blk_frozen BK209.out 7
             have hfz38_8 := blk_frozen BK209.out 8
             go_wp2_with (first | ((with_reducible refine gate_builtin (b := .append) (xs := #[.tmp 60, .tmp 62]) rfl ?_); at_builtin; refine Kd.R_append k23 (w0 := w) w.heap.size rfl (.tmp 60) (.tmp 62) 59 23 (.agg #[(.string ⟨#[]⟩), (.string ⟨#[]⟩), (.string ⟨#[]⟩), (.string ⟨#[]⟩), (.int .i64 0), (.int .i64 0), (.bool false), (.int .i64 0), (.bool false)]) 104 rfl Tryd.underlying59 info23 rfl (by decide) (by omega) u10 x10_1 (⟨((rd_T23 l0 x31_1).f0), ((rd_T23 l0 x31_1).f1), ((rd_T23 l0 x31_1).f2), ((rd_T23 l0 x31_1).f3), ((rd_T23 l0 x31_1).f4), ((rd_T23 l0 x31_1).f5), ((rd_T23 l0 x31_1).f6), ((rd_T23 l0 x31_1).f7), ((rd_T23 l0 x31_1).f8)⟩ : S23) [.string ((rd_T23 l0 x31_1).f0), .string ((rd_T23 l0 x31_1).f1), .string ((rd_T23 l0 x31_1).f2), .string ((rd_T23 l0 x31_1).f3), .int .i64 ((rd_T23 l0 x31_1).f4), .int .i64 ((rd_T23 l0 x31_1).f5), .bool ((rd_T23 l0 x31_1).f6), .int .i64 ((rd_T23 l0 x31_1).f7), .bool ((rd_T23 l0 x31_1).f8)] (fun k_ => k_ ≠ gb205 ∧ k_ ≠ gb209) (fun _ => False) rfl rfl ?aP (fun _ hk => hk.elim) ?aF ?aO ?aB ?aS ?aL ?_; (case aP => exact k23_mkM _ _ _ (⟨((rd_T23 l0 x31_1).f0), ((rd_T23 l0 x31_1).f1), ((rd_T23 l0 x31_1).f2), ((rd_T23 l0 x31_1).f3), ((rd_T23 l0 x31_1).f4), ((rd_T23 l0 x31_1).f5), ((rd_T23 l0 x31_1).f6), ((rd_T23 l0 x31_1).f7), ((rd_T23 l0 x31_1).f8)⟩ : S23)); (case aB => exact Z43); (case aF => exact (fun k_ hk => ⟨Kd.freshB (g := gb205) (o := .cells #[.string ((rd_T23 l0 a1).f0), .string ((rd_T23 l0 a1).f1), .string ((rd_T23 l0 a1).f2), .string ((rd_T23 l0 a1).f3), .int .i64 ((rd_T23 l0 a1).f4), .int .i64 ((rd_T23 l0 a1).f5), .bool ((rd_T23 l0 a1).f6), .int .i64 ((rd_T23 l0 a1).f7), .bool ((rd_T23 l0 a1).f8)] 23 (0, 0)) Z88 k_ hk, Kd.freshB (g := gb209) (o := .cells #[.string ((rd_T23 l0 x31_1).f0), .string ((rd_T23 l0 x31_1).f1), .string ((rd_T23 l0 x31_1).f2), .string ((rd_T23 l0 x31_1).f3), .int .i64 ((rd_T23 l0 x31_1).f4), .int .i64 ((rd_T23 l0 x31_1).f5), .bool ((rd_T23 l0 x31_1).f6), .int .i64 ((rd_T23 l0 x31_1).f7), .bool ((rd_T23 l0 x31_1).f8)] 23 (0, 0)) Z89 k_ hk⟩)); (case aO => exact Z93); (case aS => exact (below_size Z43)); (case aL => have := LMc36.out; omega); intro v214 w39 ho hb hg hat; rw [← Ny213.out] at ho; have n0_ := Aside0.mk (blk_grown (g := gb205) (o := .cells #[.string ((rd_T23 l0 a1).f0), .string ((rd_T23 l0 a1).f1), .string ((rd_T23 l0 a1).f2), .string ((rd_T23 l0 a1).f3), .int .i64 ((rd_T23 l0 a1).f4), .int .i64 ((rd_T23 l0 a1).f5), .bool ((rd_T23 l0 a1).f6), .int .i64 ((rd_T23 l0 a1).f7), .bool ((rd_T23 l0 a1).f8)] 23 (0, 0)) Z88 hg (Kd.R_away HO_10.out (fun _ hk => hk.1))); have n1_ := Aside0.mk (blk_grown (g := gb209) (o := .cells #[.string ((rd_T23 l0 x31_1).f0), .string ((rd_T23 l0 x31_1).f1), .string ((rd_T23 l0 x31_1).f2), .string ((rd_T23 l0 x31_1).f3), .int .i64 ((rd_T23 l0 x31_1).f4), .int .i64 ((rd_T23 l0 x31_1).f5), .bool ((rd_T23 l0 x31_1).f6), .int .i64 ((rd_T23 l0 x31_1).f7), .bool ((rd_T23 l0 x31_1).f8)] 23 (0, 0)) Z89 hg (Kd.R_away HO_10.out (fun _ hk => hk.2))); have n2_ := Aside0.mk (hb); have n3_ := Aside0.mk (ho); clear BK205; clear BK209; clear HB; clear HO_10; have BK205 := n0_; have BK209 := n1_; have HB := n2_; have HO215 := n3_; clear n0_ n1_ n2_ n3_; clear ho hb hg hat))
             repeat (go_quiet (first | ((with_reducible refine gate_builtin (b := .append) (xs := #[.tmp 60, .tmp 62]) rfl ?_); at_builtin; refine Kd.R_append k23 (w0 := w) w.heap.size rfl (.tmp 60) (.tmp 62) 59 23 (.agg #[(.string ⟨#[]⟩), (.string ⟨#[]⟩), (.string ⟨#[]⟩), (.string ⟨#[]⟩), (.int .i64 0), (.int .i64 0), (.bool false), (.int .i64 0), (.bool false)]) 104 rfl Tryd.underlying59 info23 rfl (by decide) (by omega) u10 x10_1 (⟨((rd_T23 l0 x31_1).f0), ((rd_T23 l0 x31_1).f1), ((rd_T23 l0 x31_1).f2), ((rd_T23 l0 x31_1).f3), ((rd_T23 l0 x31_1).f4), ((rd_T23 l0 x31_1).f5), ((rd_T23 l0 x31_1).f6), ((rd_T23 l0 x31_1).f7), ((rd_T23 l0 x31_1).f8)⟩ : S23) [.string ((rd_T23 l0 x31_1).f0), .string ((rd_T23 l0 x31_1).f1), .string ((rd_T23 l0 x31_1).f2), .string ((rd_T23 l0 x31_1).f3), .int .i64 ((rd_T23 l0 x31_1).f4), .int .i64 ((rd_T23 l0 x31_1).f5), .bool ((rd_T23 l0 x31_1).f6), .int .i64 ((rd_T23 l0 x31_1).f7), .bool ((rd_T23 l0 x31_1).f8)] (fun k_ => k_ ≠ gb205 ∧ k_ ≠ gb209) (fun _ => False) rfl rfl ?aP (fun _ hk => hk.elim) ?aF ?aO ?aB ?aS ?aL ?_; (case aP => exact k23_mkM _ _ _ (⟨((rd_T23 l0 x31_1).f0), ((rd_T23 l0 x31_1).f1), ((rd_T23 l0 x31_1).f2), ((rd_T23 l0 x31_1).f3), ((rd_T23 l0 x31_1).f4), ((rd_T23 l0 x31_1).f5), ((rd_T23 l0 x31_1).f6), ((rd_T23 l0 x31_1).f7), ((rd_T23 l0 x31_1).f8)⟩ : S23)); (case aB => exact Z43); (case aF => exact (fun k_ hk => ⟨Kd.freshB (g := gb205) (o := .cells #[.string ((rd_T23 l0 a1).f0), .string ((rd_T23 l0 a1).f1), .string ((rd_T23 l0 a1).f2), .string ((rd_T23 l0 a1).f3), .int .i64 ((rd_T23 l0 a1).f4), .int .i64 ((rd_T23 l0 a1).f5), .bool ((rd_T23 l0 a1).f6), .int .i64 ((rd_T23 l0 a1).f7), .bool ((rd_T23 l0 a1).f8)] 23 (0, 0)) Z88 k_ hk, Kd.freshB (g := gb209) (o := .cells #[.string ((rd_T23 l0 x31_1).f0), .string ((rd_T23 l0 x31_1).f1), .string ((rd_T23 l0 x31_1).f2), .string ((rd_T23 l0 x31_1).f3), .int .i64 ((rd_T23 l0 x31_1).f4), .int .i64 ((rd_T23 l0 x31_1).f5), .bool ((rd_T23 l0 x31_1).f6), .int .i64 ((rd_T23 l0 x31_1).f7), .bool ((rd_T23 l0 x31_1).f8)] 23 (0, 0)) Z89 k_ hk⟩)); (case aO => exact Z93); (case aS => exact (below_size Z43)); (case aL => have := LMc36.out; omega); intro v214 w39 ho hb hg hat; rw [← Ny213.out] at ho; have n0_ := Aside0.mk (blk_grown (g := gb205) (o := .cells #[.string ((rd_T23 l0 a1).f0), .string ((rd_T23 l0 a1).f1), .string ((rd_T23 l0 a1).f2), .string ((rd_T23 l0 a1).f3), .int .i64 ((rd_T23 l0 a1).f4), .int .i64 ((rd_T23 l0 a1).f5), .bool ((rd_T23 l0 a1).f6), .int .i64 ((rd_T23 l0 a1).f7), .bool ((rd_T23 l0 a1).f8)] 23 (0, 0)) Z88 hg (Kd.R_away HO_10.out (fun _ hk => hk.1))); have n1_ := Aside0.mk (blk_grown (g := gb209) (o := .cells #[.string ((rd_T23 l0 x31_1).f0), .string ((rd_T23 l0 x31_1).f1), .string ((rd_T23 l0 x31_1).f2), .string ((rd_T23 l0 x31_1).f3), .int .i64 ((rd_T23 l0 x31_1).f4), .int .i64 ((rd_T23 l0 x31_1).f5), .bool ((rd_T23 l0 x31_1).f6), .int .i64 ((rd_T23 l0 x31_1).f7), .bool ((rd_T23 l0 x31_1).f8)] 23 (0, 0)) Z89 hg (Kd.R_away HO_10.out (fun _ hk => hk.2))); have n2_ := Aside0.mk (hb); have n3_ := Aside0.mk (ho); clear BK205; clear BK209; clear HB; clear HO_10; have BK205 := n0_; have BK209 := n1_; have HB := n2_; have HO215 := n3_; clear n0_ n1_ n2_ n3_; clear ho hb hg hat)); try go_wp2_with (first | ((with_reducible refine gate_builtin (b := .append) (xs := #[.tmp 60, .tmp 62]) rfl ?_); at_builtin; refine Kd.R_append k23 (w0 := w) w.heap.size rfl (.tmp 60) (.tmp 62) 59 23 (.agg #[(.string ⟨#[]⟩), (.string ⟨#[]⟩), (.string ⟨#[]⟩), (.string ⟨#[]⟩), (.int .i64 0), (.int .i64 0), (.bool false), (.int .i64 0), (.bool false)]) 104 rfl Tryd.underlying59 info23 rfl (by decide) (by omega) u10 x10_1 (⟨((rd_T23 l0 x31_1).f0), ((rd_T23 l0 x31_1).f1), ((rd_T23 l0 x31_1).f2), ((rd_T23 l0 x31_1).f3), ((rd_T23 l0 x31_1).f4), ((rd_T23 l0 x31_1).f5), ((rd_T23 l0 x31_1).f6), ((rd_T23 l0 x31_1).f7), ((rd_T23 l0 x31_1).f8)⟩ : S23) [.string ((rd_T23 l0 x31_1).f0), .string ((rd_T23 l0 x31_1).f1), .string ((rd_T23 l0 x31_1).f2), .string ((rd_T23 l0 x31_1).f3), .int .i64 ((rd_T23 l0 x31_1).f4), .int .i64 ((rd_T23 l0 x31_1).f5), .bool ((rd_T23 l0 x31_1).f6), .int .i64 ((rd_T23 l0 x31_1).f7), .bool ((rd_T23 l0 x31_1).f8)] (fun k_ => k_ ≠ gb205 ∧ k_ ≠ gb209) (fun _ => False) rfl rfl ?aP (fun _ hk => hk.elim) ?aF ?aO ?aB ?aS ?aL ?_; (case aP => exact k23_mkM _ _ _ (⟨((rd_T23 l0 x31_1).f0), ((rd_T23 l0 x31_1).f1), ((rd_T23 l0 x31_1).f2), ((rd_T23 l0 x31_1).f3), ((rd_T23 l0 x31_1).f4), ((rd_T23 l0 x31_1).f5), ((rd_T23 l0 x31_1).f6), ((rd_T23 l0 x31_1).f7), ((rd_T23 l0 x31_1).f8)⟩ : S23)); (case aB => exact Z43); (case aF => exact (fun k_ hk => ⟨Kd.freshB (g := gb205) (o := .cells #[.string ((rd_T23 l0 a1).f0), .string ((rd_T23 l0 a1).f1), .string ((rd_T23 l0 a1).f2), .string ((rd_T23 l0 a1).f3), .int .i64 ((rd_T23 l0 a1).f4), .int .i64 ((rd_T23 l0 a1).f5), .bool ((rd_T23 l0 a1).f6), .int .i64 ((rd_T23 l0 a1).f7), .bool ((rd_T23 l0 a1).f8)] 23 (0, 0)) Z88 k_ hk, Kd.freshB (g := gb209) (o := .cells #[.string ((rd_T23 l0 x31_1).f0), .string ((rd_T23 l0 x31_1).f1), .string ((rd_T23 l0 x31_1).f2), .string ((rd_T23 l0 x31_1).f3), .int .i64 ((rd_T23 l0 x31_1).f4), .int .i64 ((rd_T23 l0 x31_1).f5), .bool ((rd_T23 l0 x31_1).f6), .int .i64 ((rd_T23 l0 x31_1).f7), .bool ((rd_T23 l0 x31_1).f8)] 23 (0, 0)) Z89 k_ hk⟩)); (case aO => exact Z93); (case aS => exact (below_size Z43)); (case aL => have := LMc36.out; omega); intro v214 w39 ho hb hg hat; rw [← Ny213.out] at ho; have n0_ := Aside0.mk (blk_grown (g := gb205) (o := .cells #[.string ((rd_T23 l0 a1).f0), .string ((rd_T23 l0 a1).f1), .string ((rd_T23 l0 a1).f2), .string ((rd_T23 l0 a1).f3), .int .i64 ((rd_T23 l0 a1).f4), .int .i64 ((rd_T23 l0 a1).f5), .bool ((rd_T23 l0 a1).f6), .int .i64 ((rd_T23 l0 a1).f7), .bool ((rd_T23 l0 a1).f8)] 23 (0, 0)) Z88 hg (Kd.R_away HO_10.out (fun _ hk => hk.1))); have n1_ := Aside0.mk (blk_grown (g := gb209) (o := .cells #[.string ((rd_T23 l0 x31_1).f0), .string ((rd_T23 l0 x31_1).f1), .string ((rd_T23 l0 x31_1).f2), .string ((rd_T23 l0 x31_1).f3), .int .i64 ((rd_T23 l0 x31_1).f4), .int .i64 ((rd_T23 l0 x31_1).f5), .bool ((rd_T23 l0 x31_1).f6), .int .i64 ((rd_T23 l0 x31_1).f7), .bool ((rd_T23 l0 x31_1).f8)] 23 (0, 0)) Z89 hg (Kd.R_away HO_10.out (fun _ hk => hk.2))); have n2_ := Aside0.mk (hb); have n3_ := Aside0.mk (ho); clear BK205; clear BK209; clear HB; clear HO_10; have BK205 := n0_; have BK209 := n1_; have HB := n2_; have HO215 := n3_; clear n0_ n1_ n2_ n3_; clear ho hb hg hat)))
             go_roundg kj13
             case measure => have := HK1.out; have := HJ13.out; omega
             case rel => exact ⟨(y213), (x11_1), (wrap64 (x31_1 + 1)), Z98, Z98, H', ⟨by have := HK1.out; have := HJ13.out; omega⟩, ⟨by (with_reducible repeat (first | apply Kd.R_alloc | apply Kd.R_drewN | apply Kd.R_drew)); exact Kd.R_mono HO215.out (fun _ hk => hk.1)⟩, ⟨Z88⟩, ⟨Z43⟩⟩
            ·rw [if_neg c36] at H
             exact absurd H (by simp)
          ·replace c29 := Bool.eq_false_iff.mpr c29
           subst c29
           have H1 : (partner_hides.l0 kj13 a1 t206 t207 x10_1 x11_1 l0 (l0.length : Int) (wrap64 (x31_1 + 1)) ((rd_T23 l0 a1).f0) ((rd_T23 l0 a1).f1) ((rd_T23 l0 a1).f2) ((rd_T23 l0 a1).f3) ((rd_T23 l0 a1).f4) ((rd_T23 l0 a1).f5) ((rd_T23 l0 a1).f6) ((rd_T23 l0 a1).f7) ((rd_T23 l0 a1).f8)) = some r := by rw [if_neg (show ¬ (false = true) by decide)] at H; exact H
           clear H
           have H := H1
           clear H1
           have H' := Aside0.mk H
           clear H
           go_wp2
           repeat (go_quiet (fail); try go_wp2)
           go_roundg kj13
           case measure => have := HK1.out; have := HJ13.out; omega
           case rel => exact ⟨(x10_1), (x11_1), (wrap64 (x31_1 + 1)), Z98, Z98, H', ⟨by have := HK1.out; have := HJ13.out; omega⟩, ⟨by (with_reducible repeat (first | apply Kd.R_alloc | apply Kd.R_drewN | apply Kd.R_drew)); exact Kd.R_mono HO_10.out (fun _ hk => hk.1)⟩, ⟨Z88⟩, ⟨Z43⟩⟩
       ·rw [if_neg c13] at H
        exact absurd H (by simp)
      ·rw [if_neg c12] at H
       exact absurd H (by simp)
     ·rw [if_neg c11] at H
      have c11b0 : decide (x31_1 < (l0.length : Int)) = false := decide_eq_false c11
      clear c11
      replace H := Option.bind_eq_some_iff.mp H
      obtain ⟨t216, A400, H⟩ := H
      replace H : (partner_hides.l1 k1 t206 t207 x10_1 x11_1 t216 (t216.length : Int) 0 ((rd_T23 l0 a1).f0) ((rd_T23 l0 a1).f1) ((rd_T23 l0 a1).f2) ((rd_T23 l0 a1).f3) ((rd_T23 l0 a1).f4) ((rd_T23 l0 a1).f5) ((rd_T23 l0 a1).f6) ((rd_T23 l0 a1).f7) ((rd_T23 l0 a1).f8)) = some r := H
      have A40 := Aside0.mk A400
      clear A400
      have H' := Aside0.mk H
      clear H
      have hcz41_0 : wr.cell? ⟨gb205, 0, none⟩ = some (.string ((rd_T23 l0 a1).f0)) := (blk_cell BK205.out 0).trans rfl
      have hcz41_1 : wr.cell? ⟨gb205, 1, none⟩ = some (.string ((rd_T23 l0 a1).f1)) := (blk_cell BK205.out 1).trans rfl
      have hcz41_2 : wr.cell? ⟨gb205, 2, none⟩ = some (.string ((rd_T23 l0 a1).f2)) := (blk_cell BK205.out 2).trans rfl
      have hcz41_3 : wr.cell? ⟨gb205, 3, none⟩ = some (.string ((rd_T23 l0 a1).f3)) := (blk_cell BK205.out 3).trans rfl
      have hcz41_4 : wr.cell? ⟨gb205, 4, none⟩ = some (.int .i64 ((rd_T23 l0 a1).f4)) := (blk_cell BK205.out 4).trans rfl
      have hcz41_5 : wr.cell? ⟨gb205, 5, none⟩ = some (.int .i64 ((rd_T23 l0 a1).f5)) := (blk_cell BK205.out 5).trans rfl
      have hcz41_6 : wr.cell? ⟨gb205, 6, none⟩ = some (.bool ((rd_T23 l0 a1).f6)) := (blk_cell BK205.out 6).trans rfl
      have hcz41_7 : wr.cell? ⟨gb205, 7, none⟩ = some (.int .i64 ((rd_T23 l0 a1).f7)) := (blk_cell BK205.out 7).trans rfl
      have hcz41_8 : wr.cell? ⟨gb205, 8, none⟩ = some (.bool ((rd_T23 l0 a1).f8)) := (blk_cell BK205.out 8).trans rfl
      have hfz41_0 := blk_frozen BK205.out 0
      have hfz41_1 := blk_frozen BK205.out 1
      have hfz41_2 := blk_frozen BK205.out 2
      have hfz41_3 := blk_frozen BK205.out 3
      have hfz41_4 := blk_frozen BK205.out 4
      have hfz41_5 := blk_frozen BK205.out 5
      have hfz41_6 := blk_frozen BK205.out 6
      have hfz41_7 := blk_frozen BK205.out 7
      have hfz41_8 := blk_frozen BK205.out 8
      obtain ⟨Ao42, co42, eo42⟩ := Kd.R_slice HO_10.out
      subst eo42
      go_wp2_with (first | (go_at_call 80; (with_reducible refine (partner_changes.calls k1 _ _ x10_1 ((rd_T23 l0 a1).f4) t216 _ ?side1 ?side2 A40.out).mono ?_); (case side1 => exact Z48); (case side2 => exact Z104); rintro e w43 ⟨v217, rfl, ho0, hb⟩; have n0_ := Aside0.mk (Kd.R_below Z93 hb); have n1_ := Aside0.mk (Kd.R_lower ho0 (below_size Z64)); have n2_ := Aside0.mk (blk_below (g := gb205) (o := .cells #[.string ((rd_T23 l0 a1).f0), .string ((rd_T23 l0 a1).f1), .string ((rd_T23 l0 a1).f2), .string ((rd_T23 l0 a1).f3), .int .i64 ((rd_T23 l0 a1).f4), .int .i64 ((rd_T23 l0 a1).f5), .bool ((rd_T23 l0 a1).f6), .int .i64 ((rd_T23 l0 a1).f7), .bool ((rd_T23 l0 a1).f8)] 23 (0, 0)) Z88 hb); have n3_ := Aside0.mk (below_step Z64 hb); clear HO_10; clear BK205; clear HB; have HO_10 := n0_; have HO218 := n1_; have BK205 := n2_; have HB := n3_; clear n0_ n1_ n2_ n3_; (try clear hb); (try clear hb2); (try clear hk); (try clear hi); (try clear ho0); obtain ⟨Ao44, co44, eo44⟩ := Kd.R_slice HO218.out; subst eo44))
      repeat (go_quiet (first | (go_at_call 80; (with_reducible refine (partner_changes.calls k1 _ _ x10_1 ((rd_T23 l0 a1).f4) t216 _ ?side1 ?side2 A40.out).mono ?_); (case side1 => exact Z48); (case side2 => exact Z104); rintro e w43 ⟨v217, rfl, ho0, hb⟩; have n0_ := Aside0.mk (Kd.R_below Z93 hb); have n1_ := Aside0.mk (Kd.R_lower ho0 (below_size Z64)); have n2_ := Aside0.mk (blk_below (g := gb205) (o := .cells #[.string ((rd_T23 l0 a1).f0), .string ((rd_T23 l0 a1).f1), .string ((rd_T23 l0 a1).f2), .string ((rd_T23 l0 a1).f3), .int .i64 ((rd_T23 l0 a1).f4), .int .i64 ((rd_T23 l0 a1).f5), .bool ((rd_T23 l0 a1).f6), .int .i64 ((rd_T23 l0 a1).f7), .bool ((rd_T23 l0 a1).f8)] 23 (0, 0)) Z88 hb); have n3_ := Aside0.mk (below_step Z64 hb); clear HO_10; clear BK205; clear HB; have HO_10 := n0_; have HO218 := n1_; have BK205 := n2_; have HB := n3_; clear n0_ n1_ n2_ n3_; (try clear hb); (try clear hb2); (try clear hk); (try clear hi); (try clear ho0); obtain ⟨Ao44, co44, eo44⟩ := Kd.R_slice HO218.out; subst eo44)); try go_wp2_with (first | (go_at_call 80; (with_reducible refine (partner_changes.calls k1 _ _ x10_1 ((rd_T23 l0 a1).f4) t216 _ ?side1 ?side2 A40.out).mono ?_); (case side1 => exact Z48); (case side2 => exact Z104); rintro e w43 ⟨v217, rfl, ho0, hb⟩; have n0_ := Aside0.mk (Kd.R_below Z93 hb); have n1_ := Aside0.mk (Kd.R_lower ho0 (below_size Z64)); have n2_ := Aside0.mk (blk_below (g := gb205) (o := .cells #[.string ((rd_T23 l0 a1).f0), .string ((rd_T23 l0 a1).f1), .string ((rd_T23 l0 a1).f2), .string ((rd_T23 l0 a1).f3), .int .i64 ((rd_T23 l0 a1).f4), .int .i64 ((rd_T23 l0 a1).f5), .bool ((rd_T23 l0 a1).f6), .int .i64 ((rd_T23 l0 a1).f7), .bool ((rd_T23 l0 a1).f8)] 23 (0, 0)) Z88 hb); have n3_ := Aside0.mk (below_step Z64 hb); clear HO_10; clear BK205; clear HB; have HO_10 := n0_; have HO218 := n1_; have BK205 := n2_; have HB := n3_; clear n0_ n1_ n2_ n3_; (try clear hb); (try clear hb2); (try clear hk); (try clear hi); (try clear ho0); obtain ⟨Ao44, co44, eo44⟩ := Kd.R_slice HO218.out; subst eo44)))
      go_loopg [70] k1 (fun kq v70 w' => ∃ (x70_2 : Int), v70 = .int .i64 x70_2 ∧ Aside0 (partner_hides.l1 kq t206 t207 x10_1 x11_1 t216 (t216.length : Int) x70_2 ((rd_T23 l0 a1).f0) ((rd_T23 l0 a1).f1) ((rd_T23 l0 a1).f2) ((rd_T23 l0 a1).f3) ((rd_T23 l0 a1).f4) ((rd_T23 l0 a1).f5) ((rd_T23 l0 a1).f6) ((rd_T23 l0 a1).f7) ((rd_T23 l0 a1).f8) = some r) ∧ Aside0 (kq ≤ k1) ∧ Aside0 (Kd.R k23 23 w' w.heap.size (fun k_ => k_ ≠ gb205) (.slice Ao42 x10_1.length co42) x10_1) ∧ Aside0 (Kd.R (Kd.int .i64) 3 w' w.heap.size (fun _ => True) (.slice Ao44 t216.length co44) t216) ∧ Aside0 (w'.heap[gb205]? = some (.cells #[.string ((rd_T23 l0 a1).f0), .string ((rd_T23 l0 a1).f1), .string ((rd_T23 l0 a1).f2), .string ((rd_T23 l0 a1).f3), .int .i64 ((rd_T23 l0 a1).f4), .int .i64 ((rd_T23 l0 a1).f5), .bool ((rd_T23 l0 a1).f6), .int .i64 ((rd_T23 l0 a1).f7), .bool ((rd_T23 l0 a1).f8)] 23 (0, 0))) ∧ Aside0 (Below w.heap.size w w'))
      case atStart => exact ⟨(0), Z98, H', ⟨Nat.le_refl _⟩, ⟨Z93⟩, ⟨by (with_reducible repeat (first | apply Kd.R_alloc | apply Kd.R_drewN | apply Kd.R_drew)); exact HO218.out⟩, ⟨Z88⟩, ⟨Z64⟩⟩
      case round =>
       clear H'
       try clear c1
       try clear c2
       try clear p2
       try clear q2
       try clear hx2
       try clear c3
       try clear c5
       try clear c5b0
       try clear c6
       try clear c6b0
       try clear p6
       try clear c8
       try clear c11
       try clear c11b0
       try clear c12
       try clear c12b0
       try clear c13
       try clear c13b0
       try clear c16
       try clear c18
       try clear c18b0
       try clear c18b1
       try clear c19
       try clear c19b0
       try clear c19b1
       try clear c20
       try clear p20
       try clear q20
       try clear hx20
       try clear c23
       try clear c26
       try clear c29
       try clear c30
       try clear c30b0
       try clear c30b1
       try clear c31
       try clear c33
       try clear c36
       try clear c37
       try clear hcz10_0
       try clear hcz10_1
       try clear hcz10_2
       try clear hcz10_3
       try clear hcz10_4
       try clear hcz10_5
       try clear hcz10_6
       try clear hcz10_7
       try clear hcz10_8
       try clear hcz17_0
       try clear hcz17_1
       try clear hcz17_2
       try clear hcz17_3
       try clear hcz17_4
       try clear hcz17_5
       try clear hcz17_6
       try clear hcz17_7
       try clear hcz17_8
       try clear hcz21_0
       try clear hcz21_1
       try clear hcz21_2
       try clear hcz21_3
       try clear hcz21_4
       try clear hcz21_5
       try clear hcz21_6
       try clear hcz21_7
       try clear hcz21_8
       try clear hcz22_0
       try clear hcz22_1
       try clear hcz22_2
       try clear hcz22_3
       try clear hcz22_4
       try clear hcz22_5
       try clear hcz22_6
       try clear hcz22_7
       try clear hcz22_8
       try clear hcz24_0
       try clear hcz24_1
       try clear hcz24_2
       try clear hcz24_3
       try clear hcz24_4
       try clear hcz24_5
       try clear hcz24_6
       try clear hcz24_7
       try clear hcz24_8
       try clear hcz25_0
       try clear hcz25_1
       try clear hcz25_2
       try clear hcz25_3
       try clear hcz25_4
       try clear hcz25_5
       try clear hcz25_6
       try clear hcz25_7
       try clear hcz25_8
       try clear hcz27_0
       try clear hcz27_1
       try clear hcz27_2
       try clear hcz27_3
       try clear hcz27_4
       try clear hcz27_5
       try clear hcz27_6
       try clear hcz27_7
       try clear hcz27_8
       try clear hcz28_0
       try clear hcz28_1
       try clear hcz28_2
       try clear hcz28_3
       try clear hcz28_4
       try clear hcz28_5
       try clear hcz28_6
       try clear hcz28_7
       try clear hcz28_8
       try clear hcz34_0
       try clear hcz34_1
       try clear hcz34_2
       try clear hcz34_3
       try clear hcz34_4
       try clear hcz34_5
       try clear hcz34_6
       try clear hcz34_7
       try clear hcz34_8
       try clear hcz38_0
       try clear hcz38_1
       try clear hcz38_2
       try clear hcz38_3
       try clear hcz38_4
       try clear hcz38_5
       try clear hcz38_6
       try clear hcz38_7
       try clear hcz38_8
       try clear hcz41_0
       try clear hcz41_1
       try clear hcz41_2
       try clear hcz41_3
       try clear hcz41_4
       try clear hcz41_5
       try clear hcz41_6
       try clear hcz41_7
       try clear hcz41_8
       try clear hfz10_0
       try clear hfz10_1
       try clear hfz10_2
       try clear hfz10_3
       try clear hfz10_4
       try clear hfz10_5
       try clear hfz10_6
       try clear hfz10_7
       try clear hfz10_8
       try clear hfz17_0
       try clear hfz17_1
       try clear hfz17_2
       try clear hfz17_3
       try clear hfz17_4
       try clear hfz17_5
       try clear hfz17_6
       try clear hfz17_7
       try clear hfz17_8
       try clear hfz21_0
       try clear hfz21_1
       try clear hfz21_2
       try clear hfz21_3
       try clear hfz21_4
       try clear hfz21_5
       try clear hfz21_6
       try clear hfz21_7
       try clear hfz21_8
       try clear hfz22_0
       try clear hfz22_1
       try clear hfz22_2
       try clear hfz22_3
       try clear hfz22_4
       try clear hfz22_5
       try clear hfz22_6
       try clear hfz22_7
       try clear hfz22_8
       try clear hfz24_0
       try clear hfz24_1
       try clear hfz24_2
       try clear hfz24_3
       try clear hfz24_4
       try clear hfz24_5
       try clear hfz24_6
       try clear hfz24_7
       try clear hfz24_8
       try clear hfz25_0
       try clear hfz25_1
       try clear hfz25_2
       try clear hfz25_3
       try clear hfz25_4
       try clear hfz25_5
       try clear hfz25_6
       try clear hfz25_7
       try clear hfz25_8
       try clear hfz27_0
       try clear hfz27_1
       try clear hfz27_2
       try clear hfz27_3
       try clear hfz27_4
       try clear hfz27_5
       try clear hfz27_6
       try clear hfz27_7
       try clear hfz27_8
       try clear hfz28_0
       try clear hfz28_1
       try clear hfz28_2
       try clear hfz28_3
       try clear hfz28_4
       try clear hfz28_5
       try clear hfz28_6
       try clear hfz28_7
       try clear hfz28_8
       try clear hfz34_0
       try clear hfz34_1
       try clear hfz34_2
       try clear hfz34_3
       try clear hfz34_4
       try clear hfz34_5
       try clear hfz34_6
       try clear hfz34_7
       try clear hfz34_8
       try clear hfz38_0
       try clear hfz38_1
       try clear hfz38_2
       try clear hfz38_3
       try clear hfz38_4
       try clear hfz38_5
       try clear hfz38_6
       try clear hfz38_7
       try clear hfz38_8
       try clear hfz41_0
       try clear hfz41_1
       try clear hfz41_2
       try clear hfz41_3
       try clear hfz41_4
       try clear hfz41_5
       try clear hfz41_6
       try clear hfz41_7
       try clear hfz41_8
       try clear hx204_0
       try clear hx204_1
       try clear hx204_2
       try clear hx204_3
       try clear hx204_4
       try clear hx204_5
       try clear hx204_6
       try clear hx204_7
       try clear hx204_8
       try clear hx208_0
       try clear hx208_1
       try clear hx208_2
       try clear hx208_3
       try clear hx208_4
       try clear hx208_5
       try clear hx208_6
       try clear hx208_7
       try clear hx208_8
       try clear p2
       try clear p20
       try clear p204
       try clear p208
       try clear q2
       try clear q20
       try clear q204
       try clear q208
       obtain ⟨x70_2, rfl, HA, HK2, HO_10, HO_68, BK205, HB⟩ := hrel
       cases gk with
       | zero => exact absurd HA.out (by simp [partner_hides.l1])
       | succ k2 =>
        have H := HA.out
        clear HA
        simp only [partner_hides.l1] at H
        by_cases c45 : x70_2 < (t216.length : Int)
        ·rw [if_pos c45] at H
         have c45b0 : decide (x70_2 < (t216.length : Int)) = true := decide_eq_true c45
         clear c45
         by_cases c46 : 0 ≤ x70_2
         ·rw [if_pos c46] at H
          have c46b0 : decide (0 ≤ x70_2) = true := decide_eq_true c46
          clear c46
          by_cases c47 : x70_2 < (t216.length : Int)
          ·rw [if_pos c47] at H
           have c47b0 : decide (x70_2 < (t216.length : Int)) = true := decide_eq_true c47
           clear c47
           by_cases c48 : (rd t216 x70_2) > ((rd_T23 l0 a1).f5)
           ·rw [if_pos c48] at H
            have c48b0 : decide (((rd_T23 l0 a1).f5) < (rd t216 x70_2)) = true := decide_eq_true c48
            clear c48
            obtain rfl := Option.some.inj H
            have p219 : 0 ≤ (x70_2 : Int) := of_decide_eq_true Z101
            have q219 : x70_2 < (t216.length : Int) := of_decide_eq_true Z101
            obtain ⟨ad219, e219, hx219_0⟩ := Kd.at_int (Kd.R_reads' HO_68.out).2.2 x70_2 p219 q219
            cases e219
            replace p219 := eq_true p219
            replace q219 := eq_true q219
            have hcz49_0 : wr.cell? ⟨gb205, 0, none⟩ = some (.string ((rd_T23 l0 a1).f0)) := (blk_cell BK205.out 0).trans rfl
            have hcz49_1 : wr.cell? ⟨gb205, 1, none⟩ = some (.string ((rd_T23 l0 a1).f1)) := (blk_cell BK205.out 1).trans rfl
            have hcz49_2 : wr.cell? ⟨gb205, 2, none⟩ = some (.string ((rd_T23 l0 a1).f2)) := (blk_cell BK205.out 2).trans rfl
            have hcz49_3 : wr.cell? ⟨gb205, 3, none⟩ = some (.string ((rd_T23 l0 a1).f3)) := (blk_cell BK205.out 3).trans rfl
            have hcz49_4 : wr.cell? ⟨gb205, 4, none⟩ = some (.int .i64 ((rd_T23 l0 a1).f4)) := (blk_cell BK205.out 4).trans rfl
            have hcz49_5 : wr.cell? ⟨gb205, 5, none⟩ = some (.int .i64 ((rd_T23 l0 a1).f5)) := (blk_cell BK205.out 5).trans rfl
            have hcz49_6 : wr.cell? ⟨gb205, 6, none⟩ = some (.bool ((rd_T23 l0 a1).f6)) := (blk_cell BK205.out 6).trans rfl
            have hcz49_7 : wr.cell? ⟨gb205, 7, none⟩ = some (.int .i64 ((rd_T23 l0 a1).f7)) := (blk_cell BK205.out 7).trans rfl
            have hcz49_8 : wr.cell? ⟨gb205, 8, none⟩ = some (.bool ((rd_T23 l0 a1).f8)) := (blk_cell BK205.out 8).trans rfl
            have hfz49_0 := blk_frozen BK205.out 0
            have hfz49_1 := blk_frozen BK205.out 1
            have hfz49_2 := blk_frozen BK205.out 2
            have hfz49_3 := blk_frozen BK205.out 3
            have hfz49_4 := blk_frozen BK205.out 4
            have hfz49_5 := blk_frozen BK205.out 5
            have hfz49_6 := blk_frozen BK205.out 6
            have hfz49_7 := blk_frozen BK205.out 7
            have hfz49_8 := blk_frozen BK205.out 8
            go_wp2
            repeat (go_quiet (fail); try go_wp2)
            go_ret
            exact ⟨Z66, Z64⟩
           ·rw [if_neg c48] at H
            have c48b0 : decide (((rd_T23 l0 a1).f5) < (rd t216 x70_2)) = false := decide_eq_false c48
            clear c48
            replace H := Option.bind_eq_some_iff.mp H
            obtain ⟨t221, A500, H⟩ := H
            replace H : (if t221 = x11_1 then (some false) else (partner_hides.l1 k2 t206 t207 x10_1 x11_1 t216 (t216.length : Int) (wrap64 (x70_2 + 1)) ((rd_T23 l0 a1).f0) ((rd_T23 l0 a1).f1) ((rd_T23 l0 a1).f2) ((rd_T23 l0 a1).f3) ((rd_T23 l0 a1).f4) ((rd_T23 l0 a1).f5) ((rd_T23 l0 a1).f6) ((rd_T23 l0 a1).f7) ((rd_T23 l0 a1).f8))) = some r := H
            have A50 := Aside0.mk A500
            clear A500
            by_cases c51 : t221 = x11_1
            ·rw [if_pos c51] at H
             have c51b0 : (t221 == x11_1) = true := beq_iff_eq.mpr c51
             have c51b1 : (t221 != x11_1) = false := bne_eq_false_iff_eq.mpr c51
             clear c51
             obtain rfl := Option.some.inj H
             have p219 : 0 ≤ (x70_2 : Int) := of_decide_eq_true Z101
             have q219 : x70_2 < (t216.length : Int) := of_decide_eq_true Z101
             obtain ⟨ad219, e219, hx219_0⟩ := Kd.at_int (Kd.R_reads' HO_68.out).2.2 x70_2 p219 q219
             cases e219
             replace p219 := eq_true p219
             replace q219 := eq_true q219
             have hcz52_0 : wr.cell? ⟨gb205, 0, none⟩ = some (.string ((rd_T23 l0 a1).f0)) := (blk_cell BK205.out 0).trans rfl
             have hcz52_1 : wr.cell? ⟨gb205, 1, none⟩ = some (.string ((rd_T23 l0 a1).f1)) := (blk_cell BK205.out 1).trans rfl
             have hcz52_2 : wr.cell? ⟨gb205, 2, none⟩ = some (.string ((rd_T23 l0 a1).f2)) := (blk_cell BK205.out 2).trans rfl
             have hcz52_3 : wr.cell? ⟨gb205, 3, none⟩ = some (.string ((rd_T23 l0 a1).f3)) := (blk_cell BK205.out 3).trans rfl
             have hcz52_4 : wr.cell? ⟨gb205, 4, none⟩ = some (.int .i64 ((rd_T23 l0 a1).f4)) := (blk_cell BK205.out 4).trans rfl
             have hcz52_5 : wr.cell? ⟨gb205, 5, none⟩ = some (.int .i64 ((rd_T23 l0 a1).f5)) := (blk_cell BK205.out 5).trans rfl
             have hcz52_6 : wr.cell? ⟨gb205, 6, none⟩ = some (.bool ((rd_T23 l0 a1).f6)) := (blk_cell BK205.out 6).trans rfl
             have hcz52_7 : wr.cell? ⟨gb205, 7, none⟩ = some (.int .i64 ((rd_T23 l0 a1).f7)) := (blk_cell BK205.out 7).trans rfl
             have hcz52_8 : wr.cell? ⟨gb205, 8, none⟩ = some (.bool ((rd_T23 l0 a1).f8)) := (blk_cell BK205.out 8).trans rfl
             have hfz52_0 := blk_frozen BK205.out 0
             have hfz52_1 := blk_frozen BK205.out 1
             have hfz52_2 := blk_frozen BK205.out 2
             have hfz52_3 := blk_frozen BK205.out 3
             have hfz52_4 := blk_frozen BK205.out 4
             have hfz52_5 := blk_frozen BK205.out 5
             have hfz52_6 := blk_frozen BK205.out 6
             have hfz52_7 := blk_frozen BK205.out 7
             have hfz52_8 := blk_frozen BK205.out 8
             go_wp2_with (first | ((with_reducible refine gate_dst (N := 16) rfl ?_); refine box_event ?hg (N := 16) ?hd (cs := #[.string (⟨#[]⟩ : ByteArray), .string (⟨#[]⟩ : ByteArray), .string (⟨#[]⟩ : ByteArray), .string (⟨#[]⟩ : ByteArray), .int .i64 0, .bool false]) (t := 37) ?hr ?_; (case hd => rfl); (case hg => rfl); (case hr => exact Z103); intro gb220 hg w53 hbox hb; have n0_ := Aside0.mk (Kd.R_below Z93 hb); have n1_ := Aside0.mk (Kd.R_below Z94 hb); have n2_ := Aside0.mk (blk_below (g := gb205) (o := .cells #[.string ((rd_T23 l0 a1).f0), .string ((rd_T23 l0 a1).f1), .string ((rd_T23 l0 a1).f2), .string ((rd_T23 l0 a1).f3), .int .i64 ((rd_T23 l0 a1).f4), .int .i64 ((rd_T23 l0 a1).f5), .bool ((rd_T23 l0 a1).f6), .int .i64 ((rd_T23 l0 a1).f7), .bool ((rd_T23 l0 a1).f8)] 23 (0, 0)) Z88 hb); have n3_ := Aside0.mk (below_step Z64 hb); have n4_ := Aside0.mk (hbox); have n5_ := Aside0.mk ((Z37 : w.heap.size ≤ gb220)); have n6_ := Aside0.mk ((Z37 : w.heap.size ≤ gb220)); have n7_ := Aside0.mk ((Z14 : gb205 ≠ gb220)); have n8_ := Aside0.mk ((Z15 : gb220 ≠ gb205)); clear HO_10; clear HO_68; clear BK205; clear HB; have HO_10 := n0_; have HO_68 := n1_; have BK205 := n2_; have HB := n3_; have BK220 := n4_; have GW220 := n5_; have GE220 := n6_; have NB205_220 := n7_; have NB220_205 := n8_; clear n0_ n1_ n2_ n3_ n4_ n5_ n6_ n7_ n8_; clear hb hbox hg; have hnb54 := NB220_205.out; have hnc54 := NB205_220.out; obtain ⟨hcz55_0, hcz55_1, hcz55_2, hcz55_3, hcz55_4, hcz55_5, hfz55_0, hfz55_1, hfz55_2, hfz55_3, hfz55_4, hfz55_5⟩ := bf6 BK220.out) | (go_at_call 68; (with_reducible refine (partner_find.calls k2 _ _ x10_1 ((rd_T23 l0 a1).f0) ((rd_T23 l0 a1).f1) t206 t207 (rd t216 x70_2) ((rd_T23 l0 a1).f6) t221 _ ?side1 ?side2 A50.out).mono ?_); (case side1 => exact Z9); (case side2 => exact Z104); rintro e w56 ⟨rfl, hb⟩; have n0_ := Aside0.mk (Kd.R_below Z10 hb); have n1_ := Aside0.mk (Kd.R_below Z11 hb); have n2_ := Aside0.mk (blk_below (g := gb205) (o := .cells #[.string ((rd_T23 l0 a1).f0), .string ((rd_T23 l0 a1).f1), .string ((rd_T23 l0 a1).f2), .string ((rd_T23 l0 a1).f3), .int .i64 ((rd_T23 l0 a1).f4), .int .i64 ((rd_T23 l0 a1).f5), .bool ((rd_T23 l0 a1).f6), .int .i64 ((rd_T23 l0 a1).f7), .bool ((rd_T23 l0 a1).f8)] 23 (0, 0)) Z8 hb); have n3_ := Aside0.mk (blk_below (g := gb220) (o := .cells #[.string ((rd_T23 l0 a1).f0), .string ((rd_T23 l0 a1).f1), .string t206, .string t207, .int .i64 (rd t216 x70_2), .bool ((rd_T23 l0 a1).f6)] 37 (0, 0)) Z3 hb); have n4_ := Aside0.mk (below_step Z44 hb); clear HO_10; clear HO_68; clear BK205; clear BK220; clear HB; have HO_10 := n0_; have HO_68 := n1_; have BK205 := n2_; have BK220 := n3_; have HB := n4_; clear n0_ n1_ n2_ n3_ n4_; (try clear hb); (try clear hb2); (try clear hk); (try clear hi)))
             repeat (go_quiet (first | ((with_reducible refine gate_dst (N := 16) rfl ?_); refine box_event ?hg (N := 16) ?hd (cs := #[.string (⟨#[]⟩ : ByteArray), .string (⟨#[]⟩ : ByteArray), .string (⟨#[]⟩ : ByteArray), .string (⟨#[]⟩ : ByteArray), .int .i64 0, .bool false]) (t := 37) ?hr ?_; (case hd => rfl); (case hg => rfl); (case hr => exact Z103); intro gb220 hg w53 hbox hb; have n0_ := Aside0.mk (Kd.R_below Z93 hb); have n1_ := Aside0.mk (Kd.R_below Z94 hb); have n2_ := Aside0.mk (blk_below (g := gb205) (o := .cells #[.string ((rd_T23 l0 a1).f0), .string ((rd_T23 l0 a1).f1), .string ((rd_T23 l0 a1).f2), .string ((rd_T23 l0 a1).f3), .int .i64 ((rd_T23 l0 a1).f4), .int .i64 ((rd_T23 l0 a1).f5), .bool ((rd_T23 l0 a1).f6), .int .i64 ((rd_T23 l0 a1).f7), .bool ((rd_T23 l0 a1).f8)] 23 (0, 0)) Z88 hb); have n3_ := Aside0.mk (below_step Z64 hb); have n4_ := Aside0.mk (hbox); have n5_ := Aside0.mk ((Z37 : w.heap.size ≤ gb220)); have n6_ := Aside0.mk ((Z37 : w.heap.size ≤ gb220)); have n7_ := Aside0.mk ((Z14 : gb205 ≠ gb220)); have n8_ := Aside0.mk ((Z15 : gb220 ≠ gb205)); clear HO_10; clear HO_68; clear BK205; clear HB; have HO_10 := n0_; have HO_68 := n1_; have BK205 := n2_; have HB := n3_; have BK220 := n4_; have GW220 := n5_; have GE220 := n6_; have NB205_220 := n7_; have NB220_205 := n8_; clear n0_ n1_ n2_ n3_ n4_ n5_ n6_ n7_ n8_; clear hb hbox hg; have hnb54 := NB220_205.out; have hnc54 := NB205_220.out; obtain ⟨hcz55_0, hcz55_1, hcz55_2, hcz55_3, hcz55_4, hcz55_5, hfz55_0, hfz55_1, hfz55_2, hfz55_3, hfz55_4, hfz55_5⟩ := bf6 BK220.out) | (go_at_call 68; (with_reducible refine (partner_find.calls k2 _ _ x10_1 ((rd_T23 l0 a1).f0) ((rd_T23 l0 a1).f1) t206 t207 (rd t216 x70_2) ((rd_T23 l0 a1).f6) t221 _ ?side1 ?side2 A50.out).mono ?_); (case side1 => exact Z9); (case side2 => exact Z104); rintro e w56 ⟨rfl, hb⟩; have n0_ := Aside0.mk (Kd.R_below Z10 hb); have n1_ := Aside0.mk (Kd.R_below Z11 hb); have n2_ := Aside0.mk (blk_below (g := gb205) (o := .cells #[.string ((rd_T23 l0 a1).f0), .string ((rd_T23 l0 a1).f1), .string ((rd_T23 l0 a1).f2), .string ((rd_T23 l0 a1).f3), .int .i64 ((rd_T23 l0 a1).f4), .int .i64 ((rd_T23 l0 a1).f5), .bool ((rd_T23 l0 a1).f6), .int .i64 ((rd_T23 l0 a1).f7), .bool ((rd_T23 l0 a1).f8)] 23 (0, 0)) Z8 hb); have n3_ := Aside0.mk (blk_below (g := gb220) (o := .cells #[.string ((rd_T23 l0 a1).f0), .string ((rd_T23 l0 a1).f1), .string t206, .string t207, .int .i64 (rd t216 x70_2), .bool ((rd_T23 l0 a1).f6)] 37 (0, 0)) Z3 hb); have n4_ := Aside0.mk (below_step Z44 hb); clear HO_10; clear HO_68; clear BK205; clear BK220; clear HB; have HO_10 := n0_; have HO_68 := n1_; have BK205 := n2_; have BK220 := n3_; have HB := n4_; clear n0_ n1_ n2_ n3_ n4_; (try clear hb); (try clear hb2); (try clear hk); (try clear hi))); try go_wp2_with (first | ((with_reducible refine gate_dst (N := 16) rfl ?_); refine box_event ?hg (N := 16) ?hd (cs := #[.string (⟨#[]⟩ : ByteArray), .string (⟨#[]⟩ : ByteArray), .string (⟨#[]⟩ : ByteArray), .string (⟨#[]⟩ : ByteArray), .int .i64 0, .bool false]) (t := 37) ?hr ?_; (case hd => rfl); (case hg => rfl); (case hr => exact Z103); intro gb220 hg w53 hbox hb; have n0_ := Aside0.mk (Kd.R_below Z93 hb); have n1_ := Aside0.mk (Kd.R_below Z94 hb); have n2_ := Aside0.mk (blk_below (g := gb205) (o := .cells #[.string ((rd_T23 l0 a1).f0), .string ((rd_T23 l0 a1).f1), .string ((rd_T23 l0 a1).f2), .string ((rd_T23 l0 a1).f3), .int .i64 ((rd_T23 l0 a1).f4), .int .i64 ((rd_T23 l0 a1).f5), .bool ((rd_T23 l0 a1).f6), .int .i64 ((rd_T23 l0 a1).f7), .bool ((rd_T23 l0 a1).f8)] 23 (0, 0)) Z88 hb); have n3_ := Aside0.mk (below_step Z64 hb); have n4_ := Aside0.mk (hbox); have n5_ := Aside0.mk ((Z37 : w.heap.size ≤ gb220)); have n6_ := Aside0.mk ((Z37 : w.heap.size ≤ gb220)); have n7_ := Aside0.mk ((Z14 : gb205 ≠ gb220)); have n8_ := Aside0.mk ((Z15 : gb220 ≠ gb205)); clear HO_10; clear HO_68; clear BK205; clear HB; have HO_10 := n0_; have HO_68 := n1_; have BK205 := n2_; have HB := n3_; have BK220 := n4_; have GW220 := n5_; have GE220 := n6_; have NB205_220 := n7_; have NB220_205 := n8_; clear n0_ n1_ n2_ n3_ n4_ n5_ n6_ n7_ n8_; clear hb hbox hg; have hnb54 := NB220_205.out; have hnc54 := NB205_220.out; obtain ⟨hcz55_0, hcz55_1, hcz55_2, hcz55_3, hcz55_4, hcz55_5, hfz55_0, hfz55_1, hfz55_2, hfz55_3, hfz55_4, hfz55_5⟩ := bf6 BK220.out) | (go_at_call 68; (with_reducible refine (partner_find.calls k2 _ _ x10_1 ((rd_T23 l0 a1).f0) ((rd_T23 l0 a1).f1) t206 t207 (rd t216 x70_2) ((rd_T23 l0 a1).f6) t221 _ ?side1 ?side2 A50.out).mono ?_); (case side1 => exact Z9); (case side2 => exact Z104); rintro e w56 ⟨rfl, hb⟩; have n0_ := Aside0.mk (Kd.R_below Z10 hb); have n1_ := Aside0.mk (Kd.R_below Z11 hb); have n2_ := Aside0.mk (blk_below (g := gb205) (o := .cells #[.string ((rd_T23 l0 a1).f0), .string ((rd_T23 l0 a1).f1), .string ((rd_T23 l0 a1).f2), .string ((rd_T23 l0 a1).f3), .int .i64 ((rd_T23 l0 a1).f4), .int .i64 ((rd_T23 l0 a1).f5), .bool ((rd_T23 l0 a1).f6), .int .i64 ((rd_T23 l0 a1).f7), .bool ((rd_T23 l0 a1).f8)] 23 (0, 0)) Z8 hb); have n3_ := Aside0.mk (blk_below (g := gb220) (o := .cells #[.string ((rd_T23 l0 a1).f0), .string ((rd_T23 l0 a1).f1), .string t206, .string t207, .int .i64 (rd t216 x70_2), .bool ((rd_T23 l0 a1).f6)] 37 (0, 0)) Z3 hb); have n4_ := Aside0.mk (below_step Z44 hb); clear HO_10; clear HO_68; clear BK205; clear BK220; clear HB; have HO_10 := n0_; have HO_68 := n1_; have BK205 := n2_; have BK220 := n3_; have HB := n4_; clear n0_ n1_ n2_ n3_ n4_; (try clear hb); (try clear hb2); (try clear hk); (try clear hi))))
             go_ret
             exact ⟨Z66, Z44⟩
            ·rw [if_neg c51] at H
             have c51b0 : (t221 == x11_1) = false := beq_eq_false_iff_ne.mpr c51
             have c51b1 : (t221 != x11_1) = true := bne_iff_ne.mpr c51
             have H' := Aside0.mk H
             clear H
             have p219 : 0 ≤ (x70_2 : Int) := of_decide_eq_true Z101
             have q219 : x70_2 < (t216.length : Int) := of_decide_eq_true Z101
             obtain ⟨ad219, e219, hx219_0⟩ := Kd.at_int (Kd.R_reads' HO_68.out).2.2 x70_2 p219 q219
             cases e219
             replace p219 := eq_true p219
             replace q219 := eq_true q219
             have hcz57_0 : wr.cell? ⟨gb205, 0, none⟩ = some (.string ((rd_T23 l0 a1).f0)) := (blk_cell BK205.out 0).trans rfl
             have hcz57_1 : wr.cell? ⟨gb205, 1, none⟩ = some (.string ((rd_T23 l0 a1).f1)) := (blk_cell BK205.out 1).trans rfl
             have hcz57_2 : wr.cell? ⟨gb205, 2, none⟩ = some (.string ((rd_T23 l0 a1).f2)) := (blk_cell BK205.out 2).trans rfl
             have hcz57_3 : wr.cell? ⟨gb205, 3, none⟩ = some (.string ((rd_T23 l0 a1).f3)) := (blk_cell BK205.out 3).trans rfl
             have hcz57_4 : wr.cell? ⟨gb205, 4, none⟩ = some (.int .i64 ((rd_T23 l0 a1).f4)) := (blk_cell BK205.out 4).trans rfl
             have hcz57_5 : wr.cell? ⟨gb205, 5, none⟩ = some (.int .i64 ((rd_T23 l0 a1).f5)) := (blk_cell BK205.out 5).trans rfl
             have hcz57_6 : wr.cell? ⟨gb205, 6, none⟩ = some (.bool ((rd_T23 l0 a1).f6)) := (blk_cell BK205.out 6).trans rfl
             have hcz57_7 : wr.cell? ⟨gb205, 7, none⟩ = some (.int .i64 ((rd_T23 l0 a1).f7)) := (blk_cell BK205.out 7).trans rfl
             have hcz57_8 : wr.cell? ⟨gb205, 8, none⟩ = some (.bool ((rd_T23 l0 a1).f8)) := (blk_cell BK205.out 8).trans rfl
             have hfz57_0 := blk_frozen BK205.out 0
             have hfz57_1 := blk_frozen BK205.out 1
             have hfz57_2 := blk_frozen BK205.out 2
             have hfz57_3 := blk_frozen BK205.out 3
             have hfz57_4 := blk_frozen BK205.out 4
             have hfz57_5 := blk_frozen BK205.out 5
             have hfz57_6 := blk_frozen BK205.out 6
             have hfz57_7 := blk_frozen BK205.out 7
             have hfz57_8 := blk_frozen BK205.out 8
             go_wp2_with (first | ((with_reducible refine gate_dst (N := 16) rfl ?_); refine box_event ?hg (N := 16) ?hd (cs := #[.string (⟨#[]⟩ : ByteArray), .string (⟨#[]⟩ : ByteArray), .string (⟨#[]⟩ : ByteArray), .string (⟨#[]⟩ : ByteArray), .int .i64 0, .bool false]) (t := 37) ?hr ?_; (case hd => rfl); (case hg => rfl); (case hr => exact Z103); intro gb220 hg w58 hbox hb; have n0_ := Aside0.mk (Kd.R_below Z93 hb); have n1_ := Aside0.mk (Kd.R_below Z94 hb); have n2_ := Aside0.mk (blk_below (g := gb205) (o := .cells #[.string ((rd_T23 l0 a1).f0), .string ((rd_T23 l0 a1).f1), .string ((rd_T23 l0 a1).f2), .string ((rd_T23 l0 a1).f3), .int .i64 ((rd_T23 l0 a1).f4), .int .i64 ((rd_T23 l0 a1).f5), .bool ((rd_T23 l0 a1).f6), .int .i64 ((rd_T23 l0 a1).f7), .bool ((rd_T23 l0 a1).f8)] 23 (0, 0)) Z88 hb); have n3_ := Aside0.mk (below_step Z64 hb); have n4_ := Aside0.mk (hbox); have n5_ := Aside0.mk ((Z37 : w.heap.size ≤ gb220)); have n6_ := Aside0.mk ((Z37 : w.heap.size ≤ gb220)); have n7_ := Aside0.mk ((Z14 : gb205 ≠ gb220)); have n8_ := Aside0.mk ((Z15 : gb220 ≠ gb205)); clear HO_10; clear HO_68; clear BK205; clear HB; have HO_10 := n0_; have HO_68 := n1_; have BK205 := n2_; have HB := n3_; have BK220 := n4_; have GW220 := n5_; have GE220 := n6_; have NB205_220 := n7_; have NB220_205 := n8_; clear n0_ n1_ n2_ n3_ n4_ n5_ n6_ n7_ n8_; clear hb hbox hg; have hnb59 := NB220_205.out; have hnc59 := NB205_220.out; obtain ⟨hcz60_0, hcz60_1, hcz60_2, hcz60_3, hcz60_4, hcz60_5, hfz60_0, hfz60_1, hfz60_2, hfz60_3, hfz60_4, hfz60_5⟩ := bf6 BK220.out) | (go_at_call 68; (with_reducible refine (partner_find.calls k2 _ _ x10_1 ((rd_T23 l0 a1).f0) ((rd_T23 l0 a1).f1) t206 t207 (rd t216 x70_2) ((rd_T23 l0 a1).f6) t221 _ ?side1 ?side2 A50.out).mono ?_); (case side1 => exact Z9); (case side2 => exact Z104); rintro e w61 ⟨rfl, hb⟩; have n0_ := Aside0.mk (Kd.R_below Z10 hb); have n1_ := Aside0.mk (Kd.R_below Z11 hb); have n2_ := Aside0.mk (blk_below (g := gb205) (o := .cells #[.string ((rd_T23 l0 a1).f0), .string ((rd_T23 l0 a1).f1), .string ((rd_T23 l0 a1).f2), .string ((rd_T23 l0 a1).f3), .int .i64 ((rd_T23 l0 a1).f4), .int .i64 ((rd_T23 l0 a1).f5), .bool ((rd_T23 l0 a1).f6), .int .i64 ((rd_T23 l0 a1).f7), .bool ((rd_T23 l0 a1).f8)] 23 (0, 0)) Z8 hb); have n3_ := Aside0.mk (blk_below (g := gb220) (o := .cells #[.string ((rd_T23 l0 a1).f0), .string ((rd_T23 l0 a1).f1), .string t206, .string t207, .int .i64 (rd t216 x70_2), .bool ((rd_T23 l0 a1).f6)] 37 (0, 0)) Z3 hb); have n4_ := Aside0.mk (below_step Z44 hb); clear HO_10; clear HO_68; clear BK205; clear BK220; clear HB; have HO_10 := n0_; have HO_68 := n1_; have BK205 := n2_; have BK220 := n3_; have HB := n4_; clear n0_ n1_ n2_ n3_ n4_; (try clear hb); (try clear hb2); (try clear hk); (try clear hi)))
             repeat (go_quiet (first | ((with_reducible refine gate_dst (N := 16) rfl ?_); refine box_event ?hg (N := 16) ?hd (cs := #[.string (⟨#[]⟩ : ByteArray), .string (⟨#[]⟩ : ByteArray), .string (⟨#[]⟩ : ByteArray), .string (⟨#[]⟩ : ByteArray), .int .i64 0, .bool false]) (t := 37) ?hr ?_; (case hd => rfl); (case hg => rfl); (case hr => exact Z103); intro gb220 hg w58 hbox hb; have n0_ := Aside0.mk (Kd.R_below Z93 hb); have n1_ := Aside0.mk (Kd.R_below Z94 hb); have n2_ := Aside0.mk (blk_below (g := gb205) (o := .cells #[.string ((rd_T23 l0 a1).f0), .string ((rd_T23 l0 a1).f1), .string ((rd_T23 l0 a1).f2), .string ((rd_T23 l0 a1).f3), .int .i64 ((rd_T23 l0 a1).f4), .int .i64 ((rd_T23 l0 a1).f5), .bool ((rd_T23 l0 a1).f6), .int .i64 ((rd_T23 l0 a1).f7), .bool ((rd_T23 l0 a1).f8)] 23 (0, 0)) Z88 hb); have n3_ := Aside0.mk (below_step Z64 hb); have n4_ := Aside0.mk (hbox); have n5_ := Aside0.mk ((Z37 : w.heap.size ≤ gb220)); have n6_ := Aside0.mk ((Z37 : w.heap.size ≤ gb220)); have n7_ := Aside0.mk ((Z14 : gb205 ≠ gb220)); have n8_ := Aside0.mk ((Z15 : gb220 ≠ gb205)); clear HO_10; clear HO_68; clear BK205; clear HB; have HO_10 := n0_; have HO_68 := n1_; have BK205 := n2_; have HB := n3_; have BK220 := n4_; have GW220 := n5_; have GE220 := n6_; have NB205_220 := n7_; have NB220_205 := n8_; clear n0_ n1_ n2_ n3_ n4_ n5_ n6_ n7_ n8_; clear hb hbox hg; have hnb59 := NB220_205.out; have hnc59 := NB205_220.out; obtain ⟨hcz60_0, hcz60_1, hcz60_2, hcz60_3, hcz60_4, hcz60_5, hfz60_0, hfz60_1, hfz60_2, hfz60_3, hfz60_4, hfz60_5⟩ := bf6 BK220.out) | (go_at_call 68; (with_reducible refine (partner_find.calls k2 _ _ x10_1 ((rd_T23 l0 a1).f0) ((rd_T23 l0 a1).f1) t206 t207 (rd t216 x70_2) ((rd_T23 l0 a1).f6) t221 _ ?side1 ?side2 A50.out).mono ?_); (case side1 => exact Z9); (case side2 => exact Z104); rintro e w61 ⟨rfl, hb⟩; have n0_ := Aside0.mk (Kd.R_below Z10 hb); have n1_ := Aside0.mk (Kd.R_below Z11 hb); have n2_ := Aside0.mk (blk_below (g := gb205) (o := .cells #[.string ((rd_T23 l0 a1).f0), .string ((rd_T23 l0 a1).f1), .string ((rd_T23 l0 a1).f2), .string ((rd_T23 l0 a1).f3), .int .i64 ((rd_T23 l0 a1).f4), .int .i64 ((rd_T23 l0 a1).f5), .bool ((rd_T23 l0 a1).f6), .int .i64 ((rd_T23 l0 a1).f7), .bool ((rd_T23 l0 a1).f8)] 23 (0, 0)) Z8 hb); have n3_ := Aside0.mk (blk_below (g := gb220) (o := .cells #[.string ((rd_T23 l0 a1).f0), .string ((rd_T23 l0 a1).f1), .string t206, .string t207, .int .i64 (rd t216 x70_2), .bool ((rd_T23 l0 a1).f6)] 37 (0, 0)) Z3 hb); have n4_ := Aside0.mk (below_step Z44 hb); clear HO_10; clear HO_68; clear BK205; clear BK220; clear HB; have HO_10 := n0_; have HO_68 := n1_; have BK205 := n2_; have BK220 := n3_; have HB := n4_; clear n0_ n1_ n2_ n3_ n4_; (try clear hb); (try clear hb2); (try clear hk); (try clear hi))); try go_wp2_with (first | ((with_reducible refine gate_dst (N := 16) rfl ?_); refine box_event ?hg (N := 16) ?hd (cs := #[.string (⟨#[]⟩ : ByteArray), .string (⟨#[]⟩ : ByteArray), .string (⟨#[]⟩ : ByteArray), .string (⟨#[]⟩ : ByteArray), .int .i64 0, .bool false]) (t := 37) ?hr ?_; (case hd => rfl); (case hg => rfl); (case hr => exact Z103); intro gb220 hg w58 hbox hb; have n0_ := Aside0.mk (Kd.R_below Z93 hb); have n1_ := Aside0.mk (Kd.R_below Z94 hb); have n2_ := Aside0.mk (blk_below (g := gb205) (o := .cells #[.string ((rd_T23 l0 a1).f0), .string ((rd_T23 l0 a1).f1), .string ((rd_T23 l0 a1).f2), .string ((rd_T23 l0 a1).f3), .int .i64 ((rd_T23 l0 a1).f4), .int .i64 ((rd_T23 l0 a1).f5), .bool ((rd_T23 l0 a1).f6), .int .i64 ((rd_T23 l0 a1).f7), .bool ((rd_T23 l0 a1).f8)] 23 (0, 0)) Z88 hb); have n3_ := Aside0.mk (below_step Z64 hb); have n4_ := Aside0.mk (hbox); have n5_ := Aside0.mk ((Z37 : w.heap.size ≤ gb220)); have n6_ := Aside0.mk ((Z37 : w.heap.size ≤ gb220)); have n7_ := Aside0.mk ((Z14 : gb205 ≠ gb220)); have n8_ := Aside0.mk ((Z15 : gb220 ≠ gb205)); clear HO_10; clear HO_68; clear BK205; clear HB; have HO_10 := n0_; have HO_68 := n1_; have BK205 := n2_; have HB := n3_; have BK220 := n4_; have GW220 := n5_; have GE220 := n6_; have NB205_220 := n7_; have NB220_205 := n8_; clear n0_ n1_ n2_ n3_ n4_ n5_ n6_ n7_ n8_; clear hb hbox hg; have hnb59 := NB220_205.out; have hnc59 := NB205_220.out; obtain ⟨hcz60_0, hcz60_1, hcz60_2, hcz60_3, hcz60_4, hcz60_5, hfz60_0, hfz60_1, hfz60_2, hfz60_3, hfz60_4, hfz60_5⟩ := bf6 BK220.out) | (go_at_call 68; (with_reducible refine (partner_find.calls k2 _ _ x10_1 ((rd_T23 l0 a1).f0) ((rd_T23 l0 a1).f1) t206 t207 (rd t216 x70_2) ((rd_T23 l0 a1).f6) t221 _ ?side1 ?side2 A50.out).mono ?_); (case side1 => exact Z9); (case side2 => exact Z104); rintro e w61 ⟨rfl, hb⟩; have n0_ := Aside0.mk (Kd.R_below Z10 hb); have n1_ := Aside0.mk (Kd.R_below Z11 hb); have n2_ := Aside0.mk (blk_below (g := gb205) (o := .cells #[.string ((rd_T23 l0 a1).f0), .string ((rd_T23 l0 a1).f1), .string ((rd_T23 l0 a1).f2), .string ((rd_T23 l0 a1).f3), .int .i64 ((rd_T23 l0 a1).f4), .int .i64 ((rd_T23 l0 a1).f5), .bool ((rd_T23 l0 a1).f6), .int .i64 ((rd_T23 l0 a1).f7), .bool ((rd_T23 l0 a1).f8)] 23 (0, 0)) Z8 hb); have n3_ := Aside0.mk (blk_below (g := gb220) (o := .cells #[.string ((rd_T23 l0 a1).f0), .string ((rd_T23 l0 a1).f1), .string t206, .string t207, .int .i64 (rd t216 x70_2), .bool ((rd_T23 l0 a1).f6)] 37 (0, 0)) Z3 hb); have n4_ := Aside0.mk (below_step Z44 hb); clear HO_10; clear HO_68; clear BK205; clear BK220; clear HB; have HO_10 := n0_; have HO_68 := n1_; have BK205 := n2_; have BK220 := n3_; have HB := n4_; clear n0_ n1_ n2_ n3_ n4_; (try clear hb); (try clear hb2); (try clear hk); (try clear hi))))
             go_roundg k2
             case measure => have := HK1.out; have := HK2.out; omega
             case rel => exact ⟨(wrap64 (x70_2 + 1)), Z98, H', ⟨by have := HK1.out; have := HK2.out; omega⟩, ⟨Z93⟩, ⟨Z94⟩, ⟨Z88⟩, ⟨Z44⟩⟩
          ·rw [if_neg c47] at H
           exact absurd H (by simp)
         ·rw [if_neg c46] at H
          exact absurd H (by simp)
        ·rw [if_neg c45] at H
         have c45b0 : decide (x70_2 < (t216.length : Int)) = false := decide_eq_false c45
         clear c45
         obtain rfl := Option.some.inj H
         go_wp2
         repeat (go_quiet (fail); try go_wp2)
         go_ret
         exact ⟨Z66, Z64⟩
  ·rw [if_neg c6] at H
   exact absurd H (by simp)
 ·rw [if_neg c5] at H
  exact absurd H (by simp)

end Go.Proofs.YtdlgohhecicnoaaDoor.XPartnerNeverIsNever
