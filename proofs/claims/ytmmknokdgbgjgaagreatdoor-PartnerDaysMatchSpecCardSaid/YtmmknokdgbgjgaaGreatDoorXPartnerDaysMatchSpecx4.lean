-- Walks of PartnerDaysMatchSpec: written by xprint.py out of the translation (hand-proved functions among them). Lean checks it.
import Derived.Test.YtmmknokdgbgjgaaGreatDoorXPartnerDaysMatchSpecx0
import Derived.Test.YtmmknokdgbgjgaaGreatDoorXPartnerDaysMatchSpecx2
import Derived.Test.YtmmknokdgbgjgaaGreatDoorXPartnerDaysMatchSpecx3
namespace Go.Proofs.YtmmknokdgbgjgaaGreatDoor.XPartnerDaysMatchSpec
open Go.RowKit Go.Proofs.YtmmknokdgbgjgaaGreatDoorW.PrintWords Go.Proofs.YtmmknokdgbgjgaaGreatDoorW.PrintLast Go.Proofs.YtmmknokdgbgjgaaGreatDoorW.PrintMore
attribute [local go_sem] max2_int min2_int max_two min_two max_three min_three max_four min_four   -- for this text's walks alone
set_option linter.unusedVariables false
set_option linter.unusedSimpArgs false

/-! ### r8CheckPartners: function 58 -/
mutual
def r8CheckPartners.l0 : Nat → List (S110) → List (S119) → List (S110) → Int → Int → Option (Int)
 | 0, _, _, _, _, _ => none
 | k + 1, x0, x3, x12, x13, x14 => if x14 < x13 then (if 0 ≤ x14 then (if x14 < (x12.length : Int) then ((interchangeref1_IsName.f k ((qf x12 x14).f0)).bind fun t113 => (if t113 = true then (if x14 > 0 then (if 0 ≤ (wrap64 (x14 - 1)) then (if (wrap64 (x14 - 1)) < (x0.length : Int) then (r8CheckPartners.j1 k x0 x3 x12 x13 x14 (!(Op.bytesLess (((qf x0 (wrap64 (x14 - 1))).f0).toList) (((qf x12 x14).f0).toList))) ((qf x12 x14).f0) ((qf x12 x14).f1)) else (none)) else (none)) else (r8CheckPartners.j1 k x0 x3 x12 x13 x14 false ((qf x12 x14).f0) ((qf x12 x14).f1))) else (some 5))) else (none)) else (none)) else (some 0)
def r8CheckPartners.j1 : Nat → List (S110) → List (S119) → List (S110) → Int → Int → Bool → ByteArray → List (S119) → Option (Int)
 | 0, _, _, _, _, _, _, _, _ => none
 | k + 1, x0, x3, x12, x13, x14, x24, x113000, x113001 => if x24 = true then (some 8) else (if (x113001.length : Int) > 10 then (some 2) else (r8CheckPartners.l1 k x0 x3 x12 x13 x14 x113001 (x113001.length : Int) 0))
def r8CheckPartners.l1 : Nat → List (S110) → List (S119) → List (S110) → Int → Int → List (S119) → Int → Int → Option (Int)
 | 0, _, _, _, _, _, _, _, _ => none
 | k + 1, x0, x3, x12, x13, x14, x44, x45, x46 => if x46 < x45 then (if 0 ≤ x46 then (if x46 < (x44.length : Int) then ((r8checkAddress.f k ((qk x44 x46).f0) ((qk x44 x46).f1)).bind fun t117 => (if t117 = 0 then ((api_Address_96.f k x3 ((qk x44 x46).f0) ((qk x44 x46).f1)).bind fun t118 => (if t118 = true then (some 7) else (if x3.length < 4398046511104 then (r8CheckPartners.l1 k x0 (x3 ++ [(⟨(qk x44 x46).f0, (qk x44 x46).f1⟩ : S119)]) x12 x13 x14 x44 x45 (wrap64 (x46 + 1))) else (none)))) else (some t117))) else (none)) else (none)) else (r8CheckPartners.l0 k x0 x3 x12 x13 (wrap64 (x14 + 1)))
end
def r8CheckPartners.f (k : Nat) (l0 : List (S110)) : Option (Int) := if (l0.length : Int) > 200 then (some 2) else (r8CheckPartners.l0 k l0 ([] : List (S119)) l0 (l0.length : Int) 0)
theorem r8CheckPartners.mono_l : ∀ k, (∀ y0 y1 y2 y3 y4, qv (r8CheckPartners.l0 k y0 y1 y2 y3 y4) (r8CheckPartners.l0 (k + 1) y0 y1 y2 y3 y4)) ∧ (∀ y0 y1 y2 y3 y4 y5 y6 y7, qv (r8CheckPartners.j1 k y0 y1 y2 y3 y4 y5 y6 y7) (r8CheckPartners.j1 (k + 1) y0 y1 y2 y3 y4 y5 y6 y7)) ∧ (∀ y0 y1 y2 y3 y4 y5 y6 y7, qv (r8CheckPartners.l1 k y0 y1 y2 y3 y4 y5 y6 y7) (r8CheckPartners.l1 (k + 1) y0 y1 y2 y3 y4 y5 y6 y7))
 | 0 => ⟨fun _ _ _ _ _ r h => by simp [r8CheckPartners.l0] at h, fun _ _ _ _ _ _ _ _ r h => by simp [r8CheckPartners.j1] at h, fun _ _ _ _ _ _ _ _ r h => by simp [r8CheckPartners.l1] at h⟩
 | k + 1 => by
  obtain ⟨ih0, ih1, ih2⟩ := r8CheckPartners.mono_l k
  refine ⟨?_, ?_, ?_⟩
  all_goals
   intros
   first | unfold r8CheckPartners.l0 | unfold r8CheckPartners.j1 | unfold r8CheckPartners.l1
   repeat' first
   | (with_reducible apply ih0)
   | (with_reducible apply ih1)
   | (with_reducible apply ih2)
   | (with_reducible apply api_Address_96.mono)
   | (with_reducible apply interchangeref1_IsName.mono)
   | (with_reducible apply r8checkAddress.mono)
   | (with_reducible exact qv.refl _)
   | (with_reducible exact qv.none _)
   | (with_reducible refine qv.ite ?_ ?_)
   | (with_reducible refine qv.bind ?_ (fun _ => ?_))
   | apply ih0
   | apply ih1
   | apply ih2
   | apply api_Address_96.mono
   | apply interchangeref1_IsName.mono
   | apply r8checkAddress.mono
   | exact qv.none _
   | refine qv.ite ?_ ?_
   | refine qv.bind ?_ (fun _ => ?_)
theorem r8CheckPartners.mono : ∀ a0 k, qv (r8CheckPartners.f k a0) (r8CheckPartners.f (k + 1) a0) := by
 intro a0 k
 obtain ⟨ih0, ih1, ih2⟩ := r8CheckPartners.mono_l k
 unfold r8CheckPartners.f
 repeat' first
   | (with_reducible apply ih0)
   | (with_reducible apply ih1)
   | (with_reducible apply ih2)
   | (with_reducible apply api_Address_96.mono)
   | (with_reducible apply interchangeref1_IsName.mono)
   | (with_reducible apply r8checkAddress.mono)
   | (with_reducible exact qv.refl _)
   | (with_reducible exact qv.none _)
   | (with_reducible refine qv.ite ?_ ?_)
   | (with_reducible refine qv.bind ?_ (fun _ => ?_))
   | apply ih0
   | apply ih1
   | apply ih2
   | apply api_Address_96.mono
   | apply interchangeref1_IsName.mono
   | apply r8checkAddress.mono
   | exact qv.none _
   | refine qv.ite ?_ ?_
   | refine qv.bind ?_ (fun _ => ?_)
set_option maxHeartbeats 8000000 in
set_option maxRecDepth 100000 in
theorem r8CheckPartners.calls (k : Nat) (A0 : Option Addr) (c0 : Nat) (l0 : List (S110)) (r : Int) (w : World) (hr0 : Kd.C k110 w A0 l0.length l0) (hc0 : l0.length ≤ c0) (h : r8CheckPartners.f k l0 = some r) :
  Calls Tryz.prog 58 #[.slice A0 l0.length c0] w fun e w' => e = .returned (.int .i64 r) ∧ Below w.heap.size w w' := by
 have hu110 := Tryz.underlying110
 have hu119 := Tryz.underlying119
 have HR0 := qb.mk hr0
 have HC0 := qb.mk hc0
 clear hr0 hc0
 have HB := qb.mk (Below.refl w.heap.size w)
 have H : (if (l0.length : Int) > 200 then (some 2) else (r8CheckPartners.l0 k l0 ([] : List (S119)) l0 (l0.length : Int) 0)) = some r := h
 clear h
 by_cases c2 : (l0.length : Int) > 200
 case pos =>
  rw [if_pos c2] at H
  have c2b0 : decide (200 < (l0.length : Int)) = true := decide_eq_true c2
  have c2b1 : decide (200 < l0.length) = true := decide_eq_true (by omega)
  clear c2
  obtain rfl := Option.some.inj H
  go_enter Tryz.func58, Tryz.ntmps58
  go_wp2
  repeat (go_quiet (fail); try go_wp2)
  go_ret
  exact ⟨Z97, qz⟩
 rw [if_neg c2] at H
 have c2b0 : decide (200 < (l0.length : Int)) = false := decide_eq_false c2
 have c2b1 : decide (200 < l0.length) = false := decide_eq_false (by omega)
 clear c2
 have H' := qb.mk H
 clear H
 go_enter Tryz.func58, Tryz.ntmps58
 go_wp2
 repeat (go_quiet (fail); try go_wp2)
 go_loopg [3, 14] k (fun kq v3 v14 w' => ∃ (x3_1 : List (S119)) (x14_1 : Int), v14 = .int .i64 x14_1 ∧ qb (r8CheckPartners.l0 kq l0 x3_1 l0 (l0.length : Int) x14_1 = some r) ∧ qb (kq ≤ k) ∧ qb (Kd.R k119 119 w' w.heap.size (fun _ => True) v3 x3_1) ∧ qb (Below w.heap.size w w'))
 case atStart => exact ⟨(([] : List (S119))), (0), qD, H', ⟨Nat.le_refl _⟩, ⟨Z102⟩, ⟨qz⟩⟩
 case round =>
  clear H'
  try clear c2; try clear c2b0; try clear c2b1; try clear p2
  obtain ⟨x3_1, x14_1, rfl, HA, HK1, HO_3, HB⟩ := hrel
  cases gk with
  | zero => exact absurd HA.out (by simp [r8CheckPartners.l0])
  | succ k1 =>
   have H := HA.out
   clear HA
   simp only [r8CheckPartners.l0] at H
   by_cases c3 : x14_1 < (l0.length : Int)
   case neg =>
    rw [if_neg c3] at H
    have c3b0 : decide (x14_1 < (l0.length : Int)) = false := decide_eq_false c3
    clear c3
    obtain rfl := Option.some.inj H
    go_wp2
    repeat (go_quiet (fail); try go_wp2)
    go_ret
    exact ⟨Z97, qz⟩

   rw [if_pos c3] at H
   have c3b0 : decide (x14_1 < (l0.length : Int)) = true := decide_eq_true c3
   clear c3
   by_cases c4 : 0 ≤ x14_1
   case neg =>
    rw [if_neg c4] at H
    exact absurd H (by simp)
   rw [if_pos c4] at H
   have c4b0 : decide (0 ≤ x14_1) = true := decide_eq_true c4
   clear c4
   by_cases c5 : x14_1 < (l0.length : Int)
   case neg =>
    rw [if_neg c5] at H
    exact absurd H (by simp)
   rw [if_pos c5] at H
   have c5b0 : decide (x14_1 < (l0.length : Int)) = true := decide_eq_true c5
   clear c5
   replace H := Option.bind_eq_some_iff.mp H
   obtain ⟨t113, A60, H⟩ := H
   replace H : (if t113 = true then (if x14_1 > 0 then (if 0 ≤ (wrap64 (x14_1 - 1)) then (if (wrap64 (x14_1 - 1)) < (l0.length : Int) then (r8CheckPartners.j1 k1 l0 x3_1 l0 (l0.length : Int) x14_1 (!(Op.bytesLess (((qf l0 (wrap64 (x14_1 - 1))).f0).toList) (((qf l0 x14_1).f0).toList))) ((qf l0 x14_1).f0) ((qf l0 x14_1).f1)) else (none)) else (none)) else (r8CheckPartners.j1 k1 l0 x3_1 l0 (l0.length : Int) x14_1 false ((qf l0 x14_1).f0) ((qf l0 x14_1).f1))) else (some 5)) = some r := H
   have A6 := qb.mk A60
   clear A60
   by_cases c7 : t113 = true
   case neg =>
    replace c7 := Bool.eq_false_iff.mpr c7
    subst c7
    have H1 : (some 5) = some r := by rw [if_neg (show ¬ (false = true) by decide)] at H; exact H
    clear H
    have H := H1
    clear H1
    obtain rfl := Option.some.inj H
    have p111 : 0 ≤ (x14_1 : Int) := of_decide_eq_true qB
    have q111 : x14_1 < (l0.length : Int) := of_decide_eq_true qB
    obtain ⟨ad111, A111_1, c111_1, e111, hx111_0, hx111_1, hl111_1, hi111_1⟩ := at_T110 HR0.out x14_1 p111 q111
    cases e111
    replace hx111_0 := bx HB hx111_0
    replace hx111_1 := bx HB hx111_1
    have HR111_1 := qb.mk hi111_1
    have HC111_1 := qb.mk hl111_1
    clear hi111_1 hl111_1
    replace p111 := eq_true p111
    replace q111 := eq_true q111
    go_wp2_with (first | ((with_reducible refine qi (N := 5) rfl ?_); refine qh ?hg (N := 5) ?hd (cs := #[.string (⟨#[]⟩ : ByteArray), .slice none 0 0]) (t := 110) ?hr ?_; (case hd => rfl); (case hg => rfl); (case hr => exact qC); intro gb112 hg w48 hbox hb; have n0_ := qb.mk (Kd.R_below Z131 hb); have n1_ := qb.mk (qd qz hb); have n2_ := qb.mk (hbox); have n3_ := qb.mk ((Z66 : w.heap.size ≤ gb112)); have n4_ := n3_; clear HO_3 HB; have HO_3 := n0_; have HB := n1_; have BK112 := n2_; have GW112 := n3_; have GE112 := n4_; clear n0_ n1_ n2_ n3_ n4_; clear hb hbox hg; obtain ⟨yc49_0, yc49_1, yf49_0, yf49_1⟩ := bf2 BK112.out) | (go_at_call 83; (with_reducible refine (interchangeref1_IsName.calls k1 ((qf l0 x14_1).f0) false _ A6.out).mono ?_); rintro e w' ⟨rfl, ⟨nd, rfl⟩⟩; (try first | exact ⟨rfl, _, World.drewN_drewN _ _ _⟩ | exact ⟨rfl, _, Eq.trans (World.drewN_drewN _ _ _) (congrArg (World.drewN _) (Nat.add_assoc _ _ _))⟩)))
    repeat (go_quiet (first | ((with_reducible refine qi (N := 5) rfl ?_); refine qh ?hg (N := 5) ?hd (cs := #[.string (⟨#[]⟩ : ByteArray), .slice none 0 0]) (t := 110) ?hr ?_; (case hd => rfl); (case hg => rfl); (case hr => exact qC); intro gb112 hg w48 hbox hb; have n0_ := qb.mk (Kd.R_below Z131 hb); have n1_ := qb.mk (qd qz hb); have n2_ := qb.mk (hbox); have n3_ := qb.mk ((Z66 : w.heap.size ≤ gb112)); have n4_ := n3_; clear HO_3 HB; have HO_3 := n0_; have HB := n1_; have BK112 := n2_; have GW112 := n3_; have GE112 := n4_; clear n0_ n1_ n2_ n3_ n4_; clear hb hbox hg; obtain ⟨yc49_0, yc49_1, yf49_0, yf49_1⟩ := bf2 BK112.out) | (go_at_call 83; (with_reducible refine (interchangeref1_IsName.calls k1 ((qf l0 x14_1).f0) false _ A6.out).mono ?_); rintro e w' ⟨rfl, ⟨nd, rfl⟩⟩; (try first | exact ⟨rfl, _, World.drewN_drewN _ _ _⟩ | exact ⟨rfl, _, Eq.trans (World.drewN_drewN _ _ _) (congrArg (World.drewN _) (Nat.add_assoc _ _ _))⟩))); try go_wp2_with (first | ((with_reducible refine qi (N := 5) rfl ?_); refine qh ?hg (N := 5) ?hd (cs := #[.string (⟨#[]⟩ : ByteArray), .slice none 0 0]) (t := 110) ?hr ?_; (case hd => rfl); (case hg => rfl); (case hr => exact qC); intro gb112 hg w48 hbox hb; have n0_ := qb.mk (Kd.R_below Z131 hb); have n1_ := qb.mk (qd qz hb); have n2_ := qb.mk (hbox); have n3_ := qb.mk ((Z66 : w.heap.size ≤ gb112)); have n4_ := n3_; clear HO_3 HB; have HO_3 := n0_; have HB := n1_; have BK112 := n2_; have GW112 := n3_; have GE112 := n4_; clear n0_ n1_ n2_ n3_ n4_; clear hb hbox hg; obtain ⟨yc49_0, yc49_1, yf49_0, yf49_1⟩ := bf2 BK112.out) | (go_at_call 83; (with_reducible refine (interchangeref1_IsName.calls k1 ((qf l0 x14_1).f0) false _ A6.out).mono ?_); rintro e w' ⟨rfl, ⟨nd, rfl⟩⟩; (try first | exact ⟨rfl, _, World.drewN_drewN _ _ _⟩ | exact ⟨rfl, _, Eq.trans (World.drewN_drewN _ _ _) (congrArg (World.drewN _) (Nat.add_assoc _ _ _))⟩))))
    go_ret
    exact ⟨Z97, Z69⟩
   subst c7
   have H1 : (if x14_1 > 0 then (if 0 ≤ (wrap64 (x14_1 - 1)) then (if (wrap64 (x14_1 - 1)) < (l0.length : Int) then (r8CheckPartners.j1 k1 l0 x3_1 l0 (l0.length : Int) x14_1 (!(Op.bytesLess (((qf l0 (wrap64 (x14_1 - 1))).f0).toList) (((qf l0 x14_1).f0).toList))) ((qf l0 x14_1).f0) ((qf l0 x14_1).f1)) else (none)) else (none)) else (r8CheckPartners.j1 k1 l0 x3_1 l0 (l0.length : Int) x14_1 false ((qf l0 x14_1).f0) ((qf l0 x14_1).f1))) = some r := by rw [if_pos rfl] at H; exact H
   clear H
   have H := H1
   clear H1
   have HC8 := qb.mk H
   clear H
   have p111 : 0 ≤ (x14_1 : Int) := of_decide_eq_true qB
   have q111 : x14_1 < (l0.length : Int) := of_decide_eq_true qB
   obtain ⟨ad111, A111_1, c111_1, e111, hx111_0, hx111_1, hl111_1, hi111_1⟩ := at_T110 HR0.out x14_1 p111 q111
   cases e111
   replace hx111_0 := bx HB hx111_0
   replace hx111_1 := bx HB hx111_1
   have HR111_1 := qb.mk hi111_1
   have HC111_1 := qb.mk hl111_1
   clear hi111_1 hl111_1
   replace p111 := eq_true p111
   replace q111 := eq_true q111
   go_upto_region 9 with (first | ((with_reducible refine qi (N := 5) rfl ?_); refine qh ?hg (N := 5) ?hd (cs := #[.string (⟨#[]⟩ : ByteArray), .slice none 0 0]) (t := 110) ?hr ?_; (case hd => rfl); (case hg => rfl); (case hr => exact qC); intro gb112 hg w9 hbox hb; have n0_ := qb.mk (Kd.R_below Z131 hb); have n1_ := qb.mk (qd qz hb); have n2_ := qb.mk (hbox); have n3_ := qb.mk ((Z66 : w.heap.size ≤ gb112)); have n4_ := n3_; clear HO_3 HB; have HO_3 := n0_; have HB := n1_; have BK112 := n2_; have GW112 := n3_; have GE112 := n4_; clear n0_ n1_ n2_ n3_ n4_; clear hb hbox hg; obtain ⟨yc10_0, yc10_1, yf10_0, yf10_1⟩ := bf2 BK112.out) | (go_at_call 83; (with_reducible refine (interchangeref1_IsName.calls k1 ((qf l0 x14_1).f0) true _ A6.out).mono ?_); rintro e w' ⟨rfl, ⟨nd, rfl⟩⟩; (try first | exact ⟨rfl, _, World.drewN_drewN _ _ _⟩ | exact ⟨rfl, _, Eq.trans (World.drewN_drewN _ _ _) (congrArg (World.drewN _) (Nat.add_assoc _ _ _))⟩)))
   repeat (go_quiet (first | ((with_reducible refine qi (N := 5) rfl ?_); refine qh ?hg (N := 5) ?hd (cs := #[.string (⟨#[]⟩ : ByteArray), .slice none 0 0]) (t := 110) ?hr ?_; (case hd => rfl); (case hg => rfl); (case hr => exact qC); intro gb112 hg w9 hbox hb; have n0_ := qb.mk (Kd.R_below Z131 hb); have n1_ := qb.mk (qd qz hb); have n2_ := qb.mk (hbox); have n3_ := qb.mk ((Z66 : w.heap.size ≤ gb112)); have n4_ := n3_; clear HO_3 HB; have HO_3 := n0_; have HB := n1_; have BK112 := n2_; have GW112 := n3_; have GE112 := n4_; clear n0_ n1_ n2_ n3_ n4_; clear hb hbox hg; obtain ⟨yc10_0, yc10_1, yf10_0, yf10_1⟩ := bf2 BK112.out) | (go_at_call 83; (with_reducible refine (interchangeref1_IsName.calls k1 ((qf l0 x14_1).f0) true _ A6.out).mono ?_); rintro e w' ⟨rfl, ⟨nd, rfl⟩⟩; (try first | exact ⟨rfl, _, World.drewN_drewN _ _ _⟩ | exact ⟨rfl, _, Eq.trans (World.drewN_drewN _ _ _) (congrArg (World.drewN _) (Nat.add_assoc _ _ _))⟩))); go_upto_region 9 with (first | ((with_reducible refine qi (N := 5) rfl ?_); refine qh ?hg (N := 5) ?hd (cs := #[.string (⟨#[]⟩ : ByteArray), .slice none 0 0]) (t := 110) ?hr ?_; (case hd => rfl); (case hg => rfl); (case hr => exact qC); intro gb112 hg w9 hbox hb; have n0_ := qb.mk (Kd.R_below Z131 hb); have n1_ := qb.mk (qd qz hb); have n2_ := qb.mk (hbox); have n3_ := qb.mk ((Z66 : w.heap.size ≤ gb112)); have n4_ := n3_; clear HO_3 HB; have HO_3 := n0_; have HB := n1_; have BK112 := n2_; have GW112 := n3_; have GE112 := n4_; clear n0_ n1_ n2_ n3_ n4_; clear hb hbox hg; obtain ⟨yc10_0, yc10_1, yf10_0, yf10_1⟩ := bf2 BK112.out) | (go_at_call 83; (with_reducible refine (interchangeref1_IsName.calls k1 ((qf l0 x14_1).f0) true _ A6.out).mono ?_); rintro e w' ⟨rfl, ⟨nd, rfl⟩⟩; (try first | exact ⟨rfl, _, World.drewN_drewN _ _ _⟩ | exact ⟨rfl, _, Eq.trans (World.drewN_drewN _ _ _) (congrArg (World.drewN _) (Nat.add_assoc _ _ _))⟩))))
   (try simp only [Act.put, sT, s0, s1])
   go_cut [24] (fun v24 wc => ∃ (kq : Nat) (x24_7 : Bool), v24 = .bool x24_7 ∧ qb (r8CheckPartners.j1 kq l0 x3_1 l0 (l0.length : Int) x14_1 x24_7 ((qf l0 x14_1).f0) ((qf l0 x14_1).f1) = some r) ∧ qb (kq ≤ k1) ∧ qb (Kd.R k119 119 wc w.heap.size (fun _ => True) u3 x3_1) ∧ qb (wc.heap[gb112]? = some (.cells #[.string ((qf l0 x14_1).f0), (.slice A111_1 ((qf l0 x14_1).f1).length c111_1)] 110 (0, 0))) ∧ qb (Below w.heap.size w wc))
   case first =>
    have H := HC8.out
    clear HC8
    by_cases c11 : x14_1 > 0
    case neg =>
     rw [if_neg c11] at H
     have c11b0 : decide (0 < x14_1) = false := decide_eq_false c11
     clear c11
     (first | rw [c11b0] | (simp only [qr, qt]; rw [c11b0]) | skip)
     have H' := qb.mk H
     clear H
     go_wp2
     repeat (go_quiet (fail); try go_wp2)
     go_meet
     case rel => exact ⟨_, (false), qD, H', ⟨Z139⟩, ⟨Z11⟩, ⟨Z2⟩, ⟨Z69⟩⟩
    rw [if_pos c11] at H
    have c11b0 : decide (0 < x14_1) = true := decide_eq_true c11
    clear c11
    (first | rw [c11b0] | (simp only [qr, qt]; rw [c11b0]) | skip)
    obtain ⟨ji12, hji12⟩ : ∃ j_ : Int, (wrap64 (x14_1 - 1)) = j_ := ⟨_, rfl⟩
    replace H : (if 0 ≤ (ji12) then (if (ji12) < (l0.length : Int) then (r8CheckPartners.j1 k1 l0 x3_1 l0 (l0.length : Int) x14_1 (!(Op.bytesLess (((qf l0 (ji12)).f0).toList) (((qf l0 x14_1).f0).toList))) ((qf l0 x14_1).f0) ((qf l0 x14_1).f1)) else (none)) else (none)) = some r := by first | (rw [hji12] at H; exact H) | (simp only [hji12] at H ⊢; exact H)
    have hji12w : (IntKind.i64.wrap (x14_1 - 1)) = ji12 := (qr _).trans hji12
    by_cases c13 : 0 ≤ (ji12)
    case neg =>
     rw [if_neg c13] at H
     exact absurd H (by simp)
    rw [if_pos c13] at H
    have c13b0 : decide (0 ≤ (ji12)) = true := decide_eq_true c13
    clear c13
    by_cases c14 : (ji12) < (l0.length : Int)
    case neg =>
     rw [if_neg c14] at H
     exact absurd H (by simp)
    rw [if_pos c14] at H
    have c14b0 : decide ((ji12) < (l0.length : Int)) = true := decide_eq_true c14
    clear c14
    have H' := qb.mk H
    clear H
    obtain ⟨yc15_0, yc15_1, yf15_0, yf15_1⟩ := bf2 BK112.out
    have p114 : 0 ≤ ((ji12) : Int) := of_decide_eq_true qB
    have q114 : (ji12) < (l0.length : Int) := of_decide_eq_true qB
    obtain ⟨ad114, A114_1, c114_1, e114, hx114_0, hx114_1, hl114_1, hi114_1⟩ := at_T110 HR0.out (ji12) p114 q114
    obtain rfl : ad111 = ad114 := (by injection e114)
    have hn114_0 : ad111.block ≠ gb112 := Nat.ne_of_lt (Nat.lt_of_lt_of_le (by have := World.block_lt_of_cell? _ _ hx114_0; first | rwa [add_block] at this | exact this) GW112.out)
    have hn114_1 : ad111.block ≠ gb112 := Nat.ne_of_lt (Nat.lt_of_lt_of_le (by have := World.block_lt_of_cell? _ _ hx114_0; first | rwa [add_block] at this | exact this) GW112.out)
    replace hx114_0 := bx HB hx114_0
    replace hx114_1 := bx HB hx114_1
    have HR114_1 := qb.mk hi114_1
    have HC114_1 := qb.mk hl114_1
    clear hi114_1 hl114_1
    replace hx114_0 := (cell_far (p := ⟨gb112, 0, none⟩) (by first | (rw [add_block]; exact hn114_0) | (show (Addr.add _ _).block ≠ _; rw [add_block]; exact hn114_0) | exact hn114_0) (.string ((qf l0 x14_1).f0))).trans hx114_0
    replace hx114_1 := (cell_far (p := ⟨gb112, 0, none⟩) (by first | (rw [add_block]; exact hn114_0) | (show (Addr.add _ _).block ≠ _; rw [add_block]; exact hn114_0) | exact hn114_0) (.string ((qf l0 x14_1).f0))).trans hx114_1
    replace hx114_0 := (cell_far (p := ⟨gb112, 1, none⟩) (by first | (rw [add_block]; exact hn114_1) | (show (Addr.add _ _).block ≠ _; rw [add_block]; exact hn114_1) | exact hn114_1) (.slice A111_1 ((qf l0 x14_1).f1).length c111_1)).trans hx114_0
    replace hx114_1 := (cell_far (p := ⟨gb112, 1, none⟩) (by first | (rw [add_block]; exact hn114_1) | (show (Addr.add _ _).block ≠ _; rw [add_block]; exact hn114_1) | exact hn114_1) (.slice A111_1 ((qf l0 x14_1).f1).length c111_1)).trans hx114_1
    (try have hy114_0 := fun (n_ : Nat) => (show ((((w9.drewN n_).setCell ⟨gb112, 0, none⟩ (.string ((qf l0 x14_1).f0))).setCell ⟨gb112, 1, none⟩ (.slice A111_1 ((qf l0 x14_1).f1).length c111_1))).cell? _ = some _ from hx114_0))
    (try have hy114_1 := fun (n_ : Nat) => (show ((((w9.drewN n_).setCell ⟨gb112, 0, none⟩ (.string ((qf l0 x14_1).f0))).setCell ⟨gb112, 1, none⟩ (.slice A111_1 ((qf l0 x14_1).f1).length c111_1))).cell? _ = some _ from hx114_1))
    clear hn114_0 hn114_1
    replace p114 := eq_true p114
    replace q114 := eq_true q114
    go_wp2
    repeat (go_quiet (fail); try go_wp2)
    go_meet
    case rel => exact ⟨_, (!(Op.bytesLess (((qf l0 (ji12)).f0).toList) (((qf l0 x14_1).f0).toList))), (by first | rfl | (simp; done) | (simp only [← hji12] <;> (first | rfl | simp)) | (simp [*]; done)), H', ⟨Z139⟩, ⟨Z11⟩, ⟨Z2⟩, ⟨Z69⟩⟩
   case rest =>
    clear HC8
    try clear c1; try clear p1; try clear q1; try clear hx1; try clear c2; try clear c2b0; try clear c2b1; try clear p2 p2; try clear c3; try clear c3b0; try clear c4; try clear c4b0; try clear c5; try clear c5b0; try clear p6; try clear c7; try clear c11; try clear c11b0; try clear p11; try clear q11; try clear hx11; try clear c13; try clear c13b0; try clear c14; try clear c14b0; try clear yc10_0 yc10_1 yf10_0 yf10_1; try clear yc15_0 yc15_1 yf15_0 yf15_1; try clear hx111_0; try clear hx111_1; try clear hx114_0; try clear hx114_1; try clear p111; try clear p114; try clear q111; try clear q114
    obtain ⟨kq, x24_7, rfl, HA, HJ7, HO_3, BK112, HB⟩ := hcut
    cases kq with
    | zero => exact absurd HA.out (by simp [r8CheckPartners.j1])
    | succ kj7 =>
     have H := HA.out
     clear HA
     simp only [r8CheckPartners.j1] at H
     by_cases c16 : x24_7 = true
     case pos =>
      subst c16
      have H1 : (some 8) = some r := by rw [if_pos rfl] at H; exact H
      clear H
      have H := H1
      clear H1
      obtain rfl := Option.some.inj H
      go_wp2
      repeat (go_quiet (fail); try go_wp2)
      go_ret
      exact ⟨Z97, Z69⟩
     replace c16 := Bool.eq_false_iff.mpr c16
     subst c16
     have H1 : (if (((qf l0 x14_1).f1).length : Int) > 10 then (some 2) else (r8CheckPartners.l1 kj7 l0 x3_1 l0 (l0.length : Int) x14_1 ((qf l0 x14_1).f1) (((qf l0 x14_1).f1).length : Int) 0)) = some r := by rw [if_neg (show ¬ (false = true) by decide)] at H; exact H
     clear H
     have H := H1
     clear H1
     by_cases c17 : (((qf l0 x14_1).f1).length : Int) > 10
     case pos =>
      rw [if_pos c17] at H
      have c17b0 : decide (10 < (((qf l0 x14_1).f1).length : Int)) = true := decide_eq_true c17
      have c17b1 : decide (10 < ((qf l0 x14_1).f1).length) = true := decide_eq_true (by omega)
      clear c17
      obtain rfl := Option.some.inj H
      have yc18_0 : wc.cell? ⟨gb112, 0, none⟩ = some (.string ((qf l0 x14_1).f0)) := (qc BK112.out 0).trans rfl
      have yc18_1 : wc.cell? ⟨gb112, 1, none⟩ = some (.slice A111_1 ((qf l0 x14_1).f1).length c111_1) := (qc BK112.out 1).trans rfl
      have yf18_0 := qe BK112.out 0
      have yf18_1 := qe BK112.out 1
      go_wp2
      repeat (go_quiet (fail); try go_wp2)
      go_ret
      exact ⟨Z97, Z69⟩
     rw [if_neg c17] at H
     have c17b0 : decide (10 < (((qf l0 x14_1).f1).length : Int)) = false := decide_eq_false c17
     have c17b1 : decide (10 < ((qf l0 x14_1).f1).length) = false := decide_eq_false (by omega)
     clear c17
     have H' := qb.mk H
     clear H
     have yc19_0 : wc.cell? ⟨gb112, 0, none⟩ = some (.string ((qf l0 x14_1).f0)) := (qc BK112.out 0).trans rfl
     have yc19_1 : wc.cell? ⟨gb112, 1, none⟩ = some (.slice A111_1 ((qf l0 x14_1).f1).length c111_1) := (qc BK112.out 1).trans rfl
     have yf19_0 := qe BK112.out 0
     have yf19_1 := qe BK112.out 1
     go_wp2
     repeat (go_quiet (fail); try go_wp2)
     go_loopg [3, 46] kj7 (fun kq v3 v46 w' => ∃ (x3_3 : List (S119)) (x46_3 : Int), v46 = .int .i64 x46_3 ∧ qb (r8CheckPartners.l1 kq l0 x3_3 l0 (l0.length : Int) x14_1 ((qf l0 x14_1).f1) (((qf l0 x14_1).f1).length : Int) x46_3 = some r) ∧ qb (kq ≤ kj7) ∧ qb (Kd.R k119 119 w' w.heap.size (fun _ => True) v3 x3_3) ∧ qb (w'.heap[gb112]? = some (.cells #[.string ((qf l0 x14_1).f0), (.slice A111_1 ((qf l0 x14_1).f1).length c111_1)] 110 (0, 0))) ∧ qb (Below w.heap.size w w'))
     case atStart => exact ⟨(x3_1), (0), qD, H', ⟨Nat.le_refl _⟩, ⟨Z131⟩, ⟨Z106⟩, ⟨Z69⟩⟩
     case round =>
      clear H'
      try clear c1; try clear p1 p1; try clear q1 q1; try clear hx1; try clear c2; try clear c2b0; try clear c2b1; try clear p2 p2; try clear c3; try clear c3b0; try clear c4; try clear c4b0; try clear c5; try clear c5b0; try clear p6 p6; try clear c7; try clear c11; try clear c11b0; try clear p11 p11; try clear q11 q11; try clear hx11; try clear c13; try clear c13b0; try clear c14; try clear c14b0; try clear c16; try clear c17; try clear c17b0; try clear c17b1; try clear yc10_0 yc10_1 yf10_0 yf10_1; try clear yc15_0 yc15_1 yf15_0 yf15_1; try clear yc18_0 yc18_1 yf18_0 yf18_1; try clear yc19_0 yc19_1 yf19_0 yf19_1; try clear hx111_0; try clear hx111_1; try clear hx114_0; try clear hx114_1; try clear p111; try clear p114; try clear q111; try clear q114
      obtain ⟨x3_3, x46_3, rfl, HA, HK3, HO_3, BK112, HB⟩ := hrel
      cases gk with
      | zero => exact absurd HA.out (by simp [r8CheckPartners.l1])
      | succ k3 =>
       have H := HA.out
       clear HA
       simp only [r8CheckPartners.l1] at H
       by_cases c20 : x46_3 < (((qf l0 x14_1).f1).length : Int)
       case neg =>
        rw [if_neg c20] at H
        have c20b0 : decide (x46_3 < (((qf l0 x14_1).f1).length : Int)) = false := decide_eq_false c20
        clear c20
        have H' := qb.mk H
        clear H
        go_wp2
        repeat (go_quiet (fail); try go_wp2)
        go_roundg k3
        case measure => have := HK1.out; have := HJ7.out; have := HK3.out; omega
        case rel => exact ⟨(x3_3), (wrap64 (x14_1 + 1)), qD, H', ⟨by have := HK1.out; have := HJ7.out; have := HK3.out; omega⟩, ⟨Z131⟩, ⟨Z69⟩⟩
       rw [if_pos c20] at H
       have c20b0 : decide (x46_3 < (((qf l0 x14_1).f1).length : Int)) = true := decide_eq_true c20
       clear c20
       by_cases c21 : 0 ≤ x46_3
       case neg =>
        rw [if_neg c21] at H
        exact absurd H (by simp)
       rw [if_pos c21] at H
       have c21b0 : decide (0 ≤ x46_3) = true := decide_eq_true c21
       clear c21
       by_cases c22 : x46_3 < (((qf l0 x14_1).f1).length : Int)
       case neg =>
        rw [if_neg c22] at H
        exact absurd H (by simp)
       rw [if_pos c22] at H
       have c22b0 : decide (x46_3 < (((qf l0 x14_1).f1).length : Int)) = true := decide_eq_true c22
       clear c22
       replace H := Option.bind_eq_some_iff.mp H
       obtain ⟨t117, A230, H⟩ := H
       replace H : (if t117 = 0 then ((api_Address_96.f k3 x3_3 ((qk ((qf l0 x14_1).f1) x46_3).f0) ((qk ((qf l0 x14_1).f1) x46_3).f1)).bind fun t118 => (if t118 = true then (some 7) else (if x3_3.length < 4398046511104 then (r8CheckPartners.l1 k3 l0 (x3_3 ++ [(⟨(qk ((qf l0 x14_1).f1) x46_3).f0, (qk ((qf l0 x14_1).f1) x46_3).f1⟩ : S119)]) l0 (l0.length : Int) x14_1 ((qf l0 x14_1).f1) (((qf l0 x14_1).f1).length : Int) (wrap64 (x46_3 + 1))) else (none)))) else (some t117)) = some r := H
       have A23 := qb.mk A230
       clear A230
       by_cases c24 : t117 = 0
       case neg =>
        rw [if_neg c24] at H
        have c24b0 : (t117 == 0) = false := beq_eq_false_iff_ne.mpr c24
        have c24b1 : (t117 != 0) = true := bne_iff_ne.mpr c24
        obtain rfl := Option.some.inj H
        have p115 : 0 ≤ (x46_3 : Int) := of_decide_eq_true qB
        have q115 : x46_3 < (((qf l0 x14_1).f1).length : Int) := of_decide_eq_true qB
        obtain ⟨ad115, e115, hx115_0, hx115_1⟩ := at_T119 HR111_1.out x46_3 p115 q115
        cases e115
        replace hx115_0 := bx HB hx115_0
        replace hx115_1 := bx HB hx115_1
        replace p115 := eq_true p115
        replace q115 := eq_true q115
        go_wp2_with (first | ((with_reducible refine qi (N := 7) rfl ?_); refine qh ?hg (N := 7) ?hd (cs := #[.string (⟨#[]⟩ : ByteArray), .string (⟨#[]⟩ : ByteArray)]) (t := 119) ?hr ?_; (case hd => rfl); (case hg => rfl); (case hr => exact qC); intro gb116 hg w44 hbox hb; have n0_ := qb.mk (Kd.R_below (Kd.R_elderB Z131 gb116 (Nat.le_of_eq hg.symm)) hb); have n1_ := bb BK112 hb; have n2_ := qb.mk (qd Z69 hb); have n3_ := qb.mk (hbox); have n4_ := qb.mk ((Z39 : w.heap.size ≤ gb116)); have n5_ := n4_; have n6_ := qb.mk ((Z144 : gb112 ≠ gb116)); have n7_ := qb.mk ((Z145 : gb116 ≠ gb112)); clear HO_3 BK112 HB; have HO_3 := n0_; have BK112 := n1_; have HB := n2_; have BK116 := n3_; have GW116 := n4_; have GE116 := n5_; have NB112_116 := n6_; have NB116_112 := n7_; clear n0_ n1_ n2_ n3_ n4_ n5_ n6_ n7_; clear hb hbox hg; have hnb45 := NB116_112.out; have hnc45 := NB112_116.out; obtain ⟨yc46_0, yc46_1, yf46_0, yf46_1⟩ := bf2 BK116.out) | (go_at_call 95; (with_reducible refine (r8checkAddress.calls k3 ((qk ((qf l0 x14_1).f1) x46_3).f0) ((qk ((qf l0 x14_1).f1) x46_3).f1) t117 _ A23.out).mono ?_); rintro e w47 ⟨rfl, hb⟩; have n0_ := qb.mk (Kd.R_below Z6 hb); have n1_ := qb.mk (qw (g := gb112) (o := .cells #[.string ((qf l0 x14_1).f0), .slice (some ad115) ((qf l0 x14_1).f1).length c111_1] 110 (0, 0)) Z7 hb); have n2_ := qb.mk (qw (g := gb116) (o := .cells #[.string ((qk ((qf l0 x14_1).f1) x46_3).f0), .string ((qk ((qf l0 x14_1).f1) x46_3).f1)] 119 (0, 0)) Z0 hb); have n3_ := qb.mk (qd Z47 hb); clear HO_3 BK112 BK116 HB; have HO_3 := n0_; have BK112 := n1_; have BK116 := n2_; have HB := n3_; clear n0_ n1_ n2_ n3_; (try clear hb); (try clear hb2); (try clear hk); (try clear hi)))
        repeat (go_quiet (first | ((with_reducible refine qi (N := 7) rfl ?_); refine qh ?hg (N := 7) ?hd (cs := #[.string (⟨#[]⟩ : ByteArray), .string (⟨#[]⟩ : ByteArray)]) (t := 119) ?hr ?_; (case hd => rfl); (case hg => rfl); (case hr => exact qC); intro gb116 hg w44 hbox hb; have n0_ := qb.mk (Kd.R_below (Kd.R_elderB Z131 gb116 (Nat.le_of_eq hg.symm)) hb); have n1_ := bb BK112 hb; have n2_ := qb.mk (qd Z69 hb); have n3_ := qb.mk (hbox); have n4_ := qb.mk ((Z39 : w.heap.size ≤ gb116)); have n5_ := n4_; have n6_ := qb.mk ((Z144 : gb112 ≠ gb116)); have n7_ := qb.mk ((Z145 : gb116 ≠ gb112)); clear HO_3 BK112 HB; have HO_3 := n0_; have BK112 := n1_; have HB := n2_; have BK116 := n3_; have GW116 := n4_; have GE116 := n5_; have NB112_116 := n6_; have NB116_112 := n7_; clear n0_ n1_ n2_ n3_ n4_ n5_ n6_ n7_; clear hb hbox hg; have hnb45 := NB116_112.out; have hnc45 := NB112_116.out; obtain ⟨yc46_0, yc46_1, yf46_0, yf46_1⟩ := bf2 BK116.out) | (go_at_call 95; (with_reducible refine (r8checkAddress.calls k3 ((qk ((qf l0 x14_1).f1) x46_3).f0) ((qk ((qf l0 x14_1).f1) x46_3).f1) t117 _ A23.out).mono ?_); rintro e w47 ⟨rfl, hb⟩; have n0_ := qb.mk (Kd.R_below Z6 hb); have n1_ := qb.mk (qw (g := gb112) (o := .cells #[.string ((qf l0 x14_1).f0), .slice (some ad115) ((qf l0 x14_1).f1).length c111_1] 110 (0, 0)) Z7 hb); have n2_ := qb.mk (qw (g := gb116) (o := .cells #[.string ((qk ((qf l0 x14_1).f1) x46_3).f0), .string ((qk ((qf l0 x14_1).f1) x46_3).f1)] 119 (0, 0)) Z0 hb); have n3_ := qb.mk (qd Z47 hb); clear HO_3 BK112 BK116 HB; have HO_3 := n0_; have BK112 := n1_; have BK116 := n2_; have HB := n3_; clear n0_ n1_ n2_ n3_; (try clear hb); (try clear hb2); (try clear hk); (try clear hi))); try go_wp2_with (first | ((with_reducible refine qi (N := 7) rfl ?_); refine qh ?hg (N := 7) ?hd (cs := #[.string (⟨#[]⟩ : ByteArray), .string (⟨#[]⟩ : ByteArray)]) (t := 119) ?hr ?_; (case hd => rfl); (case hg => rfl); (case hr => exact qC); intro gb116 hg w44 hbox hb; have n0_ := qb.mk (Kd.R_below (Kd.R_elderB Z131 gb116 (Nat.le_of_eq hg.symm)) hb); have n1_ := bb BK112 hb; have n2_ := qb.mk (qd Z69 hb); have n3_ := qb.mk (hbox); have n4_ := qb.mk ((Z39 : w.heap.size ≤ gb116)); have n5_ := n4_; have n6_ := qb.mk ((Z144 : gb112 ≠ gb116)); have n7_ := qb.mk ((Z145 : gb116 ≠ gb112)); clear HO_3 BK112 HB; have HO_3 := n0_; have BK112 := n1_; have HB := n2_; have BK116 := n3_; have GW116 := n4_; have GE116 := n5_; have NB112_116 := n6_; have NB116_112 := n7_; clear n0_ n1_ n2_ n3_ n4_ n5_ n6_ n7_; clear hb hbox hg; have hnb45 := NB116_112.out; have hnc45 := NB112_116.out; obtain ⟨yc46_0, yc46_1, yf46_0, yf46_1⟩ := bf2 BK116.out) | (go_at_call 95; (with_reducible refine (r8checkAddress.calls k3 ((qk ((qf l0 x14_1).f1) x46_3).f0) ((qk ((qf l0 x14_1).f1) x46_3).f1) t117 _ A23.out).mono ?_); rintro e w47 ⟨rfl, hb⟩; have n0_ := qb.mk (Kd.R_below Z6 hb); have n1_ := qb.mk (qw (g := gb112) (o := .cells #[.string ((qf l0 x14_1).f0), .slice (some ad115) ((qf l0 x14_1).f1).length c111_1] 110 (0, 0)) Z7 hb); have n2_ := qb.mk (qw (g := gb116) (o := .cells #[.string ((qk ((qf l0 x14_1).f1) x46_3).f0), .string ((qk ((qf l0 x14_1).f1) x46_3).f1)] 119 (0, 0)) Z0 hb); have n3_ := qb.mk (qd Z47 hb); clear HO_3 BK112 BK116 HB; have HO_3 := n0_; have BK112 := n1_; have BK116 := n2_; have HB := n3_; clear n0_ n1_ n2_ n3_; (try clear hb); (try clear hb2); (try clear hk); (try clear hi))))
        go_ret
        exact ⟨Z97, Z47⟩
       rw [if_pos c24] at H
       have c24b0 : (t117 == 0) = true := beq_iff_eq.mpr c24
       have c24b1 : (t117 != 0) = false := bne_eq_false_iff_eq.mpr c24
       clear c24
       replace H := Option.bind_eq_some_iff.mp H
       obtain ⟨t118, A250, H⟩ := H
       replace H : (if t118 = true then (some 7) else (if x3_3.length < 4398046511104 then (r8CheckPartners.l1 k3 l0 (x3_3 ++ [(⟨(qk ((qf l0 x14_1).f1) x46_3).f0, (qk ((qf l0 x14_1).f1) x46_3).f1⟩ : S119)]) l0 (l0.length : Int) x14_1 ((qf l0 x14_1).f1) (((qf l0 x14_1).f1).length : Int) (wrap64 (x46_3 + 1))) else (none))) = some r := H
       have A25 := qb.mk A250
       clear A250
       by_cases c26 : t118 = true
       case pos =>
        subst c26
        have H1 : (some 7) = some r := by rw [if_pos rfl] at H; exact H
        clear H
        have H := H1
        clear H1
        obtain rfl := Option.some.inj H
        have p115 : 0 ≤ (x46_3 : Int) := of_decide_eq_true qB
        have q115 : x46_3 < (((qf l0 x14_1).f1).length : Int) := of_decide_eq_true qB
        obtain ⟨ad115, e115, hx115_0, hx115_1⟩ := at_T119 HR111_1.out x46_3 p115 q115
        cases e115
        replace hx115_0 := bx HB hx115_0
        replace hx115_1 := bx HB hx115_1
        replace p115 := eq_true p115
        replace q115 := eq_true q115
        go_wp2_with (first | ((with_reducible refine qi (N := 7) rfl ?_); refine qh ?hg (N := 7) ?hd (cs := #[.string (⟨#[]⟩ : ByteArray), .string (⟨#[]⟩ : ByteArray)]) (t := 119) ?hr ?_; (case hd => rfl); (case hg => rfl); (case hr => exact qC); intro gb116 hg w27 hbox hb; have n0_ := qb.mk (Kd.R_below (Kd.R_elderB Z131 gb116 (Nat.le_of_eq hg.symm)) hb); have n1_ := bb BK112 hb; have n2_ := qb.mk (qd Z69 hb); have n3_ := qb.mk (hbox); have n4_ := qb.mk ((Z39 : w.heap.size ≤ gb116)); have n5_ := n4_; have n6_ := qb.mk ((Z144 : gb112 ≠ gb116)); have n7_ := qb.mk ((Z145 : gb116 ≠ gb112)); clear HO_3 BK112 HB; have HO_3 := n0_; have BK112 := n1_; have HB := n2_; have BK116 := n3_; have GW116 := n4_; have GE116 := n5_; have NB112_116 := n6_; have NB116_112 := n7_; clear n0_ n1_ n2_ n3_ n4_ n5_ n6_ n7_; clear hb hbox hg; have hnb28 := NB116_112.out; have hnc28 := NB112_116.out; obtain ⟨yc29_0, yc29_1, yf29_0, yf29_1⟩ := bf2 BK116.out) | (go_at_call 95; (with_reducible refine (r8checkAddress.calls k3 ((qk ((qf l0 x14_1).f1) x46_3).f0) ((qk ((qf l0 x14_1).f1) x46_3).f1) t117 _ A23.out).mono ?_); rintro e w30 ⟨rfl, hb⟩; have n0_ := qb.mk (Kd.R_below Z6 hb); have n1_ := qb.mk (qw (g := gb112) (o := .cells #[.string ((qf l0 x14_1).f0), .slice (some ad115) ((qf l0 x14_1).f1).length c111_1] 110 (0, 0)) Z7 hb); have n2_ := qb.mk (qw (g := gb116) (o := .cells #[.string ((qk ((qf l0 x14_1).f1) x46_3).f0), .string ((qk ((qf l0 x14_1).f1) x46_3).f1)] 119 (0, 0)) Z0 hb); have n3_ := qb.mk (qd Z47 hb); clear HO_3 BK112 BK116 HB; have HO_3 := n0_; have BK112 := n1_; have BK116 := n2_; have HB := n3_; clear n0_ n1_ n2_ n3_; (try clear hb); (try clear hb2); (try clear hk); (try clear hi); obtain ⟨yc31_0, yc31_1, yf31_0, yf31_1⟩ := bf2 BK116.out; obtain ⟨Ao32, co32, eo32⟩ := Kd.R_slice HO_3.out; subst eo32) | (go_at_call 96; (with_reducible refine (api_Address_96.calls k3 _ _ x3_3 ((qk ((qf l0 x14_1).f1) x46_3).f0) ((qk ((qf l0 x14_1).f1) x46_3).f1) true _ ?side1 ?side2 A25.out).mono ?_); (case side1 => exact Z65); (case side2 => exact (Kd.R_reads' HO_3.out).2.1); rintro e w33 ⟨rfl, hb⟩; have n0_ := qb.mk (Kd.R_below Z131 hb); have n1_ := bb BK112 hb; have n2_ := bb BK116 hb; have n3_ := qb.mk (qd Z47 hb); clear HO_3 BK112 BK116 HB; have HO_3 := n0_; have BK112 := n1_; have BK116 := n2_; have HB := n3_; clear n0_ n1_ n2_ n3_; (try clear hb); (try clear hb2); (try clear hk); (try clear hi)))
        repeat (go_quiet (first | ((with_reducible refine qi (N := 7) rfl ?_); refine qh ?hg (N := 7) ?hd (cs := #[.string (⟨#[]⟩ : ByteArray), .string (⟨#[]⟩ : ByteArray)]) (t := 119) ?hr ?_; (case hd => rfl); (case hg => rfl); (case hr => exact qC); intro gb116 hg w27 hbox hb; have n0_ := qb.mk (Kd.R_below (Kd.R_elderB Z131 gb116 (Nat.le_of_eq hg.symm)) hb); have n1_ := bb BK112 hb; have n2_ := qb.mk (qd Z69 hb); have n3_ := qb.mk (hbox); have n4_ := qb.mk ((Z39 : w.heap.size ≤ gb116)); have n5_ := n4_; have n6_ := qb.mk ((Z144 : gb112 ≠ gb116)); have n7_ := qb.mk ((Z145 : gb116 ≠ gb112)); clear HO_3 BK112 HB; have HO_3 := n0_; have BK112 := n1_; have HB := n2_; have BK116 := n3_; have GW116 := n4_; have GE116 := n5_; have NB112_116 := n6_; have NB116_112 := n7_; clear n0_ n1_ n2_ n3_ n4_ n5_ n6_ n7_; clear hb hbox hg; have hnb28 := NB116_112.out; have hnc28 := NB112_116.out; obtain ⟨yc29_0, yc29_1, yf29_0, yf29_1⟩ := bf2 BK116.out) | (go_at_call 95; (with_reducible refine (r8checkAddress.calls k3 ((qk ((qf l0 x14_1).f1) x46_3).f0) ((qk ((qf l0 x14_1).f1) x46_3).f1) t117 _ A23.out).mono ?_); rintro e w30 ⟨rfl, hb⟩; have n0_ := qb.mk (Kd.R_below Z6 hb); have n1_ := qb.mk (qw (g := gb112) (o := .cells #[.string ((qf l0 x14_1).f0), .slice (some ad115) ((qf l0 x14_1).f1).length c111_1] 110 (0, 0)) Z7 hb); have n2_ := qb.mk (qw (g := gb116) (o := .cells #[.string ((qk ((qf l0 x14_1).f1) x46_3).f0), .string ((qk ((qf l0 x14_1).f1) x46_3).f1)] 119 (0, 0)) Z0 hb); have n3_ := qb.mk (qd Z47 hb); clear HO_3 BK112 BK116 HB; have HO_3 := n0_; have BK112 := n1_; have BK116 := n2_; have HB := n3_; clear n0_ n1_ n2_ n3_; (try clear hb); (try clear hb2); (try clear hk); (try clear hi); obtain ⟨yc31_0, yc31_1, yf31_0, yf31_1⟩ := bf2 BK116.out; obtain ⟨Ao32, co32, eo32⟩ := Kd.R_slice HO_3.out; subst eo32) | (go_at_call 96; (with_reducible refine (api_Address_96.calls k3 _ _ x3_3 ((qk ((qf l0 x14_1).f1) x46_3).f0) ((qk ((qf l0 x14_1).f1) x46_3).f1) true _ ?side1 ?side2 A25.out).mono ?_); (case side1 => exact Z65); (case side2 => exact (Kd.R_reads' HO_3.out).2.1); rintro e w33 ⟨rfl, hb⟩; have n0_ := qb.mk (Kd.R_below Z131 hb); have n1_ := bb BK112 hb; have n2_ := bb BK116 hb; have n3_ := qb.mk (qd Z47 hb); clear HO_3 BK112 BK116 HB; have HO_3 := n0_; have BK112 := n1_; have BK116 := n2_; have HB := n3_; clear n0_ n1_ n2_ n3_; (try clear hb); (try clear hb2); (try clear hk); (try clear hi))); try go_wp2_with (first | ((with_reducible refine qi (N := 7) rfl ?_); refine qh ?hg (N := 7) ?hd (cs := #[.string (⟨#[]⟩ : ByteArray), .string (⟨#[]⟩ : ByteArray)]) (t := 119) ?hr ?_; (case hd => rfl); (case hg => rfl); (case hr => exact qC); intro gb116 hg w27 hbox hb; have n0_ := qb.mk (Kd.R_below (Kd.R_elderB Z131 gb116 (Nat.le_of_eq hg.symm)) hb); have n1_ := bb BK112 hb; have n2_ := qb.mk (qd Z69 hb); have n3_ := qb.mk (hbox); have n4_ := qb.mk ((Z39 : w.heap.size ≤ gb116)); have n5_ := n4_; have n6_ := qb.mk ((Z144 : gb112 ≠ gb116)); have n7_ := qb.mk ((Z145 : gb116 ≠ gb112)); clear HO_3 BK112 HB; have HO_3 := n0_; have BK112 := n1_; have HB := n2_; have BK116 := n3_; have GW116 := n4_; have GE116 := n5_; have NB112_116 := n6_; have NB116_112 := n7_; clear n0_ n1_ n2_ n3_ n4_ n5_ n6_ n7_; clear hb hbox hg; have hnb28 := NB116_112.out; have hnc28 := NB112_116.out; obtain ⟨yc29_0, yc29_1, yf29_0, yf29_1⟩ := bf2 BK116.out) | (go_at_call 95; (with_reducible refine (r8checkAddress.calls k3 ((qk ((qf l0 x14_1).f1) x46_3).f0) ((qk ((qf l0 x14_1).f1) x46_3).f1) t117 _ A23.out).mono ?_); rintro e w30 ⟨rfl, hb⟩; have n0_ := qb.mk (Kd.R_below Z6 hb); have n1_ := qb.mk (qw (g := gb112) (o := .cells #[.string ((qf l0 x14_1).f0), .slice (some ad115) ((qf l0 x14_1).f1).length c111_1] 110 (0, 0)) Z7 hb); have n2_ := qb.mk (qw (g := gb116) (o := .cells #[.string ((qk ((qf l0 x14_1).f1) x46_3).f0), .string ((qk ((qf l0 x14_1).f1) x46_3).f1)] 119 (0, 0)) Z0 hb); have n3_ := qb.mk (qd Z47 hb); clear HO_3 BK112 BK116 HB; have HO_3 := n0_; have BK112 := n1_; have BK116 := n2_; have HB := n3_; clear n0_ n1_ n2_ n3_; (try clear hb); (try clear hb2); (try clear hk); (try clear hi); obtain ⟨yc31_0, yc31_1, yf31_0, yf31_1⟩ := bf2 BK116.out; obtain ⟨Ao32, co32, eo32⟩ := Kd.R_slice HO_3.out; subst eo32) | (go_at_call 96; (with_reducible refine (api_Address_96.calls k3 _ _ x3_3 ((qk ((qf l0 x14_1).f1) x46_3).f0) ((qk ((qf l0 x14_1).f1) x46_3).f1) true _ ?side1 ?side2 A25.out).mono ?_); (case side1 => exact Z65); (case side2 => exact (Kd.R_reads' HO_3.out).2.1); rintro e w33 ⟨rfl, hb⟩; have n0_ := qb.mk (Kd.R_below Z131 hb); have n1_ := bb BK112 hb; have n2_ := bb BK116 hb; have n3_ := qb.mk (qd Z47 hb); clear HO_3 BK112 BK116 HB; have HO_3 := n0_; have BK112 := n1_; have BK116 := n2_; have HB := n3_; clear n0_ n1_ n2_ n3_; (try clear hb); (try clear hb2); (try clear hk); (try clear hi))))
        go_ret
        exact ⟨Z97, Z47⟩
       replace c26 := Bool.eq_false_iff.mpr c26
       subst c26
       have H1 : (if x3_3.length < 4398046511104 then (r8CheckPartners.l1 k3 l0 (x3_3 ++ [(⟨(qk ((qf l0 x14_1).f1) x46_3).f0, (qk ((qf l0 x14_1).f1) x46_3).f1⟩ : S119)]) l0 (l0.length : Int) x14_1 ((qf l0 x14_1).f1) (((qf l0 x14_1).f1).length : Int) (wrap64 (x46_3 + 1))) else (none)) = some r := by rw [if_neg (show ¬ (false = true) by decide)] at H; exact H
       clear H
       have H := H1
       clear H1
       by_cases c34 : x3_3.length < 4398046511104
       case neg =>
        rw [if_neg c34] at H
        exact absurd H (by simp)
       rw [if_pos c34] at H
       have LMc34 := qb.mk c34
       clear c34
       obtain ⟨y119, hy119⟩ : ∃ y_ : List (S119), y_ = (x3_3 ++ [(⟨(qk ((qf l0 x14_1).f1) x46_3).f0, (qk ((qf l0 x14_1).f1) x46_3).f1⟩ : S119)]) := ⟨_, rfl⟩
       replace H : (r8CheckPartners.l1 k3 l0 y119 l0 (l0.length : Int) x14_1 ((qf l0 x14_1).f1) (((qf l0 x14_1).f1).length : Int) (wrap64 (x46_3 + 1))) = some r := by first | (rw [hy119]; with_reducible exact H) | (have H2_ := (Option.bind_some _ _).symm.trans H; rw [hy119]; with_reducible exact H2_) | (have H2_ := (Option.bind_some _ _).symm.trans H; with_reducible exact H2_) | with_reducible exact H | (rw [hy119]; exact H) | exact H
       have Ny119 := qb.mk hy119
       clear hy119
       have H' := qb.mk H
       clear H
       have p115 : 0 ≤ (x46_3 : Int) := of_decide_eq_true qB
       have q115 : x46_3 < (((qf l0 x14_1).f1).length : Int) := of_decide_eq_true qB
       obtain ⟨ad115, e115, hx115_0, hx115_1⟩ := at_T119 HR111_1.out x46_3 p115 q115
       cases e115
       replace hx115_0 := bx HB hx115_0
       replace hx115_1 := bx HB hx115_1
       replace p115 := eq_true p115
       replace q115 := eq_true q115
       go_wp2_with (first | ((with_reducible refine qi (N := 7) rfl ?_); refine qh ?hg (N := 7) ?hd (cs := #[.string (⟨#[]⟩ : ByteArray), .string (⟨#[]⟩ : ByteArray)]) (t := 119) ?hr ?_; (case hd => rfl); (case hg => rfl); (case hr => exact qC); intro gb116 hg w35 hbox hb; have n0_ := qb.mk (Kd.R_below (Kd.R_elderB Z131 gb116 (Nat.le_of_eq hg.symm)) hb); have n1_ := bb BK112 hb; have n2_ := qb.mk (qd Z69 hb); have n3_ := qb.mk (hbox); have n4_ := qb.mk ((Z39 : w.heap.size ≤ gb116)); have n5_ := n4_; have n6_ := qb.mk ((Z144 : gb112 ≠ gb116)); have n7_ := qb.mk ((Z145 : gb116 ≠ gb112)); clear HO_3 BK112 HB; have HO_3 := n0_; have BK112 := n1_; have HB := n2_; have BK116 := n3_; have GW116 := n4_; have GE116 := n5_; have NB112_116 := n6_; have NB116_112 := n7_; clear n0_ n1_ n2_ n3_ n4_ n5_ n6_ n7_; clear hb hbox hg; have hnb36 := NB116_112.out; have hnc36 := NB112_116.out; obtain ⟨yc37_0, yc37_1, yf37_0, yf37_1⟩ := bf2 BK116.out) | (go_at_call 95; (with_reducible refine (r8checkAddress.calls k3 ((qk ((qf l0 x14_1).f1) x46_3).f0) ((qk ((qf l0 x14_1).f1) x46_3).f1) t117 _ A23.out).mono ?_); rintro e w38 ⟨rfl, hb⟩; have n0_ := qb.mk (Kd.R_below Z6 hb); have n1_ := qb.mk (qw (g := gb112) (o := .cells #[.string ((qf l0 x14_1).f0), .slice (some ad115) ((qf l0 x14_1).f1).length c111_1] 110 (0, 0)) Z7 hb); have n2_ := qb.mk (qw (g := gb116) (o := .cells #[.string ((qk ((qf l0 x14_1).f1) x46_3).f0), .string ((qk ((qf l0 x14_1).f1) x46_3).f1)] 119 (0, 0)) Z0 hb); have n3_ := qb.mk (qd Z47 hb); clear HO_3 BK112 BK116 HB; have HO_3 := n0_; have BK112 := n1_; have BK116 := n2_; have HB := n3_; clear n0_ n1_ n2_ n3_; (try clear hb); (try clear hb2); (try clear hk); (try clear hi); obtain ⟨yc39_0, yc39_1, yf39_0, yf39_1⟩ := bf2 BK116.out; obtain ⟨Ao40, co40, eo40⟩ := Kd.R_slice HO_3.out; subst eo40) | (go_at_call 96; (with_reducible refine (api_Address_96.calls k3 _ _ x3_3 ((qk ((qf l0 x14_1).f1) x46_3).f0) ((qk ((qf l0 x14_1).f1) x46_3).f1) false _ ?side1 ?side2 A25.out).mono ?_); (case side1 => exact Z65); (case side2 => exact (Kd.R_reads' HO_3.out).2.1); rintro e w41 ⟨rfl, hb⟩; have n0_ := qb.mk (Kd.R_below Z131 hb); have n1_ := bb BK112 hb; have n2_ := bb BK116 hb; have n3_ := qb.mk (qd Z47 hb); clear HO_3 BK112 BK116 HB; have HO_3 := n0_; have BK112 := n1_; have BK116 := n2_; have HB := n3_; clear n0_ n1_ n2_ n3_; (try clear hb); (try clear hb2); (try clear hk); (try clear hi); obtain ⟨yc42_0, yc42_1, yf42_0, yf42_1⟩ := bf2 BK116.out) | ((with_reducible refine gate_builtin (b := .append) (xs := #[.tmp 58, .tmp 60]) rfl ?_); at_builtin; refine Kd.R_append k119 (w0 := w) w.heap.size rfl (.tmp 58) (.tmp 60) 108 119 (.agg #[(.string ⟨#[]⟩), (.string ⟨#[]⟩)]) 32 rfl Tryz.underlying108 info119 rfl (by decide) (by omega) (.slice Ao40 x3_3.length co40) x3_3 (⟨(qk ((qf l0 x14_1).f1) x46_3).f0, (qk ((qf l0 x14_1).f1) x46_3).f1⟩ : S119) [.string ((qk ((qf l0 x14_1).f1) x46_3).f0), .string ((qk ((qf l0 x14_1).f1) x46_3).f1)] (fun k_ => k_ ≠ gb116) (fun _ => False) rfl rfl ?aP (fun _ hk => hk.elim) ?aF ?aO ?aB ?aS ?aL ?_; (case aP => exact k119_mkM _ _ _ (⟨(qk ((qf l0 x14_1).f1) x46_3).f0, (qk ((qf l0 x14_1).f1) x46_3).f1⟩ : S119)); (case aB => exact Z47); (case aF => exact (fun k_ hk => Kd.freshB (g := gb116) (o := .cells #[.string ((qk ((qf l0 x14_1).f1) x46_3).f0), .string ((qk ((qf l0 x14_1).f1) x46_3).f1)] 119 (0, 0)) Z107 k_ hk)); (case aO => exact Z104); (case aS => exact (qx Z47)); (case aL => have := LMc34.out; omega); intro v120 w43 ho hb hg hat; rw [← Ny119.out] at ho; have n0_ := qb.mk (blk_grown (g := gb112) (o := .cells #[.string ((qf l0 x14_1).f0), .slice (some ad115) ((qf l0 x14_1).f1).length c111_1] 110 (0, 0)) Z106 hg (Kd.R_ne HO_3.out BK112.out (by decide))); have n1_ := qb.mk (blk_grown (g := gb116) (o := .cells #[.string ((qk ((qf l0 x14_1).f1) x46_3).f0), .string ((qk ((qf l0 x14_1).f1) x46_3).f1)] 119 (0, 0)) Z107 hg (Kd.R_away HO_3.out (fun _ hk => hk.2))); have n2_ := qb.mk (hb); have n3_ := qb.mk (ho); clear BK112 BK116 HB HO_3; have BK112 := n0_; have BK116 := n1_; have HB := n2_; have HO121 := n3_; clear n0_ n1_ n2_ n3_; clear ho hb hg hat))
       repeat (go_quiet (first | ((with_reducible refine qi (N := 7) rfl ?_); refine qh ?hg (N := 7) ?hd (cs := #[.string (⟨#[]⟩ : ByteArray), .string (⟨#[]⟩ : ByteArray)]) (t := 119) ?hr ?_; (case hd => rfl); (case hg => rfl); (case hr => exact qC); intro gb116 hg w35 hbox hb; have n0_ := qb.mk (Kd.R_below (Kd.R_elderB Z131 gb116 (Nat.le_of_eq hg.symm)) hb); have n1_ := bb BK112 hb; have n2_ := qb.mk (qd Z69 hb); have n3_ := qb.mk (hbox); have n4_ := qb.mk ((Z39 : w.heap.size ≤ gb116)); have n5_ := n4_; have n6_ := qb.mk ((Z144 : gb112 ≠ gb116)); have n7_ := qb.mk ((Z145 : gb116 ≠ gb112)); clear HO_3 BK112 HB; have HO_3 := n0_; have BK112 := n1_; have HB := n2_; have BK116 := n3_; have GW116 := n4_; have GE116 := n5_; have NB112_116 := n6_; have NB116_112 := n7_; clear n0_ n1_ n2_ n3_ n4_ n5_ n6_ n7_; clear hb hbox hg; have hnb36 := NB116_112.out; have hnc36 := NB112_116.out; obtain ⟨yc37_0, yc37_1, yf37_0, yf37_1⟩ := bf2 BK116.out) | (go_at_call 95; (with_reducible refine (r8checkAddress.calls k3 ((qk ((qf l0 x14_1).f1) x46_3).f0) ((qk ((qf l0 x14_1).f1) x46_3).f1) t117 _ A23.out).mono ?_); rintro e w38 ⟨rfl, hb⟩; have n0_ := qb.mk (Kd.R_below Z6 hb); have n1_ := qb.mk (qw (g := gb112) (o := .cells #[.string ((qf l0 x14_1).f0), .slice (some ad115) ((qf l0 x14_1).f1).length c111_1] 110 (0, 0)) Z7 hb); have n2_ := qb.mk (qw (g := gb116) (o := .cells #[.string ((qk ((qf l0 x14_1).f1) x46_3).f0), .string ((qk ((qf l0 x14_1).f1) x46_3).f1)] 119 (0, 0)) Z0 hb); have n3_ := qb.mk (qd Z47 hb); clear HO_3 BK112 BK116 HB; have HO_3 := n0_; have BK112 := n1_; have BK116 := n2_; have HB := n3_; clear n0_ n1_ n2_ n3_; (try clear hb); (try clear hb2); (try clear hk); (try clear hi); obtain ⟨yc39_0, yc39_1, yf39_0, yf39_1⟩ := bf2 BK116.out; obtain ⟨Ao40, co40, eo40⟩ := Kd.R_slice HO_3.out; subst eo40) | (go_at_call 96; (with_reducible refine (api_Address_96.calls k3 _ _ x3_3 ((qk ((qf l0 x14_1).f1) x46_3).f0) ((qk ((qf l0 x14_1).f1) x46_3).f1) false _ ?side1 ?side2 A25.out).mono ?_); (case side1 => exact Z65); (case side2 => exact (Kd.R_reads' HO_3.out).2.1); rintro e w41 ⟨rfl, hb⟩; have n0_ := qb.mk (Kd.R_below Z131 hb); have n1_ := bb BK112 hb; have n2_ := bb BK116 hb; have n3_ := qb.mk (qd Z47 hb); clear HO_3 BK112 BK116 HB; have HO_3 := n0_; have BK112 := n1_; have BK116 := n2_; have HB := n3_; clear n0_ n1_ n2_ n3_; (try clear hb); (try clear hb2); (try clear hk); (try clear hi); obtain ⟨yc42_0, yc42_1, yf42_0, yf42_1⟩ := bf2 BK116.out) | ((with_reducible refine gate_builtin (b := .append) (xs := #[.tmp 58, .tmp 60]) rfl ?_); at_builtin; refine Kd.R_append k119 (w0 := w) w.heap.size rfl (.tmp 58) (.tmp 60) 108 119 (.agg #[(.string ⟨#[]⟩), (.string ⟨#[]⟩)]) 32 rfl Tryz.underlying108 info119 rfl (by decide) (by omega) (.slice Ao40 x3_3.length co40) x3_3 (⟨(qk ((qf l0 x14_1).f1) x46_3).f0, (qk ((qf l0 x14_1).f1) x46_3).f1⟩ : S119) [.string ((qk ((qf l0 x14_1).f1) x46_3).f0), .string ((qk ((qf l0 x14_1).f1) x46_3).f1)] (fun k_ => k_ ≠ gb116) (fun _ => False) rfl rfl ?aP (fun _ hk => hk.elim) ?aF ?aO ?aB ?aS ?aL ?_; (case aP => exact k119_mkM _ _ _ (⟨(qk ((qf l0 x14_1).f1) x46_3).f0, (qk ((qf l0 x14_1).f1) x46_3).f1⟩ : S119)); (case aB => exact Z47); (case aF => exact (fun k_ hk => Kd.freshB (g := gb116) (o := .cells #[.string ((qk ((qf l0 x14_1).f1) x46_3).f0), .string ((qk ((qf l0 x14_1).f1) x46_3).f1)] 119 (0, 0)) Z107 k_ hk)); (case aO => exact Z104); (case aS => exact (qx Z47)); (case aL => have := LMc34.out; omega); intro v120 w43 ho hb hg hat; rw [← Ny119.out] at ho; have n0_ := qb.mk (blk_grown (g := gb112) (o := .cells #[.string ((qf l0 x14_1).f0), .slice (some ad115) ((qf l0 x14_1).f1).length c111_1] 110 (0, 0)) Z106 hg (Kd.R_ne HO_3.out BK112.out (by decide))); have n1_ := qb.mk (blk_grown (g := gb116) (o := .cells #[.string ((qk ((qf l0 x14_1).f1) x46_3).f0), .string ((qk ((qf l0 x14_1).f1) x46_3).f1)] 119 (0, 0)) Z107 hg (Kd.R_away HO_3.out (fun _ hk => hk.2))); have n2_ := qb.mk (hb); have n3_ := qb.mk (ho); clear BK112 BK116 HB HO_3; have BK112 := n0_; have BK116 := n1_; have HB := n2_; have HO121 := n3_; clear n0_ n1_ n2_ n3_; clear ho hb hg hat)); try go_wp2_with (first | ((with_reducible refine qi (N := 7) rfl ?_); refine qh ?hg (N := 7) ?hd (cs := #[.string (⟨#[]⟩ : ByteArray), .string (⟨#[]⟩ : ByteArray)]) (t := 119) ?hr ?_; (case hd => rfl); (case hg => rfl); (case hr => exact qC); intro gb116 hg w35 hbox hb; have n0_ := qb.mk (Kd.R_below (Kd.R_elderB Z131 gb116 (Nat.le_of_eq hg.symm)) hb); have n1_ := bb BK112 hb; have n2_ := qb.mk (qd Z69 hb); have n3_ := qb.mk (hbox); have n4_ := qb.mk ((Z39 : w.heap.size ≤ gb116)); have n5_ := n4_; have n6_ := qb.mk ((Z144 : gb112 ≠ gb116)); have n7_ := qb.mk ((Z145 : gb116 ≠ gb112)); clear HO_3 BK112 HB; have HO_3 := n0_; have BK112 := n1_; have HB := n2_; have BK116 := n3_; have GW116 := n4_; have GE116 := n5_; have NB112_116 := n6_; have NB116_112 := n7_; clear n0_ n1_ n2_ n3_ n4_ n5_ n6_ n7_; clear hb hbox hg; have hnb36 := NB116_112.out; have hnc36 := NB112_116.out; obtain ⟨yc37_0, yc37_1, yf37_0, yf37_1⟩ := bf2 BK116.out) | (go_at_call 95; (with_reducible refine (r8checkAddress.calls k3 ((qk ((qf l0 x14_1).f1) x46_3).f0) ((qk ((qf l0 x14_1).f1) x46_3).f1) t117 _ A23.out).mono ?_); rintro e w38 ⟨rfl, hb⟩; have n0_ := qb.mk (Kd.R_below Z6 hb); have n1_ := qb.mk (qw (g := gb112) (o := .cells #[.string ((qf l0 x14_1).f0), .slice (some ad115) ((qf l0 x14_1).f1).length c111_1] 110 (0, 0)) Z7 hb); have n2_ := qb.mk (qw (g := gb116) (o := .cells #[.string ((qk ((qf l0 x14_1).f1) x46_3).f0), .string ((qk ((qf l0 x14_1).f1) x46_3).f1)] 119 (0, 0)) Z0 hb); have n3_ := qb.mk (qd Z47 hb); clear HO_3 BK112 BK116 HB; have HO_3 := n0_; have BK112 := n1_; have BK116 := n2_; have HB := n3_; clear n0_ n1_ n2_ n3_; (try clear hb); (try clear hb2); (try clear hk); (try clear hi); obtain ⟨yc39_0, yc39_1, yf39_0, yf39_1⟩ := bf2 BK116.out; obtain ⟨Ao40, co40, eo40⟩ := Kd.R_slice HO_3.out; subst eo40) | (go_at_call 96; (with_reducible refine (api_Address_96.calls k3 _ _ x3_3 ((qk ((qf l0 x14_1).f1) x46_3).f0) ((qk ((qf l0 x14_1).f1) x46_3).f1) false _ ?side1 ?side2 A25.out).mono ?_); (case side1 => exact Z65); (case side2 => exact (Kd.R_reads' HO_3.out).2.1); rintro e w41 ⟨rfl, hb⟩; have n0_ := qb.mk (Kd.R_below Z131 hb); have n1_ := bb BK112 hb; have n2_ := bb BK116 hb; have n3_ := qb.mk (qd Z47 hb); clear HO_3 BK112 BK116 HB; have HO_3 := n0_; have BK112 := n1_; have BK116 := n2_; have HB := n3_; clear n0_ n1_ n2_ n3_; (try clear hb); (try clear hb2); (try clear hk); (try clear hi); obtain ⟨yc42_0, yc42_1, yf42_0, yf42_1⟩ := bf2 BK116.out) | ((with_reducible refine gate_builtin (b := .append) (xs := #[.tmp 58, .tmp 60]) rfl ?_); at_builtin; refine Kd.R_append k119 (w0 := w) w.heap.size rfl (.tmp 58) (.tmp 60) 108 119 (.agg #[(.string ⟨#[]⟩), (.string ⟨#[]⟩)]) 32 rfl Tryz.underlying108 info119 rfl (by decide) (by omega) (.slice Ao40 x3_3.length co40) x3_3 (⟨(qk ((qf l0 x14_1).f1) x46_3).f0, (qk ((qf l0 x14_1).f1) x46_3).f1⟩ : S119) [.string ((qk ((qf l0 x14_1).f1) x46_3).f0), .string ((qk ((qf l0 x14_1).f1) x46_3).f1)] (fun k_ => k_ ≠ gb116) (fun _ => False) rfl rfl ?aP (fun _ hk => hk.elim) ?aF ?aO ?aB ?aS ?aL ?_; (case aP => exact k119_mkM _ _ _ (⟨(qk ((qf l0 x14_1).f1) x46_3).f0, (qk ((qf l0 x14_1).f1) x46_3).f1⟩ : S119)); (case aB => exact Z47); (case aF => exact (fun k_ hk => Kd.freshB (g := gb116) (o := .cells #[.string ((qk ((qf l0 x14_1).f1) x46_3).f0), .string ((qk ((qf l0 x14_1).f1) x46_3).f1)] 119 (0, 0)) Z107 k_ hk)); (case aO => exact Z104); (case aS => exact (qx Z47)); (case aL => have := LMc34.out; omega); intro v120 w43 ho hb hg hat; rw [← Ny119.out] at ho; have n0_ := qb.mk (blk_grown (g := gb112) (o := .cells #[.string ((qf l0 x14_1).f0), .slice (some ad115) ((qf l0 x14_1).f1).length c111_1] 110 (0, 0)) Z106 hg (Kd.R_ne HO_3.out BK112.out (by decide))); have n1_ := qb.mk (blk_grown (g := gb116) (o := .cells #[.string ((qk ((qf l0 x14_1).f1) x46_3).f0), .string ((qk ((qf l0 x14_1).f1) x46_3).f1)] 119 (0, 0)) Z107 hg (Kd.R_away HO_3.out (fun _ hk => hk.2))); have n2_ := qb.mk (hb); have n3_ := qb.mk (ho); clear BK112 BK116 HB HO_3; have BK112 := n0_; have BK116 := n1_; have HB := n2_; have HO121 := n3_; clear n0_ n1_ n2_ n3_; clear ho hb hg hat)))
       go_roundg k3
       case measure => have := HK1.out; have := HJ7.out; have := HK3.out; omega
       case rel => exact ⟨(y119), (wrap64 (x46_3 + 1)), qD, H', ⟨by have := HK1.out; have := HJ7.out; have := HK3.out; omega⟩, ⟨by (with_reducible repeat (first | apply Kd.R_alloc | apply Kd.R_drewN | apply Kd.R_drew)); exact Kd.R_mono HO121.out (fun _ hk => trivial)⟩, ⟨Z106⟩, ⟨Z47⟩⟩
/-! ### r8isAny: function 97 -/
def r8isAny.f (k : Nat) (a0 : ByteArray) : Option (Bool) := if a0.toList = ([] : List UInt8) then (some true) else ((interchangeref1_IsName.f k a0).bind fun t122 => (some t122))
theorem r8isAny.mono : ∀ a0 k, qv (r8isAny.f k a0) (r8isAny.f (k + 1) a0) := by
 intro a0 k
 unfold r8isAny.f
 repeat' first
   | (with_reducible apply interchangeref1_IsName.mono)
   | (with_reducible exact qv.refl _)
   | (with_reducible exact qv.none _)
   | (with_reducible refine qv.ite ?_ ?_)
   | (with_reducible refine qv.bind ?_ (fun _ => ?_))
   | apply interchangeref1_IsName.mono
   | exact qv.none _
   | refine qv.ite ?_ ?_
   | refine qv.bind ?_ (fun _ => ?_)
set_option maxHeartbeats 8000000 in
set_option maxRecDepth 100000 in
theorem r8isAny.calls (k : Nat) (a0 : ByteArray) (r : Bool) (w : World) (h : r8isAny.f k a0 = some r) :
  Calls Tryz.prog 97 #[.string a0] w fun e w' => e = .returned (.bool r) ∧ Drawn0 w w' := by
 have H : (if a0.toList = ([] : List UInt8) then (some true) else ((interchangeref1_IsName.f k a0).bind fun t122 => (some t122))) = some r := h
 clear h
 by_cases c2 : a0.toList = ([] : List UInt8)
 case pos =>
  rw [if_pos c2] at H
  have c2b0 : (a0.toList == ([] : List UInt8)) = true := beq_iff_eq.mpr c2
  have c2b1 : (a0.toList != ([] : List UInt8)) = false := bne_eq_false_iff_eq.mpr c2
  clear c2
  obtain rfl := Option.some.inj H
  go_enter Tryz.func97, Tryz.ntmps97
  go_wp2
  go_ret
  exact ⟨Z141, Z138⟩
 rw [if_neg c2] at H
 have c2b0 : (a0.toList == ([] : List UInt8)) = false := beq_eq_false_iff_ne.mpr c2
 have c2b1 : (a0.toList != ([] : List UInt8)) = true := bne_iff_ne.mpr c2
 replace H := Option.bind_eq_some_iff.mp H
 obtain ⟨t122, A30, H⟩ := H
 replace H : (some t122) = some r := H
 have A3 := qb.mk A30
 clear A30
 obtain rfl := Option.some.inj H
 go_enter Tryz.func97, Tryz.ntmps97
 go_wp2_with (first | (go_at_call 83; (with_reducible refine (interchangeref1_IsName.calls k a0 t122 _ A3.out).mono ?_); rintro e w' ⟨rfl, ⟨nd, rfl⟩⟩))
 go_ret
 exact ⟨Z141, Z138⟩

/-! ### interchangeref1_within: function 168 -/
def interchangeref1_within.f (a0 : Int) (a1 : Int) (a2 : Int) : Option (Bool) := if a1 ≤ a0 then (some (decide (a0 ≤ a2))) else (some false)
set_option maxHeartbeats 8000000 in
set_option maxRecDepth 100000 in
theorem interchangeref1_within.calls (a0 : Int) (a1 : Int) (a2 : Int) (r : Bool) (w : World) (h : interchangeref1_within.f a0 a1 a2 = some r) :
  Calls Tryz.prog 168 #[.int .i64 a0, .int .i64 a1, .int .i64 a2] w fun e w' => e = .returned (.bool r) ∧ Drawn0 w w' := by
 have H : (if a1 ≤ a0 then (some (decide (a0 ≤ a2))) else (some false)) = some r := h
 clear h
 by_cases c4 : a1 ≤ a0
 case pos =>
  rw [if_pos c4] at H
  have c4b0 : decide (a1 ≤ a0) = true := decide_eq_true c4
  clear c4
  obtain rfl := Option.some.inj H
  go_enter Tryz.func168, Tryz.ntmps168
  go_wp2
  go_ret
  exact ⟨Z141, Z138⟩
 rw [if_neg c4] at H
 have c4b0 : decide (a1 ≤ a0) = false := decide_eq_false c4
 clear c4
 obtain rfl := Option.some.inj H
 go_enter Tryz.func168, Tryz.ntmps168
 go_wp2
 go_ret
 exact ⟨Z141, Z138⟩

/-! ### interchangeref1_isDay: function 142 -/
def interchangeref1_isDay.f (a0 : Int) : Option (Bool) := (interchangeref1_within.f a0 1 3652059).bind fun t123 => (some t123)
set_option maxHeartbeats 8000000 in
set_option maxRecDepth 100000 in
theorem interchangeref1_isDay.calls (a0 : Int) (r : Bool) (w : World) (h : interchangeref1_isDay.f a0 = some r) :
  Calls Tryz.prog 142 #[.int .i64 a0] w fun e w' => e = .returned (.bool r) ∧ Drawn0 w w' := by
 have H : ((interchangeref1_within.f a0 1 3652059).bind fun t123 => (some t123)) = some r := h
 clear h
 replace H := Option.bind_eq_some_iff.mp H
 obtain ⟨t123, A20, H⟩ := H
 replace H : (some t123) = some r := H
 have A2 := qb.mk A20
 clear A20
 obtain rfl := Option.some.inj H
 go_enter Tryz.func142, Tryz.ntmps142
 go_wp2_with (first | ((with_reducible refine qg (f := 168) rfl ?_); refine goesL_ (some 4) rfl rfl Tryz.func168 (by kernel_rfl) rfl #[.int .i64 a0, .int .i64 1, .int .i64 3652059] rfl Z61 ?_; (with_reducible refine (interchangeref1_within.calls a0 1 3652059 t123 _ A2.out).mono ?_); rintro e w' ⟨rfl, ⟨nd, rfl⟩⟩; refine ⟨_, rfl, ?_⟩))
 go_ret
 exact ⟨Z141, Z138⟩

/-! ### interchangeref1_IsDay: function 98 -/
def interchangeref1_IsDay.f (a0 : Int) : Option (Bool) := (interchangeref1_isDay.f a0).bind fun t124 => (some t124)
set_option maxHeartbeats 8000000 in
set_option maxRecDepth 100000 in
theorem interchangeref1_IsDay.calls (a0 : Int) (r : Bool) (w : World) (h : interchangeref1_IsDay.f a0 = some r) :
  Calls Tryz.prog 98 #[.int .i64 a0] w fun e w' => e = .returned (.bool r) ∧ Drawn0 w w' := by
 have H : ((interchangeref1_isDay.f a0).bind fun t124 => (some t124)) = some r := h
 clear h
 replace H := Option.bind_eq_some_iff.mp H
 obtain ⟨t124, A20, H⟩ := H
 replace H : (some t124) = some r := H
 have A2 := qb.mk A20
 clear A20
 obtain rfl := Option.some.inj H
 go_enter Tryz.func98, Tryz.ntmps98
 go_wp2_with (first | ((with_reducible refine qg (f := 142) rfl ?_); refine goesL_ (some 4) rfl rfl Tryz.func142 (by kernel_rfl) rfl #[.int .i64 a0] rfl Z61 ?_; (with_reducible refine (interchangeref1_isDay.calls a0 t124 _ A2.out).mono ?_); rintro e w' ⟨rfl, ⟨nd, rfl⟩⟩; refine ⟨_, rfl, ?_⟩))
 go_ret
 exact ⟨Z141, Z138⟩

end Go.Proofs.YtmmknokdgbgjgaaGreatDoor.XPartnerDaysMatchSpec
