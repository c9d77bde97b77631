-- Walks of PartnerDaysMatchSpec: written by xprint.py out of the translation (hand-proved functions among them). Lean checks it.
import Derived.Test.YtmmknokdgbgjgaaGreatDoorXPartnerDaysMatchSpecx0
import Derived.Test.YtmmknokdgbgjgaaGreatDoorXPartnerDaysMatchSpecx2
import Derived.Test.YtmmknokdgbgjgaaGreatDoorXPartnerDaysMatchSpecx8
import Derived.Test.YtmmknokdgbgjgaaGreatDoorXPartnerDaysMatchSpecx9
import Derived.Test.YtmmknokdgbgjgaaGreatDoorXPartnerDaysMatchSpecx16
namespace Go.Proofs.YtmmknokdgbgjgaaGreatDoor.XPartnerDaysMatchSpec
open Go.RowKit Go.Proofs.YtmmknokdgbgjgaaGreatDoorW.PrintWords Go.Proofs.YtmmknokdgbgjgaaGreatDoorW.PrintLast Go.Proofs.YtmmknokdgbgjgaaGreatDoorW.PrintMore
attribute [local go_sem] max2_int min2_int max_two min_two max_three min_three max_four min_four   -- for this text's walks alone
set_option linter.unusedVariables false
set_option linter.unusedSimpArgs false

/-! ### r8isFound: function 26 -/
mutual
def r8isFound.l0 : Nat → List (S53) → Int → List ByteArray → List ByteArray → List (S53) → Int → Int → ByteArray → ByteArray → ByteArray → ByteArray → Int → Int → Bool → Int → Bool → Option (Bool)
 | 0, _, _, _, _, _, _, _, _, _, _, _, _, _, _, _, _ => none
 | k + 1, x0, x1, x6, x7, x21, x22, x23, x304000, x304001, x304002, x304003, x304004, x304005, x304006, x304007, x304008 => if x23 < x22 then (if 0 ≤ x23 then (if x23 < (x21.length : Int) then ((some (([(qa x21 x23).f2] : List ByteArray) : List ByteArray)).bind fun y306 => (if x6.length + y306.length < 8796093022208 then ((some (([(qa x21 x23).f3] : List ByteArray) : List ByteArray)).bind fun y312 => (if x7.length + y312.length < 8796093022208 then (r8isFound.l0 k x0 x1 (x6 ++ y306) (x7 ++ y312) x21 x22 (wrap64 (x23 + 1)) x304000 x304001 x304002 x304003 x304004 x304005 x304006 x304007 x304008) else (none))) else (none))) else (none)) else (none)) else ((r8some.f x304002 x6).bind fun t318 => (r8isFound.l1 k x0 x1 x7 t318 (t318.length : Int) 0 x304000 x304001 x304002 x304003 x304004 x304005 x304006 x304007 x304008))
def r8isFound.l1 : Nat → List (S53) → Int → List ByteArray → List ByteArray → Int → Int → ByteArray → ByteArray → ByteArray → ByteArray → Int → Int → Bool → Int → Bool → Option (Bool)
 | 0, _, _, _, _, _, _, _, _, _, _, _, _, _, _, _ => none
 | k + 1, x0, x1, x7, x41, x42, x43, x304000, x304001, x304002, x304003, x304004, x304005, x304006, x304007, x304008 => if x43 < x42 then (if 0 ≤ x43 then (if x43 < (x41.length : Int) then ((r8some.f x304003 x7).bind fun t322 => (r8isFound.l2 k x0 x1 x7 (rdOf ByteArray.empty x41 x43) x41 x42 x43 t322 (t322.length : Int) 0 x304000 x304001 x304002 x304003 x304004 x304005 x304006 x304007 x304008)) else (none)) else (none)) else (some false)
def r8isFound.l2 : Nat → List (S53) → Int → List ByteArray → ByteArray → List ByteArray → Int → Int → List ByteArray → Int → Int → ByteArray → ByteArray → ByteArray → ByteArray → Int → Int → Bool → Int → Bool → Option (Bool)
 | 0, _, _, _, _, _, _, _, _, _, _, _, _, _, _, _, _, _, _, _ => none
 | k + 1, x0, x1, x7, x11, x41, x42, x43, x50, x51, x52, x304000, x304001, x304002, x304003, x304004, x304005, x304006, x304007, x304008 => if x52 < x51 then (if 0 ≤ x52 then (if x52 < (x50.length : Int) then ((r8turns.f k x0).bind fun t326 => ((some (([x304004] : List Int) : List Int)).bind fun y329 => (if t326.length + y329.length < 17592186044416 then ((some (t326 ++ y329 : List Int)).bind fun y332 => (r8isFound.l3 k x0 x1 x7 x11 (rdOf ByteArray.empty x50 x52) x41 x42 x43 x50 x51 x52 y332 (y332.length : Int) 0 x304000 x304001 x304002 x304003 x304004 x304005 x304006 x304007 x304008)) else (none)))) else (none)) else (none)) else (r8isFound.l1 k x0 x1 x7 x41 x42 (wrap64 (x43 + 1)) x304000 x304001 x304002 x304003 x304004 x304005 x304006 x304007 x304008)
def r8isFound.l3 : Nat → List (S53) → Int → List ByteArray → ByteArray → ByteArray → List ByteArray → Int → Int → List ByteArray → Int → Int → List Int → Int → Int → ByteArray → ByteArray → ByteArray → ByteArray → Int → Int → Bool → Int → Bool → Option (Bool)
 | 0, _, _, _, _, _, _, _, _, _, _, _, _, _, _, _, _, _, _, _, _, _, _, _ => none
 | k + 1, x0, x1, x7, x11, x13, x41, x42, x43, x50, x51, x52, x61, x62, x63, x304000, x304001, x304002, x304003, x304004, x304005, x304006, x304007, x304008 => if x63 < x62 then (if 0 ≤ x63 then (if x63 < (x61.length : Int) then (if x11.toList = ([] : List UInt8) then (r8isFound.l3 k x0 x1 x7 x11 x13 x41 x42 x43 x50 x51 x52 x61 x62 (wrap64 (x63 + 1)) x304000 x304001 x304002 x304003 x304004 x304005 x304006 x304007 x304008) else (if x13.toList = ([] : List UInt8) then (r8isFound.l3 k x0 x1 x7 x11 x13 x41 x42 x43 x50 x51 x52 x61 x62 (wrap64 (x63 + 1)) x304000 x304001 x304002 x304003 x304004 x304005 x304006 x304007 x304008) else ((r8find.f k x0 x304000 x304001 x11 x13 (rd x61 x63) x304006).bind fun t337 => (if t337 = x1 then (some true) else (r8isFound.l3 k x0 x1 x7 x11 x13 x41 x42 x43 x50 x51 x52 x61 x62 (wrap64 (x63 + 1)) x304000 x304001 x304002 x304003 x304004 x304005 x304006 x304007 x304008))))) else (none)) else (none)) else (r8isFound.l2 k x0 x1 x7 x11 x41 x42 x43 x50 x51 (wrap64 (x52 + 1)) x304000 x304001 x304002 x304003 x304004 x304005 x304006 x304007 x304008)
end
def r8isFound.f (k : Nat) (l0 : List (S53)) (a1 : Int) : Option (Bool) := if 0 ≤ a1 then (if a1 < (l0.length : Int) then (r8isFound.l0 k l0 a1 ([] : List ByteArray) ([] : List ByteArray) l0 (l0.length : Int) 0 ((qa l0 a1).f0) ((qa l0 a1).f1) ((qa l0 a1).f2) ((qa l0 a1).f3) ((qa l0 a1).f4) ((qa l0 a1).f5) ((qa l0 a1).f6) ((qa l0 a1).f7) ((qa l0 a1).f8)) else (none)) else (none)
theorem r8isFound.mono_l : ∀ k, (∀ y0 y1 y2 y3 y4 y5 y6 y7 y8 y9 y10 y11 y12 y13 y14 y15, qv (r8isFound.l0 k y0 y1 y2 y3 y4 y5 y6 y7 y8 y9 y10 y11 y12 y13 y14 y15) (r8isFound.l0 (k + 1) y0 y1 y2 y3 y4 y5 y6 y7 y8 y9 y10 y11 y12 y13 y14 y15)) ∧ (∀ y0 y1 y2 y3 y4 y5 y6 y7 y8 y9 y10 y11 y12 y13 y14, qv (r8isFound.l1 k y0 y1 y2 y3 y4 y5 y6 y7 y8 y9 y10 y11 y12 y13 y14) (r8isFound.l1 (k + 1) y0 y1 y2 y3 y4 y5 y6 y7 y8 y9 y10 y11 y12 y13 y14)) ∧ (∀ y0 y1 y2 y3 y4 y5 y6 y7 y8 y9 y10 y11 y12 y13 y14 y15 y16 y17 y18, qv (r8isFound.l2 k y0 y1 y2 y3 y4 y5 y6 y7 y8 y9 y10 y11 y12 y13 y14 y15 y16 y17 y18) (r8isFound.l2 (k + 1) y0 y1 y2 y3 y4 y5 y6 y7 y8 y9 y10 y11 y12 y13 y14 y15 y16 y17 y18)) ∧ (∀ y0 y1 y2 y3 y4 y5 y6 y7 y8 y9 y10 y11 y12 y13 y14 y15 y16 y17 y18 y19 y20 y21 y22, qv (r8isFound.l3 k y0 y1 y2 y3 y4 y5 y6 y7 y8 y9 y10 y11 y12 y13 y14 y15 y16 y17 y18 y19 y20 y21 y22) (r8isFound.l3 (k + 1) y0 y1 y2 y3 y4 y5 y6 y7 y8 y9 y10 y11 y12 y13 y14 y15 y16 y17 y18 y19 y20 y21 y22))
 | 0 => ⟨fun _ _ _ _ _ _ _ _ _ _ _ _ _ _ _ _ r h => by simp [r8isFound.l0] at h, fun _ _ _ _ _ _ _ _ _ _ _ _ _ _ _ r h => by simp [r8isFound.l1] at h, fun _ _ _ _ _ _ _ _ _ _ _ _ _ _ _ _ _ _ _ r h => by simp [r8isFound.l2] at h, fun _ _ _ _ _ _ _ _ _ _ _ _ _ _ _ _ _ _ _ _ _ _ _ r h => by simp [r8isFound.l3] at h⟩
 | k + 1 => by
  obtain ⟨ih0, ih1, ih2, ih3⟩ := r8isFound.mono_l k
  refine ⟨?_, ?_, ?_, ?_⟩
  all_goals
   intros
   first | unfold r8isFound.l0 | unfold r8isFound.l1 | unfold r8isFound.l2 | unfold r8isFound.l3
   repeat' first
   | (with_reducible apply ih0)
   | (with_reducible apply ih1)
   | (with_reducible apply ih2)
   | (with_reducible apply ih3)
   | (with_reducible apply r8find.mono)
   | (with_reducible apply r8turns.mono)
   | (with_reducible exact qv.refl _)
   | (with_reducible exact qv.none _)
   | (with_reducible refine qv.ite ?_ ?_)
   | (with_reducible refine qv.bind ?_ (fun _ => ?_))
   | apply ih0
   | apply ih1
   | apply ih2
   | apply ih3
   | apply r8find.mono
   | apply r8turns.mono
   | exact qv.none _
   | refine qv.ite ?_ ?_
   | refine qv.bind ?_ (fun _ => ?_)
theorem r8isFound.mono : ∀ a0 a1 k, qv (r8isFound.f k a0 a1) (r8isFound.f (k + 1) a0 a1) := by
 intro a0 a1 k
 obtain ⟨ih0, ih1, ih2, ih3⟩ := r8isFound.mono_l k
 unfold r8isFound.f
 repeat' first
   | (with_reducible apply ih0)
   | (with_reducible apply ih1)
   | (with_reducible apply ih2)
   | (with_reducible apply ih3)
   | (with_reducible apply r8find.mono)
   | (with_reducible apply r8turns.mono)
   | (with_reducible exact qv.refl _)
   | (with_reducible exact qv.none _)
   | (with_reducible refine qv.ite ?_ ?_)
   | (with_reducible refine qv.bind ?_ (fun _ => ?_))
   | apply ih0
   | apply ih1
   | apply ih2
   | apply ih3
   | apply r8find.mono
   | apply r8turns.mono
   | exact qv.none _
   | refine qv.ite ?_ ?_
   | refine qv.bind ?_ (fun _ => ?_)
def r8isFound.T6 : Bool × List (List Nat × List Nat) := (true, [([], []), ([], []), ([1], [1]), ([2], [2]), ([0, 3], [0, 3]), ([], []), ([], []), ([6], [6]), ([7], [7]), ([5, 8, 4], [5, 8]), ([4, 9, 0, 1, 2, 3, 4], [0, 4]), ([9, 10, 0, 1, 2, 3, 4, 5, 6, 7, 8, 9, 10], [5, 9])])
def r8isFound.B6 : List Nat := [0, 0, 2, 6, 15, 0, 0, 64, 192, 511, 1023, 2047]
theorem r8isFound.tab6 : rtab .any (opsOf Tryz.f26 6) = r8isFound.T6 := by kernel_rfl
theorem r8isFound.bits6 : waitsOk r8isFound.T6.2 r8isFound.B6 = true := by kernel_rfl
def r8isFound.T14 : Bool × List (List Nat × List Nat) := (true, [([], []), ([0], [0]), ([], []), ([2], [2]), ([3], [3]), ([1, 4, 1], [1, 4]), ([5], [5]), ([], [])])
def r8isFound.B14 : List Nat := [0, 1, 0, 4, 12, 31, 63, 0]
theorem r8isFound.tab14 : rtab .any (opsOf Tryz.f26 14) = r8isFound.T14 := by kernel_rfl
theorem r8isFound.bits14 : waitsOk r8isFound.T14.2 r8isFound.B14 = true := by kernel_rfl
set_option maxHeartbeats 8000000 in
set_option maxRecDepth 100000 in
theorem r8isFound.calls (k : Nat) (A0 : Option Addr) (c0 : Nat) (l0 : List (S53)) (a1 : Int) (r : Bool) (w : World) (hr0 : Kd.C k53 w A0 l0.length l0) (hc0 : l0.length ≤ c0) (h : r8isFound.f k l0 a1 = some r) :
  Calls Tryz.prog 26 #[.slice A0 l0.length c0, .int .i64 a1] w fun e w' => e = .returned (.bool r) ∧ Below w.heap.size w w' := by
 have hu53 := Tryz.underlying53
 have hu25 := Tryz.underlying25
 have HR0 := qb.mk hr0
 have HC0 := qb.mk hc0
 clear hr0 hc0
 have HB := qb.mk (Below.refl w.heap.size w)
 have H : (if 0 ≤ a1 then (if a1 < (l0.length : Int) then (r8isFound.l0 k l0 a1 ([] : List ByteArray) ([] : List ByteArray) l0 (l0.length : Int) 0 ((qa l0 a1).f0) ((qa l0 a1).f1) ((qa l0 a1).f2) ((qa l0 a1).f3) ((qa l0 a1).f4) ((qa l0 a1).f5) ((qa l0 a1).f6) ((qa l0 a1).f7) ((qa l0 a1).f8)) else (none)) else (none)) = some r := h
 clear h
 by_cases c3 : 0 ≤ a1
 case neg =>
  rw [if_neg c3] at H
  exact absurd H (by simp)

 rw [if_pos c3] at H
 have c3b0 : decide (0 ≤ a1) = true := decide_eq_true c3
 clear c3
 by_cases c4 : a1 < (l0.length : Int)
 case neg =>
  rw [if_neg c4] at H
  exact absurd H (by simp)
 rw [if_pos c4] at H
 have c4b0 : decide (a1 < (l0.length : Int)) = true := decide_eq_true c4
 clear c4
 have H' := qb.mk H
 clear H
 have p302 : 0 ≤ (a1 : Int) := of_decide_eq_true qB
 have q302 : a1 < (l0.length : Int) := of_decide_eq_true qB
 obtain ⟨ad302, e302, hx302_0, hx302_1, hx302_2, hx302_3, hx302_4, hx302_5, hx302_6, hx302_7, hx302_8⟩ := at_T53 HR0.out a1 p302 q302
 cases e302
 replace p302 := eq_true p302
 replace q302 := eq_true q302
 go_enter Tryz.func26, Tryz.ntmps26
 go_wp2_with (first | ((with_reducible refine qi (N := 5) rfl ?_); refine qh ?hg (N := 5) ?hd (cs := #[.string (⟨#[]⟩ : ByteArray), .string (⟨#[]⟩ : ByteArray), .string (⟨#[]⟩ : ByteArray), .string (⟨#[]⟩ : ByteArray), .int .i64 0, .int .i64 0, .bool false, .int .i64 0, .bool false]) (t := 53) ?hr ?_; (case hd => rfl); (case hg => rfl); (case hr => exact qC); intro gb303 hg w5 hbox hb; have n0_ := qb.mk (qd qz hb); have n1_ := qb.mk (hbox); have n2_ := qb.mk ((Z66 : w.heap.size ≤ gb303)); have n3_ := n2_; clear HB; have HB := n0_; have BK303 := n1_; have GW303 := n2_; have GE303 := n3_; clear n0_ n1_ n2_ n3_; clear hb hbox hg; obtain ⟨yc6_0, yc6_1, yc6_2, yc6_3, yc6_4, yc6_5, yc6_6, yc6_7, yc6_8, yf6_0, yf6_1, yf6_2, yf6_3, yf6_4, yf6_5, yf6_6, yf6_7, yf6_8⟩ := bf9 BK303.out))
 go_loopg [6, 7, 23] k (fun kq v6 v7 v23 w' => ∃ (x6_1 : List ByteArray) (x7_1 : List ByteArray) (x23_1 : Int), v23 = .int .i64 x23_1 ∧ qb (r8isFound.l0 kq l0 a1 x6_1 x7_1 l0 (l0.length : Int) x23_1 ((qa l0 a1).f0) ((qa l0 a1).f1) ((qa l0 a1).f2) ((qa l0 a1).f3) ((qa l0 a1).f4) ((qa l0 a1).f5) ((qa l0 a1).f6) ((qa l0 a1).f7) ((qa l0 a1).f8) = some r) ∧ qb (kq ≤ k) ∧ qb (Kd.R Kd.string 9 w' w.heap.size (fun k_ => some k_ ≠ (v7 : Value).ownBlock) v6 x6_1) ∧ qb (Kd.R Kd.string 9 w' w.heap.size (fun k_ => some k_ ≠ (v6 : Value).ownBlock) v7 x7_1) ∧ qb (w'.heap[gb303]? = some (.cells #[.string ((qa l0 a1).f0), .string ((qa l0 a1).f1), .string ((qa l0 a1).f2), .string ((qa l0 a1).f3), .int .i64 ((qa l0 a1).f4), .int .i64 ((qa l0 a1).f5), .bool ((qa l0 a1).f6), .int .i64 ((qa l0 a1).f7), .bool ((qa l0 a1).f8)] 53 (0, 0))) ∧ qb (Below w.heap.size w w'))
 case atStart => exact ⟨(([] : List ByteArray)), (([] : List ByteArray)), (0), qD, H', ⟨Nat.le_refl _⟩, ⟨Z102⟩, ⟨Z102⟩, ⟨by (with_reducible repeat (first | refine qn ?_ _ | refine qm ?_ | refine ql ?_ _)); apply put9; (with_reducible repeat (first | refine qn ?_ _ | refine qm ?_ | refine ql ?_ _)); exact BK303.out⟩, ⟨Z92⟩⟩
 case round =>
  clear H'
  try clear c2; try clear p2; try clear c3; try clear c3b0; try clear p3; try clear q3; try clear hx3; try clear c4; try clear c4b0; try clear yc6_0 yc6_1 yc6_2 yc6_3 yc6_4 yc6_5 yc6_6 yc6_7 yc6_8 yf6_0 yf6_1 yf6_2 yf6_3 yf6_4 yf6_5 yf6_6 yf6_7 yf6_8; try clear hx302_0; try clear hx302_1; try clear hx302_2; try clear hx302_3; try clear hx302_4; try clear hx302_5; try clear hx302_6; try clear hx302_7; try clear hx302_8; try clear p302; try clear q302
  obtain ⟨x6_1, x7_1, x23_1, rfl, HA, HK1, HO_6, HO_7, BK303, HB⟩ := hrel
  cases gk with
  | zero => exact absurd HA.out (by simp [r8isFound.l0])
  | succ k1 =>
   have H := HA.out
   clear HA
   simp only [r8isFound.l0] at H
   by_cases c7 : x23_1 < (l0.length : Int)
   case pos =>
    rw [if_pos c7] at H
    have c7b0 : decide (x23_1 < (l0.length : Int)) = true := decide_eq_true c7
    clear c7
    by_cases c8 : 0 ≤ x23_1
    case neg =>
     rw [if_neg c8] at H
     exact absurd H (by simp)
    rw [if_pos c8] at H
    have c8b0 : decide (0 ≤ x23_1) = true := decide_eq_true c8
    clear c8
    by_cases c9 : x23_1 < (l0.length : Int)
    case neg =>
     rw [if_neg c9] at H
     exact absurd H (by simp)
    rw [if_pos c9] at H
    have c9b0 : decide (x23_1 < (l0.length : Int)) = true := decide_eq_true c9
    clear c9
    obtain ⟨y306, hy306⟩ : ∃ y_ : List ByteArray, y_ = (([(qa l0 x23_1).f2] : List ByteArray)) := ⟨_, rfl⟩
    replace H : (if x6_1.length + y306.length < 8796093022208 then ((some (([(qa l0 x23_1).f3] : List ByteArray) : List ByteArray)).bind fun y312 => (if x7_1.length + y312.length < 8796093022208 then (r8isFound.l0 k1 l0 a1 (x6_1 ++ y306) (x7_1 ++ y312) l0 (l0.length : Int) (wrap64 (x23_1 + 1)) ((qa l0 a1).f0) ((qa l0 a1).f1) ((qa l0 a1).f2) ((qa l0 a1).f3) ((qa l0 a1).f4) ((qa l0 a1).f5) ((qa l0 a1).f6) ((qa l0 a1).f7) ((qa l0 a1).f8)) else (none))) else (none)) = some r := by first | (rw [hy306]; with_reducible exact H) | (have H2_ := (Option.bind_some _ _).symm.trans H; rw [hy306]; with_reducible exact H2_) | (have H2_ := (Option.bind_some _ _).symm.trans H; with_reducible exact H2_) | with_reducible exact H | (rw [hy306]; exact H) | exact H
    have Ny306 := qb.mk hy306
    clear hy306
    by_cases c10 : x6_1.length + y306.length < 8796093022208
    case neg =>
     rw [if_neg c10] at H
     exact absurd H (by simp)
    rw [if_pos c10] at H
    have LMc10 := qb.mk c10
    clear c10
    obtain ⟨y309, hy309⟩ : ∃ y_ : List ByteArray, y_ = (x6_1 ++ y306) := ⟨_, rfl⟩
    replace H : ((some (([(qa l0 x23_1).f3] : List ByteArray) : List ByteArray)).bind fun y312 => (if x7_1.length + y312.length < 8796093022208 then (r8isFound.l0 k1 l0 a1 y309 (x7_1 ++ y312) l0 (l0.length : Int) (wrap64 (x23_1 + 1)) ((qa l0 a1).f0) ((qa l0 a1).f1) ((qa l0 a1).f2) ((qa l0 a1).f3) ((qa l0 a1).f4) ((qa l0 a1).f5) ((qa l0 a1).f6) ((qa l0 a1).f7) ((qa l0 a1).f8)) else (none))) = some r := by first | (rw [hy309]; with_reducible exact H) | (have H2_ := (Option.bind_some _ _).symm.trans H; rw [hy309]; with_reducible exact H2_) | (have H2_ := (Option.bind_some _ _).symm.trans H; with_reducible exact H2_) | with_reducible exact H | (rw [hy309]; exact H) | exact H
    have Ny309 := qb.mk hy309
    clear hy309
    obtain ⟨y312, hy312⟩ : ∃ y_ : List ByteArray, y_ = (([(qa l0 x23_1).f3] : List ByteArray)) := ⟨_, rfl⟩
    replace H : (if x7_1.length + y312.length < 8796093022208 then (r8isFound.l0 k1 l0 a1 y309 (x7_1 ++ y312) l0 (l0.length : Int) (wrap64 (x23_1 + 1)) ((qa l0 a1).f0) ((qa l0 a1).f1) ((qa l0 a1).f2) ((qa l0 a1).f3) ((qa l0 a1).f4) ((qa l0 a1).f5) ((qa l0 a1).f6) ((qa l0 a1).f7) ((qa l0 a1).f8)) else (none)) = some r := by first | (rw [hy312]; with_reducible exact H) | (have H2_ := (Option.bind_some _ _).symm.trans H; rw [hy312]; with_reducible exact H2_) | (have H2_ := (Option.bind_some _ _).symm.trans H; with_reducible exact H2_) | with_reducible exact H | (rw [hy312]; exact H) | exact H
    have Ny312 := qb.mk hy312
    clear hy312
    by_cases c11 : x7_1.length + y312.length < 8796093022208
    case neg =>
     rw [if_neg c11] at H
     exact absurd H (by simp)
    rw [if_pos c11] at H
    have LMc11 := qb.mk c11
    clear c11
    obtain ⟨y315, hy315⟩ : ∃ y_ : List ByteArray, y_ = (x7_1 ++ y312) := ⟨_, rfl⟩
    replace H : (r8isFound.l0 k1 l0 a1 y309 y315 l0 (l0.length : Int) (wrap64 (x23_1 + 1)) ((qa l0 a1).f0) ((qa l0 a1).f1) ((qa l0 a1).f2) ((qa l0 a1).f3) ((qa l0 a1).f4) ((qa l0 a1).f5) ((qa l0 a1).f6) ((qa l0 a1).f7) ((qa l0 a1).f8)) = some r := by first | (rw [hy315]; with_reducible exact H) | (have H2_ := (Option.bind_some _ _).symm.trans H; rw [hy315]; with_reducible exact H2_) | (have H2_ := (Option.bind_some _ _).symm.trans H; with_reducible exact H2_) | with_reducible exact H | (rw [hy315]; exact H) | exact H
    have Ny315 := qb.mk hy315
    clear hy315
    have H' := qb.mk H
    clear H
    have p304 : 0 ≤ (x23_1 : Int) := of_decide_eq_true qB
    have q304 : x23_1 < (l0.length : Int) := of_decide_eq_true qB
    obtain ⟨ad304, e304, hx304_0, hx304_1, hx304_2, hx304_3, hx304_4, hx304_5, hx304_6, hx304_7, hx304_8⟩ := at_T53 HR0.out x23_1 p304 q304
    obtain rfl : ad302 = ad304 := (by injection e304)
    replace hx304_0 := bx HB hx304_0
    replace hx304_1 := bx HB hx304_1
    replace hx304_2 := bx HB hx304_2
    replace hx304_3 := bx HB hx304_3
    replace hx304_4 := bx HB hx304_4
    replace hx304_5 := bx HB hx304_5
    replace hx304_6 := bx HB hx304_6
    replace hx304_7 := bx HB hx304_7
    replace hx304_8 := bx HB hx304_8
    replace p304 := eq_true p304
    replace q304 := eq_true q304
    try go_wp2_with (first | ((with_reducible refine qi (N := 9) rfl ?_); refine qh ?hg (N := 9) ?hd (cs := #[.string (⟨#[]⟩ : ByteArray), .string (⟨#[]⟩ : ByteArray), .string (⟨#[]⟩ : ByteArray), .string (⟨#[]⟩ : ByteArray), .int .i64 0, .int .i64 0, .bool false, .int .i64 0, .bool false]) (t := 53) ?hr ?_; (case hd => rfl); (case hg => rfl); (case hr => exact qC); intro gb305 hg w12 hbox hb; have n0_ := qb.mk (Kd.R_below Z133 hb); have n1_ := qb.mk (Kd.R_below Z134 hb); have n2_ := bb BK303 hb; have n3_ := qb.mk (qd Z92 hb); have n4_ := qb.mk (hbox); have n5_ := qb.mk ((Z45 : w.heap.size ≤ gb305)); have n6_ := n5_; have n7_ := qb.mk ((by rw [hg]; exact Nat.ne_of_lt (bt_ BK303) : gb303 ≠ gb305)); have n8_ := qb.mk ((by rw [hg]; exact Nat.ne_of_gt (bt_ BK303) : gb305 ≠ gb303)); clear HO_6 HO_7 BK303 HB; have HO_6 := n0_; have HO_7 := n1_; have BK303 := n2_; have HB := n3_; have BK305 := n4_; have GW305 := n5_; have GE305 := n6_; have NB303_305 := n7_; have NB305_303 := n8_; clear n0_ n1_ n2_ n3_ n4_ n5_ n6_ n7_ n8_; clear hb hbox hg; have hnb13 := NB305_303.out; have hnc13 := NB303_305.out; obtain ⟨yc14_0, yc14_1, yc14_2, yc14_3, yc14_4, yc14_5, yc14_6, yc14_7, yc14_8, yf14_0, yf14_1, yf14_2, yf14_3, yf14_4, yf14_5, yf14_6, yf14_7, yf14_8⟩ := bf9 BK305.out; obtain ⟨Ao15, co15, eo15⟩ := Kd.R_slice HO_6.out; subst eo15; obtain ⟨Ao16, co16, eo16⟩ := Kd.R_slice HO_7.out; subst eo16))
    obtain ⟨w17, hw17⟩ : ∃ x, x = (((((((((w12.setCell ⟨gb305, 0, none⟩ (.string ((qa l0 x23_1).f0))).setCell ⟨gb305, 1, none⟩ (.string ((qa l0 x23_1).f1))).setCell ⟨gb305, 2, none⟩ (.string ((qa l0 x23_1).f2))).setCell ⟨gb305, 3, none⟩ (.string ((qa l0 x23_1).f3))).setCell ⟨gb305, 4, none⟩ (.int .i64 ((qa l0 x23_1).f4))).setCell ⟨gb305, 5, none⟩ (.int .i64 ((qa l0 x23_1).f5))).setCell ⟨gb305, 6, none⟩ (.bool ((qa l0 x23_1).f6))).setCell ⟨gb305, 7, none⟩ (.int .i64 ((qa l0 x23_1).f7))).setCell ⟨gb305, 8, none⟩ (.bool ((qa l0 x23_1).f8))) := ⟨_, rfl⟩
    have n0_ : qb (Kd.R Kd.string 9 w17 w.heap.size (fun k_ => some k_ ≠ (.slice Ao16 x7_1.length co16 : Value).ownBlock) (.slice Ao15 x6_1.length co15) x6_1) := ⟨by rw [hw17]; (with_reducible repeat (first | apply Kd.R_alloc | apply Kd.R_drewN | apply Kd.R_drew)); exact Kd.R_mono (R_f9 (g := gb305) (Kd.R_types HO_6.out BK305.out (by decide)) (fun _ hk => hk.2)) (fun _ hk => hk.1)⟩
    have n1_ : qb (Kd.R Kd.string 9 w17 w.heap.size (fun k_ => some k_ ≠ (.slice Ao15 x6_1.length co15 : Value).ownBlock) (.slice Ao16 x7_1.length co16) x7_1) := ⟨by rw [hw17]; (with_reducible repeat (first | apply Kd.R_alloc | apply Kd.R_drewN | apply Kd.R_drew)); exact Kd.R_mono (R_f9 (g := gb305) (Kd.R_types HO_7.out BK305.out (by decide)) (fun _ hk => hk.2)) (fun _ hk => hk.1)⟩
    have n2_ : qb (w17.heap[gb303]? = some (.cells #[.string ((qa l0 a1).f0), .string ((qa l0 a1).f1), .string ((qa l0 a1).f2), .string ((qa l0 a1).f3), .int .i64 ((qa l0 a1).f4), .int .i64 ((qa l0 a1).f5), .bool ((qa l0 a1).f6), .int .i64 ((qa l0 a1).f7), .bool ((qa l0 a1).f8)] 53 (0, 0))) := ⟨by rw [hw17]; (with_reducible repeat (first | refine qn ?_ _ | refine qm ?_ | refine ql ?_ _)); refine far9 ?_ NB303_305.out; (with_reducible repeat (first | refine qn ?_ _ | refine qm ?_ | refine ql ?_ _)); exact BK303.out⟩
    have n3_ : qb (w17.heap[gb305]? = some (.cells #[.string ((qa l0 x23_1).f0), .string ((qa l0 x23_1).f1), .string ((qa l0 x23_1).f2), .string ((qa l0 x23_1).f3), .int .i64 ((qa l0 x23_1).f4), .int .i64 ((qa l0 x23_1).f5), .bool ((qa l0 x23_1).f6), .int .i64 ((qa l0 x23_1).f7), .bool ((qa l0 x23_1).f8)] 53 (0, 0))) := ⟨by rw [hw17]; (with_reducible repeat (first | refine qn ?_ _ | refine qm ?_ | refine ql ?_ _)); apply put9; (with_reducible repeat (first | refine qn ?_ _ | refine qm ?_ | refine ql ?_ _)); exact BK305.out⟩
    have n4_ : qb (Below w.heap.size w w17) := ⟨by rw [hw17]; repeat (first | (with_reducible first | exact HB.out | apply qp | apply qj | apply qo | refine qq ?_ GE303.out | refine qq ?_ GE305.out) | exact HB.out)⟩
    (try clear HO_6)
    (try clear HO_7)
    (try clear BK303)
    (try clear BK305)
    (try clear HB)
    rw [← hw17]; clear hw17
    have HO_6 := n0_
    have HO_7 := n1_
    have BK303 := n2_
    have BK305 := n3_
    have HB := n4_
    clear n0_ n1_ n2_ n3_ n4_
    have n0_ := qb.mk (Kd.R_drew HO_6.out)
    have n1_ := qb.mk (Kd.R_drew HO_7.out)
    have n2_ := qb.mk (qm BK303.out)
    have n3_ := qb.mk (qm BK305.out)
    have n4_ := qb.mk (qo HB.out)
    clear HO_6 HO_7 BK303 BK305 HB
    have HO_6 := n0_
    have HO_7 := n1_
    have BK303 := n2_
    have BK305 := n3_
    have HB := n4_
    clear n0_ n1_ n2_ n3_ n4_
    refine start_ (n := 12) (S := fun w' => w'.cell? ⟨gb305, 0, none⟩ = some (.string ((qa l0 x23_1).f0)) ∧ w'.cell? ⟨gb305, 1, none⟩ = some (.string ((qa l0 x23_1).f1)) ∧ w'.cell? ⟨gb305, 2, none⟩ = some (.string ((qa l0 x23_1).f2)) ∧ w'.cell? ⟨gb305, 3, none⟩ = some (.string ((qa l0 x23_1).f3)) ∧ w'.cell? ⟨gb305, 4, none⟩ = some (.int .i64 ((qa l0 x23_1).f4)) ∧ w'.cell? ⟨gb305, 5, none⟩ = some (.int .i64 ((qa l0 x23_1).f5)) ∧ w'.cell? ⟨gb305, 6, none⟩ = some (.bool ((qa l0 x23_1).f6)) ∧ w'.cell? ⟨gb305, 7, none⟩ = some (.int .i64 ((qa l0 x23_1).f7)) ∧ w'.cell? ⟨gb305, 8, none⟩ = some (.bool ((qa l0 x23_1).f8))) (ds := []) #[false, false, false, false, false, false, false, false, false, false, false, false] (by kernel_rfl) rfl rfl (bl9 BK305.out) (fun hHeld => ?_); refine with_tabW r8isFound.tab6 r8isFound.bits6 (fun HT_ HW_ => ?_)
    generalize w17.drew = w18 at HO_6 HO_7 BK303 BK305 HB hHeld ⊢
    refine pure_ (i := 0) (N := some 27) (v := ?_) (a' := ?_) #[true, false, false, false, false, false, false, false, false, false, false, false] rfl rfl (qy HT_.out (by kernel_rfl)) (fun _ _ _ h => h) (Or.inl ⟨by rfl, ?_⟩) ?_ ?_
    rotate_left
    ·intro w'
     go_simp
     with_reducible rfl
    rotate_left
    ·simp only [Act.put, sT, s0, s1, qr, qt]
     rfl
    refine pure_ (i := 1) (N := some 28) (v := ?_) (a' := ?_) #[true, true, false, false, false, false, false, false, false, false, false, false] rfl rfl (qy HT_.out (by kernel_rfl)) (fun _ _ _ h => h) (Or.inl ⟨by rfl, ?_⟩) ?_ ?_
    rotate_left
    ·intro w'
     go_simp
     with_reducible rfl
    rotate_left
    ·simp only [Act.put, sT, s0, s1, qr, qt]
     rfl
    refine pure_ (i := 5) (N := some 32) (v := ?_) (a' := ?_) #[true, true, false, false, false, true, false, false, false, false, false, false] rfl rfl (qy HT_.out (by kernel_rfl)) (fun _ _ _ h => h) (Or.inl ⟨by rfl, ?_⟩) ?_ ?_
    rotate_left
    ·intro w'
     go_simp
     with_reducible rfl
    rotate_left
    ·simp only [Act.put, sT, s0, s1, qr, qt]
     rfl
    refine pure_ (i := 6) (N := some 33) (v := ?_) (a' := ?_) #[true, true, false, false, false, true, true, false, false, false, false, false] rfl rfl (qy HT_.out (by kernel_rfl)) (fun _ _ _ h => h) (Or.inl ⟨by rfl, ?_⟩) ?_ ?_
    rotate_left
    ·intro w'
     go_simp
     with_reducible rfl
    rotate_left
    ·simp only [Act.put, sT, s0, s1, qr, qt]
     rfl
    refine take_ (i := 2) (N := some 29) (v := ?_) (a' := ?_) #[true, true, true, false, false, true, true, false, false, false, false, false] rfl rfl (qE HT_.out HW_.out (by kernel_rfl)) (fun _ _ _ h => h) (Or.inl ⟨by rfl, ?_⟩) hHeld ?_ ?_
    rotate_left
    ·rintro w' ⟨s0, s1, s2, s3, s4, s5, s6, s7, s8⟩
     go_simp
     with_reducible rfl
    rotate_left
    ·simp only [Act.put, sT, s0, s1, qr, qt]
     rfl
    refine take_ (i := 7) (N := some 34) (v := ?_) (a' := ?_) #[true, true, true, false, false, true, true, true, false, false, false, false] rfl rfl (qE HT_.out HW_.out (by kernel_rfl)) (fun _ _ _ h => h) (Or.inl ⟨by rfl, ?_⟩) hHeld ?_ ?_
    rotate_left
    ·rintro w' ⟨s0, s1, s2, s3, s4, s5, s6, s7, s8⟩
     go_simp
     with_reducible rfl
    rotate_left
    ·simp only [Act.put, sT, s0, s1, qr, qt]
     rfl
    refine join_ (σ := Value × Value × Value) 3 #[true, true, true, true, true, true, true, true, true, false, false, false] (fun s_ => [(30, s_.1), (31, s_.2.1), (35, s_.2.2)]) (fun s_ w' => (w'.cell? ⟨gb305, 0, none⟩ = some (.string ((qa l0 x23_1).f0)) ∧ w'.cell? ⟨gb305, 1, none⟩ = some (.string ((qa l0 x23_1).f1)) ∧ w'.cell? ⟨gb305, 2, none⟩ = some (.string ((qa l0 x23_1).f2)) ∧ w'.cell? ⟨gb305, 3, none⟩ = some (.string ((qa l0 x23_1).f3)) ∧ w'.cell? ⟨gb305, 4, none⟩ = some (.int .i64 ((qa l0 x23_1).f4)) ∧ w'.cell? ⟨gb305, 5, none⟩ = some (.int .i64 ((qa l0 x23_1).f5)) ∧ w'.cell? ⟨gb305, 6, none⟩ = some (.bool ((qa l0 x23_1).f6)) ∧ w'.cell? ⟨gb305, 7, none⟩ = some (.int .i64 ((qa l0 x23_1).f7)) ∧ w'.cell? ⟨gb305, 8, none⟩ = some (.bool ((qa l0 x23_1).f8))) ∧ (Kd.R Kd.string 9 w' w.heap.size (fun k_ => some k_ ≠ (s_.2.1 : Value).ownBlock ∧ some k_ ≠ (s_.2.2 : Value).ownBlock ∧ some k_ ≠ (.slice Ao16 x7_1.length co16 : Value).ownBlock) s_.1 y306) ∧ (Kd.R Kd.string 9 w' w.heap.size (fun k_ => some k_ ≠ (s_.1 : Value).ownBlock ∧ some k_ ≠ (s_.2.2 : Value).ownBlock ∧ some k_ ≠ (.slice Ao16 x7_1.length co16 : Value).ownBlock) s_.2.1 y309) ∧ (Kd.R Kd.string 9 w' w.heap.size (fun k_ => some k_ ≠ (s_.1 : Value).ownBlock ∧ some k_ ≠ (s_.2.1 : Value).ownBlock ∧ some k_ ≠ (.slice Ao16 x7_1.length co16 : Value).ownBlock) s_.2.2 y312) ∧ (Kd.R Kd.string 9 w' w.heap.size (fun k_ => some k_ ≠ (s_.1 : Value).ownBlock ∧ some k_ ≠ (s_.2.1 : Value).ownBlock ∧ some k_ ≠ (s_.2.2 : Value).ownBlock) (.slice Ao16 x7_1.length co16) x7_1) ∧ (w'.heap[gb303]? = some (.cells #[.string ((qa l0 a1).f0), .string ((qa l0 a1).f1), .string ((qa l0 a1).f2), .string ((qa l0 a1).f3), .int .i64 ((qa l0 a1).f4), .int .i64 ((qa l0 a1).f5), .bool ((qa l0 a1).f6), .int .i64 ((qa l0 a1).f7), .bool ((qa l0 a1).f8)] 53 (0, 0))) ∧ (w'.heap[gb305]? = some (.cells #[.string ((qa l0 x23_1).f0), .string ((qa l0 x23_1).f1), .string ((qa l0 x23_1).f2), .string ((qa l0 x23_1).f3), .int .i64 ((qa l0 x23_1).f4), .int .i64 ((qa l0 x23_1).f5), .bool ((qa l0 x23_1).f6), .int .i64 ((qa l0 x23_1).f7), .bool ((qa l0 x23_1).f8)] 53 (0, 0))) ∧ (Below w.heap.size w w')) ?_ ?_
    rotate_left
    ·intro hCont
     refine two_ (i := 3) (j := 8) (Ni := some 30) (Nj := some 35) #[true, true, true, true, false, true, true, true, false, false, false, false] #[true, true, true, false, false, true, true, true, true, false, false, false] rfl rfl rfl rfl (two_of HT_.out (by kernel_rfl)) (by decide) (by decide) (fun K hK => ?_) (fun K hK => ?_)
     ·skip
      refine Kd.R_lit_step Kd.string _ 9 ?hg (N := 30) ?hd (xs := ([(qa l0 x23_1).f2] : List ByteArray)) (inner := [.string ((qa l0 x23_1).f2)]) (ok := fun _ => True) (okp := fun _ => True) ?hr ?hp (fun _ hk => hk) trivial (Below.refl _ _) (Nat.le_refl _) (by simp) ?_; (case hd => rfl); (case hg => rfl); (case hr => exact qC); (case hp => exact (Reps.one (show Kd.M Kd.string _ _ _ ((qa l0 x23_1).f2) [.string ((qa l0 x23_1).f2)] from rfl) (Reps.none _ _)))
      intro v307 w19 ho20 hb hg_ hnew_
      clear hg_ hnew_
      (first | rw [← Ny306.out] at ho20 | (simp only [Int.reduceToNat] at ho20; rw [← Ny306.out] at ho20))
      have n0_ := qb.mk (Kd.R_elder' Z133 (Kd.R_base ho20) hb)
      have n1_ := qb.mk (Kd.R_elder' Z134 (Kd.R_base ho20) hb)
      have n2_ := qb.mk (Kd.R_lower (Kd.R_new' (Kd.R_new' ho20 (Kd.R_lt Z133)) (Kd.R_lt Z134)) (qx Z57))
      have n3_ := bb BK303 hb
      have n4_ := bb BK305 hb
      have n5_ := qb.mk (qd Z57 hb)
      clear HO_6 HO_7 BK303 BK305 HB
      have HO_6 := n0_
      have HO_7 := n1_
      have HO308 := n2_
      have BK303 := n3_
      have BK305 := n4_
      have HB := n5_
      clear n0_ n1_ n2_ n3_ n4_ n5_ hb ho20
      obtain ⟨Ao22, co22, eo22⟩ := Kd.R_slice HO308.out
      (first | subst eo22 | (injection eo22 with f1_ f2_ f3_; have f4_ := f1_.symm; have f5_ := f3_.symm; clear f1_ f2_ f3_; subst f4_; subst f5_))
      refine hK.out _ _ (bl9 BK305.out) (fun hHeld => ?_)
      clear hK K
      refine norm_ (a' := ?_) ?_ ?_
      rotate_left
      ·show Act.put _ (some 30) _ = _
       simp only [Act.put, sT, s0, s1, qr, qt]
       rfl
      refine two_ (i := 4) (j := 8) (Ni := some 31) (Nj := some 35) #[true, true, true, true, true, true, true, true, false, false, false, false] #[true, true, true, true, false, true, true, true, true, false, false, false] rfl rfl rfl rfl (two_of HT_.out (by kernel_rfl)) (by decide) (by decide) (fun K hK => ?_) (fun K hK => ?_)
      ·skip
       refine Kd.R_append_rows_step Kd.string (w0 := w) w.heap.size (by rfl) (.tmp 27) (.tmp 30) 70 9 (.string ⟨#[]⟩) 16 rfl Tryz.underlying70 info9 rfl (by decide) (by omega) (.slice Ao15 x6_1.length co15) x6_1 y306 _ _ _ (fun k_ => some k_ ≠ (.slice Ao16 x7_1.length co16 : Value).ownBlock ∧ some k_ ≠ (.slice Ao22 y306.length co22 : Value).ownBlock) (fun _ => False) rfl rfl ?aO ?aR (fun _ _ h => h) (fun _ h => h.elim) ?aF ?aB ?aS ?aL ?_
       (case aR => repeat (first | exact (Kd.R_reads' HO308.out).2.2 | (with_reducible refine Kd.C_alloc ?_ _) | (with_reducible refine Kd.C_drewN ?_ _) | (with_reducible refine Kd.C_drew ?_)))
       (case aB => exact Z57)
       (case aF => exact (fun k_ hk => ⟨Kd.fresh' (Kd.R_lt Z134) k_ hk, Kd.fresh' (Kd.R_lt Z122) k_ hk⟩))
       (case aO => exact Z133)
       (case aS => exact (qx Z57))
       (case aL => have := LMc10.out; omega)
       intro v310 w21 ho hb hg hat
       rw [← Ny309.out] at ho
       have n0_ := qb.mk (Kd.R_after (ok := (fun k_ => some k_ ≠ (.slice Ao22 y306.length co22 : Value).ownBlock)) (by (with_reducible repeat (first | apply Kd.R_alloc | apply Kd.R_drewN | apply Kd.R_drew)); exact Kd.R_mono HO_7.out (fun _ hk => ⟨hk.2, hk.1⟩)) hg hat)
       have n1_ := qb.mk (blk_grown (g := gb303) (o := .cells #[.string ((qa l0 a1).f0), .string ((qa l0 a1).f1), .string ((qa l0 a1).f2), .string ((qa l0 a1).f3), .int .i64 ((qa l0 a1).f4), .int .i64 ((qa l0 a1).f5), .bool ((qa l0 a1).f6), .int .i64 ((qa l0 a1).f7), .bool ((qa l0 a1).f8)] 53 (0, 0)) Z116 hg (Kd.R_ne HO_6.out BK303.out (by decide)))
       have n2_ := qb.mk (blk_grown (g := gb305) (o := .cells #[.string ((qa l0 x23_1).f0), .string ((qa l0 x23_1).f1), .string ((qa l0 x23_1).f2), .string ((qa l0 x23_1).f3), .int .i64 ((qa l0 x23_1).f4), .int .i64 ((qa l0 x23_1).f5), .bool ((qa l0 x23_1).f6), .int .i64 ((qa l0 x23_1).f7), .bool ((qa l0 x23_1).f8)] 53 (0, 0)) Z117 hg (Kd.R_ne HO_6.out BK305.out (by decide)))
       have n3_ := qb.mk (Kd.R_after (ok := (fun k_ => some k_ ≠ (.slice Ao16 x7_1.length co16 : Value).ownBlock)) (by (with_reducible repeat (first | apply Kd.R_alloc | apply Kd.R_drewN | apply Kd.R_drew)); exact Kd.R_mono HO308.out (fun _ hk => ⟨hk.2, hk.1.2⟩)) hg hat)
       have n4_ := qb.mk (hb)
       have n5_ := qb.mk (ho)
       clear HO_7 BK303 BK305 HO308 HB HO_6
       have HO_7 := n0_
       have BK303 := n1_
       have BK305 := n2_
       have HO308 := n3_
       have HB := n4_
       have HO311 := n5_
       clear n0_ n1_ n2_ n3_ n4_ n5_ ho hb hg hat
       refine hK.out _ _ (bl9 BK305.out) (fun hHeld => ?_)
       clear hK K
       refine norm_ (a' := ?_) ?_ ?_
       rotate_left
       ·show Act.put _ (some 31) _ = _
        simp only [Act.put, sT, s0, s1, qr, qt]
        rfl
       refine one_ (i := 8) (N := some 35) #[true, true, true, true, true, true, true, true, true, false, false, false] rfl rfl (one_of HT_.out (by kernel_rfl)) (by decide) (fun K hK => ?_)
       refine Kd.R_lit_step Kd.string _ 9 ?hg (N := 35) ?hd (xs := ([(qa l0 x23_1).f3] : List ByteArray)) (inner := [.string ((qa l0 x23_1).f3)]) (ok := fun _ => True) (okp := fun _ => True) ?hr ?hp (fun _ hk => hk) trivial (Below.refl _ _) (Nat.le_refl _) (by simp) ?_; (case hd => rfl); (case hg => rfl); (case hr => exact qC); (case hp => exact Z105)
       intro v313 w23 ho24 hb hg_ hnew_
       clear hg_ hnew_
       (first | rw [← Ny312.out] at ho24 | (simp only [Int.reduceToNat] at ho24; rw [← Ny312.out] at ho24))
       have n0_ := qb.mk (Kd.R_elder' Z134 (Kd.R_base ho24) hb)
       have n1_ := qb.mk (Kd.R_elder' Z122 (Kd.R_base ho24) hb)
       have n2_ := qb.mk (Kd.R_elder' (by (with_reducible repeat (first | apply Kd.R_alloc | apply Kd.R_drewN | apply Kd.R_drew)); exact HO311.out) (Kd.R_base ho24) hb)
       have n3_ := qb.mk (Kd.R_lower (Kd.R_new' (Kd.R_new' (Kd.R_new' ho24 (Kd.R_lt Z134)) (Kd.R_lt Z122)) (Kd.R_lt (by (with_reducible repeat (first | apply Kd.R_alloc | apply Kd.R_drewN | apply Kd.R_drew)); exact HO311.out))) (qx Z57))
       have n4_ := bb BK303 hb
       have n5_ := bb BK305 hb
       have n6_ := qb.mk (qd Z57 hb)
       clear HO_7 HO308 HO311 BK303 BK305 HB
       have HO_7 := n0_
       have HO308 := n1_
       have HO311 := n2_
       have HO314 := n3_
       have BK303 := n4_
       have BK305 := n5_
       have HB := n6_
       clear n0_ n1_ n2_ n3_ n4_ n5_ n6_ hb ho24
       refine hK.out _ _ (bl9 BK305.out) (fun hHeld => ?_)
       clear hK K
       refine norm_ (a' := ?_) ?_ ?_
       rotate_left
       ·show Act.put _ (some 35) _ = _
        simp only [Act.put, sT, s0, s1, qr, qt]
        rfl
       exact norm_ (by simp only [putAll, Act.put, sT, s0, s1]) (hCont (.slice Ao22 y306.length co22, v310, v313) _ ⟨hHeld, (by (with_reducible repeat (first | apply Kd.R_alloc | apply Kd.R_drewN | apply Kd.R_drew)); exact Kd.R_mono HO308.out (fun _ hk => ⟨hk.1.2, ⟨hk.2, hk.1.1⟩⟩)), (by (with_reducible repeat (first | apply Kd.R_alloc | apply Kd.R_drewN | apply Kd.R_drew)); exact Kd.R_mono HO311.out (fun _ hk => ⟨hk.1.2, ⟨hk.2, hk.1.1⟩⟩)), (by (with_reducible repeat (first | apply Kd.R_alloc | apply Kd.R_drewN | apply Kd.R_drew)); exact Kd.R_mono HO314.out (fun _ hk => ⟨hk.1.2, ⟨hk.2, hk.1.1.2⟩⟩)), (by (with_reducible repeat (first | apply Kd.R_alloc | apply Kd.R_drewN | apply Kd.R_drew)); exact Kd.R_mono HO_7.out (fun _ hk => ⟨hk.1.1, ⟨hk.1.2, hk.2⟩⟩)), Z116, Z117, Z57⟩)
      ·skip
       refine Kd.R_lit_step Kd.string _ 9 ?hg (N := 35) ?hd (xs := ([(qa l0 x23_1).f3] : List ByteArray)) (inner := [.string ((qa l0 x23_1).f3)]) (ok := fun _ => True) (okp := fun _ => True) ?hr ?hp (fun _ hk => hk) trivial (Below.refl _ _) (Nat.le_refl _) (by simp) ?_; (case hd => rfl); (case hg => rfl); (case hr => exact qC); (case hp => exact Z105)
       intro v313 w21 ho22 hb hg_ hnew_
       clear hg_ hnew_
       (first | rw [← Ny312.out] at ho22 | (simp only [Int.reduceToNat] at ho22; rw [← Ny312.out] at ho22))
       have n0_ := qb.mk (Kd.R_elder' Z133 (Kd.R_base ho22) hb)
       have n1_ := qb.mk (Kd.R_elder' Z134 (Kd.R_base ho22) hb)
       have n2_ := qb.mk (Kd.R_elder' Z122 (Kd.R_base ho22) hb)
       have n3_ := qb.mk (Kd.R_lower (Kd.R_new' (Kd.R_new' (Kd.R_new' ho22 (Kd.R_lt Z133)) (Kd.R_lt Z134)) (Kd.R_lt Z122)) (qx Z57))
       have n4_ := bb BK303 hb
       have n5_ := bb BK305 hb
       have n6_ := qb.mk (qd Z57 hb)
       clear HO_6 HO_7 HO308 BK303 BK305 HB
       have HO_6 := n0_
       have HO_7 := n1_
       have HO308 := n2_
       have HO314 := n3_
       have BK303 := n4_
       have BK305 := n5_
       have HB := n6_
       clear n0_ n1_ n2_ n3_ n4_ n5_ n6_ hb ho22
       obtain ⟨Ao24, co24, eo24⟩ := Kd.R_slice HO308.out
       (first | subst eo24 | (injection eo24 with f1_ f2_ f3_; have f4_ := f1_.symm; have f5_ := f3_.symm; clear f1_ f2_ f3_; subst f4_; subst f5_))
       refine hK.out _ _ (bl9 BK305.out) (fun hHeld => ?_)
       clear hK K
       refine norm_ (a' := ?_) ?_ ?_
       rotate_left
       ·show Act.put _ (some 35) _ = _
        simp only [Act.put, sT, s0, s1, qr, qt]
        rfl
       refine one_ (i := 4) (N := some 31) #[true, true, true, true, true, true, true, true, true, false, false, false] rfl rfl (one_of HT_.out (by kernel_rfl)) (by decide) (fun K hK => ?_)
       refine Kd.R_append_rows_step Kd.string (w0 := w) w.heap.size (by rfl) (.tmp 27) (.tmp 30) 70 9 (.string ⟨#[]⟩) 16 rfl Tryz.underlying70 info9 rfl (by decide) (by omega) (.slice Ao15 x6_1.length co15) x6_1 y306 _ _ _ (fun k_ => some k_ ≠ (.slice Ao16 x7_1.length co16 : Value).ownBlock ∧ some k_ ≠ (.slice Ao24 y306.length co24 : Value).ownBlock ∧ some k_ ≠ (v313 : Value).ownBlock) (fun _ => False) rfl rfl ?aO ?aR (fun _ _ h => h) (fun _ h => h.elim) ?aF ?aB ?aS ?aL ?_
       (case aR => repeat (first | exact (Kd.R_reads' HO308.out).2.2 | (with_reducible refine Kd.C_alloc ?_ _) | (with_reducible refine Kd.C_drewN ?_ _) | (with_reducible refine Kd.C_drew ?_)))
       (case aB => exact Z57)
       (case aF => exact (fun k_ hk => ⟨Kd.fresh' (Kd.R_lt Z134) k_ hk, Kd.fresh' (Kd.R_lt Z122) k_ hk, Kd.fresh' (Kd.R_lt Z123) k_ hk⟩))
       (case aO => exact (by (with_reducible repeat (first | apply Kd.R_alloc | apply Kd.R_drewN | apply Kd.R_drew)); exact Kd.R_mono HO_6.out (fun _ hk => ⟨hk.1.1, ⟨hk.1.2, hk.2⟩⟩)))
       (case aS => exact (qx Z57))
       (case aL => have := LMc10.out; omega)
       intro v310 w23 ho hb hg hat
       rw [← Ny309.out] at ho
       have n0_ := qb.mk (Kd.R_after (ok := (fun k_ => some k_ ≠ (.slice Ao24 y306.length co24 : Value).ownBlock ∧ some k_ ≠ (v313 : Value).ownBlock)) (by (with_reducible repeat (first | apply Kd.R_alloc | apply Kd.R_drewN | apply Kd.R_drew)); exact Kd.R_mono HO_7.out (fun _ hk => ⟨⟨hk.1.2, hk.2⟩, hk.1.1⟩)) hg hat)
       have n1_ := qb.mk (blk_grown (g := gb303) (o := .cells #[.string ((qa l0 a1).f0), .string ((qa l0 a1).f1), .string ((qa l0 a1).f2), .string ((qa l0 a1).f3), .int .i64 ((qa l0 a1).f4), .int .i64 ((qa l0 a1).f5), .bool ((qa l0 a1).f6), .int .i64 ((qa l0 a1).f7), .bool ((qa l0 a1).f8)] 53 (0, 0)) Z116 hg (Kd.R_ne HO_6.out BK303.out (by decide)))
       have n2_ := qb.mk (blk_grown (g := gb305) (o := .cells #[.string ((qa l0 x23_1).f0), .string ((qa l0 x23_1).f1), .string ((qa l0 x23_1).f2), .string ((qa l0 x23_1).f3), .int .i64 ((qa l0 x23_1).f4), .int .i64 ((qa l0 x23_1).f5), .bool ((qa l0 x23_1).f6), .int .i64 ((qa l0 x23_1).f7), .bool ((qa l0 x23_1).f8)] 53 (0, 0)) Z117 hg (Kd.R_ne HO_6.out BK305.out (by decide)))
       have n3_ := qb.mk (Kd.R_after (ok := (fun k_ => some k_ ≠ (.slice Ao16 x7_1.length co16 : Value).ownBlock ∧ some k_ ≠ (v313 : Value).ownBlock)) (by (with_reducible repeat (first | apply Kd.R_alloc | apply Kd.R_drewN | apply Kd.R_drew)); exact Kd.R_mono HO308.out (fun _ hk => ⟨⟨hk.1.2, hk.2⟩, hk.1.1.2⟩)) hg hat)
       have n4_ := qb.mk (Kd.R_after (ok := (fun k_ => some k_ ≠ (.slice Ao16 x7_1.length co16 : Value).ownBlock ∧ some k_ ≠ (.slice Ao24 y306.length co24 : Value).ownBlock)) (by (with_reducible repeat (first | apply Kd.R_alloc | apply Kd.R_drewN | apply Kd.R_drew)); exact Kd.R_mono HO314.out (fun _ hk => ⟨⟨hk.1.2, hk.2⟩, hk.1.1.2⟩)) hg hat)
       have n5_ := qb.mk (hb)
       have n6_ := qb.mk (ho)
       clear HO_7 BK303 BK305 HO308 HO314 HB HO_6
       have HO_7 := n0_
       have BK303 := n1_
       have BK305 := n2_
       have HO308 := n3_
       have HO314 := n4_
       have HB := n5_
       have HO311 := n6_
       clear n0_ n1_ n2_ n3_ n4_ n5_ n6_ ho hb hg hat
       refine hK.out _ _ (bl9 BK305.out) (fun hHeld => ?_)
       clear hK K
       refine norm_ (a' := ?_) ?_ ?_
       rotate_left
       ·show Act.put _ (some 31) _ = _
        simp only [Act.put, sT, s0, s1, qr, qt]
        rfl
       exact norm_ (by simp only [putAll, Act.put, sT, s0, s1]) (hCont (.slice Ao24 y306.length co24, v310, v313) _ ⟨hHeld, (by (with_reducible repeat (first | apply Kd.R_alloc | apply Kd.R_drewN | apply Kd.R_drew)); exact Kd.R_mono HO308.out (fun _ hk => ⟨hk.2, ⟨hk.1.2, hk.1.1⟩⟩)), (by (with_reducible repeat (first | apply Kd.R_alloc | apply Kd.R_drewN | apply Kd.R_drew)); exact Kd.R_mono HO311.out (fun _ hk => ⟨hk.2.1, ⟨hk.2.2, hk.1⟩⟩)), (by (with_reducible repeat (first | apply Kd.R_alloc | apply Kd.R_drewN | apply Kd.R_drew)); exact Kd.R_mono HO314.out (fun _ hk => ⟨hk.1.2, ⟨hk.2, hk.1.1⟩⟩)), (by (with_reducible repeat (first | apply Kd.R_alloc | apply Kd.R_drewN | apply Kd.R_drew)); exact Kd.R_mono HO_7.out (fun _ hk => ⟨hk.1.1, ⟨hk.2, hk.1.2⟩⟩)), Z116, Z117, Z57⟩)
     ·skip
      refine Kd.R_lit_step Kd.string _ 9 ?hg (N := 35) ?hd (xs := ([(qa l0 x23_1).f3] : List ByteArray)) (inner := [.string ((qa l0 x23_1).f3)]) (ok := fun _ => True) (okp := fun _ => True) ?hr ?hp (fun _ hk => hk) trivial (Below.refl _ _) (Nat.le_refl _) (by simp) ?_; (case hd => rfl); (case hg => rfl); (case hr => exact qC); (case hp => exact Z105)
      intro v313 w19 ho20 hb hg_ hnew_
      clear hg_ hnew_
      (first | rw [← Ny312.out] at ho20 | (simp only [Int.reduceToNat] at ho20; rw [← Ny312.out] at ho20))
      have n0_ := qb.mk (Kd.R_elder' Z133 (Kd.R_base ho20) hb)
      have n1_ := qb.mk (Kd.R_elder' Z134 (Kd.R_base ho20) hb)
      have n2_ := qb.mk (Kd.R_lower (Kd.R_new' (Kd.R_new' ho20 (Kd.R_lt Z133)) (Kd.R_lt Z134)) (qx Z57))
      have n3_ := bb BK303 hb
      have n4_ := bb BK305 hb
      have n5_ := qb.mk (qd Z57 hb)
      clear HO_6 HO_7 BK303 BK305 HB
      have HO_6 := n0_
      have HO_7 := n1_
      have HO314 := n2_
      have BK303 := n3_
      have BK305 := n4_
      have HB := n5_
      clear n0_ n1_ n2_ n3_ n4_ n5_ hb ho20
      refine hK.out _ _ (bl9 BK305.out) (fun hHeld => ?_)
      clear hK K
      refine norm_ (a' := ?_) ?_ ?_
      rotate_left
      ·show Act.put _ (some 35) _ = _
       simp only [Act.put, sT, s0, s1, qr, qt]
       rfl
      refine one_ (i := 3) (N := some 30) #[true, true, true, true, false, true, true, true, true, false, false, false] rfl rfl (one_of HT_.out (by kernel_rfl)) (by decide) (fun K hK => ?_)
      refine Kd.R_lit_step Kd.string _ 9 ?hg (N := 30) ?hd (xs := ([(qa l0 x23_1).f2] : List ByteArray)) (inner := [.string ((qa l0 x23_1).f2)]) (ok := fun _ => True) (okp := fun _ => True) ?hr ?hp (fun _ hk => hk) trivial (Below.refl _ _) (Nat.le_refl _) (by simp) ?_; (case hd => rfl); (case hg => rfl); (case hr => exact qC); (case hp => exact (Reps.one (show Kd.M Kd.string _ _ _ ((qa l0 x23_1).f2) [.string ((qa l0 x23_1).f2)] from rfl) (Reps.none _ _)))
      intro v307 w21 ho22 hb hg_ hnew_
      clear hg_ hnew_
      (first | rw [← Ny306.out] at ho22 | (simp only [Int.reduceToNat] at ho22; rw [← Ny306.out] at ho22))
      have n0_ := qb.mk (Kd.R_elder' Z133 (Kd.R_base ho22) hb)
      have n1_ := qb.mk (Kd.R_elder' Z134 (Kd.R_base ho22) hb)
      have n2_ := qb.mk (Kd.R_elder' Z123 (Kd.R_base ho22) hb)
      have n3_ := qb.mk (Kd.R_lower (Kd.R_new' (Kd.R_new' (Kd.R_new' ho22 (Kd.R_lt Z133)) (Kd.R_lt Z134)) (Kd.R_lt Z123)) (qx Z57))
      have n4_ := bb BK303 hb
      have n5_ := bb BK305 hb
      have n6_ := qb.mk (qd Z57 hb)
      clear HO_6 HO_7 HO314 BK303 BK305 HB
      have HO_6 := n0_
      have HO_7 := n1_
      have HO314 := n2_
      have HO308 := n3_
      have BK303 := n4_
      have BK305 := n5_
      have HB := n6_
      clear n0_ n1_ n2_ n3_ n4_ n5_ n6_ hb ho22
      obtain ⟨Ao24, co24, eo24⟩ := Kd.R_slice HO308.out
      (first | subst eo24 | (injection eo24 with f1_ f2_ f3_; have f4_ := f1_.symm; have f5_ := f3_.symm; clear f1_ f2_ f3_; subst f4_; subst f5_))
      refine hK.out _ _ (bl9 BK305.out) (fun hHeld => ?_)
      clear hK K
      refine norm_ (a' := ?_) ?_ ?_
      rotate_left
      ·show Act.put _ (some 30) _ = _
       simp only [Act.put, sT, s0, s1, qr, qt]
       rfl
      refine one_ (i := 4) (N := some 31) #[true, true, true, true, true, true, true, true, true, false, false, false] rfl rfl (one_of HT_.out (by kernel_rfl)) (by decide) (fun K hK => ?_)
      refine Kd.R_append_rows_step Kd.string (w0 := w) w.heap.size (by rfl) (.tmp 27) (.tmp 30) 70 9 (.string ⟨#[]⟩) 16 rfl Tryz.underlying70 info9 rfl (by decide) (by omega) (.slice Ao15 x6_1.length co15) x6_1 y306 _ _ _ (fun k_ => some k_ ≠ (.slice Ao16 x7_1.length co16 : Value).ownBlock ∧ some k_ ≠ (v313 : Value).ownBlock ∧ some k_ ≠ (.slice Ao24 y306.length co24 : Value).ownBlock) (fun _ => False) rfl rfl ?aO ?aR (fun _ _ h => h) (fun _ h => h.elim) ?aF ?aB ?aS ?aL ?_
      (case aR => repeat (first | exact (Kd.R_reads' HO308.out).2.2 | (with_reducible refine Kd.C_alloc ?_ _) | (with_reducible refine Kd.C_drewN ?_ _) | (with_reducible refine Kd.C_drew ?_)))
      (case aB => exact Z57)
      (case aF => exact (fun k_ hk => ⟨Kd.fresh' (Kd.R_lt Z134) k_ hk, Kd.fresh' (Kd.R_lt Z123) k_ hk, Kd.fresh' (Kd.R_lt Z122) k_ hk⟩))
      (case aO => exact (by (with_reducible repeat (first | apply Kd.R_alloc | apply Kd.R_drewN | apply Kd.R_drew)); exact Kd.R_mono HO_6.out (fun _ hk => ⟨hk.1.1, ⟨hk.1.2, hk.2⟩⟩)))
      (case aS => exact (qx Z57))
      (case aL => have := LMc10.out; omega)
      intro v310 w23 ho hb hg hat
      rw [← Ny309.out] at ho
      have n0_ := qb.mk (Kd.R_after (ok := (fun k_ => some k_ ≠ (v313 : Value).ownBlock ∧ some k_ ≠ (.slice Ao24 y306.length co24 : Value).ownBlock)) (by (with_reducible repeat (first | apply Kd.R_alloc | apply Kd.R_drewN | apply Kd.R_drew)); exact Kd.R_mono HO_7.out (fun _ hk => ⟨⟨hk.1.2, hk.2⟩, hk.1.1⟩)) hg hat)
      have n1_ := qb.mk (blk_grown (g := gb303) (o := .cells #[.string ((qa l0 a1).f0), .string ((qa l0 a1).f1), .string ((qa l0 a1).f2), .string ((qa l0 a1).f3), .int .i64 ((qa l0 a1).f4), .int .i64 ((qa l0 a1).f5), .bool ((qa l0 a1).f6), .int .i64 ((qa l0 a1).f7), .bool ((qa l0 a1).f8)] 53 (0, 0)) Z116 hg (Kd.R_ne HO_6.out BK303.out (by decide)))
      have n2_ := qb.mk (blk_grown (g := gb305) (o := .cells #[.string ((qa l0 x23_1).f0), .string ((qa l0 x23_1).f1), .string ((qa l0 x23_1).f2), .string ((qa l0 x23_1).f3), .int .i64 ((qa l0 x23_1).f4), .int .i64 ((qa l0 x23_1).f5), .bool ((qa l0 x23_1).f6), .int .i64 ((qa l0 x23_1).f7), .bool ((qa l0 x23_1).f8)] 53 (0, 0)) Z117 hg (Kd.R_ne HO_6.out BK305.out (by decide)))
      have n3_ := qb.mk (Kd.R_after (ok := (fun k_ => some k_ ≠ (.slice Ao16 x7_1.length co16 : Value).ownBlock ∧ some k_ ≠ (.slice Ao24 y306.length co24 : Value).ownBlock)) (by (with_reducible repeat (first | apply Kd.R_alloc | apply Kd.R_drewN | apply Kd.R_drew)); exact Kd.R_mono HO314.out (fun _ hk => ⟨⟨hk.1.2, hk.2⟩, hk.1.1.2⟩)) hg hat)
      have n4_ := qb.mk (Kd.R_after (ok := (fun k_ => some k_ ≠ (.slice Ao16 x7_1.length co16 : Value).ownBlock ∧ some k_ ≠ (v313 : Value).ownBlock)) (by (with_reducible repeat (first | apply Kd.R_alloc | apply Kd.R_drewN | apply Kd.R_drew)); exact Kd.R_mono HO308.out (fun _ hk => ⟨⟨hk.1.2, hk.2⟩, hk.1.1.2⟩)) hg hat)
      have n5_ := qb.mk (hb)
      have n6_ := qb.mk (ho)
      clear HO_7 BK303 BK305 HO314 HO308 HB HO_6
      have HO_7 := n0_
      have BK303 := n1_
      have BK305 := n2_
      have HO314 := n3_
      have HO308 := n4_
      have HB := n5_
      have HO311 := n6_
      clear n0_ n1_ n2_ n3_ n4_ n5_ n6_ ho hb hg hat
      refine hK.out _ _ (bl9 BK305.out) (fun hHeld => ?_)
      clear hK K
      refine norm_ (a' := ?_) ?_ ?_
      rotate_left
      ·show Act.put _ (some 31) _ = _
       simp only [Act.put, sT, s0, s1, qr, qt]
       rfl
      exact norm_ (by simp only [putAll, Act.put, sT, s0, s1]) (hCont (.slice Ao24 y306.length co24, v310, v313) _ ⟨hHeld, (by (with_reducible repeat (first | apply Kd.R_alloc | apply Kd.R_drewN | apply Kd.R_drew)); exact Kd.R_mono HO308.out (fun _ hk => ⟨hk.2, ⟨hk.1.2, hk.1.1⟩⟩)), (by (with_reducible repeat (first | apply Kd.R_alloc | apply Kd.R_drewN | apply Kd.R_drew)); exact Kd.R_mono HO311.out (fun _ hk => ⟨hk.2.2, ⟨hk.2.1, hk.1⟩⟩)), (by (with_reducible repeat (first | apply Kd.R_alloc | apply Kd.R_drewN | apply Kd.R_drew)); exact Kd.R_mono HO314.out (fun _ hk => ⟨hk.1.2, ⟨hk.2, hk.1.1⟩⟩)), (by (with_reducible repeat (first | apply Kd.R_alloc | apply Kd.R_drewN | apply Kd.R_drew)); exact Kd.R_mono HO_7.out (fun _ hk => ⟨hk.1.2, ⟨hk.2, hk.1.1⟩⟩)), Z116, Z117, Z57⟩)
    rintro ⟨v307, v310, v313⟩ w25 ⟨hS_, h0_, h1_, h2_, h3_, h4_, h5_, h6_⟩
    have n0_ : qb (Kd.R Kd.string 9 w25 w.heap.size (fun k_ => some k_ ≠ (v310 : Value).ownBlock ∧ some k_ ≠ (v313 : Value).ownBlock ∧ some k_ ≠ (.slice Ao16 x7_1.length co16 : Value).ownBlock) v307 y306) := ⟨h0_⟩
    have n1_ : qb (Kd.R Kd.string 9 w25 w.heap.size (fun k_ => some k_ ≠ (v307 : Value).ownBlock ∧ some k_ ≠ (v313 : Value).ownBlock ∧ some k_ ≠ (.slice Ao16 x7_1.length co16 : Value).ownBlock) v310 y309) := ⟨h1_⟩
    have n2_ : qb (Kd.R Kd.string 9 w25 w.heap.size (fun k_ => some k_ ≠ (v307 : Value).ownBlock ∧ some k_ ≠ (v310 : Value).ownBlock ∧ some k_ ≠ (.slice Ao16 x7_1.length co16 : Value).ownBlock) v313 y312) := ⟨h2_⟩
    have n3_ : qb (Kd.R Kd.string 9 w25 w.heap.size (fun k_ => some k_ ≠ (v307 : Value).ownBlock ∧ some k_ ≠ (v310 : Value).ownBlock ∧ some k_ ≠ (v313 : Value).ownBlock) (.slice Ao16 x7_1.length co16) x7_1) := ⟨h3_⟩
    have n4_ : qb (w25.heap[gb303]? = some (.cells #[.string ((qa l0 a1).f0), .string ((qa l0 a1).f1), .string ((qa l0 a1).f2), .string ((qa l0 a1).f3), .int .i64 ((qa l0 a1).f4), .int .i64 ((qa l0 a1).f5), .bool ((qa l0 a1).f6), .int .i64 ((qa l0 a1).f7), .bool ((qa l0 a1).f8)] 53 (0, 0))) := ⟨h4_⟩
    have n5_ : qb (w25.heap[gb305]? = some (.cells #[.string ((qa l0 x23_1).f0), .string ((qa l0 x23_1).f1), .string ((qa l0 x23_1).f2), .string ((qa l0 x23_1).f3), .int .i64 ((qa l0 x23_1).f4), .int .i64 ((qa l0 x23_1).f5), .bool ((qa l0 x23_1).f6), .int .i64 ((qa l0 x23_1).f7), .bool ((qa l0 x23_1).f8)] 53 (0, 0))) := ⟨h5_⟩
    have n6_ : qb (Below w.heap.size w w25) := ⟨h6_⟩
    clear HO_6 HO_7 BK303 BK305 HB h0_ h1_ h2_ h3_ h4_ h5_ h6_
    have HO308 := n0_
    have HO311 := n1_
    have HO314 := n2_
    have HO_7 := n3_
    have BK303 := n4_
    have BK305 := n5_
    have HB := n6_
    clear n0_ n1_ n2_ n3_ n4_ n5_ n6_
    have hHeld : w25.cell? ⟨gb305, 0, none⟩ = some (.string ((qa l0 x23_1).f0)) ∧ w25.cell? ⟨gb305, 1, none⟩ = some (.string ((qa l0 x23_1).f1)) ∧ w25.cell? ⟨gb305, 2, none⟩ = some (.string ((qa l0 x23_1).f2)) ∧ w25.cell? ⟨gb305, 3, none⟩ = some (.string ((qa l0 x23_1).f3)) ∧ w25.cell? ⟨gb305, 4, none⟩ = some (.int .i64 ((qa l0 x23_1).f4)) ∧ w25.cell? ⟨gb305, 5, none⟩ = some (.int .i64 ((qa l0 x23_1).f5)) ∧ w25.cell? ⟨gb305, 6, none⟩ = some (.bool ((qa l0 x23_1).f6)) ∧ w25.cell? ⟨gb305, 7, none⟩ = some (.int .i64 ((qa l0 x23_1).f7)) ∧ w25.cell? ⟨gb305, 8, none⟩ = some (.bool ((qa l0 x23_1).f8)) := hS_
    obtain ⟨Ao27, co27, eo27⟩ := Kd.R_slice HO314.out
    (first | subst eo27 | (injection eo27 with f1_ f2_ f3_; have f4_ := f1_.symm; have f5_ := f3_.symm; clear f1_ f2_ f3_; subst f4_; subst f5_))
    refine norm_ (a' := ?_) ?_ ?_
    rotate_left
    ·simp only [putAll, Act.put, sT, s0, s1]
     rfl
    refine one_ (i := 9) (N := some 36) #[true, true, true, true, true, true, true, true, true, true, false, false] rfl rfl (one_of HT_.out (by kernel_rfl)) (by decide) (fun K hK => ?_)
    refine Kd.R_append_rows_step Kd.string (w0 := w) w.heap.size (by rfl) (.tmp 32) (.tmp 35) 70 9 (.string ⟨#[]⟩) 16 rfl Tryz.underlying70 info9 rfl (by decide) (by omega) (.slice Ao16 x7_1.length co16) x7_1 y312 _ _ _ (fun k_ => some k_ ≠ (v307 : Value).ownBlock ∧ some k_ ≠ (v310 : Value).ownBlock ∧ some k_ ≠ (.slice Ao27 y312.length co27 : Value).ownBlock) (fun _ => False) rfl rfl ?aO ?aR (fun _ _ h => h) (fun _ h => h.elim) ?aF ?aB ?aS ?aL ?_
    (case aR => repeat (first | exact (Kd.R_reads' HO314.out).2.2 | (with_reducible refine Kd.C_alloc ?_ _) | (with_reducible refine Kd.C_drewN ?_ _) | (with_reducible refine Kd.C_drew ?_)))
    (case aB => exact Z57)
    (case aF => exact (fun k_ hk => ⟨Kd.fresh' (Kd.R_lt Z122) k_ hk, Kd.fresh' (Kd.R_lt (by (with_reducible repeat (first | apply Kd.R_alloc | apply Kd.R_drewN | apply Kd.R_drew)); exact HO311.out)) k_ hk, Kd.fresh' (Kd.R_lt Z123) k_ hk⟩))
    (case aO => exact Z134)
    (case aS => exact (qx Z57))
    (case aL => have := LMc11.out; omega)
    intro v316 w26 ho hb hg hat
    rw [← Ny315.out] at ho
    have n0_ := qb.mk (blk_grown (g := gb303) (o := .cells #[.string ((qa l0 a1).f0), .string ((qa l0 a1).f1), .string ((qa l0 a1).f2), .string ((qa l0 a1).f3), .int .i64 ((qa l0 a1).f4), .int .i64 ((qa l0 a1).f5), .bool ((qa l0 a1).f6), .int .i64 ((qa l0 a1).f7), .bool ((qa l0 a1).f8)] 53 (0, 0)) Z116 hg (Kd.R_ne HO_7.out BK303.out (by decide)))
    have n1_ := qb.mk (blk_grown (g := gb305) (o := .cells #[.string ((qa l0 x23_1).f0), .string ((qa l0 x23_1).f1), .string ((qa l0 x23_1).f2), .string ((qa l0 x23_1).f3), .int .i64 ((qa l0 x23_1).f4), .int .i64 ((qa l0 x23_1).f5), .bool ((qa l0 x23_1).f6), .int .i64 ((qa l0 x23_1).f7), .bool ((qa l0 x23_1).f8)] 53 (0, 0)) Z117 hg (Kd.R_ne HO_7.out BK305.out (by decide)))
    have n2_ := qb.mk (Kd.R_after (ok := (fun k_ => some k_ ≠ (v310 : Value).ownBlock ∧ some k_ ≠ (.slice Ao27 y312.length co27 : Value).ownBlock)) (by (with_reducible repeat (first | apply Kd.R_alloc | apply Kd.R_drewN | apply Kd.R_drew)); exact Kd.R_mono HO308.out (fun _ hk => ⟨⟨hk.1, hk.2.1⟩, hk.2.2⟩)) hg hat)
    have n3_ := qb.mk (Kd.R_after (ok := (fun k_ => some k_ ≠ (v307 : Value).ownBlock ∧ some k_ ≠ (.slice Ao27 y312.length co27 : Value).ownBlock)) (by (with_reducible repeat (first | apply Kd.R_alloc | apply Kd.R_drewN | apply Kd.R_drew)); exact Kd.R_mono HO311.out (fun _ hk => ⟨⟨hk.1, hk.2.1⟩, hk.2.2⟩)) hg hat)
    have n4_ := qb.mk (Kd.R_after (ok := (fun k_ => some k_ ≠ (v307 : Value).ownBlock ∧ some k_ ≠ (v310 : Value).ownBlock)) (by (with_reducible repeat (first | apply Kd.R_alloc | apply Kd.R_drewN | apply Kd.R_drew)); exact Kd.R_mono HO314.out (fun _ hk => ⟨⟨hk.1, hk.2.1⟩, hk.2.2⟩)) hg hat)
    have n5_ := qb.mk (hb)
    have n6_ := qb.mk (ho)
    clear BK303 BK305 HO308 HO311 HO314 HB HO_7
    have BK303 := n0_
    have BK305 := n1_
    have HO308 := n2_
    have HO311 := n3_
    have HO314 := n4_
    have HB := n5_
    have HO317 := n6_
    clear n0_ n1_ n2_ n3_ n4_ n5_ n6_ ho hb hg hat
    refine hK.out _ _ (bl9 BK305.out) (fun hHeld => ?_)
    clear hK K
    refine norm_ (a' := ?_) ?_ ?_
    rotate_left
    ·show Act.put _ (some 36) _ = _
     simp only [Act.put, sT, s0, s1, qr, qt]
     rfl
    refine pure_ (i := 10) (N := some 6) (v := ?_) (a' := ?_) #[true, true, true, true, true, true, true, true, true, true, true, false] rfl rfl (qy HT_.out (by kernel_rfl)) (fun _ _ _ h => h) (Or.inl ⟨by rfl, ?_⟩) ?_ ?_
    rotate_left
    ·intro w'
     go_simp
     with_reducible rfl
    rotate_left
    ·simp only [Act.put, sT, s0, s1, qr, qt]
     rfl
    refine pure_ (i := 11) (N := some 7) (v := ?_) (a' := ?_) #[true, true, true, true, true, true, true, true, true, true, true, true] rfl rfl (qy HT_.out (by kernel_rfl)) (fun _ _ _ h => h) (Or.inl ⟨by rfl, ?_⟩) ?_ ?_
    rotate_left
    ·intro w'
     go_simp
     with_reducible rfl
    rotate_left
    ·simp only [Act.put, sT, s0, s1, qr, qt]
     rfl
    refine done_ (done_of HT_.out (by kernel_rfl)) ?_
    try go_wp2
    go_roundg k1
    case measure => have := HK1.out; omega
    case rel => exact ⟨(y309), (y315), (wrap64 (x23_1 + 1)), qD, H', ⟨Z157⟩, ⟨by (with_reducible repeat (first | apply Kd.R_alloc | apply Kd.R_drewN | apply Kd.R_drew)); exact Kd.R_mono HO311.out (fun _ hk => hk.2)⟩, ⟨by (with_reducible repeat (first | apply Kd.R_alloc | apply Kd.R_drewN | apply Kd.R_drew)); exact Kd.R_mono HO317.out (fun _ hk => hk.2.1)⟩, ⟨Z116⟩, ⟨Z57⟩⟩
   rw [if_neg c7] at H
   have c7b0 : decide (x23_1 < (l0.length : Int)) = false := decide_eq_false c7
   clear c7
   replace H := Option.bind_eq_some_iff.mp H
   obtain ⟨t318, A280, H⟩ := H
   replace H : (r8isFound.l1 k1 l0 a1 x7_1 t318 (t318.length : Int) 0 ((qa l0 a1).f0) ((qa l0 a1).f1) ((qa l0 a1).f2) ((qa l0 a1).f3) ((qa l0 a1).f4) ((qa l0 a1).f5) ((qa l0 a1).f6) ((qa l0 a1).f7) ((qa l0 a1).f8)) = some r := H
   have A28 := qb.mk A280
   clear A280
   have H' := qb.mk H
   clear H
   have yc29_0 : wr.cell? ⟨gb303, 0, none⟩ = some (.string ((qa l0 a1).f0)) := (qc BK303.out 0).trans rfl
   have yc29_1 : wr.cell? ⟨gb303, 1, none⟩ = some (.string ((qa l0 a1).f1)) := (qc BK303.out 1).trans rfl
   have yc29_2 : wr.cell? ⟨gb303, 2, none⟩ = some (.string ((qa l0 a1).f2)) := (qc BK303.out 2).trans rfl
   have yc29_3 : wr.cell? ⟨gb303, 3, none⟩ = some (.string ((qa l0 a1).f3)) := (qc BK303.out 3).trans rfl
   have yc29_4 : wr.cell? ⟨gb303, 4, none⟩ = some (.int .i64 ((qa l0 a1).f4)) := (qc BK303.out 4).trans rfl
   have yc29_5 : wr.cell? ⟨gb303, 5, none⟩ = some (.int .i64 ((qa l0 a1).f5)) := (qc BK303.out 5).trans rfl
   have yc29_6 : wr.cell? ⟨gb303, 6, none⟩ = some (.bool ((qa l0 a1).f6)) := (qc BK303.out 6).trans rfl
   have yc29_7 : wr.cell? ⟨gb303, 7, none⟩ = some (.int .i64 ((qa l0 a1).f7)) := (qc BK303.out 7).trans rfl
   have yc29_8 : wr.cell? ⟨gb303, 8, none⟩ = some (.bool ((qa l0 a1).f8)) := (qc BK303.out 8).trans rfl
   have yf29_0 := qe BK303.out 0
   have yf29_1 := qe BK303.out 1
   have yf29_2 := qe BK303.out 2
   have yf29_3 := qe BK303.out 3
   have yf29_4 := qe BK303.out 4
   have yf29_5 := qe BK303.out 5
   have yf29_6 := qe BK303.out 6
   have yf29_7 := qe BK303.out 7
   have yf29_8 := qe BK303.out 8
   obtain ⟨Ao30, co30, eo30⟩ := Kd.R_slice HO_6.out
   subst eo30
   go_wp2_with (first | ((with_reducible refine qg (f := 60) rfl ?_); refine goesL_ (some 41) rfl rfl Tryz.func60 (by kernel_rfl) rfl #[.string ((qa l0 a1).f2), .slice Ao30 x6_1.length co30] rfl Z61 ?_; (with_reducible refine (r8some.calls ((qa l0 a1).f2) _ _ x6_1 t318 _ ?side1 ?side2 A28.out).mono ?_); (case side1 => repeat (first | exact (Kd.R_reads' HO_6.out).2.2 | (with_reducible refine Kd.C_alloc ?_ _) | (with_reducible refine Kd.C_drewN ?_ _) | (with_reducible refine Kd.C_drew ?_))); (case side2 => exact (Kd.R_reads' HO_6.out).2.1); rintro e w31 ⟨v319, rfl, ho0, hb⟩; refine ⟨_, rfl, ?_⟩; have n0_ := qb.mk (Kd.R_elder' Z133 (Kd.R_base ho0) hb); have n1_ := qb.mk (Kd.R_elder' Z134 (Kd.R_base ho0) hb); have n2_ := qb.mk (Kd.R_lower (Kd.R_new' (Kd.R_new' ho0 (Kd.R_lt Z133)) (Kd.R_lt Z134)) (qx Z92)); have n3_ := bb BK303 hb; have n4_ := qb.mk (qd Z92 hb); clear HO_6 HO_7 BK303 HB; have HO_6 := n0_; have HO_7 := n1_; have HO320 := n2_; have BK303 := n3_; have HB := n4_; clear n0_ n1_ n2_ n3_ n4_; (try clear hb); (try clear hb2); (try clear hk); (try clear hi); (try clear ho0); obtain ⟨Ao32, co32, eo32⟩ := Kd.R_slice HO320.out; subst eo32))
   go_loopg [43] k1 (fun kq v43 w' => ∃ (x43_2 : Int), v43 = .int .i64 x43_2 ∧ qb (r8isFound.l1 kq l0 a1 x7_1 t318 (t318.length : Int) x43_2 ((qa l0 a1).f0) ((qa l0 a1).f1) ((qa l0 a1).f2) ((qa l0 a1).f3) ((qa l0 a1).f4) ((qa l0 a1).f5) ((qa l0 a1).f6) ((qa l0 a1).f7) ((qa l0 a1).f8) = some r) ∧ qb (kq ≤ k1) ∧ qb (Kd.R Kd.string 9 w' w.heap.size (fun k_ => some k_ ≠ ((.slice Ao32 t318.length co32) : Value).ownBlock) u7 x7_1) ∧ qb (Kd.R Kd.string 9 w' w.heap.size (fun k_ => some k_ ≠ (u7 : Value).ownBlock) (.slice Ao32 t318.length co32) t318) ∧ qb (w'.heap[gb303]? = some (.cells #[.string ((qa l0 a1).f0), .string ((qa l0 a1).f1), .string ((qa l0 a1).f2), .string ((qa l0 a1).f3), .int .i64 ((qa l0 a1).f4), .int .i64 ((qa l0 a1).f5), .bool ((qa l0 a1).f6), .int .i64 ((qa l0 a1).f7), .bool ((qa l0 a1).f8)] 53 (0, 0))) ∧ qb (Below w.heap.size w w'))
   case atStart => exact ⟨(0), qD, H', ⟨Nat.le_refl _⟩, ⟨by (with_reducible repeat (first | apply Kd.R_alloc | apply Kd.R_drewN | apply Kd.R_drew)); exact Kd.R_mono HO_7.out (fun _ hk => hk.2)⟩, ⟨by (with_reducible repeat (first | apply Kd.R_alloc | apply Kd.R_drewN | apply Kd.R_drew)); exact Kd.R_mono HO320.out (fun _ hk => hk.2)⟩, ⟨Z116⟩, ⟨Z92⟩⟩
   case round =>
    clear H'
    try clear c1; try clear p2; try clear p3; try clear q3; try clear hx3; try clear c6; try clear p6; try clear c7; try clear c7b0; try clear c8; try clear c8b0; try clear c9; try clear c9b0; try clear c10; try clear c11; try clear c13; try clear p30; try clear q30; try clear hx30; try clear yc14_0 yc14_1 yc14_2 yc14_3 yc14_4 yc14_5 yc14_6 yc14_7 yc14_8 yf14_0 yf14_1 yf14_2 yf14_3 yf14_4 yf14_5 yf14_6 yf14_7 yf14_8; try clear yc29_0 yc29_1 yc29_2 yc29_3 yc29_4 yc29_5 yc29_6 yc29_7 yc29_8 yf29_0 yf29_1 yf29_2 yf29_3 yf29_4 yf29_5 yf29_6 yf29_7 yf29_8; try clear yc6_1 yc6_2 yc6_3 yc6_4 yc6_5 yc6_6 yc6_7 yc6_8 yf6_0 yf6_1 yf6_2 yf6_3 yf6_4 yf6_5 yf6_6 yf6_7 yf6_8; try clear hx302_0; try clear hx302_1; try clear hx302_2; try clear hx302_3; try clear hx302_4; try clear hx302_5; try clear hx302_6; try clear hx302_7; try clear hx302_8; try clear hx304_0; try clear hx304_1; try clear hx304_2; try clear hx304_3; try clear hx304_4; try clear hx304_5; try clear hx304_6; try clear hx304_7; try clear hx304_8; try clear p302; try clear p304; try clear q302; try clear q304
    obtain ⟨x43_2, rfl, HA, HK2, HO_7, HO_41, BK303, HB⟩ := hrel
    cases gk with
    | zero => exact absurd HA.out (by simp [r8isFound.l1])
    | succ k2 =>
     have H := HA.out
     clear HA
     simp only [r8isFound.l1] at H
     by_cases c33 : x43_2 < (t318.length : Int)
     case neg =>
      rw [if_neg c33] at H
      have c33b0 : decide (x43_2 < (t318.length : Int)) = false := decide_eq_false c33
      clear c33
      obtain rfl := Option.some.inj H
      go_wp2
      go_ret
      exact ⟨Z97, Z92⟩
     rw [if_pos c33] at H
     have c33b0 : decide (x43_2 < (t318.length : Int)) = true := decide_eq_true c33
     clear c33
     by_cases c34 : 0 ≤ x43_2
     case neg =>
      rw [if_neg c34] at H
      exact absurd H (by simp)
     rw [if_pos c34] at H
     have c34b0 : decide (0 ≤ x43_2) = true := decide_eq_true c34
     clear c34
     by_cases c35 : x43_2 < (t318.length : Int)
     case neg =>
      rw [if_neg c35] at H
      exact absurd H (by simp)
     rw [if_pos c35] at H
     have c35b0 : decide (x43_2 < (t318.length : Int)) = true := decide_eq_true c35
     clear c35
     replace H := Option.bind_eq_some_iff.mp H
     obtain ⟨t322, A360, H⟩ := H
     replace H : (r8isFound.l2 k2 l0 a1 x7_1 (rdOf ByteArray.empty t318 x43_2) t318 (t318.length : Int) x43_2 t322 (t322.length : Int) 0 ((qa l0 a1).f0) ((qa l0 a1).f1) ((qa l0 a1).f2) ((qa l0 a1).f3) ((qa l0 a1).f4) ((qa l0 a1).f5) ((qa l0 a1).f6) ((qa l0 a1).f7) ((qa l0 a1).f8)) = some r := H
     have A36 := qb.mk A360
     clear A360
     have H' := qb.mk H
     clear H
     have p321 : 0 ≤ (x43_2 : Int) := of_decide_eq_true qB
     have q321 : x43_2 < (t318.length : Int) := of_decide_eq_true qB
     obtain ⟨ad321, e321, hx321_0⟩ := Kd.at_string (Kd.R_reads' HO_41.out).2.2 x43_2 p321 q321
     cases e321
     replace p321 := eq_true p321
     replace q321 := eq_true q321
     have yc37_0 : wr.cell? ⟨gb303, 0, none⟩ = some (.string ((qa l0 a1).f0)) := (qc BK303.out 0).trans rfl
     have yc37_1 : wr.cell? ⟨gb303, 1, none⟩ = some (.string ((qa l0 a1).f1)) := (qc BK303.out 1).trans rfl
     have yc37_2 : wr.cell? ⟨gb303, 2, none⟩ = some (.string ((qa l0 a1).f2)) := (qc BK303.out 2).trans rfl
     have yc37_3 : wr.cell? ⟨gb303, 3, none⟩ = some (.string ((qa l0 a1).f3)) := (qc BK303.out 3).trans rfl
     have yc37_4 : wr.cell? ⟨gb303, 4, none⟩ = some (.int .i64 ((qa l0 a1).f4)) := (qc BK303.out 4).trans rfl
     have yc37_5 : wr.cell? ⟨gb303, 5, none⟩ = some (.int .i64 ((qa l0 a1).f5)) := (qc BK303.out 5).trans rfl
     have yc37_6 : wr.cell? ⟨gb303, 6, none⟩ = some (.bool ((qa l0 a1).f6)) := (qc BK303.out 6).trans rfl
     have yc37_7 : wr.cell? ⟨gb303, 7, none⟩ = some (.int .i64 ((qa l0 a1).f7)) := (qc BK303.out 7).trans rfl
     have yc37_8 : wr.cell? ⟨gb303, 8, none⟩ = some (.bool ((qa l0 a1).f8)) := (qc BK303.out 8).trans rfl
     have yf37_0 := qe BK303.out 0
     have yf37_1 := qe BK303.out 1
     have yf37_2 := qe BK303.out 2
     have yf37_3 := qe BK303.out 3
     have yf37_4 := qe BK303.out 4
     have yf37_5 := qe BK303.out 5
     have yf37_6 := qe BK303.out 6
     have yf37_7 := qe BK303.out 7
     have yf37_8 := qe BK303.out 8
     obtain ⟨Ao38, co38, eo38⟩ := Kd.R_slice HO_7.out
     subst eo38
     go_wp2_with (first | ((with_reducible refine qg (f := 60) rfl ?_); refine goesL_ (some 50) rfl rfl Tryz.func60 (by kernel_rfl) rfl #[.string ((qa l0 a1).f3), .slice Ao38 x7_1.length co38] rfl Z61 ?_; (with_reducible refine (r8some.calls ((qa l0 a1).f3) _ _ x7_1 t322 _ ?side1 ?side2 A36.out).mono ?_); (case side1 => repeat (first | exact (Kd.R_reads' HO_7.out).2.2 | (with_reducible refine Kd.C_alloc ?_ _) | (with_reducible refine Kd.C_drewN ?_ _) | (with_reducible refine Kd.C_drew ?_))); (case side2 => exact (Kd.R_reads' HO_7.out).2.1); rintro e w39 ⟨v323, rfl, ho0, hb⟩; refine ⟨_, rfl, ?_⟩; have n0_ := qb.mk (Kd.R_elder' Z134 (Kd.R_base ho0) hb); have n1_ := qb.mk (Kd.R_elder' Z124 (Kd.R_base ho0) hb); have n2_ := qb.mk (Kd.R_lower (Kd.R_new' (Kd.R_new' ho0 (Kd.R_lt Z134)) (Kd.R_lt Z124)) (qx Z92)); have n3_ := bb BK303 hb; have n4_ := qb.mk (qd Z92 hb); clear HO_7 HO_41 BK303 HB; have HO_7 := n0_; have HO_41 := n1_; have HO324 := n2_; have BK303 := n3_; have HB := n4_; clear n0_ n1_ n2_ n3_ n4_; (try clear hb); (try clear hb2); (try clear hk); (try clear hi); (try clear ho0); obtain ⟨Ao40, co40, eo40⟩ := Kd.R_slice HO324.out; subst eo40))
     go_loopg [52] k2 (fun kq v52 w' => ∃ (x52_3 : Int), v52 = .int .i64 x52_3 ∧ qb (r8isFound.l2 kq l0 a1 x7_1 (rdOf ByteArray.empty t318 x43_2) t318 (t318.length : Int) x43_2 t322 (t322.length : Int) x52_3 ((qa l0 a1).f0) ((qa l0 a1).f1) ((qa l0 a1).f2) ((qa l0 a1).f3) ((qa l0 a1).f4) ((qa l0 a1).f5) ((qa l0 a1).f6) ((qa l0 a1).f7) ((qa l0 a1).f8) = some r) ∧ qb (kq ≤ k2) ∧ qb (Kd.R Kd.string 9 w' w.heap.size (fun k_ => some k_ ≠ ((.slice (some ad321) t318.length co32) : Value).ownBlock ∧ some k_ ≠ ((.slice Ao40 t322.length co40) : Value).ownBlock) (.slice Ao38 x7_1.length co38) x7_1) ∧ qb (Kd.R Kd.string 9 w' w.heap.size (fun k_ => some k_ ≠ ((.slice Ao38 x7_1.length co38) : Value).ownBlock ∧ some k_ ≠ ((.slice Ao40 t322.length co40) : Value).ownBlock) (.slice (some ad321) t318.length co32) t318) ∧ qb (Kd.R Kd.string 9 w' w.heap.size (fun k_ => some k_ ≠ ((.slice Ao38 x7_1.length co38) : Value).ownBlock ∧ some k_ ≠ ((.slice (some ad321) t318.length co32) : Value).ownBlock) (.slice Ao40 t322.length co40) t322) ∧ qb (w'.heap[gb303]? = some (.cells #[.string ((qa l0 a1).f0), .string ((qa l0 a1).f1), .string ((qa l0 a1).f2), .string ((qa l0 a1).f3), .int .i64 ((qa l0 a1).f4), .int .i64 ((qa l0 a1).f5), .bool ((qa l0 a1).f6), .int .i64 ((qa l0 a1).f7), .bool ((qa l0 a1).f8)] 53 (0, 0))) ∧ qb (Below w.heap.size w w'))
     case atStart => exact ⟨(0), qD, H', ⟨Nat.le_refl _⟩, ⟨Z134⟩, ⟨Z124⟩, ⟨by (with_reducible repeat (first | apply Kd.R_alloc | apply Kd.R_drewN | apply Kd.R_drew)); exact Kd.R_mono HO324.out (fun _ hk => ⟨hk.1.2, hk.2⟩)⟩, ⟨Z116⟩, ⟨Z92⟩⟩
     case round =>
      clear H'
      try clear c1; try clear p2 p2; try clear c3; try clear p3 p3; try clear q3 q3; try clear hx3; try clear c6; try clear p6 p6; try clear c7; try clear c7b0; try clear c8; try clear c8b0; try clear c9; try clear c9b0; try clear c10; try clear c11; try clear c13; try clear p30 p30; try clear q30 q30; try clear hx30; try clear p32; try clear q32; try clear hx32; try clear c33; try clear c33b0; try clear c34; try clear c34b0; try clear c35; try clear c35b0; try clear yc14_0 yc14_1 yc14_2 yc14_3 yc14_4 yc14_5 yc14_6 yc14_7 yc14_8 yf14_0 yf14_1 yf14_2 yf14_3 yf14_4 yf14_5 yf14_6 yf14_7 yf14_8; try clear yc29_0 yc29_1 yc29_2 yc29_3 yc29_4 yc29_5 yc29_6 yc29_7 yc29_8 yf29_0 yf29_1 yf29_2 yf29_3 yf29_4 yf29_5 yf29_6 yf29_7 yf29_8; try clear yc37_0 yc37_1 yc37_2 yc37_3 yc37_4 yc37_5 yc37_6 yc37_7 yc37_8 yf37_0 yf37_1 yf37_2 yf37_3 yf37_4 yf37_5 yf37_6 yf37_7 yf37_8; try clear yc6_1 yc6_2 yc6_3 yc6_4 yc6_5 yc6_6 yc6_7 yc6_8 yf6_0 yf6_1 yf6_2 yf6_3 yf6_4 yf6_5 yf6_6 yf6_7 yf6_8; try clear hx302_0; try clear hx302_1; try clear hx302_2; try clear hx302_3; try clear hx302_4; try clear hx302_5; try clear hx302_6; try clear hx302_7; try clear hx302_8; try clear hx304_0; try clear hx304_1; try clear hx304_2; try clear hx304_3; try clear hx304_4; try clear hx304_5; try clear hx304_6; try clear hx304_7; try clear hx304_8; try clear hx321_0; try clear p302; try clear p304; try clear p321; try clear q302; try clear q304; try clear q321
      obtain ⟨x52_3, rfl, HA, HK3, HO_7, HO_41, HO_50, BK303, HB⟩ := hrel
      cases gk with
      | zero => exact absurd HA.out (by simp [r8isFound.l2])
      | succ k3 =>
       have H := HA.out
       clear HA
       simp only [r8isFound.l2] at H
       by_cases c41 : x52_3 < (t322.length : Int)
       case neg =>
        rw [if_neg c41] at H
        have c41b0 : decide (x52_3 < (t322.length : Int)) = false := decide_eq_false c41
        clear c41
        have H' := qb.mk H
        clear H
        go_wp2
        go_roundg k3
        case measure => have := HK1.out; have := HK2.out; have := HK3.out; omega
        case rel => exact ⟨(wrap64 (x43_2 + 1)), qD, H', ⟨by have := HK1.out; have := HK2.out; have := HK3.out; omega⟩, ⟨by (with_reducible repeat (first | apply Kd.R_alloc | apply Kd.R_drewN | apply Kd.R_drew)); exact Kd.R_mono HO_7.out (fun _ hk => hk.1)⟩, ⟨by (with_reducible repeat (first | apply Kd.R_alloc | apply Kd.R_drewN | apply Kd.R_drew)); exact Kd.R_mono HO_41.out (fun _ hk => hk.1)⟩, ⟨Z116⟩, ⟨Z92⟩⟩
       rw [if_pos c41] at H
       have c41b0 : decide (x52_3 < (t322.length : Int)) = true := decide_eq_true c41
       clear c41
       by_cases c42 : 0 ≤ x52_3
       case neg =>
        rw [if_neg c42] at H
        exact absurd H (by simp)
       rw [if_pos c42] at H
       have c42b0 : decide (0 ≤ x52_3) = true := decide_eq_true c42
       clear c42
       by_cases c43 : x52_3 < (t322.length : Int)
       case neg =>
        rw [if_neg c43] at H
        exact absurd H (by simp)
       rw [if_pos c43] at H
       have c43b0 : decide (x52_3 < (t322.length : Int)) = true := decide_eq_true c43
       clear c43
       replace H := Option.bind_eq_some_iff.mp H
       obtain ⟨t326, A440, H⟩ := H
       replace H : ((some (([((qa l0 a1).f4)] : List Int) : List Int)).bind fun y329 => (if t326.length + y329.length < 17592186044416 then ((some (t326 ++ y329 : List Int)).bind fun y332 => (r8isFound.l3 k3 l0 a1 x7_1 (rdOf ByteArray.empty t318 x43_2) (rdOf ByteArray.empty t322 x52_3) t318 (t318.length : Int) x43_2 t322 (t322.length : Int) x52_3 y332 (y332.length : Int) 0 ((qa l0 a1).f0) ((qa l0 a1).f1) ((qa l0 a1).f2) ((qa l0 a1).f3) ((qa l0 a1).f4) ((qa l0 a1).f5) ((qa l0 a1).f6) ((qa l0 a1).f7) ((qa l0 a1).f8))) else (none))) = some r := H
       have A44 := qb.mk A440
       clear A440
       obtain ⟨y329, hy329⟩ : ∃ y_ : List Int, y_ = (([((qa l0 a1).f4)] : List Int)) := ⟨_, rfl⟩
       replace H : (if t326.length + y329.length < 17592186044416 then ((some (t326 ++ y329 : List Int)).bind fun y332 => (r8isFound.l3 k3 l0 a1 x7_1 (rdOf ByteArray.empty t318 x43_2) (rdOf ByteArray.empty t322 x52_3) t318 (t318.length : Int) x43_2 t322 (t322.length : Int) x52_3 y332 (y332.length : Int) 0 ((qa l0 a1).f0) ((qa l0 a1).f1) ((qa l0 a1).f2) ((qa l0 a1).f3) ((qa l0 a1).f4) ((qa l0 a1).f5) ((qa l0 a1).f6) ((qa l0 a1).f7) ((qa l0 a1).f8))) else (none)) = some r := by first | (rw [hy329]; with_reducible exact H) | (have H2_ := (Option.bind_some _ _).symm.trans H; rw [hy329]; with_reducible exact H2_) | (have H2_ := (Option.bind_some _ _).symm.trans H; with_reducible exact H2_) | with_reducible exact H | (rw [hy329]; exact H) | exact H
       have Ny329 := qb.mk hy329
       clear hy329
       by_cases c45 : t326.length + y329.length < 17592186044416
       case neg =>
        rw [if_neg c45] at H
        exact absurd H (by simp)
       rw [if_pos c45] at H
       have LMc45 := qb.mk c45
       clear c45
       obtain ⟨y332, hy332⟩ : ∃ y_ : List Int, y_ = (t326 ++ y329) := ⟨_, rfl⟩
       replace H : (r8isFound.l3 k3 l0 a1 x7_1 (rdOf ByteArray.empty t318 x43_2) (rdOf ByteArray.empty t322 x52_3) t318 (t318.length : Int) x43_2 t322 (t322.length : Int) x52_3 y332 (y332.length : Int) 0 ((qa l0 a1).f0) ((qa l0 a1).f1) ((qa l0 a1).f2) ((qa l0 a1).f3) ((qa l0 a1).f4) ((qa l0 a1).f5) ((qa l0 a1).f6) ((qa l0 a1).f7) ((qa l0 a1).f8)) = some r := by first | (rw [hy332]; with_reducible exact H) | (have H2_ := (Option.bind_some _ _).symm.trans H; rw [hy332]; with_reducible exact H2_) | (have H2_ := (Option.bind_some _ _).symm.trans H; with_reducible exact H2_) | with_reducible exact H | (rw [hy332]; exact H) | exact H
       have Ny332 := qb.mk hy332
       clear hy332
       have H' := qb.mk H
       clear H
       have p325 : 0 ≤ (x52_3 : Int) := of_decide_eq_true qB
       have q325 : x52_3 < (t322.length : Int) := of_decide_eq_true qB
       obtain ⟨ad325, e325, hx325_0⟩ := Kd.at_string (Kd.R_reads' HO_50.out).2.2 x52_3 p325 q325
       cases e325
       replace p325 := eq_true p325
       replace q325 := eq_true q325
       try go_wp2
       have n0_ := qb.mk (Kd.R_drew HO_7.out)
       have n1_ := qb.mk (Kd.R_drew HO_41.out)
       have n2_ := qb.mk (Kd.R_drew HO_50.out)
       have n3_ := qb.mk (qm BK303.out)
       have n4_ := qb.mk (qo HB.out)
       clear HO_7 HO_41 HO_50 BK303 HB
       have HO_7 := n0_
       have HO_41 := n1_
       have HO_50 := n2_
       have BK303 := n3_
       have HB := n4_
       clear n0_ n1_ n2_ n3_ n4_
       refine start_ (n := 8) (S := fun w' => w'.cell? ⟨gb303, 0, none⟩ = some (.string ((qa l0 a1).f0)) ∧ w'.cell? ⟨gb303, 1, none⟩ = some (.string ((qa l0 a1).f1)) ∧ w'.cell? ⟨gb303, 2, none⟩ = some (.string ((qa l0 a1).f2)) ∧ w'.cell? ⟨gb303, 3, none⟩ = some (.string ((qa l0 a1).f3)) ∧ w'.cell? ⟨gb303, 4, none⟩ = some (.int .i64 ((qa l0 a1).f4)) ∧ w'.cell? ⟨gb303, 5, none⟩ = some (.int .i64 ((qa l0 a1).f5)) ∧ w'.cell? ⟨gb303, 6, none⟩ = some (.bool ((qa l0 a1).f6)) ∧ w'.cell? ⟨gb303, 7, none⟩ = some (.int .i64 ((qa l0 a1).f7)) ∧ w'.cell? ⟨gb303, 8, none⟩ = some (.bool ((qa l0 a1).f8))) (ds := []) #[false, false, false, false, false, false, false, false] (by kernel_rfl) rfl rfl (bl9 BK303.out) (fun hHeld => ?_); refine with_tabW r8isFound.tab14 r8isFound.bits14 (fun HT_ HW_ => ?_)
       generalize wr.drew = w46 at HO_7 HO_41 HO_50 BK303 HB hHeld ⊢
       refine pure_ (i := 0) (N := some 56) (v := ?_) (a' := ?_) #[true, false, false, false, false, false, false, false] rfl rfl (qy HT_.out (by kernel_rfl)) (fun _ _ _ h => h) (Or.inl ⟨by rfl, ?_⟩) ?_ ?_
       rotate_left
       ·intro w'
        go_simp
        with_reducible rfl
       rotate_left
       ·simp only [Act.put, sT, s0, s1, qr, qt]
        rfl
       refine pure_ (i := 2) (N := some 58) (v := ?_) (a' := ?_) #[true, false, true, false, false, false, false, false] rfl rfl (qy HT_.out (by kernel_rfl)) (fun _ _ _ h => h) (Or.inl ⟨by rfl, ?_⟩) ?_ ?_
       rotate_left
       ·intro w'
        go_simp
        with_reducible rfl
       rotate_left
       ·simp only [Act.put, sT, s0, s1, qr, qt]
        rfl
       refine pure_ (i := 7) (N := some 63) (v := ?_) (a' := ?_) #[true, false, true, false, false, false, false, true] rfl rfl (qy HT_.out (by kernel_rfl)) (fun _ _ _ h => h) (Or.inl ⟨by rfl, ?_⟩) ?_ ?_
       rotate_left
       ·intro w'
        go_simp
        with_reducible rfl
       rotate_left
       ·simp only [Act.put, sT, s0, s1, qr, qt]
        rfl
       refine take_ (i := 3) (N := some 59) (v := ?_) (a' := ?_) #[true, false, true, true, false, false, false, true] rfl rfl (qE HT_.out HW_.out (by kernel_rfl)) (fun _ _ _ h => h) (Or.inl ⟨by rfl, ?_⟩) hHeld ?_ ?_
       rotate_left
       ·rintro w' ⟨s0, s1, s2, s3, s4, s5, s6, s7, s8⟩
        go_simp
        with_reducible rfl
       rotate_left
       ·simp only [Act.put, sT, s0, s1, qr, qt]
        rfl
       refine join_ (σ := Value × Value) 2 #[true, true, true, true, true, false, false, true] (fun s_ => [(57, s_.1), (60, s_.2)]) (fun s_ w' => (w'.cell? ⟨gb303, 0, none⟩ = some (.string ((qa l0 a1).f0)) ∧ w'.cell? ⟨gb303, 1, none⟩ = some (.string ((qa l0 a1).f1)) ∧ w'.cell? ⟨gb303, 2, none⟩ = some (.string ((qa l0 a1).f2)) ∧ w'.cell? ⟨gb303, 3, none⟩ = some (.string ((qa l0 a1).f3)) ∧ w'.cell? ⟨gb303, 4, none⟩ = some (.int .i64 ((qa l0 a1).f4)) ∧ w'.cell? ⟨gb303, 5, none⟩ = some (.int .i64 ((qa l0 a1).f5)) ∧ w'.cell? ⟨gb303, 6, none⟩ = some (.bool ((qa l0 a1).f6)) ∧ w'.cell? ⟨gb303, 7, none⟩ = some (.int .i64 ((qa l0 a1).f7)) ∧ w'.cell? ⟨gb303, 8, none⟩ = some (.bool ((qa l0 a1).f8))) ∧ (Kd.R (Kd.int .i64) 3 w' w.heap.size (fun k_ => some k_ ≠ (s_.2 : Value).ownBlock) s_.1 t326) ∧ (Kd.R (Kd.int .i64) 3 w' w.heap.size (fun k_ => some k_ ≠ (s_.1 : Value).ownBlock) s_.2 y329) ∧ (Kd.R Kd.string 9 w' w.heap.size (fun k_ => some k_ ≠ (.slice (some ad325) t322.length co40 : Value).ownBlock ∧ some k_ ≠ (.slice Ao38 x7_1.length co38 : Value).ownBlock) (.slice (some ad321) t318.length co32) t318) ∧ (Kd.R Kd.string 9 w' w.heap.size (fun k_ => some k_ ≠ (.slice (some ad321) t318.length co32 : Value).ownBlock ∧ some k_ ≠ (.slice Ao38 x7_1.length co38 : Value).ownBlock) (.slice (some ad325) t322.length co40) t322) ∧ (Kd.R Kd.string 9 w' w.heap.size (fun k_ => some k_ ≠ (.slice (some ad321) t318.length co32 : Value).ownBlock ∧ some k_ ≠ (.slice (some ad325) t322.length co40 : Value).ownBlock) (.slice Ao38 x7_1.length co38) x7_1) ∧ (w'.heap[gb303]? = some (.cells #[.string ((qa l0 a1).f0), .string ((qa l0 a1).f1), .string ((qa l0 a1).f2), .string ((qa l0 a1).f3), .int .i64 ((qa l0 a1).f4), .int .i64 ((qa l0 a1).f5), .bool ((qa l0 a1).f6), .int .i64 ((qa l0 a1).f7), .bool ((qa l0 a1).f8)] 53 (0, 0))) ∧ (Below w.heap.size w w')) ?_ ?_
       rotate_left
       ·intro hCont
        refine two_ (i := 1) (j := 4) (Ni := some 57) (Nj := some 60) #[true, true, true, true, false, false, false, true] #[true, false, true, true, true, false, false, true] rfl rfl rfl rfl (two_of HT_.out (by kernel_rfl)) (by decide) (by decide) (fun K hK => ?_) (fun K hK => ?_)
        ·skip
         refine goes_ Tryz.func21 (by kernel_rfl) rfl #[.slice (some ad302) l0.length c0] (by rfl) rfl rfl Z61 ?_
         with_reducible refine (r8turns.calls k3 _ _ l0 t326 _ ?side1 ?side2 A44.out).mono ?_
         (case side1 => exact Z62)
         (case side2 => exact Z158)
         rintro e w47 ⟨v327, rfl, ho0, hb⟩
         refine ⟨_, rfl, ?_⟩
         have n0_ := qb.mk (Kd.R_below Z134 hb)
         have n1_ := qb.mk (Kd.R_below Z124 hb)
         have n2_ := qb.mk (Kd.R_below Z125 hb)
         have n3_ := qb.mk (Kd.R_lower ho0 (qx Z92))
         have n4_ := bb BK303 hb
         have n5_ := qb.mk (qd Z92 hb)
         clear HO_7 HO_41 HO_50 BK303 HB
         have HO_7 := n0_
         have HO_41 := n1_
         have HO_50 := n2_
         have HO328 := n3_
         have BK303 := n4_
         have HB := n5_
         clear n0_ n1_ n2_ n3_ n4_ n5_
         (try clear hb)
         (try clear hb2)
         (try clear hk)
         (try clear hi)
         (try clear ho0)
         refine hK.out _ _ (bl9 BK303.out) (fun hHeld => ?_)
         clear hK K
         refine norm_ (a' := ?_) ?_ ?_
         rotate_left
         ·show Act.put _ (some 57) _ = _
          simp only [Act.put, sT, s0, s1, qr, qt]
          rfl
         refine one_ (i := 4) (N := some 60) #[true, true, true, true, true, false, false, true] rfl rfl (one_of HT_.out (by kernel_rfl)) (by decide) (fun K hK => ?_)
         refine Kd.R_lit_step (Kd.int .i64) _ 3 ?hg (N := 60) ?hd (xs := ([((qa l0 a1).f4)] : List Int)) (inner := [.int .i64 ((qa l0 a1).f4)]) (ok := fun _ => True) (okp := fun _ => True) ?hr ?hp (fun _ hk => hk) trivial (Below.refl _ _) (Nat.le_refl _) (by simp) ?_; (case hd => rfl); (case hg => rfl); (case hr => exact qC); (case hp => exact (Reps.one (show Kd.M (Kd.int .i64) _ _ _ ((qa l0 a1).f4) [.int .i64 ((qa l0 a1).f4)] from rfl) (Reps.none _ _)))
         intro v330 w48 ho49 hb hg_ hnew_
         clear hg_ hnew_
         (first | rw [← Ny329.out] at ho49 | (simp only [Int.reduceToNat] at ho49; rw [← Ny329.out] at ho49))
         have n0_ := qb.mk (Kd.R_below Z134 hb)
         have n1_ := qb.mk (Kd.R_below Z124 hb)
         have n2_ := qb.mk (Kd.R_below Z125 hb)
         have n3_ := qb.mk (Kd.R_elder' Z126 (Kd.R_base ho49) hb)
         have n4_ := qb.mk (Kd.R_lower (Kd.R_new' ho49 (Kd.R_lt Z126)) (qx Z92))
         have n5_ := bb BK303 hb
         have n6_ := qb.mk (qd Z92 hb)
         clear HO_7 HO_41 HO_50 HO328 BK303 HB
         have HO_7 := n0_
         have HO_41 := n1_
         have HO_50 := n2_
         have HO328 := n3_
         have HO331 := n4_
         have BK303 := n5_
         have HB := n6_
         clear n0_ n1_ n2_ n3_ n4_ n5_ n6_ hb ho49
         refine hK.out _ _ (bl9 BK303.out) (fun hHeld => ?_)
         clear hK K
         refine norm_ (a' := ?_) ?_ ?_
         rotate_left
         ·show Act.put _ (some 60) _ = _
          simp only [Act.put, sT, s0, s1, qr, qt]
          rfl
         exact norm_ (by simp only [putAll, Act.put, sT, s0, s1]) (hCont (v327, v330) _ ⟨hHeld, (by (with_reducible repeat (first | apply Kd.R_alloc | apply Kd.R_drewN | apply Kd.R_drew)); exact Kd.R_mono HO328.out (fun _ hk => hk.2)), (by (with_reducible repeat (first | apply Kd.R_alloc | apply Kd.R_drewN | apply Kd.R_drew)); exact Kd.R_mono HO331.out (fun _ hk => hk.2)), Z100, Z101, Z134, Z116, Z92⟩)
        ·skip
         refine Kd.R_lit_step (Kd.int .i64) _ 3 ?hg (N := 60) ?hd (xs := ([((qa l0 a1).f4)] : List Int)) (inner := [.int .i64 ((qa l0 a1).f4)]) (ok := fun _ => True) (okp := fun _ => True) ?hr ?hp (fun _ hk => hk) trivial (Below.refl _ _) (Nat.le_refl _) (by simp) ?_; (case hd => rfl); (case hg => rfl); (case hr => exact qC); (case hp => exact (Reps.one (show Kd.M (Kd.int .i64) _ _ _ ((qa l0 a1).f4) [.int .i64 ((qa l0 a1).f4)] from rfl) (Reps.none _ _)))
         intro v330 w47 ho48 hb hg_ hnew_
         clear hg_ hnew_
         (first | rw [← Ny329.out] at ho48 | (simp only [Int.reduceToNat] at ho48; rw [← Ny329.out] at ho48))
         have n0_ := qb.mk (Kd.R_below Z134 hb)
         have n1_ := qb.mk (Kd.R_below Z124 hb)
         have n2_ := qb.mk (Kd.R_below Z125 hb)
         have n3_ := qb.mk (Kd.R_lower ho48 (qx Z92))
         have n4_ := bb BK303 hb
         have n5_ := qb.mk (qd Z92 hb)
         clear HO_7 HO_41 HO_50 BK303 HB
         have HO_7 := n0_
         have HO_41 := n1_
         have HO_50 := n2_
         have HO331 := n3_
         have BK303 := n4_
         have HB := n5_
         clear n0_ n1_ n2_ n3_ n4_ n5_ hb ho48
         refine hK.out _ _ (bl9 BK303.out) (fun hHeld => ?_)
         clear hK K
         refine norm_ (a' := ?_) ?_ ?_
         rotate_left
         ·show Act.put _ (some 60) _ = _
          simp only [Act.put, sT, s0, s1, qr, qt]
          rfl
         refine one_ (i := 1) (N := some 57) #[true, true, true, true, true, false, false, true] rfl rfl (one_of HT_.out (by kernel_rfl)) (by decide) (fun K hK => ?_)
         refine goes_ Tryz.func21 (by kernel_rfl) rfl #[.slice (some ad302) l0.length c0] (by rfl) rfl rfl Z61 ?_
         with_reducible refine (r8turns.calls k3 _ _ l0 t326 _ ?side1 ?side2 A44.out).mono ?_
         (case side1 => exact Z62)
         (case side2 => exact Z158)
         rintro e w49 ⟨v327, rfl, ho0, hb⟩
         refine ⟨_, rfl, ?_⟩
         have n0_ := qb.mk (Kd.R_below Z134 hb)
         have n1_ := qb.mk (Kd.R_below Z124 hb)
         have n2_ := qb.mk (Kd.R_below Z125 hb)
         have n3_ := qb.mk (Kd.R_elder' (by (with_reducible repeat (first | apply Kd.R_alloc | apply Kd.R_drewN | apply Kd.R_drew)); exact HO331.out) (Kd.R_base ho0) hb)
         have n4_ := qb.mk (Kd.R_lower (Kd.R_new' ho0 (Kd.R_lt (by (with_reducible repeat (first | apply Kd.R_alloc | apply Kd.R_drewN | apply Kd.R_drew)); exact HO331.out))) (qx Z92))
         have n5_ := bb BK303 hb
         have n6_ := qb.mk (qd Z92 hb)
         clear HO_7 HO_41 HO_50 HO331 BK303 HB
         have HO_7 := n0_
         have HO_41 := n1_
         have HO_50 := n2_
         have HO331 := n3_
         have HO328 := n4_
         have BK303 := n5_
         have HB := n6_
         clear n0_ n1_ n2_ n3_ n4_ n5_ n6_
         (try clear hb)
         (try clear hb2)
         (try clear hk)
         (try clear hi)
         (try clear ho0)
         refine hK.out _ _ (bl9 BK303.out) (fun hHeld => ?_)
         clear hK K
         refine norm_ (a' := ?_) ?_ ?_
         rotate_left
         ·show Act.put _ (some 57) _ = _
          simp only [Act.put, sT, s0, s1, qr, qt]
          rfl
         exact norm_ (by simp only [putAll, Act.put, sT, s0, s1]) (hCont (v327, v330) _ ⟨hHeld, (by (with_reducible repeat (first | apply Kd.R_alloc | apply Kd.R_drewN | apply Kd.R_drew)); exact Kd.R_mono HO328.out (fun _ hk => hk.2)), (by (with_reducible repeat (first | apply Kd.R_alloc | apply Kd.R_drewN | apply Kd.R_drew)); exact Kd.R_mono HO331.out (fun _ hk => hk.2)), Z100, Z101, Z134, Z116, Z92⟩)
       rintro ⟨v327, v330⟩ w50 ⟨hS_, h0_, h1_, h2_, h3_, h4_, h5_, h6_⟩
       have n0_ : qb (Kd.R (Kd.int .i64) 3 w50 w.heap.size (fun k_ => some k_ ≠ (v330 : Value).ownBlock) v327 t326) := ⟨h0_⟩
       have n1_ : qb (Kd.R (Kd.int .i64) 3 w50 w.heap.size (fun k_ => some k_ ≠ (v327 : Value).ownBlock) v330 y329) := ⟨h1_⟩
       have n2_ : qb (Kd.R Kd.string 9 w50 w.heap.size (fun k_ => some k_ ≠ (.slice (some ad325) t322.length co40 : Value).ownBlock ∧ some k_ ≠ (.slice Ao38 x7_1.length co38 : Value).ownBlock) (.slice (some ad321) t318.length co32) t318) := ⟨h2_⟩
       have n3_ : qb (Kd.R Kd.string 9 w50 w.heap.size (fun k_ => some k_ ≠ (.slice (some ad321) t318.length co32 : Value).ownBlock ∧ some k_ ≠ (.slice Ao38 x7_1.length co38 : Value).ownBlock) (.slice (some ad325) t322.length co40) t322) := ⟨h3_⟩
       have n4_ : qb (Kd.R Kd.string 9 w50 w.heap.size (fun k_ => some k_ ≠ (.slice (some ad321) t318.length co32 : Value).ownBlock ∧ some k_ ≠ (.slice (some ad325) t322.length co40 : Value).ownBlock) (.slice Ao38 x7_1.length co38) x7_1) := ⟨h4_⟩
       have n5_ : qb (w50.heap[gb303]? = some (.cells #[.string ((qa l0 a1).f0), .string ((qa l0 a1).f1), .string ((qa l0 a1).f2), .string ((qa l0 a1).f3), .int .i64 ((qa l0 a1).f4), .int .i64 ((qa l0 a1).f5), .bool ((qa l0 a1).f6), .int .i64 ((qa l0 a1).f7), .bool ((qa l0 a1).f8)] 53 (0, 0))) := ⟨h5_⟩
       have n6_ : qb (Below w.heap.size w w50) := ⟨h6_⟩
       clear HO_7 HO_41 HO_50 BK303 HB h0_ h1_ h2_ h3_ h4_ h5_ h6_
       have HO328 := n0_
       have HO331 := n1_
       have HO_41 := n2_
       have HO_50 := n3_
       have HO_7 := n4_
       have BK303 := n5_
       have HB := n6_
       clear n0_ n1_ n2_ n3_ n4_ n5_ n6_
       have hHeld : w50.cell? ⟨gb303, 0, none⟩ = some (.string ((qa l0 a1).f0)) ∧ w50.cell? ⟨gb303, 1, none⟩ = some (.string ((qa l0 a1).f1)) ∧ w50.cell? ⟨gb303, 2, none⟩ = some (.string ((qa l0 a1).f2)) ∧ w50.cell? ⟨gb303, 3, none⟩ = some (.string ((qa l0 a1).f3)) ∧ w50.cell? ⟨gb303, 4, none⟩ = some (.int .i64 ((qa l0 a1).f4)) ∧ w50.cell? ⟨gb303, 5, none⟩ = some (.int .i64 ((qa l0 a1).f5)) ∧ w50.cell? ⟨gb303, 6, none⟩ = some (.bool ((qa l0 a1).f6)) ∧ w50.cell? ⟨gb303, 7, none⟩ = some (.int .i64 ((qa l0 a1).f7)) ∧ w50.cell? ⟨gb303, 8, none⟩ = some (.bool ((qa l0 a1).f8)) := hS_
       obtain ⟨Ao52, co52, eo52⟩ := Kd.R_slice HO331.out
       (first | subst eo52 | (injection eo52 with f1_ f2_ f3_; have f4_ := f1_.symm; have f5_ := f3_.symm; clear f1_ f2_ f3_; subst f4_; subst f5_))
       refine norm_ (a' := ?_) ?_ ?_
       rotate_left
       ·simp only [putAll, Act.put, sT, s0, s1]
        rfl
       refine one_ (i := 5) (N := some 61) #[true, true, true, true, true, true, false, true] rfl rfl (one_of HT_.out (by kernel_rfl)) (by decide) (fun K hK => ?_)
       refine Kd.R_append_rows_step (Kd.int .i64) (w0 := w) w.heap.size (by rfl) (.tmp 57) (.tmp 60) 29 3 (.int .i64 0) 8 rfl Tryz.underlying29 info3 rfl (by decide) (by omega) v327 t326 y329 _ _ _ (fun k_ => some k_ ≠ (.slice Ao52 y329.length co52 : Value).ownBlock) (fun _ => False) rfl rfl ?aO ?aR (fun _ _ h => h) (fun _ h => h.elim) ?aF ?aB ?aS ?aL ?_
       (case aR => repeat (first | exact (Kd.R_reads' HO331.out).2.2 | (with_reducible refine Kd.C_alloc ?_ _) | (with_reducible refine Kd.C_drewN ?_ _) | (with_reducible refine Kd.C_drew ?_)))
       (case aB => exact Z92)
       (case aF => exact (fun k_ hk => Kd.fresh' (Kd.R_lt (by (with_reducible repeat (first | apply Kd.R_alloc | apply Kd.R_drewN | apply Kd.R_drew)); exact HO331.out)) k_ hk))
       (case aO => exact Z126)
       (case aS => exact (qx Z92))
       (case aL => have := LMc45.out; omega)
       intro v333 w51 ho hb hg hat
       rw [← Ny332.out] at ho
       have n0_ := qb.mk (Kd.R_over' Z134 (Kd.R_typed Z126) (by decide) hg)
       have n1_ := qb.mk (Kd.R_over' Z124 (Kd.R_typed Z126) (by decide) hg)
       have n2_ := qb.mk (Kd.R_over' Z125 (Kd.R_typed Z126) (by decide) hg)
       have n3_ := qb.mk (blk_grown (g := gb303) (o := .cells #[.string ((qa l0 a1).f0), .string ((qa l0 a1).f1), .string ((qa l0 a1).f2), .string ((qa l0 a1).f3), .int .i64 ((qa l0 a1).f4), .int .i64 ((qa l0 a1).f5), .bool ((qa l0 a1).f6), .int .i64 ((qa l0 a1).f7), .bool ((qa l0 a1).f8)] 53 (0, 0)) Z116 hg (Kd.R_ne HO328.out BK303.out (by decide)))
       have n4_ := qb.mk (Kd.R_after (ok := (fun _ => True)) (by (with_reducible repeat (first | apply Kd.R_alloc | apply Kd.R_drewN | apply Kd.R_drew)); exact Kd.R_mono HO331.out (fun _ hk => ⟨trivial, hk⟩)) hg hat)
       have n5_ := qb.mk (hb)
       have n6_ := qb.mk (ho)
       clear HO_7 HO_41 HO_50 BK303 HO331 HB HO328
       have HO_7 := n0_
       have HO_41 := n1_
       have HO_50 := n2_
       have BK303 := n3_
       have HO331 := n4_
       have HB := n5_
       have HO334 := n6_
       clear n0_ n1_ n2_ n3_ n4_ n5_ n6_ ho hb hg hat
       obtain ⟨Ao53, co53, eo53⟩ := Kd.R_slice HO334.out
       (first | subst eo53 | (injection eo53 with f1_ f2_ f3_; have f4_ := f1_.symm; have f5_ := f3_.symm; clear f1_ f2_ f3_; subst f4_; subst f5_))
       refine hK.out _ _ (bl9 BK303.out) (fun hHeld => ?_)
       clear hK K
       refine norm_ (a' := ?_) ?_ ?_
       rotate_left
       ·show Act.put _ (some 61) _ = _
        simp only [Act.put, sT, s0, s1, qr, qt]
        rfl
       refine pure_ (i := 6) (N := some 62) (v := ?_) (a' := ?_) #[true, true, true, true, true, true, true, true] rfl rfl (qy HT_.out (by kernel_rfl)) (fun _ _ _ h => h) (Or.inl ⟨by rfl, ?_⟩) ?_ ?_
       rotate_left
       ·intro w'
        go_simp
        with_reducible rfl
       rotate_left
       ·simp only [Act.put, sT, s0, s1, qr, qt]
        rfl
       refine done_ (done_of HT_.out (by kernel_rfl)) ?_
       try go_wp2
       go_loopg [63] k3 (fun kq v63 w' => ∃ (x63_4 : Int), v63 = .int .i64 x63_4 ∧ qb (r8isFound.l3 kq l0 a1 x7_1 (rdOf ByteArray.empty t318 x43_2) (rdOf ByteArray.empty t322 x52_3) t318 (t318.length : Int) x43_2 t322 (t322.length : Int) x52_3 y332 (y332.length : Int) x63_4 ((qa l0 a1).f0) ((qa l0 a1).f1) ((qa l0 a1).f2) ((qa l0 a1).f3) ((qa l0 a1).f4) ((qa l0 a1).f5) ((qa l0 a1).f6) ((qa l0 a1).f7) ((qa l0 a1).f8) = some r) ∧ qb (kq ≤ k3) ∧ qb (Kd.R Kd.string 9 w' w.heap.size (fun k_ => some k_ ≠ ((.slice (some ad321) t318.length co32) : Value).ownBlock ∧ some k_ ≠ ((.slice (some ad325) t322.length co40) : Value).ownBlock) (.slice Ao38 x7_1.length co38) x7_1) ∧ qb (Kd.R Kd.string 9 w' w.heap.size (fun k_ => some k_ ≠ ((.slice Ao38 x7_1.length co38) : Value).ownBlock ∧ some k_ ≠ ((.slice (some ad325) t322.length co40) : Value).ownBlock) (.slice (some ad321) t318.length co32) t318) ∧ qb (Kd.R Kd.string 9 w' w.heap.size (fun k_ => some k_ ≠ ((.slice Ao38 x7_1.length co38) : Value).ownBlock ∧ some k_ ≠ ((.slice (some ad321) t318.length co32) : Value).ownBlock) (.slice (some ad325) t322.length co40) t322) ∧ qb (Kd.R (Kd.int .i64) 3 w' w.heap.size (fun _ => True) (.slice Ao53 y332.length co53) y332) ∧ qb (w'.heap[gb303]? = some (.cells #[.string ((qa l0 a1).f0), .string ((qa l0 a1).f1), .string ((qa l0 a1).f2), .string ((qa l0 a1).f3), .int .i64 ((qa l0 a1).f4), .int .i64 ((qa l0 a1).f5), .bool ((qa l0 a1).f6), .int .i64 ((qa l0 a1).f7), .bool ((qa l0 a1).f8)] 53 (0, 0))) ∧ qb (Below w.heap.size w w'))
       case atStart => exact ⟨(0), qD, H', ⟨Nat.le_refl _⟩, ⟨Z134⟩, ⟨Z100⟩, ⟨Z101⟩, ⟨by (with_reducible repeat (first | apply Kd.R_alloc | apply Kd.R_drewN | apply Kd.R_drew)); exact Kd.R_mono HO334.out (fun _ hk => trivial)⟩, ⟨Z116⟩, ⟨Z92⟩⟩
       case round =>
        clear H'
        try clear c1; try clear c2; try clear p2 p2; try clear c3; try clear p3 p3; try clear q3 q3; try clear hx3; try clear c4; try clear c6; try clear p6 p6; try clear c7; try clear c7b0; try clear c8; try clear c8b0; try clear c9; try clear c9b0; try clear c10; try clear c11; try clear c13; try clear c21; try clear p30 p30; try clear q30 q30; try clear hx30; try clear p32 p32; try clear q32 q32; try clear hx32; try clear c33; try clear c33b0; try clear c34; try clear c34b0; try clear c35; try clear c35b0; try clear c41; try clear c41b0; try clear c42; try clear c42b0; try clear c43; try clear c43b0; try clear c45; try clear yc14_0 yc14_1 yc14_2 yc14_3 yc14_4 yc14_5 yc14_6 yc14_7 yc14_8 yf14_0 yf14_1 yf14_2 yf14_3 yf14_4 yf14_5 yf14_6 yf14_7 yf14_8; try clear yc29_0 yc29_1 yc29_2 yc29_3 yc29_4 yc29_5 yc29_6 yc29_7 yc29_8 yf29_0 yf29_1 yf29_2 yf29_3 yf29_4 yf29_5 yf29_6 yf29_7 yf29_8; try clear yc37_0 yc37_1 yc37_2 yc37_3 yc37_4 yc37_5 yc37_6 yc37_7 yc37_8 yf37_0 yf37_1 yf37_2 yf37_3 yf37_4 yf37_5 yf37_6 yf37_7 yf37_8; try clear yc6_1 yc6_2 yc6_3 yc6_4 yc6_5 yc6_6 yc6_7 yc6_8 yf6_0 yf6_1 yf6_2 yf6_3 yf6_4 yf6_5 yf6_6 yf6_7 yf6_8; try clear hx302_0; try clear hx302_1; try clear hx302_2; try clear hx302_3; try clear hx302_4; try clear hx302_5; try clear hx302_6; try clear hx302_7; try clear hx302_8; try clear hx304_0; try clear hx304_1; try clear hx304_2; try clear hx304_3; try clear hx304_4; try clear hx304_5; try clear hx304_6; try clear hx304_7; try clear hx304_8; try clear hx321_0; try clear hx325_0; try clear p302; try clear p304; try clear p321; try clear p325; try clear q302; try clear q304; try clear q321; try clear q325
        obtain ⟨x63_4, rfl, HA, HK4, HO_7, HO_41, HO_50, HO_61, BK303, HB⟩ := hrel
        cases gk with
        | zero => exact absurd HA.out (by simp [r8isFound.l3])
        | succ k4 =>
         have H := HA.out
         clear HA
         simp only [r8isFound.l3] at H
         by_cases c54 : x63_4 < (y332.length : Int)
         case neg =>
          rw [if_neg c54] at H
          have c54b0 : decide (x63_4 < (y332.length : Int)) = false := decide_eq_false c54
          clear c54
          have H' := qb.mk H
          clear H
          go_wp2
          go_roundg k4
          case measure => have := HK1.out; have := HK2.out; have := HK3.out; have := HK4.out; omega
          case rel => exact ⟨(wrap64 (x52_3 + 1)), qD, H', ⟨Z136⟩, ⟨Z134⟩, ⟨Z124⟩, ⟨Z125⟩, ⟨Z116⟩, ⟨Z92⟩⟩
         rw [if_pos c54] at H
         have c54b0 : decide (x63_4 < (y332.length : Int)) = true := decide_eq_true c54
         clear c54
         by_cases c55 : 0 ≤ x63_4
         case neg =>
          rw [if_neg c55] at H
          exact absurd H (by simp)
         rw [if_pos c55] at H
         have c55b0 : decide (0 ≤ x63_4) = true := decide_eq_true c55
         clear c55
         by_cases c56 : x63_4 < (y332.length : Int)
         case neg =>
          rw [if_neg c56] at H
          exact absurd H (by simp)
         rw [if_pos c56] at H
         have c56b0 : decide (x63_4 < (y332.length : Int)) = true := decide_eq_true c56
         clear c56
         by_cases c57 : (rdOf ByteArray.empty t318 x43_2).toList = ([] : List UInt8)
         case pos =>
          rw [if_pos c57] at H
          have c57b0 : ((rdOf ByteArray.empty t318 x43_2).toList == ([] : List UInt8)) = true := beq_iff_eq.mpr c57
          have c57b1 : ((rdOf ByteArray.empty t318 x43_2).toList != ([] : List UInt8)) = false := bne_eq_false_iff_eq.mpr c57
          clear c57
          have H' := qb.mk H
          clear H
          have p335 : 0 ≤ (x63_4 : Int) := of_decide_eq_true qB
          have q335 : x63_4 < (y332.length : Int) := of_decide_eq_true qB
          obtain ⟨ad335, e335, hx335_0⟩ := Kd.at_int (Kd.R_reads' HO_61.out).2.2 x63_4 p335 q335
          cases e335
          replace p335 := eq_true p335
          replace q335 := eq_true q335
          have yc58_0 : wr.cell? ⟨gb303, 0, none⟩ = some (.string ((qa l0 a1).f0)) := (qc BK303.out 0).trans rfl
          have yc58_1 : wr.cell? ⟨gb303, 1, none⟩ = some (.string ((qa l0 a1).f1)) := (qc BK303.out 1).trans rfl
          have yc58_2 : wr.cell? ⟨gb303, 2, none⟩ = some (.string ((qa l0 a1).f2)) := (qc BK303.out 2).trans rfl
          have yc58_3 : wr.cell? ⟨gb303, 3, none⟩ = some (.string ((qa l0 a1).f3)) := (qc BK303.out 3).trans rfl
          have yc58_4 : wr.cell? ⟨gb303, 4, none⟩ = some (.int .i64 ((qa l0 a1).f4)) := (qc BK303.out 4).trans rfl
          have yc58_5 : wr.cell? ⟨gb303, 5, none⟩ = some (.int .i64 ((qa l0 a1).f5)) := (qc BK303.out 5).trans rfl
          have yc58_6 : wr.cell? ⟨gb303, 6, none⟩ = some (.bool ((qa l0 a1).f6)) := (qc BK303.out 6).trans rfl
          have yc58_7 : wr.cell? ⟨gb303, 7, none⟩ = some (.int .i64 ((qa l0 a1).f7)) := (qc BK303.out 7).trans rfl
          have yc58_8 : wr.cell? ⟨gb303, 8, none⟩ = some (.bool ((qa l0 a1).f8)) := (qc BK303.out 8).trans rfl
          have yf58_0 := qe BK303.out 0
          have yf58_1 := qe BK303.out 1
          have yf58_2 := qe BK303.out 2
          have yf58_3 := qe BK303.out 3
          have yf58_4 := qe BK303.out 4
          have yf58_5 := qe BK303.out 5
          have yf58_6 := qe BK303.out 6
          have yf58_7 := qe BK303.out 7
          have yf58_8 := qe BK303.out 8
          go_wp2_with (first | ((with_reducible refine qi (N := 16) rfl ?_); refine qh ?hg (N := 16) ?hd (cs := #[.string (⟨#[]⟩ : ByteArray), .string (⟨#[]⟩ : ByteArray), .string (⟨#[]⟩ : ByteArray), .string (⟨#[]⟩ : ByteArray), .int .i64 0, .bool false]) (t := 25) ?hr ?_; (case hd => rfl); (case hg => rfl); (case hr => exact qC); intro gb336 hg w59 hbox hb; have n0_ := qb.mk (Kd.R_below Z134 hb); have n1_ := qb.mk (Kd.R_below Z124 hb); have n2_ := qb.mk (Kd.R_below Z125 hb); have n3_ := qb.mk (Kd.R_below Z127 hb); have n4_ := bb BK303 hb; have n5_ := qb.mk (qd Z92 hb); have n6_ := qb.mk (hbox); have n7_ := qb.mk ((Z45 : w.heap.size ≤ gb336)); have n8_ := n7_; have n9_ := qb.mk ((by rw [hg]; exact Nat.ne_of_lt (bt_ BK303) : gb303 ≠ gb336)); have n10_ := qb.mk ((by rw [hg]; exact Nat.ne_of_gt (bt_ BK303) : gb336 ≠ gb303)); clear HO_7 HO_41 HO_50 HO_61 BK303 HB; have HO_7 := n0_; have HO_41 := n1_; have HO_50 := n2_; have HO_61 := n3_; have BK303 := n4_; have HB := n5_; have BK336 := n6_; have GW336 := n7_; have GE336 := n8_; have NB303_336 := n9_; have NB336_303 := n10_; clear n0_ n1_ n2_ n3_ n4_ n5_ n6_ n7_ n8_ n9_ n10_; clear hb hbox hg; have hnb60 := NB336_303.out; have hnc60 := NB303_336.out; obtain ⟨yc61_0, yc61_1, yc61_2, yc61_3, yc61_4, yc61_5, yf61_0, yf61_1, yf61_2, yf61_3, yf61_4, yf61_5⟩ := bf6 BK336.out))
          go_roundg k4
          case measure => have := HK1.out; have := HK2.out; have := HK3.out; have := HK4.out; omega
          case rel => exact ⟨(wrap64 (x63_4 + 1)), qD, H', ⟨Z136⟩, ⟨Z29⟩, ⟨Z27⟩, ⟨Z28⟩, ⟨Z30⟩, ⟨Z16⟩, ⟨Z58⟩⟩
         rw [if_neg c57] at H
         have c57b0 : ((rdOf ByteArray.empty t318 x43_2).toList == ([] : List UInt8)) = false := beq_eq_false_iff_ne.mpr c57
         have c57b1 : ((rdOf ByteArray.empty t318 x43_2).toList != ([] : List UInt8)) = true := bne_iff_ne.mpr c57
         by_cases c62 : (rdOf ByteArray.empty t322 x52_3).toList = ([] : List UInt8)
         case pos =>
          rw [if_pos c62] at H
          have c62b0 : ((rdOf ByteArray.empty t322 x52_3).toList == ([] : List UInt8)) = true := beq_iff_eq.mpr c62
          have c62b1 : ((rdOf ByteArray.empty t322 x52_3).toList != ([] : List UInt8)) = false := bne_eq_false_iff_eq.mpr c62
          clear c62
          have H' := qb.mk H
          clear H
          have p335 : 0 ≤ (x63_4 : Int) := of_decide_eq_true qB
          have q335 : x63_4 < (y332.length : Int) := of_decide_eq_true qB
          obtain ⟨ad335, e335, hx335_0⟩ := Kd.at_int (Kd.R_reads' HO_61.out).2.2 x63_4 p335 q335
          cases e335
          replace p335 := eq_true p335
          replace q335 := eq_true q335
          have yc63_0 : wr.cell? ⟨gb303, 0, none⟩ = some (.string ((qa l0 a1).f0)) := (qc BK303.out 0).trans rfl
          have yc63_1 : wr.cell? ⟨gb303, 1, none⟩ = some (.string ((qa l0 a1).f1)) := (qc BK303.out 1).trans rfl
          have yc63_2 : wr.cell? ⟨gb303, 2, none⟩ = some (.string ((qa l0 a1).f2)) := (qc BK303.out 2).trans rfl
          have yc63_3 : wr.cell? ⟨gb303, 3, none⟩ = some (.string ((qa l0 a1).f3)) := (qc BK303.out 3).trans rfl
          have yc63_4 : wr.cell? ⟨gb303, 4, none⟩ = some (.int .i64 ((qa l0 a1).f4)) := (qc BK303.out 4).trans rfl
          have yc63_5 : wr.cell? ⟨gb303, 5, none⟩ = some (.int .i64 ((qa l0 a1).f5)) := (qc BK303.out 5).trans rfl
          have yc63_6 : wr.cell? ⟨gb303, 6, none⟩ = some (.bool ((qa l0 a1).f6)) := (qc BK303.out 6).trans rfl
          have yc63_7 : wr.cell? ⟨gb303, 7, none⟩ = some (.int .i64 ((qa l0 a1).f7)) := (qc BK303.out 7).trans rfl
          have yc63_8 : wr.cell? ⟨gb303, 8, none⟩ = some (.bool ((qa l0 a1).f8)) := (qc BK303.out 8).trans rfl
          have yf63_0 := qe BK303.out 0
          have yf63_1 := qe BK303.out 1
          have yf63_2 := qe BK303.out 2
          have yf63_3 := qe BK303.out 3
          have yf63_4 := qe BK303.out 4
          have yf63_5 := qe BK303.out 5
          have yf63_6 := qe BK303.out 6
          have yf63_7 := qe BK303.out 7
          have yf63_8 := qe BK303.out 8
          go_wp2_with (first | ((with_reducible refine qi (N := 16) rfl ?_); refine qh ?hg (N := 16) ?hd (cs := #[.string (⟨#[]⟩ : ByteArray), .string (⟨#[]⟩ : ByteArray), .string (⟨#[]⟩ : ByteArray), .string (⟨#[]⟩ : ByteArray), .int .i64 0, .bool false]) (t := 25) ?hr ?_; (case hd => rfl); (case hg => rfl); (case hr => exact qC); intro gb336 hg w64 hbox hb; have n0_ := qb.mk (Kd.R_below Z134 hb); have n1_ := qb.mk (Kd.R_below Z124 hb); have n2_ := qb.mk (Kd.R_below Z125 hb); have n3_ := qb.mk (Kd.R_below Z127 hb); have n4_ := bb BK303 hb; have n5_ := qb.mk (qd Z92 hb); have n6_ := qb.mk (hbox); have n7_ := qb.mk ((Z45 : w.heap.size ≤ gb336)); have n8_ := n7_; have n9_ := qb.mk ((by rw [hg]; exact Nat.ne_of_lt (bt_ BK303) : gb303 ≠ gb336)); have n10_ := qb.mk ((by rw [hg]; exact Nat.ne_of_gt (bt_ BK303) : gb336 ≠ gb303)); clear HO_7 HO_41 HO_50 HO_61 BK303 HB; have HO_7 := n0_; have HO_41 := n1_; have HO_50 := n2_; have HO_61 := n3_; have BK303 := n4_; have HB := n5_; have BK336 := n6_; have GW336 := n7_; have GE336 := n8_; have NB303_336 := n9_; have NB336_303 := n10_; clear n0_ n1_ n2_ n3_ n4_ n5_ n6_ n7_ n8_ n9_ n10_; clear hb hbox hg; have hnb65 := NB336_303.out; have hnc65 := NB303_336.out; obtain ⟨yc66_0, yc66_1, yc66_2, yc66_3, yc66_4, yc66_5, yf66_0, yf66_1, yf66_2, yf66_3, yf66_4, yf66_5⟩ := bf6 BK336.out))
          go_roundg k4
          case measure => have := HK1.out; have := HK2.out; have := HK3.out; have := HK4.out; omega
          case rel => exact ⟨(wrap64 (x63_4 + 1)), qD, H', ⟨Z136⟩, ⟨Z29⟩, ⟨Z27⟩, ⟨Z28⟩, ⟨Z30⟩, ⟨Z16⟩, ⟨Z58⟩⟩
         rw [if_neg c62] at H
         have c62b0 : ((rdOf ByteArray.empty t322 x52_3).toList == ([] : List UInt8)) = false := beq_eq_false_iff_ne.mpr c62
         have c62b1 : ((rdOf ByteArray.empty t322 x52_3).toList != ([] : List UInt8)) = true := bne_iff_ne.mpr c62
         replace H := Option.bind_eq_some_iff.mp H
         obtain ⟨t337, A670, H⟩ := H
         replace H : (if t337 = a1 then (some true) else (r8isFound.l3 k4 l0 a1 x7_1 (rdOf ByteArray.empty t318 x43_2) (rdOf ByteArray.empty t322 x52_3) t318 (t318.length : Int) x43_2 t322 (t322.length : Int) x52_3 y332 (y332.length : Int) (wrap64 (x63_4 + 1)) ((qa l0 a1).f0) ((qa l0 a1).f1) ((qa l0 a1).f2) ((qa l0 a1).f3) ((qa l0 a1).f4) ((qa l0 a1).f5) ((qa l0 a1).f6) ((qa l0 a1).f7) ((qa l0 a1).f8))) = some r := H
         have A67 := qb.mk A670
         clear A670
         by_cases c68 : t337 = a1
         case pos =>
          rw [if_pos c68] at H
          have c68b0 : (t337 == a1) = true := beq_iff_eq.mpr c68
          have c68b1 : (t337 != a1) = false := bne_eq_false_iff_eq.mpr c68
          clear c68
          obtain rfl := Option.some.inj H
          have p335 : 0 ≤ (x63_4 : Int) := of_decide_eq_true qB
          have q335 : x63_4 < (y332.length : Int) := of_decide_eq_true qB
          obtain ⟨ad335, e335, hx335_0⟩ := Kd.at_int (Kd.R_reads' HO_61.out).2.2 x63_4 p335 q335
          cases e335
          replace p335 := eq_true p335
          replace q335 := eq_true q335
          have yc69_0 : wr.cell? ⟨gb303, 0, none⟩ = some (.string ((qa l0 a1).f0)) := (qc BK303.out 0).trans rfl
          have yc69_1 : wr.cell? ⟨gb303, 1, none⟩ = some (.string ((qa l0 a1).f1)) := (qc BK303.out 1).trans rfl
          have yc69_2 : wr.cell? ⟨gb303, 2, none⟩ = some (.string ((qa l0 a1).f2)) := (qc BK303.out 2).trans rfl
          have yc69_3 : wr.cell? ⟨gb303, 3, none⟩ = some (.string ((qa l0 a1).f3)) := (qc BK303.out 3).trans rfl
          have yc69_4 : wr.cell? ⟨gb303, 4, none⟩ = some (.int .i64 ((qa l0 a1).f4)) := (qc BK303.out 4).trans rfl
          have yc69_5 : wr.cell? ⟨gb303, 5, none⟩ = some (.int .i64 ((qa l0 a1).f5)) := (qc BK303.out 5).trans rfl
          have yc69_6 : wr.cell? ⟨gb303, 6, none⟩ = some (.bool ((qa l0 a1).f6)) := (qc BK303.out 6).trans rfl
          have yc69_7 : wr.cell? ⟨gb303, 7, none⟩ = some (.int .i64 ((qa l0 a1).f7)) := (qc BK303.out 7).trans rfl
          have yc69_8 : wr.cell? ⟨gb303, 8, none⟩ = some (.bool ((qa l0 a1).f8)) := (qc BK303.out 8).trans rfl
          have yf69_0 := qe BK303.out 0
          have yf69_1 := qe BK303.out 1
          have yf69_2 := qe BK303.out 2
          have yf69_3 := qe BK303.out 3
          have yf69_4 := qe BK303.out 4
          have yf69_5 := qe BK303.out 5
          have yf69_6 := qe BK303.out 6
          have yf69_7 := qe BK303.out 7
          have yf69_8 := qe BK303.out 8
          go_wp2_with (first | ((with_reducible refine qi (N := 16) rfl ?_); refine qh ?hg (N := 16) ?hd (cs := #[.string (⟨#[]⟩ : ByteArray), .string (⟨#[]⟩ : ByteArray), .string (⟨#[]⟩ : ByteArray), .string (⟨#[]⟩ : ByteArray), .int .i64 0, .bool false]) (t := 25) ?hr ?_; (case hd => rfl); (case hg => rfl); (case hr => exact qC); intro gb336 hg w70 hbox hb; have n0_ := qb.mk (Kd.R_below Z134 hb); have n1_ := qb.mk (Kd.R_below Z124 hb); have n2_ := qb.mk (Kd.R_below Z125 hb); have n3_ := qb.mk (Kd.R_below Z127 hb); have n4_ := bb BK303 hb; have n5_ := qb.mk (qd Z92 hb); have n6_ := qb.mk (hbox); have n7_ := qb.mk ((Z45 : w.heap.size ≤ gb336)); have n8_ := n7_; have n9_ := qb.mk ((by rw [hg]; exact Nat.ne_of_lt (bt_ BK303) : gb303 ≠ gb336)); have n10_ := qb.mk ((by rw [hg]; exact Nat.ne_of_gt (bt_ BK303) : gb336 ≠ gb303)); clear HO_7 HO_41 HO_50 HO_61 BK303 HB; have HO_7 := n0_; have HO_41 := n1_; have HO_50 := n2_; have HO_61 := n3_; have BK303 := n4_; have HB := n5_; have BK336 := n6_; have GW336 := n7_; have GE336 := n8_; have NB303_336 := n9_; have NB336_303 := n10_; clear n0_ n1_ n2_ n3_ n4_ n5_ n6_ n7_ n8_ n9_ n10_; clear hb hbox hg; have hnb71 := NB336_303.out; have hnc71 := NB303_336.out; obtain ⟨yc72_0, yc72_1, yc72_2, yc72_3, yc72_4, yc72_5, yf72_0, yf72_1, yf72_2, yf72_3, yf72_4, yf72_5⟩ := bf6 BK336.out) | (go_at_call 20; (with_reducible refine (r8find.calls k4 _ _ l0 ((qa l0 a1).f0) ((qa l0 a1).f1) (rdOf ByteArray.empty t318 x43_2) (rdOf ByteArray.empty t322 x52_3) (rd y332 x63_4) ((qa l0 a1).f6) t337 _ ?side1 ?side2 A67.out).mono ?_); (case side1 => exact Z26); (case side2 => exact Z158); rintro e w73 ⟨rfl, hb⟩; have n0_ := qb.mk (Kd.R_below Z38 hb); have n1_ := qb.mk (Kd.R_below Z31 hb); have n2_ := qb.mk (Kd.R_below Z32 hb); have n3_ := qb.mk (Kd.R_below Z33 hb); have n4_ := qb.mk (qw (g := gb303) (o := .cells #[.string ((qa l0 a1).f0), .string ((qa l0 a1).f1), .string ((qa l0 a1).f2), .string ((qa l0 a1).f3), .int .i64 ((qa l0 a1).f4), .int .i64 ((qa l0 a1).f5), .bool ((qa l0 a1).f6), .int .i64 ((qa l0 a1).f7), .bool ((qa l0 a1).f8)] 53 (0, 0)) Z16 hb); have n5_ := qb.mk (qw (g := gb336) (o := .cells #[.string ((qa l0 a1).f0), .string ((qa l0 a1).f1), .string (rdOf ByteArray.empty t318 x43_2), .string (rdOf ByteArray.empty t322 x52_3), .int .i64 (rd y332 x63_4), .bool ((qa l0 a1).f6)] 25 (0, 0)) Z22 hb); have n6_ := qb.mk (qd Z58 hb); clear HO_7 HO_41 HO_50 HO_61 BK303 BK336 HB; have HO_7 := n0_; have HO_41 := n1_; have HO_50 := n2_; have HO_61 := n3_; have BK303 := n4_; have BK336 := n5_; have HB := n6_; clear n0_ n1_ n2_ n3_ n4_ n5_ n6_; (try clear hb); (try clear hb2); (try clear hk); (try clear hi)))
          go_ret
          exact ⟨Z97, Z58⟩
         rw [if_neg c68] at H
         have c68b0 : (t337 == a1) = false := beq_eq_false_iff_ne.mpr c68
         have c68b1 : (t337 != a1) = true := bne_iff_ne.mpr c68
         have H' := qb.mk H
         clear H
         have p335 : 0 ≤ (x63_4 : Int) := of_decide_eq_true qB
         have q335 : x63_4 < (y332.length : Int) := of_decide_eq_true qB
         obtain ⟨ad335, e335, hx335_0⟩ := Kd.at_int (Kd.R_reads' HO_61.out).2.2 x63_4 p335 q335
         cases e335
         replace p335 := eq_true p335
         replace q335 := eq_true q335
         have yc74_0 : wr.cell? ⟨gb303, 0, none⟩ = some (.string ((qa l0 a1).f0)) := (qc BK303.out 0).trans rfl
         have yc74_1 : wr.cell? ⟨gb303, 1, none⟩ = some (.string ((qa l0 a1).f1)) := (qc BK303.out 1).trans rfl
         have yc74_2 : wr.cell? ⟨gb303, 2, none⟩ = some (.string ((qa l0 a1).f2)) := (qc BK303.out 2).trans rfl
         have yc74_3 : wr.cell? ⟨gb303, 3, none⟩ = some (.string ((qa l0 a1).f3)) := (qc BK303.out 3).trans rfl
         have yc74_4 : wr.cell? ⟨gb303, 4, none⟩ = some (.int .i64 ((qa l0 a1).f4)) := (qc BK303.out 4).trans rfl
         have yc74_5 : wr.cell? ⟨gb303, 5, none⟩ = some (.int .i64 ((qa l0 a1).f5)) := (qc BK303.out 5).trans rfl
         have yc74_6 : wr.cell? ⟨gb303, 6, none⟩ = some (.bool ((qa l0 a1).f6)) := (qc BK303.out 6).trans rfl
         have yc74_7 : wr.cell? ⟨gb303, 7, none⟩ = some (.int .i64 ((qa l0 a1).f7)) := (qc BK303.out 7).trans rfl
         have yc74_8 : wr.cell? ⟨gb303, 8, none⟩ = some (.bool ((qa l0 a1).f8)) := (qc BK303.out 8).trans rfl
         have yf74_0 := qe BK303.out 0
         have yf74_1 := qe BK303.out 1
         have yf74_2 := qe BK303.out 2
         have yf74_3 := qe BK303.out 3
         have yf74_4 := qe BK303.out 4
         have yf74_5 := qe BK303.out 5
         have yf74_6 := qe BK303.out 6
         have yf74_7 := qe BK303.out 7
         have yf74_8 := qe BK303.out 8
         go_wp2_with (first | ((with_reducible refine qi (N := 16) rfl ?_); refine qh ?hg (N := 16) ?hd (cs := #[.string (⟨#[]⟩ : ByteArray), .string (⟨#[]⟩ : ByteArray), .string (⟨#[]⟩ : ByteArray), .string (⟨#[]⟩ : ByteArray), .int .i64 0, .bool false]) (t := 25) ?hr ?_; (case hd => rfl); (case hg => rfl); (case hr => exact qC); intro gb336 hg w75 hbox hb; have n0_ := qb.mk (Kd.R_below Z134 hb); have n1_ := qb.mk (Kd.R_below Z124 hb); have n2_ := qb.mk (Kd.R_below Z125 hb); have n3_ := qb.mk (Kd.R_below Z127 hb); have n4_ := bb BK303 hb; have n5_ := qb.mk (qd Z92 hb); have n6_ := qb.mk (hbox); have n7_ := qb.mk ((Z45 : w.heap.size ≤ gb336)); have n8_ := n7_; have n9_ := qb.mk ((by rw [hg]; exact Nat.ne_of_lt (bt_ BK303) : gb303 ≠ gb336)); have n10_ := qb.mk ((by rw [hg]; exact Nat.ne_of_gt (bt_ BK303) : gb336 ≠ gb303)); clear HO_7 HO_41 HO_50 HO_61 BK303 HB; have HO_7 := n0_; have HO_41 := n1_; have HO_50 := n2_; have HO_61 := n3_; have BK303 := n4_; have HB := n5_; have BK336 := n6_; have GW336 := n7_; have GE336 := n8_; have NB303_336 := n9_; have NB336_303 := n10_; clear n0_ n1_ n2_ n3_ n4_ n5_ n6_ n7_ n8_ n9_ n10_; clear hb hbox hg; have hnb76 := NB336_303.out; have hnc76 := NB303_336.out; obtain ⟨yc77_0, yc77_1, yc77_2, yc77_3, yc77_4, yc77_5, yf77_0, yf77_1, yf77_2, yf77_3, yf77_4, yf77_5⟩ := bf6 BK336.out) | (go_at_call 20; (with_reducible refine (r8find.calls k4 _ _ l0 ((qa l0 a1).f0) ((qa l0 a1).f1) (rdOf ByteArray.empty t318 x43_2) (rdOf ByteArray.empty t322 x52_3) (rd y332 x63_4) ((qa l0 a1).f6) t337 _ ?side1 ?side2 A67.out).mono ?_); (case side1 => exact Z26); (case side2 => exact Z158); rintro e w78 ⟨rfl, hb⟩; have n0_ := qb.mk (Kd.R_below Z38 hb); have n1_ := qb.mk (Kd.R_below Z31 hb); have n2_ := qb.mk (Kd.R_below Z32 hb); have n3_ := qb.mk (Kd.R_below Z33 hb); have n4_ := qb.mk (qw (g := gb303) (o := .cells #[.string ((qa l0 a1).f0), .string ((qa l0 a1).f1), .string ((qa l0 a1).f2), .string ((qa l0 a1).f3), .int .i64 ((qa l0 a1).f4), .int .i64 ((qa l0 a1).f5), .bool ((qa l0 a1).f6), .int .i64 ((qa l0 a1).f7), .bool ((qa l0 a1).f8)] 53 (0, 0)) Z16 hb); have n5_ := qb.mk (qw (g := gb336) (o := .cells #[.string ((qa l0 a1).f0), .string ((qa l0 a1).f1), .string (rdOf ByteArray.empty t318 x43_2), .string (rdOf ByteArray.empty t322 x52_3), .int .i64 (rd y332 x63_4), .bool ((qa l0 a1).f6)] 25 (0, 0)) Z22 hb); have n6_ := qb.mk (qd Z58 hb); clear HO_7 HO_41 HO_50 HO_61 BK303 BK336 HB; have HO_7 := n0_; have HO_41 := n1_; have HO_50 := n2_; have HO_61 := n3_; have BK303 := n4_; have BK336 := n5_; have HB := n6_; clear n0_ n1_ n2_ n3_ n4_ n5_ n6_; (try clear hb); (try clear hb2); (try clear hk); (try clear hi)))
         go_roundg k4
         case measure => have := HK1.out; have := HK2.out; have := HK3.out; have := HK4.out; omega
         case rel => exact ⟨(wrap64 (x63_4 + 1)), qD, H', ⟨Z136⟩, ⟨Z134⟩, ⟨Z124⟩, ⟨Z125⟩, ⟨Z127⟩, ⟨Z116⟩, ⟨Z58⟩⟩
end Go.Proofs.YtmmknokdgbgjgaaGreatDoor.XPartnerDaysMatchSpec
