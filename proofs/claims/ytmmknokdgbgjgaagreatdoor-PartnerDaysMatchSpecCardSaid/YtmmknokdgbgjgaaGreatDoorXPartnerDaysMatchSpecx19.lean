-- Walks of PartnerDaysMatchSpec: written by xprint.py out of the translation (hand-proved functions among them). Lean checks it.
import Derived.Test.YtmmknokdgbgjgaaGreatDoorXPartnerDaysMatchSpecx0
import Derived.Test.YtmmknokdgbgjgaaGreatDoorXPartnerDaysMatchSpecx2
import Derived.Test.YtmmknokdgbgjgaaGreatDoorXPartnerDaysMatchSpecx15
import Derived.Test.YtmmknokdgbgjgaaGreatDoorXPartnerDaysMatchSpecx16
import Derived.Test.YtmmknokdgbgjgaaGreatDoorXPartnerDaysMatchSpecx18
namespace Go.Proofs.YtmmknokdgbgjgaaGreatDoor.XPartnerDaysMatchSpec
open Go.RowKit Go.Proofs.YtmmknokdgbgjgaaGreatDoorW.PrintWords Go.Proofs.YtmmknokdgbgjgaaGreatDoorW.PrintLast Go.Proofs.YtmmknokdgbgjgaaGreatDoorW.PrintMore
attribute [local go_sem] max2_int min2_int max_two min_two max_three min_three max_four min_four   -- for this text's walks alone
set_option linter.unusedVariables false
set_option linter.unusedSimpArgs false

/-! ### partner_hides: function 31 -/
mutual
def partner_hides.l0 : Nat → Int → ByteArray → ByteArray → List (S53) → Int → List (S53) → Int → Int → ByteArray → ByteArray → ByteArray → ByteArray → Int → Int → Bool → Int → Bool → Option (Bool)
 | 0, _, _, _, _, _, _, _, _, _, _, _, _, _, _, _, _, _ => none
 | k + 1, x1, x2, x3, x10, x11, x29, x30, x31, x345000, x345001, x345002, x345003, x345004, x345005, x345006, x345007, x345008 => if x31 < x30 then (if 0 ≤ x31 then (if x31 < (x29.length : Int) then (if ((qa x29 x31).f0).toList = x345000.toList then (if ((qa x29 x31).f1).toList = x345001.toList then (partner_hides.j1 k x1 x2 x3 x10 x11 x31 x29 x30 x31 (((qa x29 x31).f6) == x345006) x345000 x345001 x345002 x345003 x345004 x345005 x345006 x345007 x345008 ((qa x29 x31).f0) ((qa x29 x31).f1) ((qa x29 x31).f2) ((qa x29 x31).f3) ((qa x29 x31).f4) ((qa x29 x31).f5) ((qa x29 x31).f6) ((qa x29 x31).f7) ((qa x29 x31).f8)) else (partner_hides.j1 k x1 x2 x3 x10 x11 x31 x29 x30 x31 false x345000 x345001 x345002 x345003 x345004 x345005 x345006 x345007 x345008 ((qa x29 x31).f0) ((qa x29 x31).f1) ((qa x29 x31).f2) ((qa x29 x31).f3) ((qa x29 x31).f4) ((qa x29 x31).f5) ((qa x29 x31).f6) ((qa x29 x31).f7) ((qa x29 x31).f8))) else (partner_hides.j1 k x1 x2 x3 x10 x11 x31 x29 x30 x31 false x345000 x345001 x345002 x345003 x345004 x345005 x345006 x345007 x345008 ((qa x29 x31).f0) ((qa x29 x31).f1) ((qa x29 x31).f2) ((qa x29 x31).f3) ((qa x29 x31).f4) ((qa x29 x31).f5) ((qa x29 x31).f6) ((qa x29 x31).f7) ((qa x29 x31).f8))) else (none)) else (none)) else ((partner_changes.f k x10 x345004).bind fun t355 => (partner_hides.l1 k x2 x3 x10 x11 t355 (t355.length : Int) 0 x345000 x345001 x345002 x345003 x345004 x345005 x345006 x345007 x345008))
def partner_hides.j1 : Nat → Int → ByteArray → ByteArray → List (S53) → Int → Int → List (S53) → Int → Int → Bool → ByteArray → ByteArray → ByteArray → ByteArray → Int → Int → Bool → Int → Bool → ByteArray → ByteArray → ByteArray → ByteArray → Int → Int → Bool → Int → Bool → Option (Bool)
 | 0, _, _, _, _, _, _, _, _, _, _, _, _, _, _, _, _, _, _, _, _, _, _, _, _, _, _, _, _ => none
 | k + 1, x1, x2, x3, x10, x11, x12, x29, x30, x31, x54, x345000, x345001, x345002, x345003, x345004, x345005, x345006, x345007, x345008, x349000, x349001, x349002, x349003, x349004, x349005, x349006, x349007, x349008 => if x54 = true then (if x12 = x1 then (if x10.length < 1353245080339 then (partner_hides.l0 k x1 x2 x3 (x10 ++ [(⟨x349000, x349001, x349002, x349003, x349004, x349005, x349006, x349007, x349008⟩ : S53)]) (x10.length : Int) x29 x30 (wrap64 (x31 + 1)) x345000 x345001 x345002 x345003 x345004 x345005 x345006 x345007 x345008) else (none)) else (if x10.length < 1353245080339 then (partner_hides.l0 k x1 x2 x3 (x10 ++ [(⟨x349000, x349001, x349002, x349003, x349004, x349005, x349006, x349007, x349008⟩ : S53)]) x11 x29 x30 (wrap64 (x31 + 1)) x345000 x345001 x345002 x345003 x345004 x345005 x345006 x345007 x345008) else (none))) else (partner_hides.l0 k x1 x2 x3 x10 x11 x29 x30 (wrap64 (x31 + 1)) x345000 x345001 x345002 x345003 x345004 x345005 x345006 x345007 x345008)
def partner_hides.l1 : Nat → ByteArray → ByteArray → List (S53) → Int → List Int → Int → Int → ByteArray → ByteArray → ByteArray → ByteArray → Int → Int → Bool → Int → Bool → Option (Bool)
 | 0, _, _, _, _, _, _, _, _, _, _, _, _, _, _, _, _ => none
 | k + 1, x2, x3, x10, x11, x68, x69, x70, x345000, x345001, x345002, x345003, x345004, x345005, x345006, x345007, x345008 => if x70 < x69 then (if 0 ≤ x70 then (if x70 < (x68.length : Int) then (if (rd x68 x70) > x345005 then (some true) else ((partner_find.f k x10 x345000 x345001 x2 x3 (rd x68 x70) x345006).bind fun t360 => (if t360 = x11 then (some false) else (partner_hides.l1 k x2 x3 x10 x11 x68 x69 (wrap64 (x70 + 1)) x345000 x345001 x345002 x345003 x345004 x345005 x345006 x345007 x345008)))) else (none)) else (none)) else (some true)
end
def partner_hides.f (k : Nat) (l0 : List (S53)) (a1 : Int) (a2 : ByteArray) (a3 : ByteArray) : Option (Bool) := if 0 ≤ a1 then (if a1 < (l0.length : Int) then ((partner_withOwn.f ((qa l0 a1).f2) a2).bind fun t345 => ((partner_withOwn.f ((qa l0 a1).f3) a3).bind fun t346 => (partner_hides.l0 k a1 t345 t346 ([] : List (S53)) (-1) l0 (l0.length : Int) 0 ((qa l0 a1).f0) ((qa l0 a1).f1) ((qa l0 a1).f2) ((qa l0 a1).f3) ((qa l0 a1).f4) ((qa l0 a1).f5) ((qa l0 a1).f6) ((qa l0 a1).f7) ((qa l0 a1).f8)))) else (none)) else (none)
theorem partner_hides.mono_l : ∀ k, (∀ y0 y1 y2 y3 y4 y5 y6 y7 y8 y9 y10 y11 y12 y13 y14 y15 y16, qv (partner_hides.l0 k y0 y1 y2 y3 y4 y5 y6 y7 y8 y9 y10 y11 y12 y13 y14 y15 y16) (partner_hides.l0 (k + 1) y0 y1 y2 y3 y4 y5 y6 y7 y8 y9 y10 y11 y12 y13 y14 y15 y16)) ∧ (∀ y0 y1 y2 y3 y4 y5 y6 y7 y8 y9 y10 y11 y12 y13 y14 y15 y16 y17 y18 y19 y20 y21 y22 y23 y24 y25 y26 y27, qv (partner_hides.j1 k y0 y1 y2 y3 y4 y5 y6 y7 y8 y9 y10 y11 y12 y13 y14 y15 y16 y17 y18 y19 y20 y21 y22 y23 y24 y25 y26 y27) (partner_hides.j1 (k + 1) y0 y1 y2 y3 y4 y5 y6 y7 y8 y9 y10 y11 y12 y13 y14 y15 y16 y17 y18 y19 y20 y21 y22 y23 y24 y25 y26 y27)) ∧ (∀ y0 y1 y2 y3 y4 y5 y6 y7 y8 y9 y10 y11 y12 y13 y14 y15, qv (partner_hides.l1 k y0 y1 y2 y3 y4 y5 y6 y7 y8 y9 y10 y11 y12 y13 y14 y15) (partner_hides.l1 (k + 1) y0 y1 y2 y3 y4 y5 y6 y7 y8 y9 y10 y11 y12 y13 y14 y15))
 | 0 => ⟨fun _ _ _ _ _ _ _ _ _ _ _ _ _ _ _ _ _ r h => by simp [partner_hides.l0] at h, fun _ _ _ _ _ _ _ _ _ _ _ _ _ _ _ _ _ _ _ _ _ _ _ _ _ _ _ _ r h => by simp [partner_hides.j1] at h, fun _ _ _ _ _ _ _ _ _ _ _ _ _ _ _ _ r h => by simp [partner_hides.l1] at h⟩
 | k + 1 => by
  obtain ⟨ih0, ih1, ih2⟩ := partner_hides.mono_l k
  refine ⟨?_, ?_, ?_⟩
  all_goals
   intros
   first | unfold partner_hides.l0 | unfold partner_hides.j1 | unfold partner_hides.l1
   repeat' first
   | (with_reducible apply ih0)
   | (with_reducible apply ih1)
   | (with_reducible apply ih2)
   | (with_reducible apply partner_changes.mono)
   | (with_reducible apply partner_find.mono)
   | (with_reducible exact qv.refl _)
   | (with_reducible exact qv.none _)
   | (with_reducible refine qv.ite ?_ ?_)
   | (with_reducible refine qv.bind ?_ (fun _ => ?_))
   | apply ih0
   | apply ih1
   | apply ih2
   | apply partner_changes.mono
   | apply partner_find.mono
   | exact qv.none _
   | refine qv.ite ?_ ?_
   | refine qv.bind ?_ (fun _ => ?_)
theorem partner_hides.mono : ∀ a0 a1 a2 a3 k, qv (partner_hides.f k a0 a1 a2 a3) (partner_hides.f (k + 1) a0 a1 a2 a3) := by
 intro a0 a1 a2 a3 k
 obtain ⟨ih0, ih1, ih2⟩ := partner_hides.mono_l k
 unfold partner_hides.f
 repeat' first
   | (with_reducible apply ih0)
   | (with_reducible apply ih1)
   | (with_reducible apply ih2)
   | (with_reducible apply partner_changes.mono)
   | (with_reducible apply partner_find.mono)
   | (with_reducible exact qv.refl _)
   | (with_reducible exact qv.none _)
   | (with_reducible refine qv.ite ?_ ?_)
   | (with_reducible refine qv.bind ?_ (fun _ => ?_))
   | apply ih0
   | apply ih1
   | apply ih2
   | apply partner_changes.mono
   | apply partner_find.mono
   | exact qv.none _
   | refine qv.ite ?_ ?_
   | refine qv.bind ?_ (fun _ => ?_)
set_option maxHeartbeats 8000000 in
set_option maxRecDepth 100000 in
theorem partner_hides.calls (k : Nat) (A0 : Option Addr) (c0 : Nat) (l0 : List (S53)) (a1 : Int) (a2 : ByteArray) (a3 : ByteArray) (r : Bool) (w : World) (hr0 : Kd.C k53 w A0 l0.length l0) (hc0 : l0.length ≤ c0) (h : partner_hides.f k l0 a1 a2 a3 = some r) :
  Calls Tryz.prog 31 #[.slice A0 l0.length c0, .int .i64 a1, .string a2, .string a3] w fun e w' => e = .returned (.bool r) ∧ Below w.heap.size w w' := by
 have hu53 := Tryz.underlying53
 have hu25 := Tryz.underlying25
 have HR0 := qb.mk hr0
 have HC0 := qb.mk hc0
 clear hr0 hc0
 have HB := qb.mk (Below.refl w.heap.size w)
 have H : (if 0 ≤ a1 then (if a1 < (l0.length : Int) then ((partner_withOwn.f ((qa l0 a1).f2) a2).bind fun t345 => ((partner_withOwn.f ((qa l0 a1).f3) a3).bind fun t346 => (partner_hides.l0 k a1 t345 t346 ([] : List (S53)) (-1) l0 (l0.length : Int) 0 ((qa l0 a1).f0) ((qa l0 a1).f1) ((qa l0 a1).f2) ((qa l0 a1).f3) ((qa l0 a1).f4) ((qa l0 a1).f5) ((qa l0 a1).f6) ((qa l0 a1).f7) ((qa l0 a1).f8)))) else (none)) else (none)) = some r := h
 clear h
 by_cases c5 : 0 ≤ a1
 case neg =>
  rw [if_neg c5] at H
  exact absurd H (by simp)

 rw [if_pos c5] at H
 have c5b0 : decide (0 ≤ a1) = true := decide_eq_true c5
 clear c5
 by_cases c6 : a1 < (l0.length : Int)
 case neg =>
  rw [if_neg c6] at H
  exact absurd H (by simp)
 rw [if_pos c6] at H
 have c6b0 : decide (a1 < (l0.length : Int)) = true := decide_eq_true c6
 clear c6
 replace H := Option.bind_eq_some_iff.mp H
 obtain ⟨t345, A70, H⟩ := H
 replace H : ((partner_withOwn.f ((qa l0 a1).f3) a3).bind fun t346 => (partner_hides.l0 k a1 t345 t346 ([] : List (S53)) (-1) l0 (l0.length : Int) 0 ((qa l0 a1).f0) ((qa l0 a1).f1) ((qa l0 a1).f2) ((qa l0 a1).f3) ((qa l0 a1).f4) ((qa l0 a1).f5) ((qa l0 a1).f6) ((qa l0 a1).f7) ((qa l0 a1).f8))) = some r := H
 have A7 := qb.mk A70
 clear A70
 replace H := Option.bind_eq_some_iff.mp H
 obtain ⟨t346, A80, H⟩ := H
 replace H : (partner_hides.l0 k a1 t345 t346 ([] : List (S53)) (-1) l0 (l0.length : Int) 0 ((qa l0 a1).f0) ((qa l0 a1).f1) ((qa l0 a1).f2) ((qa l0 a1).f3) ((qa l0 a1).f4) ((qa l0 a1).f5) ((qa l0 a1).f6) ((qa l0 a1).f7) ((qa l0 a1).f8)) = some r := H
 have A8 := qb.mk A80
 clear A80
 have H' := qb.mk H
 clear H
 have p343 : 0 ≤ (a1 : Int) := of_decide_eq_true qB
 have q343 : a1 < (l0.length : Int) := of_decide_eq_true qB
 obtain ⟨ad343, e343, hx343_0, hx343_1, hx343_2, hx343_3, hx343_4, hx343_5, hx343_6, hx343_7, hx343_8⟩ := at_T53 HR0.out a1 p343 q343
 cases e343
 replace p343 := eq_true p343
 replace q343 := eq_true q343
 go_enter Tryz.func31, Tryz.ntmps31
 go_wp2_with (first | ((with_reducible refine qi (N := 9) rfl ?_); refine qh ?hg (N := 9) ?hd (cs := #[.string (⟨#[]⟩ : ByteArray), .string (⟨#[]⟩ : ByteArray), .string (⟨#[]⟩ : ByteArray), .string (⟨#[]⟩ : ByteArray), .int .i64 0, .int .i64 0, .bool false, .int .i64 0, .bool false]) (t := 53) ?hr ?_; (case hd => rfl); (case hg => rfl); (case hr => exact qC); intro gb344 hg w9 hbox hb; have n0_ := qb.mk (qd qz hb); have n1_ := qb.mk (hbox); have n2_ := qb.mk ((Z66 : w.heap.size ≤ gb344)); have n3_ := n2_; clear HB; have HB := n0_; have BK344 := n1_; have GW344 := n2_; have GE344 := n3_; clear n0_ n1_ n2_ n3_; clear hb hbox hg; obtain ⟨yc10_0, yc10_1, yc10_2, yc10_3, yc10_4, yc10_5, yc10_6, yc10_7, yc10_8, yf10_0, yf10_1, yf10_2, yf10_3, yf10_4, yf10_5, yf10_6, yf10_7, yf10_8⟩ := bf9 BK344.out) | (go_at_call 65; (with_reducible refine (partner_withOwn.calls ((qa l0 a1).f2) a2 t345 _ A7.out).mono ?_); rintro e w' ⟨rfl, ⟨nd, rfl⟩⟩; (try first | exact ⟨rfl, _, World.drewN_drewN _ _ _⟩ | exact ⟨rfl, _, Eq.trans (World.drewN_drewN _ _ _) (congrArg (World.drewN _) (Nat.add_assoc _ _ _))⟩)) | (go_at_call 65; (with_reducible refine (partner_withOwn.calls ((qa l0 a1).f3) a3 t346 _ A8.out).mono ?_); rintro e w' ⟨rfl, ⟨nd, rfl⟩⟩; (try first | exact ⟨rfl, _, World.drewN_drewN _ _ _⟩ | exact ⟨rfl, _, Eq.trans (World.drewN_drewN _ _ _) (congrArg (World.drewN _) (Nat.add_assoc _ _ _))⟩)))
 repeat (go_quiet (first | ((with_reducible refine qi (N := 9) rfl ?_); refine qh ?hg (N := 9) ?hd (cs := #[.string (⟨#[]⟩ : ByteArray), .string (⟨#[]⟩ : ByteArray), .string (⟨#[]⟩ : ByteArray), .string (⟨#[]⟩ : ByteArray), .int .i64 0, .int .i64 0, .bool false, .int .i64 0, .bool false]) (t := 53) ?hr ?_; (case hd => rfl); (case hg => rfl); (case hr => exact qC); intro gb344 hg w9 hbox hb; have n0_ := qb.mk (qd qz hb); have n1_ := qb.mk (hbox); have n2_ := qb.mk ((Z66 : w.heap.size ≤ gb344)); have n3_ := n2_; clear HB; have HB := n0_; have BK344 := n1_; have GW344 := n2_; have GE344 := n3_; clear n0_ n1_ n2_ n3_; clear hb hbox hg; obtain ⟨yc10_0, yc10_1, yc10_2, yc10_3, yc10_4, yc10_5, yc10_6, yc10_7, yc10_8, yf10_0, yf10_1, yf10_2, yf10_3, yf10_4, yf10_5, yf10_6, yf10_7, yf10_8⟩ := bf9 BK344.out) | (go_at_call 65; (with_reducible refine (partner_withOwn.calls ((qa l0 a1).f2) a2 t345 _ A7.out).mono ?_); rintro e w' ⟨rfl, ⟨nd, rfl⟩⟩; (try first | exact ⟨rfl, _, World.drewN_drewN _ _ _⟩ | exact ⟨rfl, _, Eq.trans (World.drewN_drewN _ _ _) (congrArg (World.drewN _) (Nat.add_assoc _ _ _))⟩)) | (go_at_call 65; (with_reducible refine (partner_withOwn.calls ((qa l0 a1).f3) a3 t346 _ A8.out).mono ?_); rintro e w' ⟨rfl, ⟨nd, rfl⟩⟩; (try first | exact ⟨rfl, _, World.drewN_drewN _ _ _⟩ | exact ⟨rfl, _, Eq.trans (World.drewN_drewN _ _ _) (congrArg (World.drewN _) (Nat.add_assoc _ _ _))⟩))); try go_wp2_with (first | ((with_reducible refine qi (N := 9) rfl ?_); refine qh ?hg (N := 9) ?hd (cs := #[.string (⟨#[]⟩ : ByteArray), .string (⟨#[]⟩ : ByteArray), .string (⟨#[]⟩ : ByteArray), .string (⟨#[]⟩ : ByteArray), .int .i64 0, .int .i64 0, .bool false, .int .i64 0, .bool false]) (t := 53) ?hr ?_; (case hd => rfl); (case hg => rfl); (case hr => exact qC); intro gb344 hg w9 hbox hb; have n0_ := qb.mk (qd qz hb); have n1_ := qb.mk (hbox); have n2_ := qb.mk ((Z66 : w.heap.size ≤ gb344)); have n3_ := n2_; clear HB; have HB := n0_; have BK344 := n1_; have GW344 := n2_; have GE344 := n3_; clear n0_ n1_ n2_ n3_; clear hb hbox hg; obtain ⟨yc10_0, yc10_1, yc10_2, yc10_3, yc10_4, yc10_5, yc10_6, yc10_7, yc10_8, yf10_0, yf10_1, yf10_2, yf10_3, yf10_4, yf10_5, yf10_6, yf10_7, yf10_8⟩ := bf9 BK344.out) | (go_at_call 65; (with_reducible refine (partner_withOwn.calls ((qa l0 a1).f2) a2 t345 _ A7.out).mono ?_); rintro e w' ⟨rfl, ⟨nd, rfl⟩⟩; (try first | exact ⟨rfl, _, World.drewN_drewN _ _ _⟩ | exact ⟨rfl, _, Eq.trans (World.drewN_drewN _ _ _) (congrArg (World.drewN _) (Nat.add_assoc _ _ _))⟩)) | (go_at_call 65; (with_reducible refine (partner_withOwn.calls ((qa l0 a1).f3) a3 t346 _ A8.out).mono ?_); rintro e w' ⟨rfl, ⟨nd, rfl⟩⟩; (try first | exact ⟨rfl, _, World.drewN_drewN _ _ _⟩ | exact ⟨rfl, _, Eq.trans (World.drewN_drewN _ _ _) (congrArg (World.drewN _) (Nat.add_assoc _ _ _))⟩))))
 go_loopg [10, 11, 31] k (fun kq v10 v11 v31 w' => ∃ (x10_1 : List (S53)) (x11_1 : Int) (x31_1 : Int), v11 = .int .i64 x11_1 ∧ v31 = .int .i64 x31_1 ∧ qb (partner_hides.l0 kq a1 t345 t346 x10_1 x11_1 l0 (l0.length : Int) x31_1 ((qa l0 a1).f0) ((qa l0 a1).f1) ((qa l0 a1).f2) ((qa l0 a1).f3) ((qa l0 a1).f4) ((qa l0 a1).f5) ((qa l0 a1).f6) ((qa l0 a1).f7) ((qa l0 a1).f8) = some r) ∧ qb (kq ≤ k) ∧ qb (Kd.R k53 53 w' w.heap.size (fun k_ => k_ ≠ gb344) v10 x10_1) ∧ qb (w'.heap[gb344]? = some (.cells #[.string ((qa l0 a1).f0), .string ((qa l0 a1).f1), .string ((qa l0 a1).f2), .string ((qa l0 a1).f3), .int .i64 ((qa l0 a1).f4), .int .i64 ((qa l0 a1).f5), .bool ((qa l0 a1).f6), .int .i64 ((qa l0 a1).f7), .bool ((qa l0 a1).f8)] 53 (0, 0))) ∧ qb (Below w.heap.size w w'))
 case atStart => exact ⟨(([] : List (S53))), ((-1)), (0), qD, qD, H', ⟨Nat.le_refl _⟩, ⟨Z102⟩, ⟨by (with_reducible repeat (first | refine qn ?_ _ | refine qm ?_ | refine ql ?_ _)); apply put9; (with_reducible repeat (first | refine qn ?_ _ | refine qm ?_ | refine ql ?_ _)); exact BK344.out⟩, ⟨Z93⟩⟩
 case round =>
  clear H'
  try clear p2; try clear c3; try clear p3; try clear q3; try clear hx3; try clear c5; try clear c5b0; try clear c6; try clear c6b0; try clear yc10_0 yc10_1 yc10_2 yc10_3 yc10_4 yc10_5 yc10_6 yc10_7 yc10_8 yf10_0 yf10_1 yf10_2 yf10_3 yf10_4 yf10_5 yf10_6 yf10_7 yf10_8; try clear hx343_0; try clear hx343_1; try clear hx343_2; try clear hx343_3; try clear hx343_4; try clear hx343_5; try clear hx343_6; try clear hx343_7; try clear hx343_8; try clear p343; try clear q343
  obtain ⟨x10_1, x11_1, x31_1, rfl, rfl, HA, HK1, HO_10, BK344, HB⟩ := hrel
  cases gk with
  | zero => exact absurd HA.out (by simp [partner_hides.l0])
  | succ k1 =>
   have H := HA.out
   clear HA
   simp only [partner_hides.l0] at H
   by_cases c11 : x31_1 < (l0.length : Int)
   case neg =>
    rw [if_neg c11] at H
    have c11b0 : decide (x31_1 < (l0.length : Int)) = false := decide_eq_false c11
    clear c11
    replace H := Option.bind_eq_some_iff.mp H
    obtain ⟨t355, A400, H⟩ := H
    replace H : (partner_hides.l1 k1 t345 t346 x10_1 x11_1 t355 (t355.length : Int) 0 ((qa l0 a1).f0) ((qa l0 a1).f1) ((qa l0 a1).f2) ((qa l0 a1).f3) ((qa l0 a1).f4) ((qa l0 a1).f5) ((qa l0 a1).f6) ((qa l0 a1).f7) ((qa l0 a1).f8)) = some r := H
    have A40 := qb.mk A400
    clear A400
    have H' := qb.mk H
    clear H
    have yc41_0 : wr.cell? ⟨gb344, 0, none⟩ = some (.string ((qa l0 a1).f0)) := (qc BK344.out 0).trans rfl
    have yc41_1 : wr.cell? ⟨gb344, 1, none⟩ = some (.string ((qa l0 a1).f1)) := (qc BK344.out 1).trans rfl
    have yc41_2 : wr.cell? ⟨gb344, 2, none⟩ = some (.string ((qa l0 a1).f2)) := (qc BK344.out 2).trans rfl
    have yc41_3 : wr.cell? ⟨gb344, 3, none⟩ = some (.string ((qa l0 a1).f3)) := (qc BK344.out 3).trans rfl
    have yc41_4 : wr.cell? ⟨gb344, 4, none⟩ = some (.int .i64 ((qa l0 a1).f4)) := (qc BK344.out 4).trans rfl
    have yc41_5 : wr.cell? ⟨gb344, 5, none⟩ = some (.int .i64 ((qa l0 a1).f5)) := (qc BK344.out 5).trans rfl
    have yc41_6 : wr.cell? ⟨gb344, 6, none⟩ = some (.bool ((qa l0 a1).f6)) := (qc BK344.out 6).trans rfl
    have yc41_7 : wr.cell? ⟨gb344, 7, none⟩ = some (.int .i64 ((qa l0 a1).f7)) := (qc BK344.out 7).trans rfl
    have yc41_8 : wr.cell? ⟨gb344, 8, none⟩ = some (.bool ((qa l0 a1).f8)) := (qc BK344.out 8).trans rfl
    have yf41_0 := qe BK344.out 0
    have yf41_1 := qe BK344.out 1
    have yf41_2 := qe BK344.out 2
    have yf41_3 := qe BK344.out 3
    have yf41_4 := qe BK344.out 4
    have yf41_5 := qe BK344.out 5
    have yf41_6 := qe BK344.out 6
    have yf41_7 := qe BK344.out 7
    have yf41_8 := qe BK344.out 8
    obtain ⟨Ao42, co42, eo42⟩ := Kd.R_slice HO_10.out
    subst eo42
    go_wp2_with (first | (go_at_call 24; (with_reducible refine (partner_changes.calls k1 _ _ x10_1 ((qa l0 a1).f4) t355 _ ?side1 ?side2 A40.out).mono ?_); (case side1 => exact Z64); (case side2 => exact Z155); rintro e w43 ⟨v356, rfl, ho0, hb⟩; have n0_ := qb.mk (Kd.R_below Z128 hb); have n1_ := qb.mk (Kd.R_lower ho0 (qx Z93)); have n2_ := bb BK344 hb; have n3_ := qb.mk (qd Z93 hb); clear HO_10 BK344 HB; have HO_10 := n0_; have HO357 := n1_; have BK344 := n2_; have HB := n3_; clear n0_ n1_ n2_ n3_; (try clear hb); (try clear hb2); (try clear hk); (try clear hi); (try clear ho0); obtain ⟨Ao44, co44, eo44⟩ := Kd.R_slice HO357.out; subst eo44))
    repeat (go_quiet (first | (go_at_call 24; (with_reducible refine (partner_changes.calls k1 _ _ x10_1 ((qa l0 a1).f4) t355 _ ?side1 ?side2 A40.out).mono ?_); (case side1 => exact Z64); (case side2 => exact Z155); rintro e w43 ⟨v356, rfl, ho0, hb⟩; have n0_ := qb.mk (Kd.R_below Z128 hb); have n1_ := qb.mk (Kd.R_lower ho0 (qx Z93)); have n2_ := bb BK344 hb; have n3_ := qb.mk (qd Z93 hb); clear HO_10 BK344 HB; have HO_10 := n0_; have HO357 := n1_; have BK344 := n2_; have HB := n3_; clear n0_ n1_ n2_ n3_; (try clear hb); (try clear hb2); (try clear hk); (try clear hi); (try clear ho0); obtain ⟨Ao44, co44, eo44⟩ := Kd.R_slice HO357.out; subst eo44)); try go_wp2_with (first | (go_at_call 24; (with_reducible refine (partner_changes.calls k1 _ _ x10_1 ((qa l0 a1).f4) t355 _ ?side1 ?side2 A40.out).mono ?_); (case side1 => exact Z64); (case side2 => exact Z155); rintro e w43 ⟨v356, rfl, ho0, hb⟩; have n0_ := qb.mk (Kd.R_below Z128 hb); have n1_ := qb.mk (Kd.R_lower ho0 (qx Z93)); have n2_ := bb BK344 hb; have n3_ := qb.mk (qd Z93 hb); clear HO_10 BK344 HB; have HO_10 := n0_; have HO357 := n1_; have BK344 := n2_; have HB := n3_; clear n0_ n1_ n2_ n3_; (try clear hb); (try clear hb2); (try clear hk); (try clear hi); (try clear ho0); obtain ⟨Ao44, co44, eo44⟩ := Kd.R_slice HO357.out; subst eo44)))
    go_loopg [70] k1 (fun kq v70 w' => ∃ (x70_2 : Int), v70 = .int .i64 x70_2 ∧ qb (partner_hides.l1 kq t345 t346 x10_1 x11_1 t355 (t355.length : Int) x70_2 ((qa l0 a1).f0) ((qa l0 a1).f1) ((qa l0 a1).f2) ((qa l0 a1).f3) ((qa l0 a1).f4) ((qa l0 a1).f5) ((qa l0 a1).f6) ((qa l0 a1).f7) ((qa l0 a1).f8) = some r) ∧ qb (kq ≤ k1) ∧ qb (Kd.R k53 53 w' w.heap.size (fun k_ => k_ ≠ gb344) (.slice Ao42 x10_1.length co42) x10_1) ∧ qb (Kd.R (Kd.int .i64) 3 w' w.heap.size (fun _ => True) (.slice Ao44 t355.length co44) t355) ∧ qb (w'.heap[gb344]? = some (.cells #[.string ((qa l0 a1).f0), .string ((qa l0 a1).f1), .string ((qa l0 a1).f2), .string ((qa l0 a1).f3), .int .i64 ((qa l0 a1).f4), .int .i64 ((qa l0 a1).f5), .bool ((qa l0 a1).f6), .int .i64 ((qa l0 a1).f7), .bool ((qa l0 a1).f8)] 53 (0, 0))) ∧ qb (Below w.heap.size w w'))
    case atStart => exact ⟨(0), qD, H', ⟨Nat.le_refl _⟩, ⟨Z128⟩, ⟨by (with_reducible repeat (first | apply Kd.R_alloc | apply Kd.R_drewN | apply Kd.R_drew)); exact HO357.out⟩, ⟨Z118⟩, ⟨Z93⟩⟩
    case round =>
     clear H'
     try clear c1; try clear c2; try clear p2 p2; try clear c3; try clear p3 p3; try clear q3 q3; try clear hx3; try clear c5; try clear c5b0; try clear c6; try clear c6b0; try clear p6; try clear c11; try clear c11b0; try clear c12; try clear c12b0; try clear c13; try clear c13b0; try clear c16; try clear c18; try clear c18b0; try clear c18b1; try clear c19; try clear c19b0; try clear c19b1; try clear c20; try clear c23; try clear c26; try clear c29; try clear c30; try clear c30b0; try clear c30b1; try clear c31; try clear c33; try clear p34; try clear q34; try clear hx34; try clear c36; try clear c37; try clear yc10_0 yc10_1 yc10_2 yc10_3 yc10_4 yc10_5 yc10_6 yc10_7 yc10_8 yf10_0 yf10_1 yf10_2 yf10_3 yf10_4 yf10_5 yf10_6 yf10_7 yf10_8; try clear yc17_0 yc17_1 yc17_2 yc17_3 yc17_4 yc17_5 yc17_6 yc17_7 yc17_8 yf17_0 yf17_1 yf17_2 yf17_3 yf17_4 yf17_5 yf17_6 yf17_7 yf17_8; try clear yc21_0 yc21_1 yc21_2 yc21_3 yc21_4 yc21_5 yc21_6 yc21_7 yc21_8 yf21_0 yf21_1 yf21_2 yf21_3 yf21_4 yf21_5 yf21_6 yf21_7 yf21_8; try clear yc22_0 yc22_1 yc22_2 yc22_3 yc22_4 yc22_5 yc22_6 yc22_7 yc22_8 yf22_0 yf22_1 yf22_2 yf22_3 yf22_4 yf22_5 yf22_6 yf22_7 yf22_8; try clear yc24_0 yc24_1 yc24_2 yc24_3 yc24_4 yc24_5 yc24_6 yc24_7 yc24_8 yf24_0 yf24_1 yf24_2 yf24_3 yf24_4 yf24_5 yf24_6 yf24_7 yf24_8; try clear yc25_0 yc25_1 yc25_2 yc25_3 yc25_4 yc25_5 yc25_6 yc25_7 yc25_8 yf25_0 yf25_1 yf25_2 yf25_3 yf25_4 yf25_5 yf25_6 yf25_7 yf25_8; try clear yc27_0 yc27_1 yc27_2 yc27_3 yc27_4 yc27_5 yc27_6 yc27_7 yc27_8 yf27_0 yf27_1 yf27_2 yf27_3 yf27_4 yf27_5 yf27_6 yf27_7 yf27_8; try clear yc28_0 yc28_1 yc28_2 yc28_3 yc28_4 yc28_5 yc28_6 yc28_7 yc28_8 yf28_0 yf28_1 yf28_2 yf28_3 yf28_4 yf28_5 yf28_6 yf28_7 yf28_8; try clear yc34_0 yc34_1 yc34_2 yc34_3 yc34_4 yc34_5 yc34_6 yc34_7 yc34_8 yf34_0 yf34_1 yf34_2 yf34_3 yf34_4 yf34_5 yf34_6 yf34_7 yf34_8; try clear yc38_0 yc38_1 yc38_2 yc38_3 yc38_4 yc38_5 yc38_6 yc38_7 yc38_8 yf38_0 yf38_1 yf38_2 yf38_3 yf38_4 yf38_5 yf38_6 yf38_7 yf38_8; try clear yc41_0 yc41_1 yc41_2 yc41_3 yc41_4 yc41_5 yc41_6 yc41_7 yc41_8 yf41_0 yf41_1 yf41_2 yf41_3 yf41_4 yf41_5 yf41_6 yf41_7 yf41_8; try clear hx343_0; try clear hx343_1; try clear hx343_2; try clear hx343_3; try clear hx343_4; try clear hx343_5; try clear hx343_6; try clear hx343_7; try clear hx343_8; try clear hx347_0; try clear hx347_1; try clear hx347_2; try clear hx347_3; try clear hx347_4; try clear hx347_5; try clear hx347_6; try clear hx347_7; try clear hx347_8; try clear p343; try clear p347; try clear q343; try clear q347
     obtain ⟨x70_2, rfl, HA, HK2, HO_10, HO_68, BK344, HB⟩ := hrel
     cases gk with
     | zero => exact absurd HA.out (by simp [partner_hides.l1])
     | succ k2 =>
      have H := HA.out
      clear HA
      simp only [partner_hides.l1] at H
      by_cases c45 : x70_2 < (t355.length : Int)
      case neg =>
       rw [if_neg c45] at H
       have c45b0 : decide (x70_2 < (t355.length : Int)) = false := decide_eq_false c45
       clear c45
       obtain rfl := Option.some.inj H
       go_wp2
       repeat (go_quiet (fail); try go_wp2)
       go_ret
       exact ⟨Z97, Z93⟩
      rw [if_pos c45] at H
      have c45b0 : decide (x70_2 < (t355.length : Int)) = true := decide_eq_true c45
      clear c45
      by_cases c46 : 0 ≤ x70_2
      case neg =>
       rw [if_neg c46] at H
       exact absurd H (by simp)
      rw [if_pos c46] at H
      have c46b0 : decide (0 ≤ x70_2) = true := decide_eq_true c46
      clear c46
      by_cases c47 : x70_2 < (t355.length : Int)
      case neg =>
       rw [if_neg c47] at H
       exact absurd H (by simp)
      rw [if_pos c47] at H
      have c47b0 : decide (x70_2 < (t355.length : Int)) = true := decide_eq_true c47
      clear c47
      by_cases c48 : (rd t355 x70_2) > ((qa l0 a1).f5)
      case pos =>
       rw [if_pos c48] at H
       have c48b0 : decide (((qa l0 a1).f5) < (rd t355 x70_2)) = true := decide_eq_true c48
       clear c48
       obtain rfl := Option.some.inj H
       have p358 : 0 ≤ (x70_2 : Int) := of_decide_eq_true qB
       have q358 : x70_2 < (t355.length : Int) := of_decide_eq_true qB
       obtain ⟨ad358, e358, hx358_0⟩ := Kd.at_int (Kd.R_reads' HO_68.out).2.2 x70_2 p358 q358
       cases e358
       replace p358 := eq_true p358
       replace q358 := eq_true q358
       have yc49_0 : wr.cell? ⟨gb344, 0, none⟩ = some (.string ((qa l0 a1).f0)) := (qc BK344.out 0).trans rfl
       have yc49_1 : wr.cell? ⟨gb344, 1, none⟩ = some (.string ((qa l0 a1).f1)) := (qc BK344.out 1).trans rfl
       have yc49_2 : wr.cell? ⟨gb344, 2, none⟩ = some (.string ((qa l0 a1).f2)) := (qc BK344.out 2).trans rfl
       have yc49_3 : wr.cell? ⟨gb344, 3, none⟩ = some (.string ((qa l0 a1).f3)) := (qc BK344.out 3).trans rfl
       have yc49_4 : wr.cell? ⟨gb344, 4, none⟩ = some (.int .i64 ((qa l0 a1).f4)) := (qc BK344.out 4).trans rfl
       have yc49_5 : wr.cell? ⟨gb344, 5, none⟩ = some (.int .i64 ((qa l0 a1).f5)) := (qc BK344.out 5).trans rfl
       have yc49_6 : wr.cell? ⟨gb344, 6, none⟩ = some (.bool ((qa l0 a1).f6)) := (qc BK344.out 6).trans rfl
       have yc49_7 : wr.cell? ⟨gb344, 7, none⟩ = some (.int .i64 ((qa l0 a1).f7)) := (qc BK344.out 7).trans rfl
       have yc49_8 : wr.cell? ⟨gb344, 8, none⟩ = some (.bool ((qa l0 a1).f8)) := (qc BK344.out 8).trans rfl
       have yf49_0 := qe BK344.out 0
       have yf49_1 := qe BK344.out 1
       have yf49_2 := qe BK344.out 2
       have yf49_3 := qe BK344.out 3
       have yf49_4 := qe BK344.out 4
       have yf49_5 := qe BK344.out 5
       have yf49_6 := qe BK344.out 6
       have yf49_7 := qe BK344.out 7
       have yf49_8 := qe BK344.out 8
       go_wp2
       repeat (go_quiet (fail); try go_wp2)
       go_ret
       exact ⟨Z97, Z93⟩
      rw [if_neg c48] at H
      have c48b0 : decide (((qa l0 a1).f5) < (rd t355 x70_2)) = false := decide_eq_false c48
      clear c48
      replace H := Option.bind_eq_some_iff.mp H
      obtain ⟨t360, A500, H⟩ := H
      replace H : (if t360 = x11_1 then (some false) else (partner_hides.l1 k2 t345 t346 x10_1 x11_1 t355 (t355.length : Int) (wrap64 (x70_2 + 1)) ((qa l0 a1).f0) ((qa l0 a1).f1) ((qa l0 a1).f2) ((qa l0 a1).f3) ((qa l0 a1).f4) ((qa l0 a1).f5) ((qa l0 a1).f6) ((qa l0 a1).f7) ((qa l0 a1).f8))) = some r := H
      have A50 := qb.mk A500
      clear A500
      by_cases c51 : t360 = x11_1
      case pos =>
       rw [if_pos c51] at H
       have c51b0 : (t360 == x11_1) = true := beq_iff_eq.mpr c51
       have c51b1 : (t360 != x11_1) = false := bne_eq_false_iff_eq.mpr c51
       clear c51
       obtain rfl := Option.some.inj H
       have p358 : 0 ≤ (x70_2 : Int) := of_decide_eq_true qB
       have q358 : x70_2 < (t355.length : Int) := of_decide_eq_true qB
       obtain ⟨ad358, e358, hx358_0⟩ := Kd.at_int (Kd.R_reads' HO_68.out).2.2 x70_2 p358 q358
       cases e358
       replace p358 := eq_true p358
       replace q358 := eq_true q358
       have yc52_0 : wr.cell? ⟨gb344, 0, none⟩ = some (.string ((qa l0 a1).f0)) := (qc BK344.out 0).trans rfl
       have yc52_1 : wr.cell? ⟨gb344, 1, none⟩ = some (.string ((qa l0 a1).f1)) := (qc BK344.out 1).trans rfl
       have yc52_2 : wr.cell? ⟨gb344, 2, none⟩ = some (.string ((qa l0 a1).f2)) := (qc BK344.out 2).trans rfl
       have yc52_3 : wr.cell? ⟨gb344, 3, none⟩ = some (.string ((qa l0 a1).f3)) := (qc BK344.out 3).trans rfl
       have yc52_4 : wr.cell? ⟨gb344, 4, none⟩ = some (.int .i64 ((qa l0 a1).f4)) := (qc BK344.out 4).trans rfl
       have yc52_5 : wr.cell? ⟨gb344, 5, none⟩ = some (.int .i64 ((qa l0 a1).f5)) := (qc BK344.out 5).trans rfl
       have yc52_6 : wr.cell? ⟨gb344, 6, none⟩ = some (.bool ((qa l0 a1).f6)) := (qc BK344.out 6).trans rfl
       have yc52_7 : wr.cell? ⟨gb344, 7, none⟩ = some (.int .i64 ((qa l0 a1).f7)) := (qc BK344.out 7).trans rfl
       have yc52_8 : wr.cell? ⟨gb344, 8, none⟩ = some (.bool ((qa l0 a1).f8)) := (qc BK344.out 8).trans rfl
       have yf52_0 := qe BK344.out 0
       have yf52_1 := qe BK344.out 1
       have yf52_2 := qe BK344.out 2
       have yf52_3 := qe BK344.out 3
       have yf52_4 := qe BK344.out 4
       have yf52_5 := qe BK344.out 5
       have yf52_6 := qe BK344.out 6
       have yf52_7 := qe BK344.out 7
       have yf52_8 := qe BK344.out 8
       go_wp2_with (first | ((with_reducible refine qi (N := 16) rfl ?_); refine qh ?hg (N := 16) ?hd (cs := #[.string (⟨#[]⟩ : ByteArray), .string (⟨#[]⟩ : ByteArray), .string (⟨#[]⟩ : ByteArray), .string (⟨#[]⟩ : ByteArray), .int .i64 0, .bool false]) (t := 25) ?hr ?_; (case hd => rfl); (case hg => rfl); (case hr => exact qC); intro gb359 hg w53 hbox hb; have n0_ := qb.mk (Kd.R_below Z128 hb); have n1_ := qb.mk (Kd.R_below Z129 hb); have n2_ := bb BK344 hb; have n3_ := qb.mk (qd Z93 hb); have n4_ := qb.mk (hbox); have n5_ := qb.mk ((Z46 : w.heap.size ≤ gb359)); have n6_ := n5_; have n7_ := qb.mk ((Z152 : gb344 ≠ gb359)); have n8_ := qb.mk ((Z153 : gb359 ≠ gb344)); clear HO_10 HO_68 BK344 HB; have HO_10 := n0_; have HO_68 := n1_; have BK344 := n2_; have HB := n3_; have BK359 := n4_; have GW359 := n5_; have GE359 := n6_; have NB344_359 := n7_; have NB359_344 := n8_; clear n0_ n1_ n2_ n3_ n4_ n5_ n6_ n7_ n8_; clear hb hbox hg; have hnb54 := NB359_344.out; have hnc54 := NB344_359.out; obtain ⟨yc55_0, yc55_1, yc55_2, yc55_3, yc55_4, yc55_5, yf55_0, yf55_1, yf55_2, yf55_3, yf55_4, yf55_5⟩ := bf6 BK359.out) | (go_at_call 23; (with_reducible refine (partner_find.calls k2 _ _ x10_1 ((qa l0 a1).f0) ((qa l0 a1).f1) t345 t346 (rd t355 x70_2) ((qa l0 a1).f6) t360 _ ?side1 ?side2 A50.out).mono ?_); (case side1 => exact Z13); (case side2 => exact Z155); rintro e w56 ⟨rfl, hb⟩; have n0_ := qb.mk (Kd.R_below Z34 hb); have n1_ := qb.mk (Kd.R_below Z35 hb); have n2_ := qb.mk (qw (g := gb344) (o := .cells #[.string ((qa l0 a1).f0), .string ((qa l0 a1).f1), .string ((qa l0 a1).f2), .string ((qa l0 a1).f3), .int .i64 ((qa l0 a1).f4), .int .i64 ((qa l0 a1).f5), .bool ((qa l0 a1).f6), .int .i64 ((qa l0 a1).f7), .bool ((qa l0 a1).f8)] 53 (0, 0)) Z18 hb); have n3_ := qb.mk (qw (g := gb359) (o := .cells #[.string ((qa l0 a1).f0), .string ((qa l0 a1).f1), .string t345, .string t346, .int .i64 (rd t355 x70_2), .bool ((qa l0 a1).f6)] 25 (0, 0)) Z24 hb); have n4_ := qb.mk (qd Z60 hb); clear HO_10 HO_68 BK344 BK359 HB; have HO_10 := n0_; have HO_68 := n1_; have BK344 := n2_; have BK359 := n3_; have HB := n4_; clear n0_ n1_ n2_ n3_ n4_; (try clear hb); (try clear hb2); (try clear hk); (try clear hi)))
       repeat (go_quiet (first | ((with_reducible refine qi (N := 16) rfl ?_); refine qh ?hg (N := 16) ?hd (cs := #[.string (⟨#[]⟩ : ByteArray), .string (⟨#[]⟩ : ByteArray), .string (⟨#[]⟩ : ByteArray), .string (⟨#[]⟩ : ByteArray), .int .i64 0, .bool false]) (t := 25) ?hr ?_; (case hd => rfl); (case hg => rfl); (case hr => exact qC); intro gb359 hg w53 hbox hb; have n0_ := qb.mk (Kd.R_below Z128 hb); have n1_ := qb.mk (Kd.R_below Z129 hb); have n2_ := bb BK344 hb; have n3_ := qb.mk (qd Z93 hb); have n4_ := qb.mk (hbox); have n5_ := qb.mk ((Z46 : w.heap.size ≤ gb359)); have n6_ := n5_; have n7_ := qb.mk ((Z152 : gb344 ≠ gb359)); have n8_ := qb.mk ((Z153 : gb359 ≠ gb344)); clear HO_10 HO_68 BK344 HB; have HO_10 := n0_; have HO_68 := n1_; have BK344 := n2_; have HB := n3_; have BK359 := n4_; have GW359 := n5_; have GE359 := n6_; have NB344_359 := n7_; have NB359_344 := n8_; clear n0_ n1_ n2_ n3_ n4_ n5_ n6_ n7_ n8_; clear hb hbox hg; have hnb54 := NB359_344.out; have hnc54 := NB344_359.out; obtain ⟨yc55_0, yc55_1, yc55_2, yc55_3, yc55_4, yc55_5, yf55_0, yf55_1, yf55_2, yf55_3, yf55_4, yf55_5⟩ := bf6 BK359.out) | (go_at_call 23; (with_reducible refine (partner_find.calls k2 _ _ x10_1 ((qa l0 a1).f0) ((qa l0 a1).f1) t345 t346 (rd t355 x70_2) ((qa l0 a1).f6) t360 _ ?side1 ?side2 A50.out).mono ?_); (case side1 => exact Z13); (case side2 => exact Z155); rintro e w56 ⟨rfl, hb⟩; have n0_ := qb.mk (Kd.R_below Z34 hb); have n1_ := qb.mk (Kd.R_below Z35 hb); have n2_ := qb.mk (qw (g := gb344) (o := .cells #[.string ((qa l0 a1).f0), .string ((qa l0 a1).f1), .string ((qa l0 a1).f2), .string ((qa l0 a1).f3), .int .i64 ((qa l0 a1).f4), .int .i64 ((qa l0 a1).f5), .bool ((qa l0 a1).f6), .int .i64 ((qa l0 a1).f7), .bool ((qa l0 a1).f8)] 53 (0, 0)) Z18 hb); have n3_ := qb.mk (qw (g := gb359) (o := .cells #[.string ((qa l0 a1).f0), .string ((qa l0 a1).f1), .string t345, .string t346, .int .i64 (rd t355 x70_2), .bool ((qa l0 a1).f6)] 25 (0, 0)) Z24 hb); have n4_ := qb.mk (qd Z60 hb); clear HO_10 HO_68 BK344 BK359 HB; have HO_10 := n0_; have HO_68 := n1_; have BK344 := n2_; have BK359 := n3_; have HB := n4_; clear n0_ n1_ n2_ n3_ n4_; (try clear hb); (try clear hb2); (try clear hk); (try clear hi))); try go_wp2_with (first | ((with_reducible refine qi (N := 16) rfl ?_); refine qh ?hg (N := 16) ?hd (cs := #[.string (⟨#[]⟩ : ByteArray), .string (⟨#[]⟩ : ByteArray), .string (⟨#[]⟩ : ByteArray), .string (⟨#[]⟩ : ByteArray), .int .i64 0, .bool false]) (t := 25) ?hr ?_; (case hd => rfl); (case hg => rfl); (case hr => exact qC); intro gb359 hg w53 hbox hb; have n0_ := qb.mk (Kd.R_below Z128 hb); have n1_ := qb.mk (Kd.R_below Z129 hb); have n2_ := bb BK344 hb; have n3_ := qb.mk (qd Z93 hb); have n4_ := qb.mk (hbox); have n5_ := qb.mk ((Z46 : w.heap.size ≤ gb359)); have n6_ := n5_; have n7_ := qb.mk ((Z152 : gb344 ≠ gb359)); have n8_ := qb.mk ((Z153 : gb359 ≠ gb344)); clear HO_10 HO_68 BK344 HB; have HO_10 := n0_; have HO_68 := n1_; have BK344 := n2_; have HB := n3_; have BK359 := n4_; have GW359 := n5_; have GE359 := n6_; have NB344_359 := n7_; have NB359_344 := n8_; clear n0_ n1_ n2_ n3_ n4_ n5_ n6_ n7_ n8_; clear hb hbox hg; have hnb54 := NB359_344.out; have hnc54 := NB344_359.out; obtain ⟨yc55_0, yc55_1, yc55_2, yc55_3, yc55_4, yc55_5, yf55_0, yf55_1, yf55_2, yf55_3, yf55_4, yf55_5⟩ := bf6 BK359.out) | (go_at_call 23; (with_reducible refine (partner_find.calls k2 _ _ x10_1 ((qa l0 a1).f0) ((qa l0 a1).f1) t345 t346 (rd t355 x70_2) ((qa l0 a1).f6) t360 _ ?side1 ?side2 A50.out).mono ?_); (case side1 => exact Z13); (case side2 => exact Z155); rintro e w56 ⟨rfl, hb⟩; have n0_ := qb.mk (Kd.R_below Z34 hb); have n1_ := qb.mk (Kd.R_below Z35 hb); have n2_ := qb.mk (qw (g := gb344) (o := .cells #[.string ((qa l0 a1).f0), .string ((qa l0 a1).f1), .string ((qa l0 a1).f2), .string ((qa l0 a1).f3), .int .i64 ((qa l0 a1).f4), .int .i64 ((qa l0 a1).f5), .bool ((qa l0 a1).f6), .int .i64 ((qa l0 a1).f7), .bool ((qa l0 a1).f8)] 53 (0, 0)) Z18 hb); have n3_ := qb.mk (qw (g := gb359) (o := .cells #[.string ((qa l0 a1).f0), .string ((qa l0 a1).f1), .string t345, .string t346, .int .i64 (rd t355 x70_2), .bool ((qa l0 a1).f6)] 25 (0, 0)) Z24 hb); have n4_ := qb.mk (qd Z60 hb); clear HO_10 HO_68 BK344 BK359 HB; have HO_10 := n0_; have HO_68 := n1_; have BK344 := n2_; have BK359 := n3_; have HB := n4_; clear n0_ n1_ n2_ n3_ n4_; (try clear hb); (try clear hb2); (try clear hk); (try clear hi))))
       go_ret
       exact ⟨Z97, Z60⟩
      rw [if_neg c51] at H
      have c51b0 : (t360 == x11_1) = false := beq_eq_false_iff_ne.mpr c51
      have c51b1 : (t360 != x11_1) = true := bne_iff_ne.mpr c51
      have H' := qb.mk H
      clear H
      have p358 : 0 ≤ (x70_2 : Int) := of_decide_eq_true qB
      have q358 : x70_2 < (t355.length : Int) := of_decide_eq_true qB
      obtain ⟨ad358, e358, hx358_0⟩ := Kd.at_int (Kd.R_reads' HO_68.out).2.2 x70_2 p358 q358
      cases e358
      replace p358 := eq_true p358
      replace q358 := eq_true q358
      have yc57_0 : wr.cell? ⟨gb344, 0, none⟩ = some (.string ((qa l0 a1).f0)) := (qc BK344.out 0).trans rfl
      have yc57_1 : wr.cell? ⟨gb344, 1, none⟩ = some (.string ((qa l0 a1).f1)) := (qc BK344.out 1).trans rfl
      have yc57_2 : wr.cell? ⟨gb344, 2, none⟩ = some (.string ((qa l0 a1).f2)) := (qc BK344.out 2).trans rfl
      have yc57_3 : wr.cell? ⟨gb344, 3, none⟩ = some (.string ((qa l0 a1).f3)) := (qc BK344.out 3).trans rfl
      have yc57_4 : wr.cell? ⟨gb344, 4, none⟩ = some (.int .i64 ((qa l0 a1).f4)) := (qc BK344.out 4).trans rfl
      have yc57_5 : wr.cell? ⟨gb344, 5, none⟩ = some (.int .i64 ((qa l0 a1).f5)) := (qc BK344.out 5).trans rfl
      have yc57_6 : wr.cell? ⟨gb344, 6, none⟩ = some (.bool ((qa l0 a1).f6)) := (qc BK344.out 6).trans rfl
      have yc57_7 : wr.cell? ⟨gb344, 7, none⟩ = some (.int .i64 ((qa l0 a1).f7)) := (qc BK344.out 7).trans rfl
      have yc57_8 : wr.cell? ⟨gb344, 8, none⟩ = some (.bool ((qa l0 a1).f8)) := (qc BK344.out 8).trans rfl
      have yf57_0 := qe BK344.out 0
      have yf57_1 := qe BK344.out 1
      have yf57_2 := qe BK344.out 2
      have yf57_3 := qe BK344.out 3
      have yf57_4 := qe BK344.out 4
      have yf57_5 := qe BK344.out 5
      have yf57_6 := qe BK344.out 6
      have yf57_7 := qe BK344.out 7
      have yf57_8 := qe BK344.out 8
      go_wp2_with (first | ((with_reducible refine qi (N := 16) rfl ?_); refine qh ?hg (N := 16) ?hd (cs := #[.string (⟨#[]⟩ : ByteArray), .string (⟨#[]⟩ : ByteArray), .string (⟨#[]⟩ : ByteArray), .string (⟨#[]⟩ : ByteArray), .int .i64 0, .bool false]) (t := 25) ?hr ?_; (case hd => rfl); (case hg => rfl); (case hr => exact qC); intro gb359 hg w58 hbox hb; have n0_ := qb.mk (Kd.R_below Z128 hb); have n1_ := qb.mk (Kd.R_below Z129 hb); have n2_ := bb BK344 hb; have n3_ := qb.mk (qd Z93 hb); have n4_ := qb.mk (hbox); have n5_ := qb.mk ((Z46 : w.heap.size ≤ gb359)); have n6_ := n5_; have n7_ := qb.mk ((Z152 : gb344 ≠ gb359)); have n8_ := qb.mk ((Z153 : gb359 ≠ gb344)); clear HO_10 HO_68 BK344 HB; have HO_10 := n0_; have HO_68 := n1_; have BK344 := n2_; have HB := n3_; have BK359 := n4_; have GW359 := n5_; have GE359 := n6_; have NB344_359 := n7_; have NB359_344 := n8_; clear n0_ n1_ n2_ n3_ n4_ n5_ n6_ n7_ n8_; clear hb hbox hg; have hnb59 := NB359_344.out; have hnc59 := NB344_359.out; obtain ⟨yc60_0, yc60_1, yc60_2, yc60_3, yc60_4, yc60_5, yf60_0, yf60_1, yf60_2, yf60_3, yf60_4, yf60_5⟩ := bf6 BK359.out) | (go_at_call 23; (with_reducible refine (partner_find.calls k2 _ _ x10_1 ((qa l0 a1).f0) ((qa l0 a1).f1) t345 t346 (rd t355 x70_2) ((qa l0 a1).f6) t360 _ ?side1 ?side2 A50.out).mono ?_); (case side1 => exact Z13); (case side2 => exact Z155); rintro e w61 ⟨rfl, hb⟩; have n0_ := qb.mk (Kd.R_below Z34 hb); have n1_ := qb.mk (Kd.R_below Z35 hb); have n2_ := qb.mk (qw (g := gb344) (o := .cells #[.string ((qa l0 a1).f0), .string ((qa l0 a1).f1), .string ((qa l0 a1).f2), .string ((qa l0 a1).f3), .int .i64 ((qa l0 a1).f4), .int .i64 ((qa l0 a1).f5), .bool ((qa l0 a1).f6), .int .i64 ((qa l0 a1).f7), .bool ((qa l0 a1).f8)] 53 (0, 0)) Z18 hb); have n3_ := qb.mk (qw (g := gb359) (o := .cells #[.string ((qa l0 a1).f0), .string ((qa l0 a1).f1), .string t345, .string t346, .int .i64 (rd t355 x70_2), .bool ((qa l0 a1).f6)] 25 (0, 0)) Z24 hb); have n4_ := qb.mk (qd Z60 hb); clear HO_10 HO_68 BK344 BK359 HB; have HO_10 := n0_; have HO_68 := n1_; have BK344 := n2_; have BK359 := n3_; have HB := n4_; clear n0_ n1_ n2_ n3_ n4_; (try clear hb); (try clear hb2); (try clear hk); (try clear hi)))
      repeat (go_quiet (first | ((with_reducible refine qi (N := 16) rfl ?_); refine qh ?hg (N := 16) ?hd (cs := #[.string (⟨#[]⟩ : ByteArray), .string (⟨#[]⟩ : ByteArray), .string (⟨#[]⟩ : ByteArray), .string (⟨#[]⟩ : ByteArray), .int .i64 0, .bool false]) (t := 25) ?hr ?_; (case hd => rfl); (case hg => rfl); (case hr => exact qC); intro gb359 hg w58 hbox hb; have n0_ := qb.mk (Kd.R_below Z128 hb); have n1_ := qb.mk (Kd.R_below Z129 hb); have n2_ := bb BK344 hb; have n3_ := qb.mk (qd Z93 hb); have n4_ := qb.mk (hbox); have n5_ := qb.mk ((Z46 : w.heap.size ≤ gb359)); have n6_ := n5_; have n7_ := qb.mk ((Z152 : gb344 ≠ gb359)); have n8_ := qb.mk ((Z153 : gb359 ≠ gb344)); clear HO_10 HO_68 BK344 HB; have HO_10 := n0_; have HO_68 := n1_; have BK344 := n2_; have HB := n3_; have BK359 := n4_; have GW359 := n5_; have GE359 := n6_; have NB344_359 := n7_; have NB359_344 := n8_; clear n0_ n1_ n2_ n3_ n4_ n5_ n6_ n7_ n8_; clear hb hbox hg; have hnb59 := NB359_344.out; have hnc59 := NB344_359.out; obtain ⟨yc60_0, yc60_1, yc60_2, yc60_3, yc60_4, yc60_5, yf60_0, yf60_1, yf60_2, yf60_3, yf60_4, yf60_5⟩ := bf6 BK359.out) | (go_at_call 23; (with_reducible refine (partner_find.calls k2 _ _ x10_1 ((qa l0 a1).f0) ((qa l0 a1).f1) t345 t346 (rd t355 x70_2) ((qa l0 a1).f6) t360 _ ?side1 ?side2 A50.out).mono ?_); (case side1 => exact Z13); (case side2 => exact Z155); rintro e w61 ⟨rfl, hb⟩; have n0_ := qb.mk (Kd.R_below Z34 hb); have n1_ := qb.mk (Kd.R_below Z35 hb); have n2_ := qb.mk (qw (g := gb344) (o := .cells #[.string ((qa l0 a1).f0), .string ((qa l0 a1).f1), .string ((qa l0 a1).f2), .string ((qa l0 a1).f3), .int .i64 ((qa l0 a1).f4), .int .i64 ((qa l0 a1).f5), .bool ((qa l0 a1).f6), .int .i64 ((qa l0 a1).f7), .bool ((qa l0 a1).f8)] 53 (0, 0)) Z18 hb); have n3_ := qb.mk (qw (g := gb359) (o := .cells #[.string ((qa l0 a1).f0), .string ((qa l0 a1).f1), .string t345, .string t346, .int .i64 (rd t355 x70_2), .bool ((qa l0 a1).f6)] 25 (0, 0)) Z24 hb); have n4_ := qb.mk (qd Z60 hb); clear HO_10 HO_68 BK344 BK359 HB; have HO_10 := n0_; have HO_68 := n1_; have BK344 := n2_; have BK359 := n3_; have HB := n4_; clear n0_ n1_ n2_ n3_ n4_; (try clear hb); (try clear hb2); (try clear hk); (try clear hi))); try go_wp2_with (first | ((with_reducible refine qi (N := 16) rfl ?_); refine qh ?hg (N := 16) ?hd (cs := #[.string (⟨#[]⟩ : ByteArray), .string (⟨#[]⟩ : ByteArray), .string (⟨#[]⟩ : ByteArray), .string (⟨#[]⟩ : ByteArray), .int .i64 0, .bool false]) (t := 25) ?hr ?_; (case hd => rfl); (case hg => rfl); (case hr => exact qC); intro gb359 hg w58 hbox hb; have n0_ := qb.mk (Kd.R_below Z128 hb); have n1_ := qb.mk (Kd.R_below Z129 hb); have n2_ := bb BK344 hb; have n3_ := qb.mk (qd Z93 hb); have n4_ := qb.mk (hbox); have n5_ := qb.mk ((Z46 : w.heap.size ≤ gb359)); have n6_ := n5_; have n7_ := qb.mk ((Z152 : gb344 ≠ gb359)); have n8_ := qb.mk ((Z153 : gb359 ≠ gb344)); clear HO_10 HO_68 BK344 HB; have HO_10 := n0_; have HO_68 := n1_; have BK344 := n2_; have HB := n3_; have BK359 := n4_; have GW359 := n5_; have GE359 := n6_; have NB344_359 := n7_; have NB359_344 := n8_; clear n0_ n1_ n2_ n3_ n4_ n5_ n6_ n7_ n8_; clear hb hbox hg; have hnb59 := NB359_344.out; have hnc59 := NB344_359.out; obtain ⟨yc60_0, yc60_1, yc60_2, yc60_3, yc60_4, yc60_5, yf60_0, yf60_1, yf60_2, yf60_3, yf60_4, yf60_5⟩ := bf6 BK359.out) | (go_at_call 23; (with_reducible refine (partner_find.calls k2 _ _ x10_1 ((qa l0 a1).f0) ((qa l0 a1).f1) t345 t346 (rd t355 x70_2) ((qa l0 a1).f6) t360 _ ?side1 ?side2 A50.out).mono ?_); (case side1 => exact Z13); (case side2 => exact Z155); rintro e w61 ⟨rfl, hb⟩; have n0_ := qb.mk (Kd.R_below Z34 hb); have n1_ := qb.mk (Kd.R_below Z35 hb); have n2_ := qb.mk (qw (g := gb344) (o := .cells #[.string ((qa l0 a1).f0), .string ((qa l0 a1).f1), .string ((qa l0 a1).f2), .string ((qa l0 a1).f3), .int .i64 ((qa l0 a1).f4), .int .i64 ((qa l0 a1).f5), .bool ((qa l0 a1).f6), .int .i64 ((qa l0 a1).f7), .bool ((qa l0 a1).f8)] 53 (0, 0)) Z18 hb); have n3_ := qb.mk (qw (g := gb359) (o := .cells #[.string ((qa l0 a1).f0), .string ((qa l0 a1).f1), .string t345, .string t346, .int .i64 (rd t355 x70_2), .bool ((qa l0 a1).f6)] 25 (0, 0)) Z24 hb); have n4_ := qb.mk (qd Z60 hb); clear HO_10 HO_68 BK344 BK359 HB; have HO_10 := n0_; have HO_68 := n1_; have BK344 := n2_; have BK359 := n3_; have HB := n4_; clear n0_ n1_ n2_ n3_ n4_; (try clear hb); (try clear hb2); (try clear hk); (try clear hi))))
      go_roundg k2
      case measure => have := HK1.out; have := HK2.out; omega
      case rel => exact ⟨(wrap64 (x70_2 + 1)), qD, H', ⟨by have := HK1.out; have := HK2.out; omega⟩, ⟨Z128⟩, ⟨Z129⟩, ⟨Z118⟩, ⟨Z60⟩⟩
   rw [if_pos c11] at H
   have c11b0 : decide (x31_1 < (l0.length : Int)) = true := decide_eq_true c11
   clear c11
   by_cases c12 : 0 ≤ x31_1
   case neg =>
    rw [if_neg c12] at H
    exact absurd H (by simp)
   rw [if_pos c12] at H
   have c12b0 : decide (0 ≤ x31_1) = true := decide_eq_true c12
   clear c12
   by_cases c13 : x31_1 < (l0.length : Int)
   case neg =>
    rw [if_neg c13] at H
    exact absurd H (by simp)
   rw [if_pos c13] at H
   have c13b0 : decide (x31_1 < (l0.length : Int)) = true := decide_eq_true c13
   clear c13
   have HC14 := qb.mk H
   clear H
   have p347 : 0 ≤ (x31_1 : Int) := of_decide_eq_true qB
   have q347 : x31_1 < (l0.length : Int) := of_decide_eq_true qB
   obtain ⟨ad347, e347, hx347_0, hx347_1, hx347_2, hx347_3, hx347_4, hx347_5, hx347_6, hx347_7, hx347_8⟩ := at_T53 HR0.out x31_1 p347 q347
   obtain rfl : ad343 = ad347 := (by injection e347)
   replace hx347_0 := bx HB hx347_0
   replace hx347_1 := bx HB hx347_1
   replace hx347_2 := bx HB hx347_2
   replace hx347_3 := bx HB hx347_3
   replace hx347_4 := bx HB hx347_4
   replace hx347_5 := bx HB hx347_5
   replace hx347_6 := bx HB hx347_6
   replace hx347_7 := bx HB hx347_7
   replace hx347_8 := bx HB hx347_8
   replace p347 := eq_true p347
   replace q347 := eq_true q347
   go_upto_region 8 with (first | ((with_reducible refine qi (N := 13) rfl ?_); refine qh ?hg (N := 13) ?hd (cs := #[.string (⟨#[]⟩ : ByteArray), .string (⟨#[]⟩ : ByteArray), .string (⟨#[]⟩ : ByteArray), .string (⟨#[]⟩ : ByteArray), .int .i64 0, .int .i64 0, .bool false, .int .i64 0, .bool false]) (t := 53) ?hr ?_; (case hd => rfl); (case hg => rfl); (case hr => exact qC); intro gb348 hg w15 hbox hb; have n0_ := qb.mk (Kd.R_below (Kd.R_elderB Z128 gb348 (Nat.le_of_eq hg.symm)) hb); have n1_ := bb BK344 hb; have n2_ := qb.mk (qd Z93 hb); have n3_ := qb.mk (hbox); have n4_ := qb.mk ((Z46 : w.heap.size ≤ gb348)); have n5_ := n4_; have n6_ := qb.mk ((Z152 : gb344 ≠ gb348)); have n7_ := qb.mk ((Z153 : gb348 ≠ gb344)); clear HO_10 BK344 HB; have HO_10 := n0_; have BK344 := n1_; have HB := n2_; have BK348 := n3_; have GW348 := n4_; have GE348 := n5_; have NB344_348 := n6_; have NB348_344 := n7_; clear n0_ n1_ n2_ n3_ n4_ n5_ n6_ n7_; clear hb hbox hg; have hnb16 := NB348_344.out; have hnc16 := NB344_348.out; obtain ⟨yc17_0, yc17_1, yc17_2, yc17_3, yc17_4, yc17_5, yc17_6, yc17_7, yc17_8, yf17_0, yf17_1, yf17_2, yf17_3, yf17_4, yf17_5, yf17_6, yf17_7, yf17_8⟩ := bf9 BK348.out))
   repeat (go_quiet (first | ((with_reducible refine qi (N := 13) rfl ?_); refine qh ?hg (N := 13) ?hd (cs := #[.string (⟨#[]⟩ : ByteArray), .string (⟨#[]⟩ : ByteArray), .string (⟨#[]⟩ : ByteArray), .string (⟨#[]⟩ : ByteArray), .int .i64 0, .int .i64 0, .bool false, .int .i64 0, .bool false]) (t := 53) ?hr ?_; (case hd => rfl); (case hg => rfl); (case hr => exact qC); intro gb348 hg w15 hbox hb; have n0_ := qb.mk (Kd.R_below (Kd.R_elderB Z128 gb348 (Nat.le_of_eq hg.symm)) hb); have n1_ := bb BK344 hb; have n2_ := qb.mk (qd Z93 hb); have n3_ := qb.mk (hbox); have n4_ := qb.mk ((Z46 : w.heap.size ≤ gb348)); have n5_ := n4_; have n6_ := qb.mk ((Z152 : gb344 ≠ gb348)); have n7_ := qb.mk ((Z153 : gb348 ≠ gb344)); clear HO_10 BK344 HB; have HO_10 := n0_; have BK344 := n1_; have HB := n2_; have BK348 := n3_; have GW348 := n4_; have GE348 := n5_; have NB344_348 := n6_; have NB348_344 := n7_; clear n0_ n1_ n2_ n3_ n4_ n5_ n6_ n7_; clear hb hbox hg; have hnb16 := NB348_344.out; have hnc16 := NB344_348.out; obtain ⟨yc17_0, yc17_1, yc17_2, yc17_3, yc17_4, yc17_5, yc17_6, yc17_7, yc17_8, yf17_0, yf17_1, yf17_2, yf17_3, yf17_4, yf17_5, yf17_6, yf17_7, yf17_8⟩ := bf9 BK348.out)); go_upto_region 8 with (first | ((with_reducible refine qi (N := 13) rfl ?_); refine qh ?hg (N := 13) ?hd (cs := #[.string (⟨#[]⟩ : ByteArray), .string (⟨#[]⟩ : ByteArray), .string (⟨#[]⟩ : ByteArray), .string (⟨#[]⟩ : ByteArray), .int .i64 0, .int .i64 0, .bool false, .int .i64 0, .bool false]) (t := 53) ?hr ?_; (case hd => rfl); (case hg => rfl); (case hr => exact qC); intro gb348 hg w15 hbox hb; have n0_ := qb.mk (Kd.R_below (Kd.R_elderB Z128 gb348 (Nat.le_of_eq hg.symm)) hb); have n1_ := bb BK344 hb; have n2_ := qb.mk (qd Z93 hb); have n3_ := qb.mk (hbox); have n4_ := qb.mk ((Z46 : w.heap.size ≤ gb348)); have n5_ := n4_; have n6_ := qb.mk ((Z152 : gb344 ≠ gb348)); have n7_ := qb.mk ((Z153 : gb348 ≠ gb344)); clear HO_10 BK344 HB; have HO_10 := n0_; have BK344 := n1_; have HB := n2_; have BK348 := n3_; have GW348 := n4_; have GE348 := n5_; have NB344_348 := n6_; have NB348_344 := n7_; clear n0_ n1_ n2_ n3_ n4_ n5_ n6_ n7_; clear hb hbox hg; have hnb16 := NB348_344.out; have hnc16 := NB344_348.out; obtain ⟨yc17_0, yc17_1, yc17_2, yc17_3, yc17_4, yc17_5, yc17_6, yc17_7, yc17_8, yf17_0, yf17_1, yf17_2, yf17_3, yf17_4, yf17_5, yf17_6, yf17_7, yf17_8⟩ := bf9 BK348.out)))
   (try simp only [Act.put, sT, s0, s1])
   go_cut [54] (fun v54 wc => ∃ (kq : Nat) (x54_13 : Bool), v54 = .bool x54_13 ∧ qb (partner_hides.j1 kq a1 t345 t346 x10_1 x11_1 x31_1 l0 (l0.length : Int) x31_1 x54_13 ((qa l0 a1).f0) ((qa l0 a1).f1) ((qa l0 a1).f2) ((qa l0 a1).f3) ((qa l0 a1).f4) ((qa l0 a1).f5) ((qa l0 a1).f6) ((qa l0 a1).f7) ((qa l0 a1).f8) ((qa l0 x31_1).f0) ((qa l0 x31_1).f1) ((qa l0 x31_1).f2) ((qa l0 x31_1).f3) ((qa l0 x31_1).f4) ((qa l0 x31_1).f5) ((qa l0 x31_1).f6) ((qa l0 x31_1).f7) ((qa l0 x31_1).f8) = some r) ∧ qb (kq ≤ k1) ∧ qb (Kd.R k53 53 wc w.heap.size (fun k_ => k_ ≠ gb344 ∧ k_ ≠ gb348) u10 x10_1) ∧ qb (wc.heap[gb344]? = some (.cells #[.string ((qa l0 a1).f0), .string ((qa l0 a1).f1), .string ((qa l0 a1).f2), .string ((qa l0 a1).f3), .int .i64 ((qa l0 a1).f4), .int .i64 ((qa l0 a1).f5), .bool ((qa l0 a1).f6), .int .i64 ((qa l0 a1).f7), .bool ((qa l0 a1).f8)] 53 (0, 0))) ∧ qb (wc.heap[gb348]? = some (.cells #[.string ((qa l0 x31_1).f0), .string ((qa l0 x31_1).f1), .string ((qa l0 x31_1).f2), .string ((qa l0 x31_1).f3), .int .i64 ((qa l0 x31_1).f4), .int .i64 ((qa l0 x31_1).f5), .bool ((qa l0 x31_1).f6), .int .i64 ((qa l0 x31_1).f7), .bool ((qa l0 x31_1).f8)] 53 (0, 0))) ∧ qb (Below w.heap.size w wc))
   case first =>
    have H := HC14.out
    clear HC14
    by_cases c18 : ((qa l0 x31_1).f0).toList = ((qa l0 a1).f0).toList
    case neg =>
     rw [if_neg c18] at H
     have c18b0 : (((qa l0 x31_1).f0).toList == ((qa l0 a1).f0).toList) = false := beq_eq_false_iff_ne.mpr c18
     have c18b1 : (((qa l0 x31_1).f0).toList != ((qa l0 a1).f0).toList) = true := bne_iff_ne.mpr c18
     (first | rw [c18b0] | (simp only [qr, qt]; rw [c18b0]) | skip)
     have H' := qb.mk H
     clear H
     have hnb26 := NB348_344.out
     have hnc26 := NB344_348.out
     obtain ⟨yc27_0, yc27_1, yc27_2, yc27_3, yc27_4, yc27_5, yc27_6, yc27_7, yc27_8, yf27_0, yf27_1, yf27_2, yf27_3, yf27_4, yf27_5, yf27_6, yf27_7, yf27_8⟩ := bf9 BK348.out
     obtain ⟨yc28_0, yc28_1, yc28_2, yc28_3, yc28_4, yc28_5, yc28_6, yc28_7, yc28_8, yf28_0, yf28_1, yf28_2, yf28_3, yf28_4, yf28_5, yf28_6, yf28_7, yf28_8⟩ := bf9 BK344.out
     go_wp2
     repeat (go_quiet (fail); try go_wp2)
     go_meet
     case rel => exact ⟨_, (false), qD, H', ⟨Z139⟩, ⟨Z19⟩, ⟨Z17⟩, ⟨Z23⟩, ⟨Z59⟩⟩
    rw [if_pos c18] at H
    have c18b0 : (((qa l0 x31_1).f0).toList == ((qa l0 a1).f0).toList) = true := beq_iff_eq.mpr c18
    have c18b1 : (((qa l0 x31_1).f0).toList != ((qa l0 a1).f0).toList) = false := bne_eq_false_iff_eq.mpr c18
    clear c18
    (first | rw [c18b0] | (simp only [qr, qt]; rw [c18b0]) | skip)
    by_cases c19 : ((qa l0 x31_1).f1).toList = ((qa l0 a1).f1).toList
    case neg =>
     rw [if_neg c19] at H
     have c19b0 : (((qa l0 x31_1).f1).toList == ((qa l0 a1).f1).toList) = false := beq_eq_false_iff_ne.mpr c19
     have c19b1 : (((qa l0 x31_1).f1).toList != ((qa l0 a1).f1).toList) = true := bne_iff_ne.mpr c19
     have H' := qb.mk H
     clear H
     have hnb23 := NB348_344.out
     have hnc23 := NB344_348.out
     obtain ⟨yc24_0, yc24_1, yc24_2, yc24_3, yc24_4, yc24_5, yc24_6, yc24_7, yc24_8, yf24_0, yf24_1, yf24_2, yf24_3, yf24_4, yf24_5, yf24_6, yf24_7, yf24_8⟩ := bf9 BK348.out
     obtain ⟨yc25_0, yc25_1, yc25_2, yc25_3, yc25_4, yc25_5, yc25_6, yc25_7, yc25_8, yf25_0, yf25_1, yf25_2, yf25_3, yf25_4, yf25_5, yf25_6, yf25_7, yf25_8⟩ := bf9 BK344.out
     go_wp2
     repeat (go_quiet (fail); try go_wp2)
     go_meet
     case rel => exact ⟨_, (false), qD, H', ⟨Z139⟩, ⟨Z19⟩, ⟨Z17⟩, ⟨Z23⟩, ⟨Z59⟩⟩
    rw [if_pos c19] at H
    have c19b0 : (((qa l0 x31_1).f1).toList == ((qa l0 a1).f1).toList) = true := beq_iff_eq.mpr c19
    have c19b1 : (((qa l0 x31_1).f1).toList != ((qa l0 a1).f1).toList) = false := bne_eq_false_iff_eq.mpr c19
    clear c19
    have H' := qb.mk H
    clear H
    have hnb20 := NB348_344.out
    have hnc20 := NB344_348.out
    obtain ⟨yc21_0, yc21_1, yc21_2, yc21_3, yc21_4, yc21_5, yc21_6, yc21_7, yc21_8, yf21_0, yf21_1, yf21_2, yf21_3, yf21_4, yf21_5, yf21_6, yf21_7, yf21_8⟩ := bf9 BK348.out
    obtain ⟨yc22_0, yc22_1, yc22_2, yc22_3, yc22_4, yc22_5, yc22_6, yc22_7, yc22_8, yf22_0, yf22_1, yf22_2, yf22_3, yf22_4, yf22_5, yf22_6, yf22_7, yf22_8⟩ := bf9 BK344.out
    go_wp2
    repeat (go_quiet (fail); try go_wp2)
    go_meet
    case rel => exact ⟨_, ((((qa l0 x31_1).f6) == ((qa l0 a1).f6))), qD, H', ⟨Z139⟩, ⟨Z19⟩, ⟨Z17⟩, ⟨Z23⟩, ⟨Z59⟩⟩
   case rest =>
    clear HC14
    try clear c1; try clear c2; try clear p2 p2; try clear c3; try clear p3 p3; try clear q3 q3; try clear hx3; try clear c5; try clear c5b0; try clear c6; try clear c6b0; try clear c11; try clear c11b0; try clear c12; try clear c12b0; try clear c13; try clear c13b0; try clear c16; try clear c18; try clear c18b0; try clear c18b1; try clear c19; try clear c19b0; try clear c19b1; try clear c20; try clear c23; try clear c26; try clear yc10_0 yc10_1 yc10_2 yc10_3 yc10_4 yc10_5 yc10_6 yc10_7 yc10_8 yf10_0 yf10_1 yf10_2 yf10_3 yf10_4 yf10_5 yf10_6 yf10_7 yf10_8; try clear yc17_0 yc17_1 yc17_2 yc17_3 yc17_4 yc17_5 yc17_6 yc17_7 yc17_8 yf17_0 yf17_1 yf17_2 yf17_3 yf17_4 yf17_5 yf17_6 yf17_7 yf17_8; try clear yc21_0 yc21_1 yc21_2 yc21_3 yc21_4 yc21_5 yc21_6 yc21_7 yc21_8 yf21_0 yf21_1 yf21_2 yf21_3 yf21_4 yf21_5 yf21_6 yf21_7 yf21_8; try clear yc22_0 yc22_1 yc22_2 yc22_3 yc22_4 yc22_5 yc22_6 yc22_7 yc22_8 yf22_0 yf22_1 yf22_2 yf22_3 yf22_4 yf22_5 yf22_6 yf22_7 yf22_8; try clear yc24_0 yc24_1 yc24_2 yc24_3 yc24_4 yc24_5 yc24_6 yc24_7 yc24_8 yf24_0 yf24_1 yf24_2 yf24_3 yf24_4 yf24_5 yf24_6 yf24_7 yf24_8; try clear yc25_0 yc25_1 yc25_2 yc25_3 yc25_4 yc25_5 yc25_6 yc25_7 yc25_8 yf25_0 yf25_1 yf25_2 yf25_3 yf25_4 yf25_5 yf25_6 yf25_7 yf25_8; try clear yc27_0 yc27_1 yc27_2 yc27_3 yc27_4 yc27_5 yc27_6 yc27_7 yc27_8 yf27_0 yf27_1 yf27_2 yf27_3 yf27_4 yf27_5 yf27_6 yf27_7 yf27_8; try clear yc28_0 yc28_1 yc28_2 yc28_3 yc28_4 yc28_5 yc28_6 yc28_7 yc28_8 yf28_0 yf28_1 yf28_2 yf28_3 yf28_4 yf28_5 yf28_6 yf28_7 yf28_8; try clear hx343_0; try clear hx343_1; try clear hx343_2; try clear hx343_3; try clear hx343_4; try clear hx343_5; try clear hx343_6; try clear hx343_7; try clear hx343_8; try clear hx347_0; try clear hx347_1; try clear hx347_2; try clear hx347_3; try clear hx347_4; try clear hx347_5; try clear hx347_6; try clear hx347_7; try clear hx347_8; try clear p343; try clear p347; try clear q343; try clear q347
    obtain ⟨kq, x54_13, rfl, HA, HJ13, HO_10, BK344, BK348, HB⟩ := hcut
    cases kq with
    | zero => exact absurd HA.out (by simp [partner_hides.j1])
    | succ kj13 =>
     have H := HA.out
     clear HA
     simp only [partner_hides.j1] at H
     by_cases c29 : x54_13 = true
     case neg =>
      replace c29 := Bool.eq_false_iff.mpr c29
      subst c29
      have H1 : (partner_hides.l0 kj13 a1 t345 t346 x10_1 x11_1 l0 (l0.length : Int) (wrap64 (x31_1 + 1)) ((qa l0 a1).f0) ((qa l0 a1).f1) ((qa l0 a1).f2) ((qa l0 a1).f3) ((qa l0 a1).f4) ((qa l0 a1).f5) ((qa l0 a1).f6) ((qa l0 a1).f7) ((qa l0 a1).f8)) = some r := by rw [if_neg (show ¬ (false = true) by decide)] at H; exact H
      clear H
      have H := H1
      clear H1
      have H' := qb.mk H
      clear H
      go_wp2
      repeat (go_quiet (fail); try go_wp2)
      go_roundg kj13
      case measure => have := HK1.out; have := HJ13.out; omega
      case rel => exact ⟨(x10_1), (x11_1), (wrap64 (x31_1 + 1)), qD, qD, H', ⟨by have := HK1.out; have := HJ13.out; omega⟩, ⟨by (with_reducible repeat (first | apply Kd.R_alloc | apply Kd.R_drewN | apply Kd.R_drew)); exact Kd.R_mono HO_10.out (fun _ hk => hk.1)⟩, ⟨Z118⟩, ⟨Z59⟩⟩
     subst c29
     have H1 : (if x31_1 = a1 then (if x10_1.length < 1353245080339 then (partner_hides.l0 kj13 a1 t345 t346 (x10_1 ++ [(⟨((qa l0 x31_1).f0), ((qa l0 x31_1).f1), ((qa l0 x31_1).f2), ((qa l0 x31_1).f3), ((qa l0 x31_1).f4), ((qa l0 x31_1).f5), ((qa l0 x31_1).f6), ((qa l0 x31_1).f7), ((qa l0 x31_1).f8)⟩ : S53)]) (x10_1.length : Int) l0 (l0.length : Int) (wrap64 (x31_1 + 1)) ((qa l0 a1).f0) ((qa l0 a1).f1) ((qa l0 a1).f2) ((qa l0 a1).f3) ((qa l0 a1).f4) ((qa l0 a1).f5) ((qa l0 a1).f6) ((qa l0 a1).f7) ((qa l0 a1).f8)) else (none)) else (if x10_1.length < 1353245080339 then (partner_hides.l0 kj13 a1 t345 t346 (x10_1 ++ [(⟨((qa l0 x31_1).f0), ((qa l0 x31_1).f1), ((qa l0 x31_1).f2), ((qa l0 x31_1).f3), ((qa l0 x31_1).f4), ((qa l0 x31_1).f5), ((qa l0 x31_1).f6), ((qa l0 x31_1).f7), ((qa l0 x31_1).f8)⟩ : S53)]) x11_1 l0 (l0.length : Int) (wrap64 (x31_1 + 1)) ((qa l0 a1).f0) ((qa l0 a1).f1) ((qa l0 a1).f2) ((qa l0 a1).f3) ((qa l0 a1).f4) ((qa l0 a1).f5) ((qa l0 a1).f6) ((qa l0 a1).f7) ((qa l0 a1).f8)) else (none))) = some r := by rw [if_pos rfl] at H; exact H
     clear H
     have H := H1
     clear H1
     by_cases c30 : x31_1 = a1
     case neg =>
      rw [if_neg c30] at H
      have c30b0 : (x31_1 == a1) = false := beq_eq_false_iff_ne.mpr c30
      have c30b1 : (x31_1 != a1) = true := bne_iff_ne.mpr c30
      by_cases c36 : x10_1.length < 1353245080339
      case neg =>
       rw [if_neg c36] at H
       exact absurd H (by simp)
      rw [if_pos c36] at H
      have LMc36 := qb.mk c36
      clear c36
      obtain ⟨y352, hy352⟩ : ∃ y_ : List (S53), y_ = (x10_1 ++ [(⟨((qa l0 x31_1).f0), ((qa l0 x31_1).f1), ((qa l0 x31_1).f2), ((qa l0 x31_1).f3), ((qa l0 x31_1).f4), ((qa l0 x31_1).f5), ((qa l0 x31_1).f6), ((qa l0 x31_1).f7), ((qa l0 x31_1).f8)⟩ : S53)]) := ⟨_, rfl⟩
      replace H : (partner_hides.l0 kj13 a1 t345 t346 y352 x11_1 l0 (l0.length : Int) (wrap64 (x31_1 + 1)) ((qa l0 a1).f0) ((qa l0 a1).f1) ((qa l0 a1).f2) ((qa l0 a1).f3) ((qa l0 a1).f4) ((qa l0 a1).f5) ((qa l0 a1).f6) ((qa l0 a1).f7) ((qa l0 a1).f8)) = some r := by first | (rw [hy352]; with_reducible exact H) | (have H2_ := (Option.bind_some _ _).symm.trans H; rw [hy352]; with_reducible exact H2_) | (have H2_ := (Option.bind_some _ _).symm.trans H; with_reducible exact H2_) | with_reducible exact H | (rw [hy352]; exact H) | exact H
      have Ny352 := qb.mk hy352
      clear hy352
      have H' := qb.mk H
      clear H
      have hnb37 := NB348_344.out
      have hnc37 := NB344_348.out
      have yc38_0 : wc.cell? ⟨gb348, 0, none⟩ = some (.string ((qa l0 x31_1).f0)) := (qc BK348.out 0).trans rfl
      have yc38_1 : wc.cell? ⟨gb348, 1, none⟩ = some (.string ((qa l0 x31_1).f1)) := (qc BK348.out 1).trans rfl
      have yc38_2 : wc.cell? ⟨gb348, 2, none⟩ = some (.string ((qa l0 x31_1).f2)) := (qc BK348.out 2).trans rfl
      have yc38_3 : wc.cell? ⟨gb348, 3, none⟩ = some (.string ((qa l0 x31_1).f3)) := (qc BK348.out 3).trans rfl
      have yc38_4 : wc.cell? ⟨gb348, 4, none⟩ = some (.int .i64 ((qa l0 x31_1).f4)) := (qc BK348.out 4).trans rfl
      have yc38_5 : wc.cell? ⟨gb348, 5, none⟩ = some (.int .i64 ((qa l0 x31_1).f5)) := (qc BK348.out 5).trans rfl
      have yc38_6 : wc.cell? ⟨gb348, 6, none⟩ = some (.bool ((qa l0 x31_1).f6)) := (qc BK348.out 6).trans rfl
      have yc38_7 : wc.cell? ⟨gb348, 7, none⟩ = some (.int .i64 ((qa l0 x31_1).f7)) := (qc BK348.out 7).trans rfl
      have yc38_8 : wc.cell? ⟨gb348, 8, none⟩ = some (.bool ((qa l0 x31_1).f8)) := (qc BK348.out 8).trans rfl
      have yf38_0 := qe BK348.out 0
      have yf38_1 := qe BK348.out 1
      have yf38_2 := qe BK348.out 2
      have yf38_3 := qe BK348.out 3
      have yf38_4 := qe BK348.out 4
      have yf38_5 := qe BK348.out 5
      have yf38_6 := qe BK348.out 6
      have yf38_7 := qe BK348.out 7
      have yf38_8 := qe BK348.out 8
      go_wp2_with (first | ((with_reducible refine gate_builtin (b := .append) (xs := #[.tmp 60, .tmp 62]) rfl ?_); at_builtin; refine Kd.R_append k53 (w0 := w) w.heap.size rfl (.tmp 60) (.tmp 62) 23 53 (.agg #[(.string ⟨#[]⟩), (.string ⟨#[]⟩), (.string ⟨#[]⟩), (.string ⟨#[]⟩), (.int .i64 0), (.int .i64 0), (.bool false), (.int .i64 0), (.bool false)]) 104 rfl Tryz.underlying23 info53 rfl (by decide) (by omega) u10 x10_1 (⟨((qa l0 x31_1).f0), ((qa l0 x31_1).f1), ((qa l0 x31_1).f2), ((qa l0 x31_1).f3), ((qa l0 x31_1).f4), ((qa l0 x31_1).f5), ((qa l0 x31_1).f6), ((qa l0 x31_1).f7), ((qa l0 x31_1).f8)⟩ : S53) [.string ((qa l0 x31_1).f0), .string ((qa l0 x31_1).f1), .string ((qa l0 x31_1).f2), .string ((qa l0 x31_1).f3), .int .i64 ((qa l0 x31_1).f4), .int .i64 ((qa l0 x31_1).f5), .bool ((qa l0 x31_1).f6), .int .i64 ((qa l0 x31_1).f7), .bool ((qa l0 x31_1).f8)] (fun k_ => k_ ≠ gb344 ∧ k_ ≠ gb348) (fun _ => False) rfl rfl ?aP (fun _ hk => hk.elim) ?aF ?aO ?aB ?aS ?aL ?_; (case aP => exact k53_mkM _ _ _ (⟨((qa l0 x31_1).f0), ((qa l0 x31_1).f1), ((qa l0 x31_1).f2), ((qa l0 x31_1).f3), ((qa l0 x31_1).f4), ((qa l0 x31_1).f5), ((qa l0 x31_1).f6), ((qa l0 x31_1).f7), ((qa l0 x31_1).f8)⟩ : S53)); (case aB => exact Z59); (case aF => exact (fun k_ hk => ⟨Kd.freshB (g := gb344) (o := .cells #[.string ((qa l0 a1).f0), .string ((qa l0 a1).f1), .string ((qa l0 a1).f2), .string ((qa l0 a1).f3), .int .i64 ((qa l0 a1).f4), .int .i64 ((qa l0 a1).f5), .bool ((qa l0 a1).f6), .int .i64 ((qa l0 a1).f7), .bool ((qa l0 a1).f8)] 53 (0, 0)) Z118 k_ hk, Kd.freshB (g := gb348) (o := .cells #[.string ((qa l0 x31_1).f0), .string ((qa l0 x31_1).f1), .string ((qa l0 x31_1).f2), .string ((qa l0 x31_1).f3), .int .i64 ((qa l0 x31_1).f4), .int .i64 ((qa l0 x31_1).f5), .bool ((qa l0 x31_1).f6), .int .i64 ((qa l0 x31_1).f7), .bool ((qa l0 x31_1).f8)] 53 (0, 0)) Z119 k_ hk⟩)); (case aO => exact Z128); (case aS => exact (qx Z59)); (case aL => have := LMc36.out; omega); intro v353 w39 ho hb hg hat; rw [← Ny352.out] at ho; have n0_ := qb.mk (blk_grown (g := gb344) (o := .cells #[.string ((qa l0 a1).f0), .string ((qa l0 a1).f1), .string ((qa l0 a1).f2), .string ((qa l0 a1).f3), .int .i64 ((qa l0 a1).f4), .int .i64 ((qa l0 a1).f5), .bool ((qa l0 a1).f6), .int .i64 ((qa l0 a1).f7), .bool ((qa l0 a1).f8)] 53 (0, 0)) Z118 hg (Kd.R_away HO_10.out (fun _ hk => hk.1))); have n1_ := qb.mk (blk_grown (g := gb348) (o := .cells #[.string ((qa l0 x31_1).f0), .string ((qa l0 x31_1).f1), .string ((qa l0 x31_1).f2), .string ((qa l0 x31_1).f3), .int .i64 ((qa l0 x31_1).f4), .int .i64 ((qa l0 x31_1).f5), .bool ((qa l0 x31_1).f6), .int .i64 ((qa l0 x31_1).f7), .bool ((qa l0 x31_1).f8)] 53 (0, 0)) Z119 hg (Kd.R_away HO_10.out (fun _ hk => hk.2))); have n2_ := qb.mk (hb); have n3_ := qb.mk (ho); clear BK344 BK348 HB HO_10; have BK344 := n0_; have BK348 := n1_; have HB := n2_; have HO354 := n3_; clear n0_ n1_ n2_ n3_; clear ho hb hg hat))
      repeat (go_quiet (first | ((with_reducible refine gate_builtin (b := .append) (xs := #[.tmp 60, .tmp 62]) rfl ?_); at_builtin; refine Kd.R_append k53 (w0 := w) w.heap.size rfl (.tmp 60) (.tmp 62) 23 53 (.agg #[(.string ⟨#[]⟩), (.string ⟨#[]⟩), (.string ⟨#[]⟩), (.string ⟨#[]⟩), (.int .i64 0), (.int .i64 0), (.bool false), (.int .i64 0), (.bool false)]) 104 rfl Tryz.underlying23 info53 rfl (by decide) (by omega) u10 x10_1 (⟨((qa l0 x31_1).f0), ((qa l0 x31_1).f1), ((qa l0 x31_1).f2), ((qa l0 x31_1).f3), ((qa l0 x31_1).f4), ((qa l0 x31_1).f5), ((qa l0 x31_1).f6), ((qa l0 x31_1).f7), ((qa l0 x31_1).f8)⟩ : S53) [.string ((qa l0 x31_1).f0), .string ((qa l0 x31_1).f1), .string ((qa l0 x31_1).f2), .string ((qa l0 x31_1).f3), .int .i64 ((qa l0 x31_1).f4), .int .i64 ((qa l0 x31_1).f5), .bool ((qa l0 x31_1).f6), .int .i64 ((qa l0 x31_1).f7), .bool ((qa l0 x31_1).f8)] (fun k_ => k_ ≠ gb344 ∧ k_ ≠ gb348) (fun _ => False) rfl rfl ?aP (fun _ hk => hk.elim) ?aF ?aO ?aB ?aS ?aL ?_; (case aP => exact k53_mkM _ _ _ (⟨((qa l0 x31_1).f0), ((qa l0 x31_1).f1), ((qa l0 x31_1).f2), ((qa l0 x31_1).f3), ((qa l0 x31_1).f4), ((qa l0 x31_1).f5), ((qa l0 x31_1).f6), ((qa l0 x31_1).f7), ((qa l0 x31_1).f8)⟩ : S53)); (case aB => exact Z59); (case aF => exact (fun k_ hk => ⟨Kd.freshB (g := gb344) (o := .cells #[.string ((qa l0 a1).f0), .string ((qa l0 a1).f1), .string ((qa l0 a1).f2), .string ((qa l0 a1).f3), .int .i64 ((qa l0 a1).f4), .int .i64 ((qa l0 a1).f5), .bool ((qa l0 a1).f6), .int .i64 ((qa l0 a1).f7), .bool ((qa l0 a1).f8)] 53 (0, 0)) Z118 k_ hk, Kd.freshB (g := gb348) (o := .cells #[.string ((qa l0 x31_1).f0), .string ((qa l0 x31_1).f1), .string ((qa l0 x31_1).f2), .string ((qa l0 x31_1).f3), .int .i64 ((qa l0 x31_1).f4), .int .i64 ((qa l0 x31_1).f5), .bool ((qa l0 x31_1).f6), .int .i64 ((qa l0 x31_1).f7), .bool ((qa l0 x31_1).f8)] 53 (0, 0)) Z119 k_ hk⟩)); (case aO => exact Z128); (case aS => exact (qx Z59)); (case aL => have := LMc36.out; omega); intro v353 w39 ho hb hg hat; rw [← Ny352.out] at ho; have n0_ := qb.mk (blk_grown (g := gb344) (o := .cells #[.string ((qa l0 a1).f0), .string ((qa l0 a1).f1), .string ((qa l0 a1).f2), .string ((qa l0 a1).f3), .int .i64 ((qa l0 a1).f4), .int .i64 ((qa l0 a1).f5), .bool ((qa l0 a1).f6), .int .i64 ((qa l0 a1).f7), .bool ((qa l0 a1).f8)] 53 (0, 0)) Z118 hg (Kd.R_away HO_10.out (fun _ hk => hk.1))); have n1_ := qb.mk (blk_grown (g := gb348) (o := .cells #[.string ((qa l0 x31_1).f0), .string ((qa l0 x31_1).f1), .string ((qa l0 x31_1).f2), .string ((qa l0 x31_1).f3), .int .i64 ((qa l0 x31_1).f4), .int .i64 ((qa l0 x31_1).f5), .bool ((qa l0 x31_1).f6), .int .i64 ((qa l0 x31_1).f7), .bool ((qa l0 x31_1).f8)] 53 (0, 0)) Z119 hg (Kd.R_away HO_10.out (fun _ hk => hk.2))); have n2_ := qb.mk (hb); have n3_ := qb.mk (ho); clear BK344 BK348 HB HO_10; have BK344 := n0_; have BK348 := n1_; have HB := n2_; have HO354 := n3_; clear n0_ n1_ n2_ n3_; clear ho hb hg hat)); try go_wp2_with (first | ((with_reducible refine gate_builtin (b := .append) (xs := #[.tmp 60, .tmp 62]) rfl ?_); at_builtin; refine Kd.R_append k53 (w0 := w) w.heap.size rfl (.tmp 60) (.tmp 62) 23 53 (.agg #[(.string ⟨#[]⟩), (.string ⟨#[]⟩), (.string ⟨#[]⟩), (.string ⟨#[]⟩), (.int .i64 0), (.int .i64 0), (.bool false), (.int .i64 0), (.bool false)]) 104 rfl Tryz.underlying23 info53 rfl (by decide) (by omega) u10 x10_1 (⟨((qa l0 x31_1).f0), ((qa l0 x31_1).f1), ((qa l0 x31_1).f2), ((qa l0 x31_1).f3), ((qa l0 x31_1).f4), ((qa l0 x31_1).f5), ((qa l0 x31_1).f6), ((qa l0 x31_1).f7), ((qa l0 x31_1).f8)⟩ : S53) [.string ((qa l0 x31_1).f0), .string ((qa l0 x31_1).f1), .string ((qa l0 x31_1).f2), .string ((qa l0 x31_1).f3), .int .i64 ((qa l0 x31_1).f4), .int .i64 ((qa l0 x31_1).f5), .bool ((qa l0 x31_1).f6), .int .i64 ((qa l0 x31_1).f7), .bool ((qa l0 x31_1).f8)] (fun k_ => k_ ≠ gb344 ∧ k_ ≠ gb348) (fun _ => False) rfl rfl ?aP (fun _ hk => hk.elim) ?aF ?aO ?aB ?aS ?aL ?_; (case aP => exact k53_mkM _ _ _ (⟨((qa l0 x31_1).f0), ((qa l0 x31_1).f1), ((qa l0 x31_1).f2), ((qa l0 x31_1).f3), ((qa l0 x31_1).f4), ((qa l0 x31_1).f5), ((qa l0 x31_1).f6), ((qa l0 x31_1).f7), ((qa l0 x31_1).f8)⟩ : S53)); (case aB => exact Z59); (case aF => exact (fun k_ hk => ⟨Kd.freshB (g := gb344) (o := .cells #[.string ((qa l0 a1).f0), .string ((qa l0 a1).f1), .string ((qa l0 a1).f2), .string ((qa l0 a1).f3), .int .i64 ((qa l0 a1).f4), .int .i64 ((qa l0 a1).f5), .bool ((qa l0 a1).f6), .int .i64 ((qa l0 a1).f7), .bool ((qa l0 a1).f8)] 53 (0, 0)) Z118 k_ hk, Kd.freshB (g := gb348) (o := .cells #[.string ((qa l0 x31_1).f0), .string ((qa l0 x31_1).f1), .string ((qa l0 x31_1).f2), .string ((qa l0 x31_1).f3), .int .i64 ((qa l0 x31_1).f4), .int .i64 ((qa l0 x31_1).f5), .bool ((qa l0 x31_1).f6), .int .i64 ((qa l0 x31_1).f7), .bool ((qa l0 x31_1).f8)] 53 (0, 0)) Z119 k_ hk⟩)); (case aO => exact Z128); (case aS => exact (qx Z59)); (case aL => have := LMc36.out; omega); intro v353 w39 ho hb hg hat; rw [← Ny352.out] at ho; have n0_ := qb.mk (blk_grown (g := gb344) (o := .cells #[.string ((qa l0 a1).f0), .string ((qa l0 a1).f1), .string ((qa l0 a1).f2), .string ((qa l0 a1).f3), .int .i64 ((qa l0 a1).f4), .int .i64 ((qa l0 a1).f5), .bool ((qa l0 a1).f6), .int .i64 ((qa l0 a1).f7), .bool ((qa l0 a1).f8)] 53 (0, 0)) Z118 hg (Kd.R_away HO_10.out (fun _ hk => hk.1))); have n1_ := qb.mk (blk_grown (g := gb348) (o := .cells #[.string ((qa l0 x31_1).f0), .string ((qa l0 x31_1).f1), .string ((qa l0 x31_1).f2), .string ((qa l0 x31_1).f3), .int .i64 ((qa l0 x31_1).f4), .int .i64 ((qa l0 x31_1).f5), .bool ((qa l0 x31_1).f6), .int .i64 ((qa l0 x31_1).f7), .bool ((qa l0 x31_1).f8)] 53 (0, 0)) Z119 hg (Kd.R_away HO_10.out (fun _ hk => hk.2))); have n2_ := qb.mk (hb); have n3_ := qb.mk (ho); clear BK344 BK348 HB HO_10; have BK344 := n0_; have BK348 := n1_; have HB := n2_; have HO354 := n3_; clear n0_ n1_ n2_ n3_; clear ho hb hg hat)))
      go_roundg kj13
      case measure => have := HK1.out; have := HJ13.out; omega
      case rel => exact ⟨(y352), (x11_1), (wrap64 (x31_1 + 1)), qD, qD, H', ⟨by have := HK1.out; have := HJ13.out; omega⟩, ⟨by (with_reducible repeat (first | apply Kd.R_alloc | apply Kd.R_drewN | apply Kd.R_drew)); exact Kd.R_mono HO354.out (fun _ hk => hk.1)⟩, ⟨Z118⟩, ⟨Z59⟩⟩
     rw [if_pos c30] at H
     have c30b0 : (x31_1 == a1) = true := beq_iff_eq.mpr c30
     have c30b1 : (x31_1 != a1) = false := bne_eq_false_iff_eq.mpr c30
     clear c30
     by_cases c31 : x10_1.length < 1353245080339
     case neg =>
      rw [if_neg c31] at H
      exact absurd H (by simp)
     rw [if_pos c31] at H
     have LMc31 := qb.mk c31
     clear c31
     obtain ⟨y349, hy349⟩ : ∃ y_ : List (S53), y_ = (x10_1 ++ [(⟨((qa l0 x31_1).f0), ((qa l0 x31_1).f1), ((qa l0 x31_1).f2), ((qa l0 x31_1).f3), ((qa l0 x31_1).f4), ((qa l0 x31_1).f5), ((qa l0 x31_1).f6), ((qa l0 x31_1).f7), ((qa l0 x31_1).f8)⟩ : S53)]) := ⟨_, rfl⟩
     replace H : (partner_hides.l0 kj13 a1 t345 t346 y349 (x10_1.length : Int) l0 (l0.length : Int) (wrap64 (x31_1 + 1)) ((qa l0 a1).f0) ((qa l0 a1).f1) ((qa l0 a1).f2) ((qa l0 a1).f3) ((qa l0 a1).f4) ((qa l0 a1).f5) ((qa l0 a1).f6) ((qa l0 a1).f7) ((qa l0 a1).f8)) = some r := by first | (rw [hy349]; with_reducible exact H) | (have H2_ := (Option.bind_some _ _).symm.trans H; rw [hy349]; with_reducible exact H2_) | (have H2_ := (Option.bind_some _ _).symm.trans H; with_reducible exact H2_) | with_reducible exact H | (rw [hy349]; exact H) | exact H
     have Ny349 := qb.mk hy349
     clear hy349
     have H' := qb.mk H
     clear H
     obtain ⟨Ao32, co32, eo32⟩ := Kd.R_slice HO_10.out
     subst eo32
     have hnb33 := NB348_344.out
     have hnc33 := NB344_348.out
     have yc34_0 : wc.cell? ⟨gb348, 0, none⟩ = some (.string ((qa l0 x31_1).f0)) := (qc BK348.out 0).trans rfl
     have yc34_1 : wc.cell? ⟨gb348, 1, none⟩ = some (.string ((qa l0 x31_1).f1)) := (qc BK348.out 1).trans rfl
     have yc34_2 : wc.cell? ⟨gb348, 2, none⟩ = some (.string ((qa l0 x31_1).f2)) := (qc BK348.out 2).trans rfl
     have yc34_3 : wc.cell? ⟨gb348, 3, none⟩ = some (.string ((qa l0 x31_1).f3)) := (qc BK348.out 3).trans rfl
     have yc34_4 : wc.cell? ⟨gb348, 4, none⟩ = some (.int .i64 ((qa l0 x31_1).f4)) := (qc BK348.out 4).trans rfl
     have yc34_5 : wc.cell? ⟨gb348, 5, none⟩ = some (.int .i64 ((qa l0 x31_1).f5)) := (qc BK348.out 5).trans rfl
     have yc34_6 : wc.cell? ⟨gb348, 6, none⟩ = some (.bool ((qa l0 x31_1).f6)) := (qc BK348.out 6).trans rfl
     have yc34_7 : wc.cell? ⟨gb348, 7, none⟩ = some (.int .i64 ((qa l0 x31_1).f7)) := (qc BK348.out 7).trans rfl
     have yc34_8 : wc.cell? ⟨gb348, 8, none⟩ = some (.bool ((qa l0 x31_1).f8)) := (qc BK348.out 8).trans rfl
     have yf34_0 := qe BK348.out 0
     have yf34_1 := qe BK348.out 1
     have yf34_2 := qe BK348.out 2
     have yf34_3 := qe BK348.out 3
     have yf34_4 := qe BK348.out 4
     have yf34_5 := qe BK348.out 5
     have yf34_6 := qe BK348.out 6
     have yf34_7 := qe BK348.out 7
     have yf34_8 := qe BK348.out 8
     go_wp2_with (first | ((with_reducible refine gate_builtin (b := .append) (xs := #[.tmp 60, .tmp 62]) rfl ?_); at_builtin; refine Kd.R_append k53 (w0 := w) w.heap.size rfl (.tmp 60) (.tmp 62) 23 53 (.agg #[(.string ⟨#[]⟩), (.string ⟨#[]⟩), (.string ⟨#[]⟩), (.string ⟨#[]⟩), (.int .i64 0), (.int .i64 0), (.bool false), (.int .i64 0), (.bool false)]) 104 rfl Tryz.underlying23 info53 rfl (by decide) (by omega) (.slice Ao32 x10_1.length co32) x10_1 (⟨((qa l0 x31_1).f0), ((qa l0 x31_1).f1), ((qa l0 x31_1).f2), ((qa l0 x31_1).f3), ((qa l0 x31_1).f4), ((qa l0 x31_1).f5), ((qa l0 x31_1).f6), ((qa l0 x31_1).f7), ((qa l0 x31_1).f8)⟩ : S53) [.string ((qa l0 x31_1).f0), .string ((qa l0 x31_1).f1), .string ((qa l0 x31_1).f2), .string ((qa l0 x31_1).f3), .int .i64 ((qa l0 x31_1).f4), .int .i64 ((qa l0 x31_1).f5), .bool ((qa l0 x31_1).f6), .int .i64 ((qa l0 x31_1).f7), .bool ((qa l0 x31_1).f8)] (fun k_ => k_ ≠ gb344 ∧ k_ ≠ gb348) (fun _ => False) rfl rfl ?aP (fun _ hk => hk.elim) ?aF ?aO ?aB ?aS ?aL ?_; (case aP => exact k53_mkM _ _ _ (⟨((qa l0 x31_1).f0), ((qa l0 x31_1).f1), ((qa l0 x31_1).f2), ((qa l0 x31_1).f3), ((qa l0 x31_1).f4), ((qa l0 x31_1).f5), ((qa l0 x31_1).f6), ((qa l0 x31_1).f7), ((qa l0 x31_1).f8)⟩ : S53)); (case aB => exact Z59); (case aF => exact (fun k_ hk => ⟨Kd.freshB (g := gb344) (o := .cells #[.string ((qa l0 a1).f0), .string ((qa l0 a1).f1), .string ((qa l0 a1).f2), .string ((qa l0 a1).f3), .int .i64 ((qa l0 a1).f4), .int .i64 ((qa l0 a1).f5), .bool ((qa l0 a1).f6), .int .i64 ((qa l0 a1).f7), .bool ((qa l0 a1).f8)] 53 (0, 0)) Z118 k_ hk, Kd.freshB (g := gb348) (o := .cells #[.string ((qa l0 x31_1).f0), .string ((qa l0 x31_1).f1), .string ((qa l0 x31_1).f2), .string ((qa l0 x31_1).f3), .int .i64 ((qa l0 x31_1).f4), .int .i64 ((qa l0 x31_1).f5), .bool ((qa l0 x31_1).f6), .int .i64 ((qa l0 x31_1).f7), .bool ((qa l0 x31_1).f8)] 53 (0, 0)) Z119 k_ hk⟩)); (case aO => exact Z128); (case aS => exact (qx Z59)); (case aL => have := LMc31.out; omega); intro v350 w35 ho hb hg hat; rw [← Ny349.out] at ho; have n0_ := qb.mk (blk_grown (g := gb344) (o := .cells #[.string ((qa l0 a1).f0), .string ((qa l0 a1).f1), .string ((qa l0 a1).f2), .string ((qa l0 a1).f3), .int .i64 ((qa l0 a1).f4), .int .i64 ((qa l0 a1).f5), .bool ((qa l0 a1).f6), .int .i64 ((qa l0 a1).f7), .bool ((qa l0 a1).f8)] 53 (0, 0)) Z118 hg (Kd.R_away HO_10.out (fun _ hk => hk.1))); have n1_ := qb.mk (blk_grown (g := gb348) (o := .cells #[.string ((qa l0 x31_1).f0), .string ((qa l0 x31_1).f1), .string ((qa l0 x31_1).f2), .string ((qa l0 x31_1).f3), .int .i64 ((qa l0 x31_1).f4), .int .i64 ((qa l0 x31_1).f5), .bool ((qa l0 x31_1).f6), .int .i64 ((qa l0 x31_1).f7), .bool ((qa l0 x31_1).f8)] 53 (0, 0)) Z119 hg (Kd.R_away HO_10.out (fun _ hk => hk.2))); have n2_ := qb.mk (hb); have n3_ := qb.mk (ho); clear BK344 BK348 HB HO_10; have BK344 := n0_; have BK348 := n1_; have HB := n2_; have HO351 := n3_; clear n0_ n1_ n2_ n3_; clear ho hb hg hat))
     repeat (go_quiet (first | ((with_reducible refine gate_builtin (b := .append) (xs := #[.tmp 60, .tmp 62]) rfl ?_); at_builtin; refine Kd.R_append k53 (w0 := w) w.heap.size rfl (.tmp 60) (.tmp 62) 23 53 (.agg #[(.string ⟨#[]⟩), (.string ⟨#[]⟩), (.string ⟨#[]⟩), (.string ⟨#[]⟩), (.int .i64 0), (.int .i64 0), (.bool false), (.int .i64 0), (.bool false)]) 104 rfl Tryz.underlying23 info53 rfl (by decide) (by omega) (.slice Ao32 x10_1.length co32) x10_1 (⟨((qa l0 x31_1).f0), ((qa l0 x31_1).f1), ((qa l0 x31_1).f2), ((qa l0 x31_1).f3), ((qa l0 x31_1).f4), ((qa l0 x31_1).f5), ((qa l0 x31_1).f6), ((qa l0 x31_1).f7), ((qa l0 x31_1).f8)⟩ : S53) [.string ((qa l0 x31_1).f0), .string ((qa l0 x31_1).f1), .string ((qa l0 x31_1).f2), .string ((qa l0 x31_1).f3), .int .i64 ((qa l0 x31_1).f4), .int .i64 ((qa l0 x31_1).f5), .bool ((qa l0 x31_1).f6), .int .i64 ((qa l0 x31_1).f7), .bool ((qa l0 x31_1).f8)] (fun k_ => k_ ≠ gb344 ∧ k_ ≠ gb348) (fun _ => False) rfl rfl ?aP (fun _ hk => hk.elim) ?aF ?aO ?aB ?aS ?aL ?_; (case aP => exact k53_mkM _ _ _ (⟨((qa l0 x31_1).f0), ((qa l0 x31_1).f1), ((qa l0 x31_1).f2), ((qa l0 x31_1).f3), ((qa l0 x31_1).f4), ((qa l0 x31_1).f5), ((qa l0 x31_1).f6), ((qa l0 x31_1).f7), ((qa l0 x31_1).f8)⟩ : S53)); (case aB => exact Z59); (case aF => exact (fun k_ hk => ⟨Kd.freshB (g := gb344) (o := .cells #[.string ((qa l0 a1).f0), .string ((qa l0 a1).f1), .string ((qa l0 a1).f2), .string ((qa l0 a1).f3), .int .i64 ((qa l0 a1).f4), .int .i64 ((qa l0 a1).f5), .bool ((qa l0 a1).f6), .int .i64 ((qa l0 a1).f7), .bool ((qa l0 a1).f8)] 53 (0, 0)) Z118 k_ hk, Kd.freshB (g := gb348) (o := .cells #[.string ((qa l0 x31_1).f0), .string ((qa l0 x31_1).f1), .string ((qa l0 x31_1).f2), .string ((qa l0 x31_1).f3), .int .i64 ((qa l0 x31_1).f4), .int .i64 ((qa l0 x31_1).f5), .bool ((qa l0 x31_1).f6), .int .i64 ((qa l0 x31_1).f7), .bool ((qa l0 x31_1).f8)] 53 (0, 0)) Z119 k_ hk⟩)); (case aO => exact Z128); (case aS => exact (qx Z59)); (case aL => have := LMc31.out; omega); intro v350 w35 ho hb hg hat; rw [← Ny349.out] at ho; have n0_ := qb.mk (blk_grown (g := gb344) (o := .cells #[.string ((qa l0 a1).f0), .string ((qa l0 a1).f1), .string ((qa l0 a1).f2), .string ((qa l0 a1).f3), .int .i64 ((qa l0 a1).f4), .int .i64 ((qa l0 a1).f5), .bool ((qa l0 a1).f6), .int .i64 ((qa l0 a1).f7), .bool ((qa l0 a1).f8)] 53 (0, 0)) Z118 hg (Kd.R_away HO_10.out (fun _ hk => hk.1))); have n1_ := qb.mk (blk_grown (g := gb348) (o := .cells #[.string ((qa l0 x31_1).f0), .string ((qa l0 x31_1).f1), .string ((qa l0 x31_1).f2), .string ((qa l0 x31_1).f3), .int .i64 ((qa l0 x31_1).f4), .int .i64 ((qa l0 x31_1).f5), .bool ((qa l0 x31_1).f6), .int .i64 ((qa l0 x31_1).f7), .bool ((qa l0 x31_1).f8)] 53 (0, 0)) Z119 hg (Kd.R_away HO_10.out (fun _ hk => hk.2))); have n2_ := qb.mk (hb); have n3_ := qb.mk (ho); clear BK344 BK348 HB HO_10; have BK344 := n0_; have BK348 := n1_; have HB := n2_; have HO351 := n3_; clear n0_ n1_ n2_ n3_; clear ho hb hg hat)); try go_wp2_with (first | ((with_reducible refine gate_builtin (b := .append) (xs := #[.tmp 60, .tmp 62]) rfl ?_); at_builtin; refine Kd.R_append k53 (w0 := w) w.heap.size rfl (.tmp 60) (.tmp 62) 23 53 (.agg #[(.string ⟨#[]⟩), (.string ⟨#[]⟩), (.string ⟨#[]⟩), (.string ⟨#[]⟩), (.int .i64 0), (.int .i64 0), (.bool false), (.int .i64 0), (.bool false)]) 104 rfl Tryz.underlying23 info53 rfl (by decide) (by omega) (.slice Ao32 x10_1.length co32) x10_1 (⟨((qa l0 x31_1).f0), ((qa l0 x31_1).f1), ((qa l0 x31_1).f2), ((qa l0 x31_1).f3), ((qa l0 x31_1).f4), ((qa l0 x31_1).f5), ((qa l0 x31_1).f6), ((qa l0 x31_1).f7), ((qa l0 x31_1).f8)⟩ : S53) [.string ((qa l0 x31_1).f0), .string ((qa l0 x31_1).f1), .string ((qa l0 x31_1).f2), .string ((qa l0 x31_1).f3), .int .i64 ((qa l0 x31_1).f4), .int .i64 ((qa l0 x31_1).f5), .bool ((qa l0 x31_1).f6), .int .i64 ((qa l0 x31_1).f7), .bool ((qa l0 x31_1).f8)] (fun k_ => k_ ≠ gb344 ∧ k_ ≠ gb348) (fun _ => False) rfl rfl ?aP (fun _ hk => hk.elim) ?aF ?aO ?aB ?aS ?aL ?_; (case aP => exact k53_mkM _ _ _ (⟨((qa l0 x31_1).f0), ((qa l0 x31_1).f1), ((qa l0 x31_1).f2), ((qa l0 x31_1).f3), ((qa l0 x31_1).f4), ((qa l0 x31_1).f5), ((qa l0 x31_1).f6), ((qa l0 x31_1).f7), ((qa l0 x31_1).f8)⟩ : S53)); (case aB => exact Z59); (case aF => exact (fun k_ hk => ⟨Kd.freshB (g := gb344) (o := .cells #[.string ((qa l0 a1).f0), .string ((qa l0 a1).f1), .string ((qa l0 a1).f2), .string ((qa l0 a1).f3), .int .i64 ((qa l0 a1).f4), .int .i64 ((qa l0 a1).f5), .bool ((qa l0 a1).f6), .int .i64 ((qa l0 a1).f7), .bool ((qa l0 a1).f8)] 53 (0, 0)) Z118 k_ hk, Kd.freshB (g := gb348) (o := .cells #[.string ((qa l0 x31_1).f0), .string ((qa l0 x31_1).f1), .string ((qa l0 x31_1).f2), .string ((qa l0 x31_1).f3), .int .i64 ((qa l0 x31_1).f4), .int .i64 ((qa l0 x31_1).f5), .bool ((qa l0 x31_1).f6), .int .i64 ((qa l0 x31_1).f7), .bool ((qa l0 x31_1).f8)] 53 (0, 0)) Z119 k_ hk⟩)); (case aO => exact Z128); (case aS => exact (qx Z59)); (case aL => have := LMc31.out; omega); intro v350 w35 ho hb hg hat; rw [← Ny349.out] at ho; have n0_ := qb.mk (blk_grown (g := gb344) (o := .cells #[.string ((qa l0 a1).f0), .string ((qa l0 a1).f1), .string ((qa l0 a1).f2), .string ((qa l0 a1).f3), .int .i64 ((qa l0 a1).f4), .int .i64 ((qa l0 a1).f5), .bool ((qa l0 a1).f6), .int .i64 ((qa l0 a1).f7), .bool ((qa l0 a1).f8)] 53 (0, 0)) Z118 hg (Kd.R_away HO_10.out (fun _ hk => hk.1))); have n1_ := qb.mk (blk_grown (g := gb348) (o := .cells #[.string ((qa l0 x31_1).f0), .string ((qa l0 x31_1).f1), .string ((qa l0 x31_1).f2), .string ((qa l0 x31_1).f3), .int .i64 ((qa l0 x31_1).f4), .int .i64 ((qa l0 x31_1).f5), .bool ((qa l0 x31_1).f6), .int .i64 ((qa l0 x31_1).f7), .bool ((qa l0 x31_1).f8)] 53 (0, 0)) Z119 hg (Kd.R_away HO_10.out (fun _ hk => hk.2))); have n2_ := qb.mk (hb); have n3_ := qb.mk (ho); clear BK344 BK348 HB HO_10; have BK344 := n0_; have BK348 := n1_; have HB := n2_; have HO351 := n3_; clear n0_ n1_ n2_ n3_; clear ho hb hg hat)))
     go_roundg kj13
     case measure => have := HK1.out; have := HJ13.out; omega
     case rel => exact ⟨(y349), ((x10_1.length : Int)), (wrap64 (x31_1 + 1)), qD, qD, H', ⟨by have := HK1.out; have := HJ13.out; omega⟩, ⟨by (with_reducible repeat (first | apply Kd.R_alloc | apply Kd.R_drewN | apply Kd.R_drew)); exact Kd.R_mono HO351.out (fun _ hk => hk.1)⟩, ⟨Z118⟩, ⟨Z59⟩⟩
end Go.Proofs.YtmmknokdgbgjgaaGreatDoor.XPartnerDaysMatchSpec
