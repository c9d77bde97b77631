-- Walks of PartnerDaysMatchSpec: written by xprint.py out of the translation (hand-proved functions among them). Lean checks it.
import Derived.Test.YtmmknokdgbgjgaaGreatDoorXPartnerDaysMatchSpecx0
import Derived.Test.YtmmknokdgbgjgaaGreatDoorXPartnerDaysMatchSpecx2
import Derived.Test.YtmmknokdgbgjgaaGreatDoorXPartnerDaysMatchSpecx6
import Derived.Test.YtmmknokdgbgjgaaGreatDoorXPartnerDaysMatchSpecx17
namespace Go.Proofs.YtmmknokdgbgjgaaGreatDoor.XPartnerDaysMatchSpec
open Go.RowKit Go.Proofs.YtmmknokdgbgjgaaGreatDoorW.PrintWords Go.Proofs.YtmmknokdgbgjgaaGreatDoorW.PrintLast Go.Proofs.YtmmknokdgbgjgaaGreatDoorW.PrintMore
attribute [local go_sem] max2_int min2_int max_two min_two max_three min_three max_four min_four   -- for this text's walks alone
set_option linter.unusedVariables false
set_option linter.unusedSimpArgs false

/-! ### r8Never: function 7 -/
def r8Never.l0 : Nat → List (S53) → List Int → Int → Int → Option (List Int × Int)
 | 0, _, _, _, _ => none
 | k + 1, x1, x7, x16, x17 => if x17 < x16 then ((r8isFound.f k x1 x17).bind fun t339 => (if t339 = true then (r8Never.l0 k x1 x7 x16 (wrap64 (x17 + 1))) else (if x7.length < 17592186044416 then (r8Never.l0 k x1 (x7 ++ [x17]) x16 (wrap64 (x17 + 1))) else (none)))) else (some (x7, 0))
def r8Never.f (k : Nat) (l0 : List (S110)) (l1 : List (S53)) : Option (List Int × Int) := (r8CheckAgreements.f k l0 l1).bind fun t338 => (if t338 = 0 then (r8Never.l0 k l1 ([] : List Int) (l1.length : Int) 0) else (some (([] : List Int), t338)))
theorem r8Never.mono_l : ∀ k, (∀ y0 y1 y2 y3, qv (r8Never.l0 k y0 y1 y2 y3) (r8Never.l0 (k + 1) y0 y1 y2 y3))
 | 0 => fun _ _ _ _ r h => by simp [r8Never.l0] at h
 | k + 1 => by
  have ih0 := r8Never.mono_l k
  ·intro y0 y1 y2 y3
   unfold r8Never.l0
   repeat' first
   | (with_reducible apply ih0)
   | (with_reducible apply r8CheckAgreements.mono)
   | (with_reducible apply r8isFound.mono)
   | (with_reducible exact qv.refl _)
   | (with_reducible exact qv.none _)
   | (with_reducible refine qv.ite ?_ ?_)
   | (with_reducible refine qv.bind ?_ (fun _ => ?_))
   | apply ih0
   | apply r8CheckAgreements.mono
   | apply r8isFound.mono
   | exact qv.none _
   | refine qv.ite ?_ ?_
   | refine qv.bind ?_ (fun _ => ?_)
theorem r8Never.mono : ∀ a0 a1 k, qv (r8Never.f k a0 a1) (r8Never.f (k + 1) a0 a1) := by
 intro a0 a1 k
 have ih0 := r8Never.mono_l k
 unfold r8Never.f
 repeat' first
   | (with_reducible apply ih0)
   | (with_reducible apply r8CheckAgreements.mono)
   | (with_reducible apply r8isFound.mono)
   | (with_reducible exact qv.refl _)
   | (with_reducible exact qv.none _)
   | (with_reducible refine qv.ite ?_ ?_)
   | (with_reducible refine qv.bind ?_ (fun _ => ?_))
   | apply ih0
   | apply r8CheckAgreements.mono
   | apply r8isFound.mono
   | exact qv.none _
   | refine qv.ite ?_ ?_
   | refine qv.bind ?_ (fun _ => ?_)
set_option maxHeartbeats 8000000 in
set_option maxRecDepth 100000 in
theorem r8Never.calls (k : Nat) (A0 : Option Addr) (c0 : Nat) (l0 : List (S110)) (A1 : Option Addr) (c1 : Nat) (l1 : List (S53)) (r1 : List Int) (r2 : Int) (w : World) (hr0 : Kd.C k110 w A0 l0.length l0) (hc0 : l0.length ≤ c0) (hr1 : Kd.C k53 w A1 l1.length l1) (hc1 : l1.length ≤ c1) (h : r8Never.f k l0 l1 = some (r1, r2)) :
  Calls Tryz.prog 7 #[.slice A0 l0.length c0, .slice A1 l1.length c1] w fun e w' => ∃ v0_ : Value, e = .returned (.tuple #[v0_, .int .i64 r2]) ∧ Kd.R (Kd.int .i64) 3 w' w.heap.size (fun _ => True) v0_ r1 ∧ Below w.heap.size w w' := by
 have HR0 := qb.mk hr0
 have HC0 := qb.mk hc0
 clear hr0 hc0
 have HR1 := qb.mk hr1
 have HC1 := qb.mk hc1
 clear hr1 hc1
 have HB := qb.mk (Below.refl w.heap.size w)
 have H : ((r8CheckAgreements.f k l0 l1).bind fun t338 => (if t338 = 0 then (r8Never.l0 k l1 ([] : List Int) (l1.length : Int) 0) else (some (([] : List Int), t338)))) = some (r1, r2) := h
 clear h
 replace H := Option.bind_eq_some_iff.mp H
 obtain ⟨t338, A30, H⟩ := H
 replace H : (if t338 = 0 then (r8Never.l0 k l1 ([] : List Int) (l1.length : Int) 0) else (some (([] : List Int), t338))) = some (r1, r2) := H
 have A3 := qb.mk A30
 clear A30
 by_cases c4 : t338 = 0
 case neg =>
  rw [if_neg c4] at H
  have c4b0 : (t338 == 0) = false := beq_eq_false_iff_ne.mpr c4
  have c4b1 : (t338 != 0) = true := bne_iff_ne.mpr c4
  simp only [Option.some.injEq, Prod.mk.injEq] at H
  obtain ⟨rfl, rfl⟩ := H
  go_enter Tryz.func7, Tryz.ntmps7
  go_wp2_with (first | ((with_reducible refine qg (f := 25) rfl ?_); refine goesL_ (some 11) rfl rfl Tryz.func25 (by kernel_rfl) rfl #[.slice A0 l0.length c0, .slice A1 l1.length c1] rfl Z61 ?_; (with_reducible refine (r8CheckAgreements.calls k _ _ l0 _ _ l1 t338 _ ?side1 ?side2 ?side3 ?side4 A3.out).mono ?_); (case side1 => exact Z98); (case side2 => exact Z158); (case side3 => exact Z99); (case side4 => exact Z159); rintro e w13 ⟨rfl, hb⟩; refine ⟨_, rfl, ?_⟩; have n0_ := qb.mk (qd qz hb); clear HB; have HB := n0_; clear n0_; (try clear hb); (try clear hb2); (try clear hk); (try clear hi)))
  go_ret2
  exact ⟨_, Z97, Z102, qz⟩

 rw [if_pos c4] at H
 have c4b0 : (t338 == 0) = true := beq_iff_eq.mpr c4
 have c4b1 : (t338 != 0) = false := bne_eq_false_iff_eq.mpr c4
 clear c4
 have H' := qb.mk H
 clear H
 go_enter Tryz.func7, Tryz.ntmps7
 go_wp2_with (first | ((with_reducible refine qg (f := 25) rfl ?_); refine goesL_ (some 11) rfl rfl Tryz.func25 (by kernel_rfl) rfl #[.slice A0 l0.length c0, .slice A1 l1.length c1] rfl Z61 ?_; (with_reducible refine (r8CheckAgreements.calls k _ _ l0 _ _ l1 t338 _ ?side1 ?side2 ?side3 ?side4 A3.out).mono ?_); (case side1 => exact Z98); (case side2 => exact Z158); (case side3 => exact Z99); (case side4 => exact Z159); rintro e w5 ⟨rfl, hb⟩; refine ⟨_, rfl, ?_⟩; have n0_ := qb.mk (qd qz hb); clear HB; have HB := n0_; clear n0_; (try clear hb); (try clear hb2); (try clear hk); (try clear hi)))
 go_loopg [7, 17] k (fun kq v7 v17 w' => ∃ (x7_1 : List Int) (x17_1 : Int), v17 = .int .i64 x17_1 ∧ qb (r8Never.l0 kq l1 x7_1 (l1.length : Int) x17_1 = some (r1, r2)) ∧ qb (kq ≤ k) ∧ qb (Kd.R (Kd.int .i64) 3 w' w.heap.size (fun _ => True) v7 x7_1) ∧ qb (Below w.heap.size w w'))
 case atStart => exact ⟨(([] : List Int)), (0), qD, H', ⟨Nat.le_refl _⟩, ⟨Z102⟩, ⟨qz⟩⟩
 case round =>
  clear H'
  try clear c1; try clear c2; try clear p2; try clear c4; try clear c4b0; try clear c4b1
  obtain ⟨x7_1, x17_1, rfl, HA, HK1, HO_7, HB⟩ := hrel
  cases gk with
  | zero => exact absurd HA.out (by simp [r8Never.l0])
  | succ k1 =>
   have H := HA.out
   clear HA
   simp only [r8Never.l0] at H
   by_cases c6 : x17_1 < (l1.length : Int)
   case neg =>
    rw [if_neg c6] at H
    have c6b0 : decide (x17_1 < (l1.length : Int)) = false := decide_eq_false c6
    clear c6
    simp only [Option.some.injEq, Prod.mk.injEq] at H
    obtain ⟨rfl, rfl⟩ := H
    go_wp2
    go_ret2
    exact ⟨_, Z97, Z134, qz⟩
   rw [if_pos c6] at H
   have c6b0 : decide (x17_1 < (l1.length : Int)) = true := decide_eq_true c6
   clear c6
   replace H := Option.bind_eq_some_iff.mp H
   obtain ⟨t339, A70, H⟩ := H
   replace H : (if t339 = true then (r8Never.l0 k1 l1 x7_1 (l1.length : Int) (wrap64 (x17_1 + 1))) else (if x7_1.length < 17592186044416 then (r8Never.l0 k1 l1 (x7_1 ++ [x17_1]) (l1.length : Int) (wrap64 (x17_1 + 1))) else (none))) = some (r1, r2) := H
   have A7 := qb.mk A70
   clear A70
   by_cases c8 : t339 = true
   case pos =>
    subst c8
    have H1 : (r8Never.l0 k1 l1 x7_1 (l1.length : Int) (wrap64 (x17_1 + 1))) = some (r1, r2) := by rw [if_pos rfl] at H; exact H
    clear H
    have H := H1
    clear H1
    have H' := qb.mk H
    clear H
    go_wp2_with (first | ((with_reducible refine qg (f := 26) rfl ?_); refine goesL_ (some 22) rfl rfl Tryz.func26 (by kernel_rfl) rfl #[.slice A1 l1.length c1, .int .i64 x17_1] rfl Z61 ?_; (with_reducible refine (r8isFound.calls k1 _ _ l1 x17_1 true _ ?side1 ?side2 A7.out).mono ?_); (case side1 => exact Z63); (case side2 => exact Z159); rintro e w9 ⟨rfl, hb⟩; refine ⟨_, rfl, ?_⟩; have n0_ := qb.mk (Kd.R_below Z134 hb); have n1_ := qb.mk (qd qz hb); clear HO_7 HB; have HO_7 := n0_; have HB := n1_; clear n0_ n1_; (try clear hb); (try clear hb2); (try clear hk); (try clear hi)))
    go_roundg k1
    case measure => have := HK1.out; omega
    case rel => exact ⟨(x7_1), (wrap64 (x17_1 + 1)), qD, H', ⟨Z157⟩, ⟨Z134⟩, ⟨qz⟩⟩
   replace c8 := Bool.eq_false_iff.mpr c8
   subst c8
   have H1 : (if x7_1.length < 17592186044416 then (r8Never.l0 k1 l1 (x7_1 ++ [x17_1]) (l1.length : Int) (wrap64 (x17_1 + 1))) else (none)) = some (r1, r2) := by rw [if_neg (show ¬ (false = true) by decide)] at H; exact H
   clear H
   have H := H1
   clear H1
   by_cases c10 : x7_1.length < 17592186044416
   case neg =>
    rw [if_neg c10] at H
    exact absurd H (by simp)
   rw [if_pos c10] at H
   have LMc10 := qb.mk c10
   clear c10
   obtain ⟨y340, hy340⟩ : ∃ y_ : List Int, y_ = (x7_1 ++ [x17_1]) := ⟨_, rfl⟩
   replace H : (r8Never.l0 k1 l1 y340 (l1.length : Int) (wrap64 (x17_1 + 1))) = some (r1, r2) := by first | (rw [hy340]; with_reducible exact H) | (have H2_ := (Option.bind_some _ _).symm.trans H; rw [hy340]; with_reducible exact H2_) | (have H2_ := (Option.bind_some _ _).symm.trans H; with_reducible exact H2_) | with_reducible exact H | (rw [hy340]; exact H) | exact H
   have Ny340 := qb.mk hy340
   clear hy340
   have H' := qb.mk H
   clear H
   go_wp2_with (first | ((with_reducible refine qg (f := 26) rfl ?_); refine goesL_ (some 22) rfl rfl Tryz.func26 (by kernel_rfl) rfl #[.slice A1 l1.length c1, .int .i64 x17_1] rfl Z61 ?_; (with_reducible refine (r8isFound.calls k1 _ _ l1 x17_1 false _ ?side1 ?side2 A7.out).mono ?_); (case side1 => exact Z63); (case side2 => exact Z159); rintro e w11 ⟨rfl, hb⟩; refine ⟨_, rfl, ?_⟩; have n0_ := qb.mk (Kd.R_below Z134 hb); have n1_ := qb.mk (qd qz hb); clear HO_7 HB; have HO_7 := n0_; have HB := n1_; clear n0_ n1_; (try clear hb); (try clear hb2); (try clear hk); (try clear hi)) | ((with_reducible refine gate_builtin (b := .append) (xs := #[.tmp 24, .tmp 26]) rfl ?_); at_builtin; refine Kd.R_append (Kd.int .i64) (w0 := w) w.heap.size rfl (.tmp 24) (.tmp 26) 29 3 (.int .i64 0) 8 rfl Tryz.underlying29 info3 rfl (by decide) (by omega) u7 x7_1 x17_1 [.int .i64 x17_1] (fun _ => True) (fun _ => False) rfl rfl ?aP (fun _ hk => hk.elim) ?aF ?aO ?aB ?aS ?aL ?_; (case aP => exact rfl); (case aB => exact qz); (case aF => exact (fun _ _ => trivial)); (case aO => exact Z134); (case aS => exact (qx qz)); (case aL => have := LMc10.out; omega); intro v341 w12 ho hb hg hat; rw [← Ny340.out] at ho; have n0_ := qb.mk (hb); have n1_ := qb.mk (ho); clear HB HO_7; have HB := n0_; have HO342 := n1_; clear n0_ n1_; clear ho hb hg hat))
   go_roundg k1
   case measure => have := HK1.out; omega
   case rel => exact ⟨(y340), (wrap64 (x17_1 + 1)), qD, H', ⟨Z157⟩, ⟨by (with_reducible repeat (first | apply Kd.R_alloc | apply Kd.R_drewN | apply Kd.R_drew)); exact HO342.out⟩, ⟨qz⟩⟩
/-! ### partner_withOwn: function 65 -/
def partner_withOwn.f (a0 : ByteArray) (a1 : ByteArray) : Option (ByteArray) := if a0.toList = ([] : List UInt8) then (some a1) else (some a0)
set_option maxHeartbeats 8000000 in
set_option maxRecDepth 100000 in
theorem partner_withOwn.calls (a0 : ByteArray) (a1 : ByteArray) (r : ByteArray) (w : World) (h : partner_withOwn.f a0 a1 = some r) :
  Calls Tryz.prog 65 #[.string a0, .string a1] w fun e w' => e = .returned (.string r) ∧ Drawn0 w w' := by
 have H : (if a0.toList = ([] : List UInt8) then (some a1) else (some a0)) = some r := h
 clear h
 by_cases c3 : a0.toList = ([] : List UInt8)
 case neg =>
  rw [if_neg c3] at H
  have c3b0 : (a0.toList == ([] : List UInt8)) = false := beq_eq_false_iff_ne.mpr c3
  have c3b1 : (a0.toList != ([] : List UInt8)) = true := bne_iff_ne.mpr c3
  obtain rfl := Option.some.inj H
  go_enter Tryz.func65, Tryz.ntmps65
  go_wp2
  go_ret
  exact ⟨Z141, Z138⟩

 rw [if_pos c3] at H
 have c3b0 : (a0.toList == ([] : List UInt8)) = true := beq_iff_eq.mpr c3
 have c3b1 : (a0.toList != ([] : List UInt8)) = false := bne_eq_false_iff_eq.mpr c3
 clear c3
 obtain rfl := Option.some.inj H
 go_enter Tryz.func65, Tryz.ntmps65
 go_wp2
 go_ret
 exact ⟨Z141, Z138⟩
end Go.Proofs.YtmmknokdgbgjgaaGreatDoor.XPartnerDaysMatchSpec
