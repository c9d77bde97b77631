-- Walks of PartnerDaysMatchSpec: written by xprint.py out of the translation (hand-proved functions among them). Lean checks it.
import Derived.Test.YtmmknokdgbgjgaaGreatDoorXPartnerDaysMatchSpecx0
import Derived.Test.YtmmknokdgbgjgaaGreatDoorXPartnerDaysMatchSpecx2
import Derived.Test.YtmmknokdgbgjgaaGreatDoorXPartnerDaysMatchSpecx9
import Derived.Test.YtmmknokdgbgjgaaGreatDoorXPartnerDaysMatchSpecx13
import Derived.Test.YtmmknokdgbgjgaaGreatDoorXPartnerDaysMatchSpecx15
namespace Go.Proofs.YtmmknokdgbgjgaaGreatDoor.XPartnerDaysMatchSpec
open Go.RowKit Go.Proofs.YtmmknokdgbgjgaaGreatDoorW.PrintWords Go.Proofs.YtmmknokdgbgjgaaGreatDoorW.PrintLast Go.Proofs.YtmmknokdgbgjgaaGreatDoorW.PrintMore
attribute [local go_sem] max2_int min2_int max_two min_two max_three min_three max_four min_four   -- for this text's walks alone
set_option linter.unusedVariables false
set_option linter.unusedSimpArgs false

/-! ### partner_changes: function 24 -/
mutual
def partner_changes.l0 : Nat → Int → List Int → List (S53) → Int → Int → Option (List Int)
 | 0, _, _, _, _, _ => none
 | k + 1, x1, x5, x12, x13, x14 => if x14 < x13 then (if 0 ≤ x14 then (if x14 < (x12.length : Int) then ((some (([(qa x12 x14).f4, wrap64 (((qa x12 x14).f5) + 1)] : List Int) : List Int)).bind fun y275 => (partner_changes.l1 k x1 x5 x12 x13 x14 y275 (y275.length : Int) 0)) else (none)) else (none)) else ((slices_Sort_int_int.f x5).bind fun t269 => ((slices_Compact_int_int.f t269).bind fun t270 => (some t270)))
def partner_changes.l1 : Nat → Int → List Int → List (S53) → Int → Int → List Int → Int → Int → Option (List Int)
 | 0, _, _, _, _, _, _, _, _ => none
 | k + 1, x1, x5, x12, x13, x14, x23, x24, x25 => if x25 < x24 then (if 0 ≤ x25 then (if x25 < (x23.length : Int) then (if (rd x23 x25) > x1 then (if (rd x23 x25) ≤ 3652059 then (if x5.length < 17592186044416 then (partner_changes.l1 k x1 (x5 ++ [rd x23 x25]) x12 x13 x14 x23 x24 (wrap64 (x25 + 1))) else (none)) else (partner_changes.l1 k x1 x5 x12 x13 x14 x23 x24 (wrap64 (x25 + 1)))) else (partner_changes.l1 k x1 x5 x12 x13 x14 x23 x24 (wrap64 (x25 + 1)))) else (none)) else (none)) else (partner_changes.l0 k x1 x5 x12 x13 (wrap64 (x14 + 1)))
end
def partner_changes.f (k : Nat) (l0 : List (S53)) (a1 : Int) : Option (List Int) := partner_changes.l0 k a1 (([a1] : List Int)) l0 (l0.length : Int) 0
theorem partner_changes.mono_l : ∀ k, (∀ y0 y1 y2 y3 y4, qv (partner_changes.l0 k y0 y1 y2 y3 y4) (partner_changes.l0 (k + 1) y0 y1 y2 y3 y4)) ∧ (∀ y0 y1 y2 y3 y4 y5 y6 y7, qv (partner_changes.l1 k y0 y1 y2 y3 y4 y5 y6 y7) (partner_changes.l1 (k + 1) y0 y1 y2 y3 y4 y5 y6 y7))
 | 0 => ⟨fun _ _ _ _ _ r h => by simp [partner_changes.l0] at h, fun _ _ _ _ _ _ _ _ r h => by simp [partner_changes.l1] at h⟩
 | k + 1 => by
  obtain ⟨ih0, ih1⟩ := partner_changes.mono_l k
  refine ⟨?_, ?_⟩
  all_goals
   intros
   first | unfold partner_changes.l0 | unfold partner_changes.l1
   repeat' first
   | (with_reducible apply ih0)
   | (with_reducible apply ih1)
   | (with_reducible exact qv.refl _)
   | (with_reducible exact qv.none _)
   | (with_reducible refine qv.ite ?_ ?_)
   | (with_reducible refine qv.bind ?_ (fun _ => ?_))
   | apply ih0
   | apply ih1
   | exact qv.none _
   | refine qv.ite ?_ ?_
   | refine qv.bind ?_ (fun _ => ?_)
theorem partner_changes.mono : ∀ a0 a1 k, qv (partner_changes.f k a0 a1) (partner_changes.f (k + 1) a0 a1) := by
 intro a0 a1 k
 obtain ⟨ih0, ih1⟩ := partner_changes.mono_l k
 unfold partner_changes.f
 repeat' first
   | (with_reducible apply ih0)
   | (with_reducible apply ih1)
   | (with_reducible exact qv.refl _)
   | (with_reducible exact qv.none _)
   | (with_reducible refine qv.ite ?_ ?_)
   | (with_reducible refine qv.bind ?_ (fun _ => ?_))
   | apply ih0
   | apply ih1
   | exact qv.none _
   | refine qv.ite ?_ ?_
   | refine qv.bind ?_ (fun _ => ?_)
set_option maxHeartbeats 8000000 in
set_option maxRecDepth 100000 in
theorem partner_changes.calls (k : Nat) (A0 : Option Addr) (c0 : Nat) (l0 : List (S53)) (a1 : Int) (r : List Int) (w : World) (hr0 : Kd.C k53 w A0 l0.length l0) (hc0 : l0.length ≤ c0) (h : partner_changes.f k l0 a1 = some r) :
  Calls Tryz.prog 24 #[.slice A0 l0.length c0, .int .i64 a1] w fun e w' => ∃ v0_ : Value, e = .returned (v0_) ∧ Kd.R (Kd.int .i64) 3 w' w.heap.size (fun _ => True) v0_ r ∧ Below w.heap.size w w' := by
 have hu53 := Tryz.underlying53
 have HR0 := qb.mk hr0
 have HC0 := qb.mk hc0
 clear hr0 hc0
 have HB := qb.mk (Below.refl w.heap.size w)
 have H : (partner_changes.l0 k a1 (([a1] : List Int)) l0 (l0.length : Int) 0) = some r := h
 clear h
 obtain ⟨y266, hy266⟩ : ∃ y_ : List Int, y_ = (([a1] : List Int)) := ⟨_, rfl⟩
 replace H : (partner_changes.l0 k a1 y266 l0 (l0.length : Int) 0) = some r := by first | (rw [hy266]; with_reducible exact H) | (have H2_ := (Option.bind_some _ _).symm.trans H; rw [hy266]; with_reducible exact H2_) | (have H2_ := (Option.bind_some _ _).symm.trans H; with_reducible exact H2_) | with_reducible exact H | (rw [hy266]; exact H) | exact H
 have Ny266 := qb.mk hy266
 clear hy266
 have H' := qb.mk H
 clear H
 go_enter Tryz.func24, Tryz.ntmps24
 go_wp2_with (first | ((with_reducible refine qi (N := 11) rfl ?_); refine Kd.R_lit (Kd.int .i64) _ 3 ?hg (N := 11) ?hd (xs := ([a1] : List Int)) (inner := [.int .i64 a1]) (ok := fun _ => True) (okp := fun _ => True) ?hr ?hp (fun _ hk => hk) trivial (Below.refl _ _) (Nat.le_refl _) (by simp) ?_; (case hd => rfl); (case hg => rfl); (case hr => exact qC); (case hp => exact (Reps.one (show Kd.M (Kd.int .i64) _ _ _ a1 [.int .i64 a1] from rfl) (Reps.none _ _))); intro v267 w3 ho4 hb hg_ hnew_; clear hg_ hnew_; (first | rw [← Ny266.out] at ho4 | (simp only [Int.reduceToNat] at ho4; rw [← Ny266.out] at ho4)); have n0_ := qb.mk (Kd.R_lower ho4 (qx qz)); have n1_ := qb.mk (qd qz hb); clear HB; have HO268 := n0_; have HB := n1_; clear n0_ n1_; clear hb ho4))
 go_loopg [5, 14] k (fun kq v5 v14 w' => ∃ (x5_1 : List Int) (x14_1 : Int), v14 = .int .i64 x14_1 ∧ qb (partner_changes.l0 kq a1 x5_1 l0 (l0.length : Int) x14_1 = some r) ∧ qb (kq ≤ k) ∧ qb (Kd.R (Kd.int .i64) 3 w' w.heap.size (fun _ => True) v5 x5_1) ∧ qb (Below w.heap.size w w'))
 case atStart => exact ⟨(y266), (0), qD, H', ⟨Nat.le_refl _⟩, ⟨by (with_reducible repeat (first | apply Kd.R_alloc | apply Kd.R_drewN | apply Kd.R_drew)); exact HO268.out⟩, ⟨qz⟩⟩
 case round =>
  clear H'
  try clear c2; try clear p2
  obtain ⟨x5_1, x14_1, rfl, HA, HK1, HO_5, HB⟩ := hrel
  cases gk with
  | zero => exact absurd HA.out (by simp [partner_changes.l0])
  | succ k1 =>
   have H := HA.out
   clear HA
   simp only [partner_changes.l0] at H
   by_cases c5 : x14_1 < (l0.length : Int)
   case neg =>
    rw [if_neg c5] at H
    have c5b0 : decide (x14_1 < (l0.length : Int)) = false := decide_eq_false c5
    clear c5
    replace H := Option.bind_eq_some_iff.mp H
    obtain ⟨t269, A200, H⟩ := H
    replace H : ((slices_Compact_int_int.f t269).bind fun t270 => (some t270)) = some r := H
    have A20 := qb.mk A200
    clear A200
    replace H := Option.bind_eq_some_iff.mp H
    obtain ⟨t270, A210, H⟩ := H
    replace H : (some t270) = some r := H
    have A21 := qb.mk A210
    clear A210
    obtain rfl := Option.some.inj H
    obtain ⟨Ao22, co22, eo22⟩ := Kd.R_slice HO_5.out
    subst eo22
    go_wp2_with (first | ((with_reducible refine qg (f := 52) rfl ?_); refine goesL_ (some 43) rfl rfl Tryz.func52 (by kernel_rfl) rfl #[.slice Ao22 x5_1.length co22] rfl Z61 ?_; (with_reducible refine (slices_Sort_int_int.calls (fun k_ => some k_ = (.slice Ao22 x5_1.length co22 : Value).ownBlock) (.slice Ao22 x5_1.length co22) x5_1 t269 w _ ?side1 ?side2 A20.out).mono ?_); (case side1 => exact qz); (case side2 => exact Kd.R_tight rfl HO_5.out); rintro e w23 ⟨rfl, hy0, hb, hkp⟩; refine ⟨_, rfl, ?_⟩; have n0_ := qb.mk (Kd.R_reok rfl hy0 (fun k_ e_ => HO_5.out.1 k_ e_)); have n1_ := qb.mk (hb); clear HO_5 HB; have HO_5 := n0_; have HB := n1_; clear n0_ n1_; (try clear hb); (try clear hkp); (try clear hy0)) | ((with_reducible refine qg (f := 53) rfl ?_); refine goesL_ (some 45) rfl rfl Tryz.func53 (by kernel_rfl) rfl #[.slice Ao22 x5_1.length co22] rfl Z61 ?_; (with_reducible refine (slices_Compact_int_int.calls (fun k_ => some k_ = (.slice Ao22 x5_1.length co22 : Value).ownBlock) (.slice Ao22 x5_1.length co22) t269 t270 w _ ?side1 ?side2 A21.out).mono ?_); (case side1 => exact qz); (case side2 => exact Kd.R_tight rfl HO_5.out); rintro e w24 ⟨v271, rfl, ho0, hb, hkp⟩; refine ⟨_, rfl, ?_⟩; have n0_ := qb.mk (Kd.R_mono (ok' := fun k_ => True) ho0 (fun k_ hk_ => trivial)); have n1_ := qb.mk (hb); clear HB HO_5; have HO272 := n0_; have HB := n1_; clear n0_ n1_; (try clear hb); (try clear hkp); (try clear ho0)))
    go_ret
    exact ⟨_, Z97, by (with_reducible repeat (first | apply Kd.R_alloc | apply Kd.R_drewN | apply Kd.R_drew)); exact HO272.out, qz⟩

   rw [if_pos c5] at H
   have c5b0 : decide (x14_1 < (l0.length : Int)) = true := decide_eq_true c5
   clear c5
   by_cases c6 : 0 ≤ x14_1
   case neg =>
    rw [if_neg c6] at H
    exact absurd H (by simp)
   rw [if_pos c6] at H
   have c6b0 : decide (0 ≤ x14_1) = true := decide_eq_true c6
   clear c6
   by_cases c7 : x14_1 < (l0.length : Int)
   case neg =>
    rw [if_neg c7] at H
    exact absurd H (by simp)
   rw [if_pos c7] at H
   have c7b0 : decide (x14_1 < (l0.length : Int)) = true := decide_eq_true c7
   clear c7
   obtain ⟨y275, hy275⟩ : ∃ y_ : List Int, y_ = (([(qa l0 x14_1).f4, wrap64 (((qa l0 x14_1).f5) + 1)] : List Int)) := ⟨_, rfl⟩
   replace H : (partner_changes.l1 k1 a1 x5_1 l0 (l0.length : Int) x14_1 y275 (y275.length : Int) 0) = some r := by first | (rw [hy275]; with_reducible exact H) | (have H2_ := (Option.bind_some _ _).symm.trans H; rw [hy275]; with_reducible exact H2_) | (have H2_ := (Option.bind_some _ _).symm.trans H; with_reducible exact H2_) | with_reducible exact H | (rw [hy275]; exact H) | exact H
   have Ny275 := qb.mk hy275
   clear hy275
   have H' := qb.mk H
   clear H
   have p273 : 0 ≤ (x14_1 : Int) := of_decide_eq_true qB
   have q273 : x14_1 < (l0.length : Int) := of_decide_eq_true qB
   obtain ⟨ad273, e273, hx273_0, hx273_1, hx273_2, hx273_3, hx273_4, hx273_5, hx273_6, hx273_7, hx273_8⟩ := at_T53 HR0.out x14_1 p273 q273
   cases e273
   replace hx273_0 := bx HB hx273_0
   replace hx273_1 := bx HB hx273_1
   replace hx273_2 := bx HB hx273_2
   replace hx273_3 := bx HB hx273_3
   replace hx273_4 := bx HB hx273_4
   replace hx273_5 := bx HB hx273_5
   replace hx273_6 := bx HB hx273_6
   replace hx273_7 := bx HB hx273_7
   replace hx273_8 := bx HB hx273_8
   replace p273 := eq_true p273
   replace q273 := eq_true q273
   go_wp2_with (first | ((with_reducible refine qi (N := 7) rfl ?_); refine qh ?hg (N := 7) ?hd (cs := #[.string (⟨#[]⟩ : ByteArray), .string (⟨#[]⟩ : ByteArray), .string (⟨#[]⟩ : ByteArray), .string (⟨#[]⟩ : ByteArray), .int .i64 0, .int .i64 0, .bool false, .int .i64 0, .bool false]) (t := 53) ?hr ?_; (case hd => rfl); (case hg => rfl); (case hr => exact qC); intro gb274 hg w8 hbox hb; have n0_ := qb.mk (Kd.R_below Z132 hb); have n1_ := qb.mk (qd qz hb); have n2_ := qb.mk (hbox); have n3_ := qb.mk ((Z66 : w.heap.size ≤ gb274)); have n4_ := n3_; clear HO_5 HB; have HO_5 := n0_; have HB := n1_; have BK274 := n2_; have GW274 := n3_; have GE274 := n4_; clear n0_ n1_ n2_ n3_ n4_; clear hb hbox hg; obtain ⟨yc9_0, yc9_1, yc9_2, yc9_3, yc9_4, yc9_5, yc9_6, yc9_7, yc9_8, yf9_0, yf9_1, yf9_2, yf9_3, yf9_4, yf9_5, yf9_6, yf9_7, yf9_8⟩ := bf9 BK274.out) | ((with_reducible refine qi (N := 23) rfl ?_); refine Kd.R_lit (Kd.int .i64) _ 3 ?hg (N := 23) ?hd (xs := ([(qa l0 x14_1).f4, wrap64 (((qa l0 x14_1).f5) + 1)] : List Int)) (inner := [.int .i64 ((qa l0 x14_1).f4), .int .i64 (wrap64 (((qa l0 x14_1).f5) + 1))]) (ok := fun _ => True) (okp := fun _ => True) ?hr ?hp (fun _ hk => hk) trivial (Below.refl _ _) (Nat.le_refl _) (by simp) ?_; (case hd => rfl); (case hg => rfl); (case hr => exact qC); (case hp => exact (Reps.one (show Kd.M (Kd.int .i64) _ _ _ ((qa l0 x14_1).f4) [.int .i64 ((qa l0 x14_1).f4)] from rfl) (Reps.one (show Kd.M (Kd.int .i64) _ _ _ (wrap64 (((qa l0 x14_1).f5) + 1)) [.int .i64 (wrap64 (((qa l0 x14_1).f5) + 1))] from rfl) (Reps.none _ _)))); intro v276 w10 ho11 hb hg_ hnew_; clear hg_ hnew_; (first | rw [← Ny275.out] at ho11 | (simp only [Int.reduceToNat] at ho11; rw [← Ny275.out] at ho11)); have n0_ := qb.mk (Kd.R_elder' Z37 (Kd.R_base ho11) hb); have n1_ := qb.mk (Kd.R_lower (Kd.R_new' ho11 (Kd.R_lt Z37)) (qx Z90)); have n2_ := qb.mk (qw (g := gb274) (o := .cells #[.string ((qa l0 x14_1).f0), .string ((qa l0 x14_1).f1), .string ((qa l0 x14_1).f2), .string ((qa l0 x14_1).f3), .int .i64 ((qa l0 x14_1).f4), .int .i64 ((qa l0 x14_1).f5), .bool ((qa l0 x14_1).f6), .int .i64 ((qa l0 x14_1).f7), .bool ((qa l0 x14_1).f8)] 53 (0, 0)) (by (with_reducible repeat (first | refine qn ?_ _ | refine qm ?_ | refine ql ?_ _)); apply put9; (with_reducible repeat (first | refine qn ?_ _ | refine qm ?_ | refine ql ?_ _)); exact BK274.out) hb); have n3_ := qb.mk (qd Z90 hb); clear HO_5 BK274 HB; have HO_5 := n0_; have HO277 := n1_; have BK274 := n2_; have HB := n3_; clear n0_ n1_ n2_ n3_; clear hb ho11; obtain ⟨Ao12, co12, eo12⟩ := Kd.R_slice HO277.out; subst eo12))
   go_loopg [5, 25] k1 (fun kq v5 v25 w' => ∃ (x5_2 : List Int) (x25_2 : Int), v25 = .int .i64 x25_2 ∧ qb (partner_changes.l1 kq a1 x5_2 l0 (l0.length : Int) x14_1 y275 (y275.length : Int) x25_2 = some r) ∧ qb (kq ≤ k1) ∧ qb (Kd.R (Kd.int .i64) 3 w' w.heap.size (fun k_ => some k_ ≠ ((.slice Ao12 y275.length co12) : Value).ownBlock) v5 x5_2) ∧ qb (Kd.R (Kd.int .i64) 3 w' w.heap.size (fun k_ => some k_ ≠ (v5 : Value).ownBlock) (.slice Ao12 y275.length co12) y275) ∧ qb (w'.heap[gb274]? = some (.cells #[.string ((qa l0 x14_1).f0), .string ((qa l0 x14_1).f1), .string ((qa l0 x14_1).f2), .string ((qa l0 x14_1).f3), .int .i64 ((qa l0 x14_1).f4), .int .i64 ((qa l0 x14_1).f5), .bool ((qa l0 x14_1).f6), .int .i64 ((qa l0 x14_1).f7), .bool ((qa l0 x14_1).f8)] 53 (0, 0))) ∧ qb (Below w.heap.size w w'))
   case atStart => exact ⟨(x5_1), (0), qD, H', ⟨Nat.le_refl _⟩, ⟨by (with_reducible repeat (first | apply Kd.R_alloc | apply Kd.R_drewN | apply Kd.R_drew)); exact Kd.R_mono HO_5.out (fun _ hk => hk.2)⟩, ⟨by (with_reducible repeat (first | apply Kd.R_alloc | apply Kd.R_drewN | apply Kd.R_drew)); exact Kd.R_mono HO277.out (fun _ hk => hk.2)⟩, ⟨Z115⟩, ⟨Z90⟩⟩
   case round =>
    clear H'
    try clear c2; try clear p2 p2; try clear q2; try clear hx2; try clear c5; try clear c5b0; try clear c6; try clear c6b0; try clear p6; try clear c7; try clear c7b0; try clear yc9_0 yc9_1 yc9_2 yc9_3 yc9_4 yc9_5 yc9_6 yc9_7 yc9_8 yf9_0 yf9_1 yf9_2 yf9_3 yf9_4 yf9_5 yf9_6 yf9_7 yf9_8; try clear hx273_0; try clear hx273_1; try clear hx273_2; try clear hx273_3; try clear hx273_4; try clear hx273_5; try clear hx273_6; try clear hx273_7; try clear hx273_8; try clear p273; try clear q273
    obtain ⟨x5_2, x25_2, rfl, HA, HK2, HO_5, HO_23, BK274, HB⟩ := hrel
    cases gk with
    | zero => exact absurd HA.out (by simp [partner_changes.l1])
    | succ k2 =>
     have H := HA.out
     clear HA
     simp only [partner_changes.l1] at H
     by_cases c13 : x25_2 < (y275.length : Int)
     case neg =>
      rw [if_neg c13] at H
      have c13b0 : decide (x25_2 < (y275.length : Int)) = false := decide_eq_false c13
      clear c13
      have H' := qb.mk H
      clear H
      go_wp2
      go_roundg k2
      case measure => have := HK1.out; have := HK2.out; omega
      case rel => exact ⟨(x5_2), (wrap64 (x14_1 + 1)), qD, H', ⟨by have := HK1.out; have := HK2.out; omega⟩, ⟨by (with_reducible repeat (first | apply Kd.R_alloc | apply Kd.R_drewN | apply Kd.R_drew)); exact Kd.R_mono HO_5.out (fun _ hk => trivial)⟩, ⟨Z90⟩⟩
     rw [if_pos c13] at H
     have c13b0 : decide (x25_2 < (y275.length : Int)) = true := decide_eq_true c13
     clear c13
     by_cases c14 : 0 ≤ x25_2
     case neg =>
      rw [if_neg c14] at H
      exact absurd H (by simp)
     rw [if_pos c14] at H
     have c14b0 : decide (0 ≤ x25_2) = true := decide_eq_true c14
     clear c14
     by_cases c15 : x25_2 < (y275.length : Int)
     case neg =>
      rw [if_neg c15] at H
      exact absurd H (by simp)
     rw [if_pos c15] at H
     have c15b0 : decide (x25_2 < (y275.length : Int)) = true := decide_eq_true c15
     clear c15
     by_cases c16 : (rd y275 x25_2) > a1
     case neg =>
      rw [if_neg c16] at H
      have c16b0 : decide (a1 < (rd y275 x25_2)) = false := decide_eq_false c16
      clear c16
      have H' := qb.mk H
      clear H
      have p278 : 0 ≤ (x25_2 : Int) := of_decide_eq_true qB
      have q278 : x25_2 < (y275.length : Int) := of_decide_eq_true qB
      obtain ⟨ad278, e278, hx278_0⟩ := Kd.at_int (Kd.R_reads' HO_23.out).2.2 x25_2 p278 q278
      cases e278
      replace p278 := eq_true p278
      replace q278 := eq_true q278
      go_wp2
      go_roundg k2
      case measure => have := HK1.out; have := HK2.out; omega
      case rel => exact ⟨(x5_2), (wrap64 (x25_2 + 1)), qD, H', ⟨by have := HK1.out; have := HK2.out; omega⟩, ⟨Z132⟩, ⟨by (with_reducible repeat (first | apply Kd.R_alloc | apply Kd.R_drewN | apply Kd.R_drew)); exact HO_23.out⟩, ⟨Z115⟩, ⟨Z90⟩⟩
     rw [if_pos c16] at H
     have c16b0 : decide (a1 < (rd y275 x25_2)) = true := decide_eq_true c16
     clear c16
     by_cases c17 : (rd y275 x25_2) ≤ 3652059
     case neg =>
      rw [if_neg c17] at H
      have c17b0 : decide ((rd y275 x25_2) ≤ 3652059) = false := decide_eq_false c17
      clear c17
      have H' := qb.mk H
      clear H
      have p278 : 0 ≤ (x25_2 : Int) := of_decide_eq_true qB
      have q278 : x25_2 < (y275.length : Int) := of_decide_eq_true qB
      obtain ⟨ad278, e278, hx278_0⟩ := Kd.at_int (Kd.R_reads' HO_23.out).2.2 x25_2 p278 q278
      cases e278
      replace p278 := eq_true p278
      replace q278 := eq_true q278
      go_wp2
      go_roundg k2
      case measure => have := HK1.out; have := HK2.out; omega
      case rel => exact ⟨(x5_2), (wrap64 (x25_2 + 1)), qD, H', ⟨by have := HK1.out; have := HK2.out; omega⟩, ⟨Z132⟩, ⟨by (with_reducible repeat (first | apply Kd.R_alloc | apply Kd.R_drewN | apply Kd.R_drew)); exact HO_23.out⟩, ⟨Z115⟩, ⟨Z90⟩⟩
     rw [if_pos c17] at H
     have c17b0 : decide ((rd y275 x25_2) ≤ 3652059) = true := decide_eq_true c17
     clear c17
     by_cases c18 : x5_2.length < 17592186044416
     case neg =>
      rw [if_neg c18] at H
      exact absurd H (by simp)
     rw [if_pos c18] at H
     have LMc18 := qb.mk c18
     clear c18
     obtain ⟨y279, hy279⟩ : ∃ y_ : List Int, y_ = (x5_2 ++ [rd y275 x25_2]) := ⟨_, rfl⟩
     replace H : (partner_changes.l1 k2 a1 y279 l0 (l0.length : Int) x14_1 y275 (y275.length : Int) (wrap64 (x25_2 + 1))) = some r := by first | (rw [hy279]; with_reducible exact H) | (have H2_ := (Option.bind_some _ _).symm.trans H; rw [hy279]; with_reducible exact H2_) | (have H2_ := (Option.bind_some _ _).symm.trans H; with_reducible exact H2_) | with_reducible exact H | (rw [hy279]; exact H) | exact H
     have Ny279 := qb.mk hy279
     clear hy279
     have H' := qb.mk H
     clear H
     have p278 : 0 ≤ (x25_2 : Int) := of_decide_eq_true qB
     have q278 : x25_2 < (y275.length : Int) := of_decide_eq_true qB
     obtain ⟨ad278, e278, hx278_0⟩ := Kd.at_int (Kd.R_reads' HO_23.out).2.2 x25_2 p278 q278
     cases e278
     replace p278 := eq_true p278
     replace q278 := eq_true q278
     go_wp2_with (first | ((with_reducible refine gate_builtin (b := .append) (xs := #[.tmp 36, .tmp 38]) rfl ?_); at_builtin; refine Kd.R_append (Kd.int .i64) (w0 := w) w.heap.size rfl (.tmp 36) (.tmp 38) 29 3 (.int .i64 0) 8 rfl Tryz.underlying29 info3 rfl (by decide) (by omega) u5 x5_2 (rd y275 x25_2) [.int .i64 (rd y275 x25_2)] (fun k_ => some k_ ≠ (.slice (some ad278) y275.length co12 : Value).ownBlock) (fun _ => False) rfl rfl ?aP (fun _ hk => hk.elim) ?aF ?aO ?aB ?aS ?aL ?_; (case aP => exact rfl); (case aB => exact Z90); (case aF => exact (fun k_ hk => Kd.fresh' (Kd.R_lt (by (with_reducible repeat (first | apply Kd.R_alloc | apply Kd.R_drewN | apply Kd.R_drew)); exact HO_23.out)) k_ hk)); (case aO => exact Z132); (case aS => exact (qx Z90)); (case aL => have := LMc18.out; omega); intro v280 w19 ho hb hg hat; rw [← Ny279.out] at ho; have n0_ := qb.mk (Kd.R_after (ok := (fun _ => True)) (by (with_reducible repeat (first | apply Kd.R_alloc | apply Kd.R_drewN | apply Kd.R_drew)); exact Kd.R_mono HO_23.out (fun _ hk => ⟨trivial, hk⟩)) hg hat); have n1_ := qb.mk (blk_grown (g := gb274) (o := .cells #[.string ((qa l0 x14_1).f0), .string ((qa l0 x14_1).f1), .string ((qa l0 x14_1).f2), .string ((qa l0 x14_1).f3), .int .i64 ((qa l0 x14_1).f4), .int .i64 ((qa l0 x14_1).f5), .bool ((qa l0 x14_1).f6), .int .i64 ((qa l0 x14_1).f7), .bool ((qa l0 x14_1).f8)] 53 (0, 0)) Z115 hg (Kd.R_ne HO_5.out BK274.out (by decide))); have n2_ := qb.mk (hb); have n3_ := qb.mk (ho); clear HO_23 BK274 HB HO_5; have HO_23 := n0_; have BK274 := n1_; have HB := n2_; have HO281 := n3_; clear n0_ n1_ n2_ n3_; clear ho hb hg hat))
     go_roundg k2
     case measure => have := HK1.out; have := HK2.out; omega
     case rel => exact ⟨(y279), (wrap64 (x25_2 + 1)), qD, H', ⟨by have := HK1.out; have := HK2.out; omega⟩, ⟨by (with_reducible repeat (first | apply Kd.R_alloc | apply Kd.R_drewN | apply Kd.R_drew)); exact HO281.out⟩, ⟨by (with_reducible repeat (first | apply Kd.R_alloc | apply Kd.R_drewN | apply Kd.R_drew)); exact Kd.R_mono HO_23.out (fun _ hk => hk.2)⟩, ⟨Z115⟩, ⟨Z90⟩⟩
/-! ### partner_Until: function 6 -/
def partner_Until.l0 : Nat → List (S53) → Int → List Int → Int → Int → ByteArray → ByteArray → ByteArray → ByteArray → Int → Bool → Option (Int × Int)
 | 0, _, _, _, _, _, _, _, _, _, _, _ => none
 | k + 1, x1, x9, x28, x29, x30, x283000, x283001, x283002, x283003, x283004, x283005 => if x30 < x29 then (if 0 ≤ x30 then (if x30 < (x28.length : Int) then ((partner_find.f k x1 x283000 x283001 x283002 x283003 (rd x28 x30) x283005).bind fun t292 => (if t292 = x9 then (partner_Until.l0 k x1 x9 x28 x29 (wrap64 (x30 + 1)) x283000 x283001 x283002 x283003 (rd x28 x30) x283005) else (some (wrap64 ((rd x28 x30) - 1), 0)))) else (none)) else (none)) else (some (3652059, 0))
def partner_Until.f (k : Nat) (l0 : List (S110)) (l1 : List (S53)) (a2_0 : ByteArray) (a2_1 : ByteArray) (a2_2 : ByteArray) (a2_3 : ByteArray) (a2_4 : Int) (a2_5 : Bool) : Option (Int × Int) := (partner_askedFault.f k l0 l1 a2_0 a2_1 a2_2 a2_3 a2_4 a2_5).bind fun t283 => (if t283 = 0 then ((partner_find.f k l1 a2_0 a2_1 a2_2 a2_3 a2_4 a2_5).bind fun t284 => (if t284 < 0 then (some (0, 0)) else ((partner_changes.f k l1 a2_4).bind fun t285 => (if 1 ≤ (t285.length : Int) then ((some (t285.drop (1 : Int).toNat : List Int)).bind fun y288 => (partner_Until.l0 k l1 t284 y288 (y288.length : Int) 0 a2_0 a2_1 a2_2 a2_3 a2_4 a2_5)) else (none))))) else (some (0, t283)))
theorem partner_Until.mono_l : ∀ k, (∀ y0 y1 y2 y3 y4 y5 y6 y7 y8 y9 y10, qv (partner_Until.l0 k y0 y1 y2 y3 y4 y5 y6 y7 y8 y9 y10) (partner_Until.l0 (k + 1) y0 y1 y2 y3 y4 y5 y6 y7 y8 y9 y10))
 | 0 => fun _ _ _ _ _ _ _ _ _ _ _ r h => by simp [partner_Until.l0] at h
 | k + 1 => by
  have ih0 := partner_Until.mono_l k
  ·intro y0 y1 y2 y3 y4 y5 y6 y7 y8 y9 y10
   unfold partner_Until.l0
   repeat' first
   | (with_reducible apply ih0)
   | (with_reducible apply partner_askedFault.mono)
   | (with_reducible apply partner_changes.mono)
   | (with_reducible apply partner_find.mono)
   | (with_reducible exact qv.refl _)
   | (with_reducible exact qv.none _)
   | (with_reducible refine qv.ite ?_ ?_)
   | (with_reducible refine qv.bind ?_ (fun _ => ?_))
   | apply ih0
   | apply partner_askedFault.mono
   | apply partner_changes.mono
   | apply partner_find.mono
   | exact qv.none _
   | refine qv.ite ?_ ?_
   | refine qv.bind ?_ (fun _ => ?_)
theorem partner_Until.mono : ∀ a0 a1 a2 a3 a4 a5 a6 a7 k, qv (partner_Until.f k a0 a1 a2 a3 a4 a5 a6 a7) (partner_Until.f (k + 1) a0 a1 a2 a3 a4 a5 a6 a7) := by
 intro a0 a1 a2 a3 a4 a5 a6 a7 k
 have ih0 := partner_Until.mono_l k
 unfold partner_Until.f
 repeat' first
   | (with_reducible apply ih0)
   | (with_reducible apply partner_askedFault.mono)
   | (with_reducible apply partner_changes.mono)
   | (with_reducible apply partner_find.mono)
   | (with_reducible exact qv.refl _)
   | (with_reducible exact qv.none _)
   | (with_reducible refine qv.ite ?_ ?_)
   | (with_reducible refine qv.bind ?_ (fun _ => ?_))
   | apply ih0
   | apply partner_askedFault.mono
   | apply partner_changes.mono
   | apply partner_find.mono
   | exact qv.none _
   | refine qv.ite ?_ ?_
   | refine qv.bind ?_ (fun _ => ?_)
set_option maxHeartbeats 8000000 in
set_option maxRecDepth 100000 in
theorem partner_Until.calls (k : Nat) (A0 : Option Addr) (c0 : Nat) (l0 : List (S110)) (A1 : Option Addr) (c1 : Nat) (l1 : List (S53)) (a2_0 : ByteArray) (a2_1 : ByteArray) (a2_2 : ByteArray) (a2_3 : ByteArray) (a2_4 : Int) (a2_5 : Bool) (r1 : Int) (r2 : Int) (w : World) (hr0 : Kd.C k110 w A0 l0.length l0) (hc0 : l0.length ≤ c0) (hr1 : Kd.C k53 w A1 l1.length l1) (hc1 : l1.length ≤ c1) (h : partner_Until.f k l0 l1 a2_0 a2_1 a2_2 a2_3 a2_4 a2_5 = some (r1, r2)) :
  Calls Tryz.prog 6 #[.slice A0 l0.length c0, .slice A1 l1.length c1, .agg #[.string a2_0, .string a2_1, .string a2_2, .string a2_3, .int .i64 a2_4, .bool a2_5]] w fun e w' => e = .returned (.tuple #[.int .i64 r1, .int .i64 r2]) ∧ Below w.heap.size w w' := by
 have hu25 := Tryz.underlying25
 have HR0 := qb.mk hr0
 have HC0 := qb.mk hc0
 clear hr0 hc0
 have HR1 := qb.mk hr1
 have HC1 := qb.mk hc1
 clear hr1 hc1
 have HB := qb.mk (Below.refl w.heap.size w)
 have H : ((partner_askedFault.f k l0 l1 a2_0 a2_1 a2_2 a2_3 a2_4 a2_5).bind fun t283 => (if t283 = 0 then ((partner_find.f k l1 a2_0 a2_1 a2_2 a2_3 a2_4 a2_5).bind fun t284 => (if t284 < 0 then (some (0, 0)) else ((partner_changes.f k l1 a2_4).bind fun t285 => (if 1 ≤ (t285.length : Int) then ((some (t285.drop (1 : Int).toNat : List Int)).bind fun y288 => (partner_Until.l0 k l1 t284 y288 (y288.length : Int) 0 a2_0 a2_1 a2_2 a2_3 a2_4 a2_5)) else (none))))) else (some (0, t283)))) = some (r1, r2) := h
 clear h
 replace H := Option.bind_eq_some_iff.mp H
 obtain ⟨t283, A40, H⟩ := H
 replace H : (if t283 = 0 then ((partner_find.f k l1 a2_0 a2_1 a2_2 a2_3 a2_4 a2_5).bind fun t284 => (if t284 < 0 then (some (0, 0)) else ((partner_changes.f k l1 a2_4).bind fun t285 => (if 1 ≤ (t285.length : Int) then ((some (t285.drop (1 : Int).toNat : List Int)).bind fun y288 => (partner_Until.l0 k l1 t284 y288 (y288.length : Int) 0 a2_0 a2_1 a2_2 a2_3 a2_4 a2_5)) else (none))))) else (some (0, t283))) = some (r1, r2) := H
 have A4 := qb.mk A40
 clear A40
 by_cases c5 : t283 = 0
 case neg =>
  rw [if_neg c5] at H
  have c5b0 : (t283 == 0) = false := beq_eq_false_iff_ne.mpr c5
  have c5b1 : (t283 != 0) = true := bne_iff_ne.mpr c5
  simp only [Option.some.injEq, Prod.mk.injEq] at H
  obtain ⟨rfl, rfl⟩ := H
  go_enter Tryz.func6, Tryz.ntmps6
  go_wp2_with (first | ((with_reducible refine qi (N := 5) rfl ?_); refine qh ?hg (N := 5) ?hd (cs := #[.string a2_0, .string a2_1, .string a2_2, .string a2_3, .int .i64 a2_4, .bool a2_5]) (t := 25) ?hr ?_; (case hd => rfl); (case hg => rfl); (case hr => exact qC); intro gb282 hg w33 hbox hb; have n0_ := qb.mk (qd qz hb); have n1_ := qb.mk (hbox); have n2_ := qb.mk ((Z66 : w.heap.size ≤ gb282)); have n3_ := n2_; clear HB; have HB := n0_; have BK282 := n1_; have GW282 := n2_; have GE282 := n3_; clear n0_ n1_ n2_ n3_; clear hb hbox hg; obtain ⟨yc34_0, yc34_1, yc34_2, yc34_3, yc34_4, yc34_5, yf34_0, yf34_1, yf34_2, yf34_3, yf34_4, yf34_5⟩ := bf6 BK282.out) | ((with_reducible refine qg (f := 22) rfl ?_); refine goesL_ (some 15) rfl rfl Tryz.func22 (by kernel_rfl) rfl #[.slice A0 l0.length c0, .slice A1 l1.length c1, .agg #[.string a2_0, .string a2_1, .string a2_2, .string a2_3, .int .i64 a2_4, .bool a2_5]] rfl Z61 ?_; (with_reducible refine (partner_askedFault.calls k _ _ l0 _ _ l1 a2_0 a2_1 a2_2 a2_3 a2_4 a2_5 t283 _ ?side1 ?side2 ?side3 ?side4 A4.out).mono ?_); (case side1 => exact Z62); (case side2 => exact Z158); (case side3 => exact Z63); (case side4 => exact Z159); rintro e w35 ⟨rfl, hb⟩; refine ⟨_, rfl, ?_⟩; have n0_ := bb BK282 hb; have n1_ := qb.mk (qd Z91 hb); clear BK282 HB; have BK282 := n0_; have HB := n1_; clear n0_ n1_; (try clear hb); (try clear hb2); (try clear hk); (try clear hi)))
  go_ret2
  exact ⟨Z97, Z91⟩

 rw [if_pos c5] at H
 have c5b0 : (t283 == 0) = true := beq_iff_eq.mpr c5
 have c5b1 : (t283 != 0) = false := bne_eq_false_iff_eq.mpr c5
 clear c5
 replace H := Option.bind_eq_some_iff.mp H
 obtain ⟨t284, A60, H⟩ := H
 replace H : (if t284 < 0 then (some (0, 0)) else ((partner_changes.f k l1 a2_4).bind fun t285 => (if 1 ≤ (t285.length : Int) then ((some (t285.drop (1 : Int).toNat : List Int)).bind fun y288 => (partner_Until.l0 k l1 t284 y288 (y288.length : Int) 0 a2_0 a2_1 a2_2 a2_3 a2_4 a2_5)) else (none)))) = some (r1, r2) := H
 have A6 := qb.mk A60
 clear A60
 by_cases c7 : t284 < 0
 case pos =>
  rw [if_pos c7] at H
  have c7b0 : decide (t284 < 0) = true := decide_eq_true c7
  clear c7
  simp only [Option.some.injEq, Prod.mk.injEq] at H
  obtain ⟨rfl, rfl⟩ := H
  go_enter Tryz.func6, Tryz.ntmps6
  go_wp2_with (first | ((with_reducible refine qi (N := 5) rfl ?_); refine qh ?hg (N := 5) ?hd (cs := #[.string a2_0, .string a2_1, .string a2_2, .string a2_3, .int .i64 a2_4, .bool a2_5]) (t := 25) ?hr ?_; (case hd => rfl); (case hg => rfl); (case hr => exact qC); intro gb282 hg w8 hbox hb; have n0_ := qb.mk (qd qz hb); have n1_ := qb.mk (hbox); have n2_ := qb.mk ((Z66 : w.heap.size ≤ gb282)); have n3_ := n2_; clear HB; have HB := n0_; have BK282 := n1_; have GW282 := n2_; have GE282 := n3_; clear n0_ n1_ n2_ n3_; clear hb hbox hg; obtain ⟨yc9_0, yc9_1, yc9_2, yc9_3, yc9_4, yc9_5, yf9_0, yf9_1, yf9_2, yf9_3, yf9_4, yf9_5⟩ := bf6 BK282.out) | ((with_reducible refine qg (f := 22) rfl ?_); refine goesL_ (some 15) rfl rfl Tryz.func22 (by kernel_rfl) rfl #[.slice A0 l0.length c0, .slice A1 l1.length c1, .agg #[.string a2_0, .string a2_1, .string a2_2, .string a2_3, .int .i64 a2_4, .bool a2_5]] rfl Z61 ?_; (with_reducible refine (partner_askedFault.calls k _ _ l0 _ _ l1 a2_0 a2_1 a2_2 a2_3 a2_4 a2_5 t283 _ ?side1 ?side2 ?side3 ?side4 A4.out).mono ?_); (case side1 => exact Z62); (case side2 => exact Z158); (case side3 => exact Z63); (case side4 => exact Z159); rintro e w10 ⟨rfl, hb⟩; refine ⟨_, rfl, ?_⟩; have n0_ := bb BK282 hb; have n1_ := qb.mk (qd Z91 hb); clear BK282 HB; have BK282 := n0_; have HB := n1_; clear n0_ n1_; (try clear hb); (try clear hb2); (try clear hk); (try clear hi); obtain ⟨yc11_0, yc11_1, yc11_2, yc11_3, yc11_4, yc11_5, yf11_0, yf11_1, yf11_2, yf11_3, yf11_4, yf11_5⟩ := bf6 BK282.out) | ((with_reducible refine qg (f := 23) rfl ?_); refine goesL_ (some 21) rfl rfl Tryz.func23 (by kernel_rfl) rfl #[.slice A1 l1.length c1, .agg #[.string a2_0, .string a2_1, .string a2_2, .string a2_3, .int .i64 a2_4, .bool a2_5]] rfl Z61 ?_; (with_reducible refine (partner_find.calls k _ _ l1 a2_0 a2_1 a2_2 a2_3 a2_4 a2_5 t284 _ ?side1 ?side2 A6.out).mono ?_); (case side1 => exact Z63); (case side2 => exact Z159); rintro e w12 ⟨rfl, hb⟩; refine ⟨_, rfl, ?_⟩; have n0_ := bb BK282 hb; have n1_ := qb.mk (qd Z91 hb); clear BK282 HB; have BK282 := n0_; have HB := n1_; clear n0_ n1_; (try clear hb); (try clear hb2); (try clear hk); (try clear hi)))
  go_ret2
  exact ⟨Z97, Z91⟩
 rw [if_neg c7] at H
 have c7b0 : decide (t284 < 0) = false := decide_eq_false c7
 clear c7
 replace H := Option.bind_eq_some_iff.mp H
 obtain ⟨t285, A130, H⟩ := H
 replace H : (if 1 ≤ (t285.length : Int) then ((some (t285.drop (1 : Int).toNat : List Int)).bind fun y288 => (partner_Until.l0 k l1 t284 y288 (y288.length : Int) 0 a2_0 a2_1 a2_2 a2_3 a2_4 a2_5)) else (none)) = some (r1, r2) := H
 have A13 := qb.mk A130
 clear A130
 by_cases c14 : 1 ≤ (t285.length : Int)
 case neg =>
  rw [if_neg c14] at H
  exact absurd H (by simp)
 rw [if_pos c14] at H
 have c14b0 := eq_true c14
 have c14b1 : decide (1 ≤ (t285.length : Int)) = true := decide_eq_true c14
 clear c14
 obtain ⟨y288, hy288⟩ : ∃ y_ : List Int, y_ = (t285.drop (1 : Int).toNat) := ⟨_, rfl⟩
 replace H : (partner_Until.l0 k l1 t284 y288 (y288.length : Int) 0 a2_0 a2_1 a2_2 a2_3 a2_4 a2_5) = some (r1, r2) := by first | (rw [hy288]; with_reducible exact H) | (have H2_ := (Option.bind_some _ _).symm.trans H; rw [hy288]; with_reducible exact H2_) | (have H2_ := (Option.bind_some _ _).symm.trans H; with_reducible exact H2_) | with_reducible exact H | (rw [hy288]; exact H) | exact H
 have Ny288 := qb.mk hy288
 clear hy288
 have H' := qb.mk H
 clear H
 go_enter Tryz.func6, Tryz.ntmps6
 go_wp2_with (first | ((with_reducible refine qi (N := 5) rfl ?_); refine qh ?hg (N := 5) ?hd (cs := #[.string a2_0, .string a2_1, .string a2_2, .string a2_3, .int .i64 a2_4, .bool a2_5]) (t := 25) ?hr ?_; (case hd => rfl); (case hg => rfl); (case hr => exact qC); intro gb282 hg w15 hbox hb; have n0_ := qb.mk (qd qz hb); have n1_ := qb.mk (hbox); have n2_ := qb.mk ((Z66 : w.heap.size ≤ gb282)); have n3_ := n2_; clear HB; have HB := n0_; have BK282 := n1_; have GW282 := n2_; have GE282 := n3_; clear n0_ n1_ n2_ n3_; clear hb hbox hg; obtain ⟨yc16_0, yc16_1, yc16_2, yc16_3, yc16_4, yc16_5, yf16_0, yf16_1, yf16_2, yf16_3, yf16_4, yf16_5⟩ := bf6 BK282.out) | ((with_reducible refine qg (f := 22) rfl ?_); refine goesL_ (some 15) rfl rfl Tryz.func22 (by kernel_rfl) rfl #[.slice A0 l0.length c0, .slice A1 l1.length c1, .agg #[.string a2_0, .string a2_1, .string a2_2, .string a2_3, .int .i64 a2_4, .bool a2_5]] rfl Z61 ?_; (with_reducible refine (partner_askedFault.calls k _ _ l0 _ _ l1 a2_0 a2_1 a2_2 a2_3 a2_4 a2_5 t283 _ ?side1 ?side2 ?side3 ?side4 A4.out).mono ?_); (case side1 => exact Z62); (case side2 => exact Z158); (case side3 => exact Z63); (case side4 => exact Z159); rintro e w17 ⟨rfl, hb⟩; refine ⟨_, rfl, ?_⟩; have n0_ := bb BK282 hb; have n1_ := qb.mk (qd Z91 hb); clear BK282 HB; have BK282 := n0_; have HB := n1_; clear n0_ n1_; (try clear hb); (try clear hb2); (try clear hk); (try clear hi); obtain ⟨yc18_0, yc18_1, yc18_2, yc18_3, yc18_4, yc18_5, yf18_0, yf18_1, yf18_2, yf18_3, yf18_4, yf18_5⟩ := bf6 BK282.out) | ((with_reducible refine qg (f := 23) rfl ?_); refine goesL_ (some 21) rfl rfl Tryz.func23 (by kernel_rfl) rfl #[.slice A1 l1.length c1, .agg #[.string a2_0, .string a2_1, .string a2_2, .string a2_3, .int .i64 a2_4, .bool a2_5]] rfl Z61 ?_; (with_reducible refine (partner_find.calls k _ _ l1 a2_0 a2_1 a2_2 a2_3 a2_4 a2_5 t284 _ ?side1 ?side2 A6.out).mono ?_); (case side1 => exact Z63); (case side2 => exact Z159); rintro e w19 ⟨rfl, hb⟩; refine ⟨_, rfl, ?_⟩; have n0_ := bb BK282 hb; have n1_ := qb.mk (qd Z91 hb); clear BK282 HB; have BK282 := n0_; have HB := n1_; clear n0_ n1_; (try clear hb); (try clear hb2); (try clear hk); (try clear hi); obtain ⟨yc20_0, yc20_1, yc20_2, yc20_3, yc20_4, yc20_5, yf20_0, yf20_1, yf20_2, yf20_3, yf20_4, yf20_5⟩ := bf6 BK282.out) | ((with_reducible refine qg (f := 24) rfl ?_); refine goesL_ (some 27) rfl rfl Tryz.func24 (by kernel_rfl) rfl #[.slice A1 l1.length c1, .int .i64 a2_4] rfl Z61 ?_; (with_reducible refine (partner_changes.calls k _ _ l1 a2_4 t285 _ ?side1 ?side2 A13.out).mono ?_); (case side1 => exact Z63); (case side2 => exact Z159); rintro e w21 ⟨v286, rfl, ho0, hb⟩; refine ⟨_, rfl, ?_⟩; have n0_ := qb.mk (Kd.R_lower ho0 (qx Z91)); have n1_ := bb BK282 hb; have n2_ := qb.mk (qd Z91 hb); clear BK282 HB; have HO287 := n0_; have BK282 := n1_; have HB := n2_; clear n0_ n1_ n2_; (try clear hb); (try clear hb2); (try clear hk); (try clear hi); (try clear ho0); obtain ⟨Ao22, co22, eo22⟩ := Kd.R_slice HO287.out; subst eo22; have q23 : (1 : Int) ≤ ((t285.length : Int) : Int) := of_decide_eq_true qB; obtain ⟨i023, hi023, _, hsz23, _⟩ := info_parts info3; have hcut23 := cut_from (P := Tryz.prog) 29 3 .i64 Tryz.underlying29 hi023 1 hsz23 Ao22 t285.length co22 1 (by omega) q23; have hr23 := Kd.Q_drop (k := (1 : Int).toNat) (Kd.Q_of_R HO287.out) (by omega); obtain ⟨A23, hA23⟩ : ∃ A1, A1 = (if co22 = (1 : Int).toNat then Ao22 else (Ao22 : Option Addr).map (·.add ((1 : Int).toNat * 1))) := ⟨_, rfl⟩; obtain ⟨c23, hc23⟩ : ∃ c1, c1 = co22 - (1 : Int).toNat := ⟨_, rfl⟩; have hy23 : y288.length = t285.length - (1 : Int).toNat := (by rw [Ny288.out, List.length_drop]); rw [← Ny288.out] at hr23; rw [← hy23, ← hA23, ← hc23] at hcut23; replace hr23 : Kd.Q (Kd.int .i64) 3 w21 w.heap.size (fun _ => True) (.slice A23 y288.length c23) y288 := (by rw [hA23, hc23, hy23]; exact hr23); have HE23 : qb ((Value.slice A23 y288.length c23).ownBlock = (.slice Ao22 t285.length co22 : Value).ownBlock) := ⟨by rw [hA23]; split <;> (cases (Ao22 : Option Addr) <;> rfl)⟩; clear hy23 hi023 hsz23 HO287 hA23 hc23; have HO290 := qb.mk hr23; clear hr23; replace q23 := eq_true q23))
 go_loopg [30] k (fun kq v30 w' => ∃ (x30_1 : Int) (x283004_1 : Int), v30 = .int .i64 x30_1 ∧ qb (partner_Until.l0 kq l1 t284 y288 (y288.length : Int) x30_1 a2_0 a2_1 a2_2 a2_3 x283004_1 a2_5 = some (r1, r2)) ∧ qb (kq ≤ k) ∧ qb (Kd.Q (Kd.int .i64) 3 w' w.heap.size (fun _ => True) (.slice A23 y288.length c23) y288) ∧ qb (w'.heap[gb282]? = some (.cells #[.string a2_0, .string a2_1, .string a2_2, .string a2_3, .int .i64 x283004_1, .bool a2_5] 25 (0, 0))) ∧ qb (Below w.heap.size w w'))
 case atStart => exact ⟨(0), (a2_4), qD, H', ⟨Nat.le_refl _⟩, ⟨by (with_reducible repeat (first | apply Kd.Q_alloc | apply Kd.Q_drewN | apply Kd.Q_drew)); exact HO290.out⟩, ⟨by (with_reducible repeat (first | refine qn ?_ _ | refine qm ?_ | refine ql ?_ _)); exact BK282.out⟩, ⟨Z91⟩⟩
 case round =>
  clear H'
  try clear c1; try clear c2; try clear p2; try clear q2; try clear c5; try clear c5b0; try clear c5b1; try clear c6; try clear c7; try clear c7b0; try clear c14; try clear c14b0; try clear c14b1; try clear c22; try clear c23; try clear q23 q23; try clear yc11_0 yc11_1 yc11_2 yc11_3 yc11_4 yc11_5 yf11_0 yf11_1 yf11_2 yf11_3 yf11_4 yf11_5; try clear yc16_0 yc16_1 yc16_2 yc16_3 yc16_4 yc16_5 yf16_0 yf16_1 yf16_2 yf16_3 yf16_4 yf16_5; try clear yc18_0 yc18_1 yc18_2 yc18_3 yc18_4 yc18_5 yf18_0 yf18_1 yf18_2 yf18_3 yf18_4 yf18_5; try clear yc20_0 yc20_1 yc20_2 yc20_3 yc20_4 yc20_5 yf20_0 yf20_1 yf20_2 yf20_3 yf20_4 yf20_5; try clear yc9_0 yc9_1 yc9_2 yc9_3 yc9_4 yc9_5 yf9_0 yf9_1 yf9_2 yf9_3 yf9_4 yf9_5
  obtain ⟨x30_1, x283004_1, rfl, HA, HK1, HO_28, BK282, HB⟩ := hrel
  cases gk with
  | zero => exact absurd HA.out (by simp [partner_Until.l0])
  | succ k1 =>
   have H := HA.out
   clear HA
   simp only [partner_Until.l0] at H
   by_cases c24 : x30_1 < (y288.length : Int)
   case neg =>
    rw [if_neg c24] at H
    have c24b0 : decide (x30_1 < (y288.length : Int)) = false := decide_eq_false c24
    clear c24
    simp only [Option.some.injEq, Prod.mk.injEq] at H
    obtain ⟨rfl, rfl⟩ := H
    go_wp2
    go_ret2
    exact ⟨Z97, Z91⟩
   rw [if_pos c24] at H
   have c24b0 : decide (x30_1 < (y288.length : Int)) = true := decide_eq_true c24
   clear c24
   by_cases c25 : 0 ≤ x30_1
   case neg =>
    rw [if_neg c25] at H
    exact absurd H (by simp)
   rw [if_pos c25] at H
   have c25b0 : decide (0 ≤ x30_1) = true := decide_eq_true c25
   clear c25
   by_cases c26 : x30_1 < (y288.length : Int)
   case neg =>
    rw [if_neg c26] at H
    exact absurd H (by simp)
   rw [if_pos c26] at H
   have c26b0 : decide (x30_1 < (y288.length : Int)) = true := decide_eq_true c26
   clear c26
   replace H := Option.bind_eq_some_iff.mp H
   obtain ⟨t292, A270, H⟩ := H
   replace H : (if t292 = t284 then (partner_Until.l0 k1 l1 t284 y288 (y288.length : Int) (wrap64 (x30_1 + 1)) a2_0 a2_1 a2_2 a2_3 (rd y288 x30_1) a2_5) else (some (wrap64 ((rd y288 x30_1) - 1), 0))) = some (r1, r2) := H
   have A27 := qb.mk A270
   clear A270
   by_cases c28 : t292 = t284
   case neg =>
    rw [if_neg c28] at H
    have c28b0 : (t292 == t284) = false := beq_eq_false_iff_ne.mpr c28
    have c28b1 : (t292 != t284) = true := bne_iff_ne.mpr c28
    simp only [Option.some.injEq, Prod.mk.injEq] at H
    obtain ⟨rfl, rfl⟩ := H
    have p291 : 0 ≤ (x30_1 : Int) := of_decide_eq_true qB
    have q291 : x30_1 < (y288.length : Int) := of_decide_eq_true qB
    obtain ⟨ad291, e291, hx291_0⟩ := Kd.at_int (Kd.Q_reads' HO_28.out).2.2 x30_1 p291 q291
    cases e291
    replace p291 := eq_true p291
    replace q291 := eq_true q291
    have yc31_0 : wr.cell? ⟨gb282, 0, none⟩ = some (.string a2_0) := (qc BK282.out 0).trans rfl
    have yc31_1 : wr.cell? ⟨gb282, 1, none⟩ = some (.string a2_1) := (qc BK282.out 1).trans rfl
    have yc31_2 : wr.cell? ⟨gb282, 2, none⟩ = some (.string a2_2) := (qc BK282.out 2).trans rfl
    have yc31_3 : wr.cell? ⟨gb282, 3, none⟩ = some (.string a2_3) := (qc BK282.out 3).trans rfl
    have yc31_4 : wr.cell? ⟨gb282, 4, none⟩ = some (.int .i64 x283004_1) := (qc BK282.out 4).trans rfl
    have yc31_5 : wr.cell? ⟨gb282, 5, none⟩ = some (.bool a2_5) := (qc BK282.out 5).trans rfl
    have yf31_0 := qe BK282.out 0
    have yf31_1 := qe BK282.out 1
    have yf31_2 := qe BK282.out 2
    have yf31_3 := qe BK282.out 3
    have yf31_4 := qe BK282.out 4
    have yf31_5 := qe BK282.out 5
    go_wp2_with (first | ((with_reducible refine qg (f := 23) rfl ?_); refine goesL_ (some 38) rfl rfl Tryz.func23 (by kernel_rfl) rfl #[.slice A1 l1.length c1, .agg #[.string a2_0, .string a2_1, .string a2_2, .string a2_3, .int .i64 (rd y288 x30_1), .bool a2_5]] rfl Z61 ?_; (with_reducible refine (partner_find.calls k1 _ _ l1 a2_0 a2_1 a2_2 a2_3 (rd y288 x30_1) a2_5 t292 _ ?side1 ?side2 A27.out).mono ?_); (case side1 => exact Kd.C_below HR1.out Z91); (case side2 => exact Z159); rintro e w32 ⟨rfl, hb⟩; refine ⟨_, rfl, ?_⟩; have n0_ := qb.mk (Kd.Q_below Z15 hb); have n1_ := qb.mk (qw (g := gb282) (o := .cells #[.string a2_0, .string a2_1, .string a2_2, .string a2_3, .int .i64 (rd y288 x30_1), .bool a2_5] 25 (0, 0)) Z12 hb); have n2_ := qb.mk (qd Z91 hb); clear HO_28 BK282 HB; have HO_28 := n0_; have BK282 := n1_; have HB := n2_; clear n0_ n1_ n2_; (try clear hb); (try clear hb2); (try clear hk); (try clear hi)))
    go_ret2
    exact ⟨Z97, Z91⟩
   rw [if_pos c28] at H
   have c28b0 : (t292 == t284) = true := beq_iff_eq.mpr c28
   have c28b1 : (t292 != t284) = false := bne_eq_false_iff_eq.mpr c28
   clear c28
   have H' := qb.mk H
   clear H
   have p291 : 0 ≤ (x30_1 : Int) := of_decide_eq_true qB
   have q291 : x30_1 < (y288.length : Int) := of_decide_eq_true qB
   obtain ⟨ad291, e291, hx291_0⟩ := Kd.at_int (Kd.Q_reads' HO_28.out).2.2 x30_1 p291 q291
   cases e291
   replace p291 := eq_true p291
   replace q291 := eq_true q291
   have yc29_0 : wr.cell? ⟨gb282, 0, none⟩ = some (.string a2_0) := (qc BK282.out 0).trans rfl
   have yc29_1 : wr.cell? ⟨gb282, 1, none⟩ = some (.string a2_1) := (qc BK282.out 1).trans rfl
   have yc29_2 : wr.cell? ⟨gb282, 2, none⟩ = some (.string a2_2) := (qc BK282.out 2).trans rfl
   have yc29_3 : wr.cell? ⟨gb282, 3, none⟩ = some (.string a2_3) := (qc BK282.out 3).trans rfl
   have yc29_4 : wr.cell? ⟨gb282, 4, none⟩ = some (.int .i64 x283004_1) := (qc BK282.out 4).trans rfl
   have yc29_5 : wr.cell? ⟨gb282, 5, none⟩ = some (.bool a2_5) := (qc BK282.out 5).trans rfl
   have yf29_0 := qe BK282.out 0
   have yf29_1 := qe BK282.out 1
   have yf29_2 := qe BK282.out 2
   have yf29_3 := qe BK282.out 3
   have yf29_4 := qe BK282.out 4
   have yf29_5 := qe BK282.out 5
   go_wp2_with (first | ((with_reducible refine qg (f := 23) rfl ?_); refine goesL_ (some 38) rfl rfl Tryz.func23 (by kernel_rfl) rfl #[.slice A1 l1.length c1, .agg #[.string a2_0, .string a2_1, .string a2_2, .string a2_3, .int .i64 (rd y288 x30_1), .bool a2_5]] rfl Z61 ?_; (with_reducible refine (partner_find.calls k1 _ _ l1 a2_0 a2_1 a2_2 a2_3 (rd y288 x30_1) a2_5 t292 _ ?side1 ?side2 A27.out).mono ?_); (case side1 => exact Kd.C_below HR1.out Z91); (case side2 => exact Z159); rintro e w30 ⟨rfl, hb⟩; refine ⟨_, rfl, ?_⟩; have n0_ := qb.mk (Kd.Q_below Z15 hb); have n1_ := qb.mk (qw (g := gb282) (o := .cells #[.string a2_0, .string a2_1, .string a2_2, .string a2_3, .int .i64 (rd y288 x30_1), .bool a2_5] 25 (0, 0)) Z12 hb); have n2_ := qb.mk (qd Z91 hb); clear HO_28 BK282 HB; have HO_28 := n0_; have BK282 := n1_; have HB := n2_; clear n0_ n1_ n2_; (try clear hb); (try clear hb2); (try clear hk); (try clear hi)))
   go_roundg k1
   case measure => have := HK1.out; omega
   case rel => exact ⟨(wrap64 (x30_1 + 1)), (rd y288 x30_1), qD, H', ⟨Z157⟩, ⟨by (with_reducible repeat (first | apply Kd.Q_alloc | apply Kd.Q_drewN | apply Kd.Q_drew)); exact HO_28.out⟩, ⟨by (with_reducible repeat (first | refine qn ?_ _ | refine qm ?_ | refine ql ?_ _)); exact BK282.out⟩, ⟨Z91⟩⟩
/-! ### slices_Clone_string_string: function 99 -/
def slices_Clone_string_string.f (l0 : List ByteArray) : Option (List ByteArray) := if l0.length * 16 ≤ 140737488355328 then some l0 else none
theorem slices_Clone_string_string.calls (A0 : Option Addr) (c0 : Nat) (l0 : List ByteArray) (r : List ByteArray) (w : World) (hr0 : Kd.C Kd.string w A0 l0.length l0) (hc0 : l0.length ≤ c0) (h : slices_Clone_string_string.f l0 = some r) :
  Calls Tryz.prog 99 #[.slice A0 l0.length c0] w fun e w' => ∃ v0_ : Value, e = .returned (v0_) ∧ Kd.R Kd.string 9 w' w.heap.size (fun _ => True) v0_ r ∧ Below w.heap.size w w' := by
 unfold slices_Clone_string_string.f at h
 split at h
 ·rename_i hlen
  obtain rfl := Option.some.inj h
  rcases Nat.eq_zero_or_pos l0.length with hz | hpos
  ·have hn' : l0 = [] := List.length_eq_zero_iff.1 hz
   subst hn'
   cases A0 with
   | none =>
    refine (Tryz.slices_Clone_string_nil 0 c0 w).mono ?_
    rintro e w' ⟨rfl, rfl⟩
    exact ⟨_, rfl, Kd.R_nil _ _ _ _ _, Below.refl _ _⟩
   | some a =>
    refine (Tryz.slices_Clone_string_zero a c0 w).mono ?_
    rintro e w' ⟨v, rfl, ho, _, hb⟩
    exact ⟨v, rfl, R_strs.2 ⟨fun _ _ => trivial, ho⟩, hb⟩
  ·obtain ⟨b, off, rfl, hcells⟩ := C_strs hr0 hpos
   refine (Tryz.slices_Clone_string b off l0.length c0 l0 w (Nat.le_refl _) hlen (fun j hj => by
    have := hcells j hj
    by_cases h0 : j = 0
    case pos =>
     subst h0; simpa using this
    simpa [h0] using this)).mono ?_
   rintro e w' ⟨v, rfl, ho, _, hb⟩
   rw [List.take_length] at ho
   exact ⟨v, rfl, R_strs.2 ⟨fun _ _ => trivial, ho⟩, hb⟩
 ·cases h

/-! ### r8some: function 60 -/
def r8some.f (a0 : ByteArray) (l1 : List ByteArray) : Option (List ByteArray) := if a0.toList = ([] : List UInt8) then ((slices_Clone_string_string.f l1).bind fun t293 => (if t293.length < 8796093022208 then (some (t293 ++ [(⟨#[63]⟩ : ByteArray)])) else (none))) else (some (([a0] : List ByteArray)))
set_option maxHeartbeats 8000000 in
set_option maxRecDepth 100000 in
theorem r8some.calls (a0 : ByteArray) (A1 : Option Addr) (c1 : Nat) (l1 : List ByteArray) (r : List ByteArray) (w : World) (hr1 : Kd.C Kd.string w A1 l1.length l1) (hc1 : l1.length ≤ c1) (h : r8some.f a0 l1 = some r) :
  Calls Tryz.prog 60 #[.string a0, .slice A1 l1.length c1] w fun e w' => ∃ v0_ : Value, e = .returned (v0_) ∧ Kd.R Kd.string 9 w' w.heap.size (fun _ => True) v0_ r ∧ Below w.heap.size w w' := by
 have HR1 := qb.mk hr1
 have HC1 := qb.mk hc1
 clear hr1 hc1
 have HB := qb.mk (Below.refl w.heap.size w)
 have H : (if a0.toList = ([] : List UInt8) then ((slices_Clone_string_string.f l1).bind fun t293 => (if t293.length < 8796093022208 then (some (t293 ++ [(⟨#[63]⟩ : ByteArray)])) else (none))) else (some (([a0] : List ByteArray)))) = some r := h
 clear h
 by_cases c3 : a0.toList = ([] : List UInt8)
 case neg =>
  rw [if_neg c3] at H
  have c3b0 : (a0.toList == ([] : List UInt8)) = false := beq_eq_false_iff_ne.mpr c3
  have c3b1 : (a0.toList != ([] : List UInt8)) = true := bne_iff_ne.mpr c3
  obtain ⟨y299, hy299⟩ : ∃ y_ : List ByteArray, y_ = (([a0] : List ByteArray)) := ⟨_, rfl⟩
  replace H : (some y299) = some r := by first | (rw [hy299]; with_reducible exact H) | (have H2_ := (Option.bind_some _ _).symm.trans H; rw [hy299]; with_reducible exact H2_) | (have H2_ := (Option.bind_some _ _).symm.trans H; with_reducible exact H2_) | with_reducible exact H | (rw [hy299]; exact H) | exact H
  have Ny299 := qb.mk hy299
  clear hy299
  obtain rfl := Option.some.inj H
  go_enter Tryz.func60, Tryz.ntmps60
  go_wp2_with (first | ((with_reducible refine qi (N := 8) rfl ?_); refine Kd.R_lit Kd.string _ 9 ?hg (N := 8) ?hd (xs := ([a0] : List ByteArray)) (inner := [.string a0]) (ok := fun _ => True) (okp := fun _ => True) ?hr ?hp (fun _ hk => hk) trivial (Below.refl _ _) (Nat.le_refl _) (by simp) ?_; (case hd => rfl); (case hg => rfl); (case hr => exact qC); (case hp => exact (Reps.one (show Kd.M Kd.string _ _ _ a0 [.string a0] from rfl) (Reps.none _ _))); intro v300 w8 ho9 hb hg_ hnew_; clear hg_ hnew_; (first | rw [← Ny299.out] at ho9 | (simp only [Int.reduceToNat] at ho9; rw [← Ny299.out] at ho9)); have n0_ := qb.mk (Kd.R_lower ho9 (qx qz)); have n1_ := qb.mk (qd qz hb); clear HB; have HO301 := n0_; have HB := n1_; clear n0_ n1_; clear hb ho9))
  go_ret
  exact ⟨_, Z97, by (with_reducible repeat (first | apply Kd.R_alloc | apply Kd.R_drewN | apply Kd.R_drew)); exact HO301.out, qz⟩

 rw [if_pos c3] at H
 have c3b0 : (a0.toList == ([] : List UInt8)) = true := beq_iff_eq.mpr c3
 have c3b1 : (a0.toList != ([] : List UInt8)) = false := bne_eq_false_iff_eq.mpr c3
 clear c3
 replace H := Option.bind_eq_some_iff.mp H
 obtain ⟨t293, A40, H⟩ := H
 replace H : (if t293.length < 8796093022208 then (some (t293 ++ [(⟨#[63]⟩ : ByteArray)])) else (none)) = some r := H
 have A4 := qb.mk A40
 clear A40
 by_cases c5 : t293.length < 8796093022208
 case neg =>
  rw [if_neg c5] at H
  exact absurd H (by simp)
 rw [if_pos c5] at H
 have LMc5 := qb.mk c5
 clear c5
 obtain ⟨y296, hy296⟩ : ∃ y_ : List ByteArray, y_ = (t293 ++ [(⟨#[63]⟩ : ByteArray)]) := ⟨_, rfl⟩
 replace H : (some y296) = some r := by first | (rw [hy296]; with_reducible exact H) | (have H2_ := (Option.bind_some _ _).symm.trans H; rw [hy296]; with_reducible exact H2_) | (have H2_ := (Option.bind_some _ _).symm.trans H; with_reducible exact H2_) | with_reducible exact H | (rw [hy296]; exact H) | exact H
 have Ny296 := qb.mk hy296
 clear hy296
 obtain rfl := Option.some.inj H
 go_enter Tryz.func60, Tryz.ntmps60
 go_wp2_with (first | ((with_reducible refine qg (f := 99) rfl ?_); refine goesL_ (some 10) rfl rfl Tryz.func99 (by kernel_rfl) rfl #[.slice A1 l1.length c1] rfl Z61 ?_; (with_reducible refine (slices_Clone_string_string.calls _ _ l1 t293 _ ?side1 ?side2 A4.out).mono ?_); (case side1 => exact Z99); (case side2 => exact Z159); rintro e w6 ⟨v294, rfl, ho0, hb⟩; refine ⟨_, rfl, ?_⟩; have n0_ := qb.mk (Kd.R_lower ho0 (qx qz)); have n1_ := qb.mk (qd qz hb); clear HB; have HO295 := n0_; have HB := n1_; clear n0_ n1_; (try clear hb); (try clear hb2); (try clear hk); (try clear hi); (try clear ho0)) | ((with_reducible refine gate_builtin (b := .append) (xs := #[.tmp 10, .tmp 11]) rfl ?_); at_builtin; refine Kd.R_append Kd.string (w0 := w) w.heap.size rfl (.tmp 10) (.tmp 11) 70 9 (.string ⟨#[]⟩) 16 rfl Tryz.underlying70 info9 rfl (by decide) (by omega) v294 t293 (⟨#[63]⟩ : ByteArray) [.string (⟨#[63]⟩ : ByteArray)] (fun _ => True) (fun _ => False) rfl rfl ?aP (fun _ hk => hk.elim) ?aF ?aO ?aB ?aS ?aL ?_; (case aP => exact rfl); (case aB => exact qz); (case aF => exact (fun _ _ => trivial)); (case aO => exact (by (with_reducible repeat (first | apply Kd.R_alloc | apply Kd.R_drewN | apply Kd.R_drew)); exact HO295.out)); (case aS => exact (qx qz)); (case aL => have := LMc5.out; omega); intro v297 w7 ho hb hg hat; rw [← Ny296.out] at ho; have n0_ := qb.mk (hb); have n1_ := qb.mk (ho); clear HB HO295; have HB := n0_; have HO298 := n1_; clear n0_ n1_; clear ho hb hg hat))
 go_ret
 exact ⟨_, Z97, by (with_reducible repeat (first | apply Kd.R_alloc | apply Kd.R_drewN | apply Kd.R_drew)); exact HO298.out, qz⟩
end Go.Proofs.YtmmknokdgbgjgaaGreatDoor.XPartnerDaysMatchSpec
