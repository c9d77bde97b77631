-- Walks of PartnerDaysMatchSpec: written by xprint.py out of the translation (hand-proved functions among them). Lean checks it.
import Derived.Test.YtmmknokdgbgjgaaGreatDoorXPartnerDaysMatchSpecx0
import Derived.Test.YtmmknokdgbgjgaaGreatDoorXPartnerDaysMatchSpecx2
import Derived.Test.YtmmknokdgbgjgaaGreatDoorXPartnerDaysMatchSpecx10
namespace Go.Proofs.YtmmknokdgbgjgaaGreatDoor.XPartnerDaysMatchSpec
open Go.RowKit Go.Proofs.YtmmknokdgbgjgaaGreatDoorW.PrintWords Go.Proofs.YtmmknokdgbgjgaaGreatDoorW.PrintLast Go.Proofs.YtmmknokdgbgjgaaGreatDoorW.PrintMore
attribute [local go_sem] max2_int min2_int max_two min_two max_three min_three max_four min_four   -- for this text's walks alone
set_option linter.unusedVariables false
set_option linter.unusedSimpArgs false

/-! ### partner_CheckPartners: function 61 -/
mutual
def partner_CheckPartners.l0 : Nat → List (S110) → List (S119) → List (S110) → Int → Int → Option (Int)
 | 0, _, _, _, _, _ => none
 | k + 1, x0, x3, x13, x14, x15 => if x15 < x14 then (if 0 ≤ x15 then (if x15 < (x13.length : Int) then ((kit_IsName.f ((qf x13 x15).f0)).bind fun t209 => (if t209 = true then (if x15 > 0 then (if 0 ≤ (wrap64 (x15 - 1)) then (if (wrap64 (x15 - 1)) < (x0.length : Int) then (partner_CheckPartners.j1 k x0 x3 x13 x14 x15 (!(Op.bytesLess (((qf x0 (wrap64 (x15 - 1))).f0).toList) (((qf x13 x15).f0).toList))) ((qf x13 x15).f0) ((qf x13 x15).f1)) else (none)) else (none)) else (partner_CheckPartners.j1 k x0 x3 x13 x14 x15 false ((qf x13 x15).f0) ((qf x13 x15).f1))) else (some 5))) else (none)) else (none)) else (some 0)
def partner_CheckPartners.j1 : Nat → List (S110) → List (S119) → List (S110) → Int → Int → Bool → ByteArray → List (S119) → Option (Int)
 | 0, _, _, _, _, _, _, _, _ => none
 | k + 1, x0, x3, x13, x14, x15, x25, x209000, x209001 => if x25 = true then (some 8) else (if (x209001.length : Int) > 10 then (some 2) else (partner_CheckPartners.l1 k x0 x3 x13 x14 x15 x209001 (x209001.length : Int) 0))
def partner_CheckPartners.l1 : Nat → List (S110) → List (S119) → List (S110) → Int → Int → List (S119) → Int → Int → Option (Int)
 | 0, _, _, _, _, _, _, _, _ => none
 | k + 1, x0, x3, x13, x14, x15, x45, x46, x47 => if x47 < x46 then (if 0 ≤ x47 then (if x47 < (x45.length : Int) then ((partner_addressFault.f k ((qk x45 x47).f0) ((qk x45 x47).f1)).bind fun t213 => (if t213 = 0 then ((map_has_adr.f x3 ((qk x45 x47).f0) ((qk x45 x47).f1)).bind fun bt214 => (if bt214.1 = true then (some 7) else ((map_put_adr.f bt214.2 ((qk x45 x47).f0) ((qk x45 x47).f1)).bind fun t216 => (partner_CheckPartners.l1 k x0 t216 x13 x14 x15 x45 x46 (wrap64 (x47 + 1)))))) else (some t213))) else (none)) else (none)) else (partner_CheckPartners.l0 k x0 x3 x13 x14 (wrap64 (x15 + 1)))
end
def partner_CheckPartners.f (k : Nat) (l0 : List (S110)) : Option (Int) := if (l0.length : Int) > 200 then (some 2) else ((map_mk_adr.f).bind fun t204 => (partner_CheckPartners.l0 k l0 t204 l0 (l0.length : Int) 0))
theorem partner_CheckPartners.mono_l : ∀ k, (∀ y0 y1 y2 y3 y4, qv (partner_CheckPartners.l0 k y0 y1 y2 y3 y4) (partner_CheckPartners.l0 (k + 1) y0 y1 y2 y3 y4)) ∧ (∀ y0 y1 y2 y3 y4 y5 y6 y7, qv (partner_CheckPartners.j1 k y0 y1 y2 y3 y4 y5 y6 y7) (partner_CheckPartners.j1 (k + 1) y0 y1 y2 y3 y4 y5 y6 y7)) ∧ (∀ y0 y1 y2 y3 y4 y5 y6 y7, qv (partner_CheckPartners.l1 k y0 y1 y2 y3 y4 y5 y6 y7) (partner_CheckPartners.l1 (k + 1) y0 y1 y2 y3 y4 y5 y6 y7))
 | 0 => ⟨fun _ _ _ _ _ r h => by simp [partner_CheckPartners.l0] at h, fun _ _ _ _ _ _ _ _ r h => by simp [partner_CheckPartners.j1] at h, fun _ _ _ _ _ _ _ _ r h => by simp [partner_CheckPartners.l1] at h⟩
 | k + 1 => by
  obtain ⟨ih0, ih1, ih2⟩ := partner_CheckPartners.mono_l k
  refine ⟨?_, ?_, ?_⟩
  all_goals
   intros
   first | unfold partner_CheckPartners.l0 | unfold partner_CheckPartners.j1 | unfold partner_CheckPartners.l1
   repeat' first
   | (with_reducible apply ih0)
   | (with_reducible apply ih1)
   | (with_reducible apply ih2)
   | (with_reducible apply partner_addressFault.mono)
   | (with_reducible exact qv.refl _)
   | (with_reducible exact qv.none _)
   | (with_reducible refine qv.ite ?_ ?_)
   | (with_reducible refine qv.bind ?_ (fun _ => ?_))
   | apply ih0
   | apply ih1
   | apply ih2
   | apply partner_addressFault.mono
   | exact qv.none _
   | refine qv.ite ?_ ?_
   | refine qv.bind ?_ (fun _ => ?_)
theorem partner_CheckPartners.mono : ∀ a0 k, qv (partner_CheckPartners.f k a0) (partner_CheckPartners.f (k + 1) a0) := by
 intro a0 k
 obtain ⟨ih0, ih1, ih2⟩ := partner_CheckPartners.mono_l k
 unfold partner_CheckPartners.f
 repeat' first
   | (with_reducible apply ih0)
   | (with_reducible apply ih1)
   | (with_reducible apply ih2)
   | (with_reducible apply partner_addressFault.mono)
   | (with_reducible exact qv.refl _)
   | (with_reducible exact qv.none _)
   | (with_reducible refine qv.ite ?_ ?_)
   | (with_reducible refine qv.bind ?_ (fun _ => ?_))
   | apply ih0
   | apply ih1
   | apply ih2
   | apply partner_addressFault.mono
   | exact qv.none _
   | refine qv.ite ?_ ?_
   | refine qv.bind ?_ (fun _ => ?_)
set_option maxHeartbeats 8000000 in
set_option maxRecDepth 100000 in
theorem partner_CheckPartners.calls (k : Nat) (A0 : Option Addr) (c0 : Nat) (l0 : List (S110)) (r : Int) (w : World) (hr0 : Kd.C k110 w A0 l0.length l0) (hc0 : l0.length ≤ c0) (h : partner_CheckPartners.f k l0 = some r) :
  Calls Tryz.prog 61 #[.slice A0 l0.length c0] w fun e w' => e = .returned (.int .i64 r) ∧ Below w.heap.size w w' := by
 have hu110 := Tryz.underlying110
 have hu119 := Tryz.underlying119
 have HR0 := qb.mk hr0
 have HC0 := qb.mk hc0
 clear hr0 hc0
 have HB := qb.mk (Below.refl w.heap.size w)
 have H : (if (l0.length : Int) > 200 then (some 2) else ((map_mk_adr.f).bind fun t204 => (partner_CheckPartners.l0 k l0 t204 l0 (l0.length : Int) 0))) = some r := h
 clear h
 by_cases c2 : (l0.length : Int) > 200
 case pos =>
  rw [if_pos c2] at H
  have c2b0 : decide (200 < (l0.length : Int)) = true := decide_eq_true c2
  have c2b1 : decide (200 < l0.length) = true := decide_eq_true (by omega)
  clear c2
  obtain rfl := Option.some.inj H
  go_enter Tryz.func61, Tryz.ntmps61
  go_wp2
  repeat (go_quiet (fail); try go_wp2)
  go_ret
  exact ⟨Z97, qz⟩
 rw [if_neg c2] at H
 have c2b0 : decide (200 < (l0.length : Int)) = false := decide_eq_false c2
 have c2b1 : decide (200 < l0.length) = false := decide_eq_false (by omega)
 clear c2
 replace H := Option.bind_eq_some_iff.mp H
 obtain ⟨t204, A30, H⟩ := H
 replace H : (partner_CheckPartners.l0 k l0 t204 l0 (l0.length : Int) 0) = some r := H
 have A3 := qb.mk A30
 clear A30
 have H' := qb.mk H
 clear H
 go_enter Tryz.func61, Tryz.ntmps61
 go_wp2_with (first | ((with_reducible refine XMap.mapMk_ rfl rfl ?_); (refine (map_mk_adr.calls  t204 _ A3.out).mono ?_); rintro e w4 ⟨v205, rfl, ho0, hb⟩; refine XMap.ret_of ?_; have n0_ := qb.mk (XMap.R_lower ho0 (qx qz)); have n1_ := qb.mk (qd qz hb); clear HB; have HO206 := n0_; have HB := n1_; clear n0_ n1_; (try clear hb); (try clear hb2); (try clear hk); (try clear hi); (try clear ho0)))
 repeat (go_quiet (first | ((with_reducible refine XMap.mapMk_ rfl rfl ?_); (refine (map_mk_adr.calls  t204 _ A3.out).mono ?_); rintro e w4 ⟨v205, rfl, ho0, hb⟩; refine XMap.ret_of ?_; have n0_ := qb.mk (XMap.R_lower ho0 (qx qz)); have n1_ := qb.mk (qd qz hb); clear HB; have HO206 := n0_; have HB := n1_; clear n0_ n1_; (try clear hb); (try clear hb2); (try clear hk); (try clear hi); (try clear ho0))); try go_wp2_with (first | ((with_reducible refine XMap.mapMk_ rfl rfl ?_); (refine (map_mk_adr.calls  t204 _ A3.out).mono ?_); rintro e w4 ⟨v205, rfl, ho0, hb⟩; refine XMap.ret_of ?_; have n0_ := qb.mk (XMap.R_lower ho0 (qx qz)); have n1_ := qb.mk (qd qz hb); clear HB; have HO206 := n0_; have HB := n1_; clear n0_ n1_; (try clear hb); (try clear hb2); (try clear hk); (try clear hi); (try clear ho0))))
 go_loopg [15] k (fun kq v15 w' => ∃ (x3_1 : List (S119)) (x15_1 : Int), v15 = .int .i64 x15_1 ∧ qb (partner_CheckPartners.l0 kq l0 x3_1 l0 (l0.length : Int) x15_1 = some r) ∧ qb (kq ≤ k) ∧ qb (MpR w' w.heap.size (fun _ => True) v205 x3_1) ∧ qb (Below w.heap.size w w'))
 case atStart => exact ⟨(t204), (0), qD, H', ⟨Nat.le_refl _⟩, ⟨by (with_reducible repeat (first | apply XMap.R_alloc | apply XMap.R_drewN | apply XMap.R_drew)); exact HO206.out⟩, ⟨qz⟩⟩
 case round =>
  clear H'
  try clear c2; try clear c2b0; try clear c2b1; try clear p2
  obtain ⟨x3_1, x15_1, rfl, HA, HK1, HO_3, HB⟩ := hrel
  cases gk with
  | zero => exact absurd HA.out (by simp [partner_CheckPartners.l0])
  | succ k1 =>
   have H := HA.out
   clear HA
   simp only [partner_CheckPartners.l0] at H
   by_cases c5 : x15_1 < (l0.length : Int)
   case neg =>
    rw [if_neg c5] at H
    have c5b0 : decide (x15_1 < (l0.length : Int)) = false := decide_eq_false c5
    clear c5
    obtain rfl := Option.some.inj H
    go_wp2
    repeat (go_quiet (fail); try go_wp2)
    go_ret
    exact ⟨Z97, qz⟩

   rw [if_pos c5] at H
   have c5b0 : decide (x15_1 < (l0.length : Int)) = true := decide_eq_true c5
   clear c5
   by_cases c6 : 0 ≤ x15_1
   case neg =>
    rw [if_neg c6] at H
    exact absurd H (by simp)
   rw [if_pos c6] at H
   have c6b0 : decide (0 ≤ x15_1) = true := decide_eq_true c6
   clear c6
   by_cases c7 : x15_1 < (l0.length : Int)
   case neg =>
    rw [if_neg c7] at H
    exact absurd H (by simp)
   rw [if_pos c7] at H
   have c7b0 : decide (x15_1 < (l0.length : Int)) = true := decide_eq_true c7
   clear c7
   replace H := Option.bind_eq_some_iff.mp H
   obtain ⟨t209, A80, H⟩ := H
   replace H : (if t209 = true then (if x15_1 > 0 then (if 0 ≤ (wrap64 (x15_1 - 1)) then (if (wrap64 (x15_1 - 1)) < (l0.length : Int) then (partner_CheckPartners.j1 k1 l0 x3_1 l0 (l0.length : Int) x15_1 (!(Op.bytesLess (((qf l0 (wrap64 (x15_1 - 1))).f0).toList) (((qf l0 x15_1).f0).toList))) ((qf l0 x15_1).f0) ((qf l0 x15_1).f1)) else (none)) else (none)) else (partner_CheckPartners.j1 k1 l0 x3_1 l0 (l0.length : Int) x15_1 false ((qf l0 x15_1).f0) ((qf l0 x15_1).f1))) else (some 5)) = some r := H
   have A8 := qb.mk A80
   clear A80
   by_cases c9 : t209 = true
   case neg =>
    replace c9 := Bool.eq_false_iff.mpr c9
    subst c9
    have H1 : (some 5) = some r := by rw [if_neg (show ¬ (false = true) by decide)] at H; exact H
    clear H
    have H := H1
    clear H1
    obtain rfl := Option.some.inj H
    have p207 : 0 ≤ (x15_1 : Int) := of_decide_eq_true qB
    have q207 : x15_1 < (l0.length : Int) := of_decide_eq_true qB
    obtain ⟨ad207, A207_1, c207_1, e207, hx207_0, hx207_1, hl207_1, hi207_1⟩ := at_T110 HR0.out x15_1 p207 q207
    cases e207
    replace hx207_0 := bx HB hx207_0
    replace hx207_1 := bx HB hx207_1
    have HR207_1 := qb.mk hi207_1
    have HC207_1 := qb.mk hl207_1
    clear hi207_1 hl207_1
    replace p207 := eq_true p207
    replace q207 := eq_true q207
    go_wp2_with (first | ((with_reducible refine qi (N := 5) rfl ?_); refine qh ?hg (N := 5) ?hd (cs := #[.string (⟨#[]⟩ : ByteArray), .slice none 0 0]) (t := 110) ?hr ?_; (case hd => rfl); (case hg => rfl); (case hr => exact qC); intro gb208 hg w51 hbox hb; have n0_ := qb.mk (XMap.R_below Z120 hb); have n1_ := qb.mk (qd qz hb); have n2_ := qb.mk (hbox); have n3_ := qb.mk ((Z66 : w.heap.size ≤ gb208)); have n4_ := n3_; clear HO_3 HB; have HO_3 := n0_; have HB := n1_; have BK208 := n2_; have GW208 := n3_; have GE208 := n4_; clear n0_ n1_ n2_ n3_ n4_; clear hb hbox hg; obtain ⟨yc52_0, yc52_1, yf52_0, yf52_1⟩ := bf2 BK208.out) | (go_at_call 88; (with_reducible refine (kit_IsName.calls ((qf l0 x15_1).f0) false _ A8.out).mono ?_); rintro e w53 ⟨rfl, hb⟩; have n0_ := qb.mk (XMap.R_below Z10 hb); have n1_ := qb.mk (qw (g := gb208) (o := .cells #[.string ((qf l0 x15_1).f0), .slice A207_1 ((qf l0 x15_1).f1).length c207_1] 110 (0, 0)) Z3 hb); have n2_ := qb.mk (qd Z81 hb); clear HO_3 BK208 HB; have HO_3 := n0_; have BK208 := n1_; have HB := n2_; clear n0_ n1_ n2_; (try clear hb); (try clear hb2); (try clear hk); (try clear hi)))
    repeat (go_quiet (first | ((with_reducible refine qi (N := 5) rfl ?_); refine qh ?hg (N := 5) ?hd (cs := #[.string (⟨#[]⟩ : ByteArray), .slice none 0 0]) (t := 110) ?hr ?_; (case hd => rfl); (case hg => rfl); (case hr => exact qC); intro gb208 hg w51 hbox hb; have n0_ := qb.mk (XMap.R_below Z120 hb); have n1_ := qb.mk (qd qz hb); have n2_ := qb.mk (hbox); have n3_ := qb.mk ((Z66 : w.heap.size ≤ gb208)); have n4_ := n3_; clear HO_3 HB; have HO_3 := n0_; have HB := n1_; have BK208 := n2_; have GW208 := n3_; have GE208 := n4_; clear n0_ n1_ n2_ n3_ n4_; clear hb hbox hg; obtain ⟨yc52_0, yc52_1, yf52_0, yf52_1⟩ := bf2 BK208.out) | (go_at_call 88; (with_reducible refine (kit_IsName.calls ((qf l0 x15_1).f0) false _ A8.out).mono ?_); rintro e w53 ⟨rfl, hb⟩; have n0_ := qb.mk (XMap.R_below Z10 hb); have n1_ := qb.mk (qw (g := gb208) (o := .cells #[.string ((qf l0 x15_1).f0), .slice A207_1 ((qf l0 x15_1).f1).length c207_1] 110 (0, 0)) Z3 hb); have n2_ := qb.mk (qd Z81 hb); clear HO_3 BK208 HB; have HO_3 := n0_; have BK208 := n1_; have HB := n2_; clear n0_ n1_ n2_; (try clear hb); (try clear hb2); (try clear hk); (try clear hi))); try go_wp2_with (first | ((with_reducible refine qi (N := 5) rfl ?_); refine qh ?hg (N := 5) ?hd (cs := #[.string (⟨#[]⟩ : ByteArray), .slice none 0 0]) (t := 110) ?hr ?_; (case hd => rfl); (case hg => rfl); (case hr => exact qC); intro gb208 hg w51 hbox hb; have n0_ := qb.mk (XMap.R_below Z120 hb); have n1_ := qb.mk (qd qz hb); have n2_ := qb.mk (hbox); have n3_ := qb.mk ((Z66 : w.heap.size ≤ gb208)); have n4_ := n3_; clear HO_3 HB; have HO_3 := n0_; have HB := n1_; have BK208 := n2_; have GW208 := n3_; have GE208 := n4_; clear n0_ n1_ n2_ n3_ n4_; clear hb hbox hg; obtain ⟨yc52_0, yc52_1, yf52_0, yf52_1⟩ := bf2 BK208.out) | (go_at_call 88; (with_reducible refine (kit_IsName.calls ((qf l0 x15_1).f0) false _ A8.out).mono ?_); rintro e w53 ⟨rfl, hb⟩; have n0_ := qb.mk (XMap.R_below Z10 hb); have n1_ := qb.mk (qw (g := gb208) (o := .cells #[.string ((qf l0 x15_1).f0), .slice A207_1 ((qf l0 x15_1).f1).length c207_1] 110 (0, 0)) Z3 hb); have n2_ := qb.mk (qd Z81 hb); clear HO_3 BK208 HB; have HO_3 := n0_; have BK208 := n1_; have HB := n2_; clear n0_ n1_ n2_; (try clear hb); (try clear hb2); (try clear hk); (try clear hi))))
    go_ret
    exact ⟨Z97, Z81⟩
   subst c9
   have H1 : (if x15_1 > 0 then (if 0 ≤ (wrap64 (x15_1 - 1)) then (if (wrap64 (x15_1 - 1)) < (l0.length : Int) then (partner_CheckPartners.j1 k1 l0 x3_1 l0 (l0.length : Int) x15_1 (!(Op.bytesLess (((qf l0 (wrap64 (x15_1 - 1))).f0).toList) (((qf l0 x15_1).f0).toList))) ((qf l0 x15_1).f0) ((qf l0 x15_1).f1)) else (none)) else (none)) else (partner_CheckPartners.j1 k1 l0 x3_1 l0 (l0.length : Int) x15_1 false ((qf l0 x15_1).f0) ((qf l0 x15_1).f1))) = some r := by rw [if_pos rfl] at H; exact H
   clear H
   have H := H1
   clear H1
   have HC10 := qb.mk H
   clear H
   have p207 : 0 ≤ (x15_1 : Int) := of_decide_eq_true qB
   have q207 : x15_1 < (l0.length : Int) := of_decide_eq_true qB
   obtain ⟨ad207, A207_1, c207_1, e207, hx207_0, hx207_1, hl207_1, hi207_1⟩ := at_T110 HR0.out x15_1 p207 q207
   cases e207
   replace hx207_0 := bx HB hx207_0
   replace hx207_1 := bx HB hx207_1
   have HR207_1 := qb.mk hi207_1
   have HC207_1 := qb.mk hl207_1
   clear hi207_1 hl207_1
   replace p207 := eq_true p207
   replace q207 := eq_true q207
   go_upto_region 9 with (first | ((with_reducible refine qi (N := 5) rfl ?_); refine qh ?hg (N := 5) ?hd (cs := #[.string (⟨#[]⟩ : ByteArray), .slice none 0 0]) (t := 110) ?hr ?_; (case hd => rfl); (case hg => rfl); (case hr => exact qC); intro gb208 hg w11 hbox hb; have n0_ := qb.mk (XMap.R_below Z120 hb); have n1_ := qb.mk (qd qz hb); have n2_ := qb.mk (hbox); have n3_ := qb.mk ((Z66 : w.heap.size ≤ gb208)); have n4_ := n3_; clear HO_3 HB; have HO_3 := n0_; have HB := n1_; have BK208 := n2_; have GW208 := n3_; have GE208 := n4_; clear n0_ n1_ n2_ n3_ n4_; clear hb hbox hg; obtain ⟨yc12_0, yc12_1, yf12_0, yf12_1⟩ := bf2 BK208.out) | (go_at_call 88; (with_reducible refine (kit_IsName.calls ((qf l0 x15_1).f0) true _ A8.out).mono ?_); rintro e w13 ⟨rfl, hb⟩; have n0_ := qb.mk (XMap.R_below Z10 hb); have n1_ := qb.mk (qw (g := gb208) (o := .cells #[.string ((qf l0 x15_1).f0), .slice A207_1 ((qf l0 x15_1).f1).length c207_1] 110 (0, 0)) Z3 hb); have n2_ := qb.mk (qd Z81 hb); clear HO_3 BK208 HB; have HO_3 := n0_; have BK208 := n1_; have HB := n2_; clear n0_ n1_ n2_; (try clear hb); (try clear hb2); (try clear hk); (try clear hi)))
   repeat (go_quiet (first | ((with_reducible refine qi (N := 5) rfl ?_); refine qh ?hg (N := 5) ?hd (cs := #[.string (⟨#[]⟩ : ByteArray), .slice none 0 0]) (t := 110) ?hr ?_; (case hd => rfl); (case hg => rfl); (case hr => exact qC); intro gb208 hg w11 hbox hb; have n0_ := qb.mk (XMap.R_below Z120 hb); have n1_ := qb.mk (qd qz hb); have n2_ := qb.mk (hbox); have n3_ := qb.mk ((Z66 : w.heap.size ≤ gb208)); have n4_ := n3_; clear HO_3 HB; have HO_3 := n0_; have HB := n1_; have BK208 := n2_; have GW208 := n3_; have GE208 := n4_; clear n0_ n1_ n2_ n3_ n4_; clear hb hbox hg; obtain ⟨yc12_0, yc12_1, yf12_0, yf12_1⟩ := bf2 BK208.out) | (go_at_call 88; (with_reducible refine (kit_IsName.calls ((qf l0 x15_1).f0) true _ A8.out).mono ?_); rintro e w13 ⟨rfl, hb⟩; have n0_ := qb.mk (XMap.R_below Z10 hb); have n1_ := qb.mk (qw (g := gb208) (o := .cells #[.string ((qf l0 x15_1).f0), .slice A207_1 ((qf l0 x15_1).f1).length c207_1] 110 (0, 0)) Z3 hb); have n2_ := qb.mk (qd Z81 hb); clear HO_3 BK208 HB; have HO_3 := n0_; have BK208 := n1_; have HB := n2_; clear n0_ n1_ n2_; (try clear hb); (try clear hb2); (try clear hk); (try clear hi))); go_upto_region 9 with (first | ((with_reducible refine qi (N := 5) rfl ?_); refine qh ?hg (N := 5) ?hd (cs := #[.string (⟨#[]⟩ : ByteArray), .slice none 0 0]) (t := 110) ?hr ?_; (case hd => rfl); (case hg => rfl); (case hr => exact qC); intro gb208 hg w11 hbox hb; have n0_ := qb.mk (XMap.R_below Z120 hb); have n1_ := qb.mk (qd qz hb); have n2_ := qb.mk (hbox); have n3_ := qb.mk ((Z66 : w.heap.size ≤ gb208)); have n4_ := n3_; clear HO_3 HB; have HO_3 := n0_; have HB := n1_; have BK208 := n2_; have GW208 := n3_; have GE208 := n4_; clear n0_ n1_ n2_ n3_ n4_; clear hb hbox hg; obtain ⟨yc12_0, yc12_1, yf12_0, yf12_1⟩ := bf2 BK208.out) | (go_at_call 88; (with_reducible refine (kit_IsName.calls ((qf l0 x15_1).f0) true _ A8.out).mono ?_); rintro e w13 ⟨rfl, hb⟩; have n0_ := qb.mk (XMap.R_below Z10 hb); have n1_ := qb.mk (qw (g := gb208) (o := .cells #[.string ((qf l0 x15_1).f0), .slice A207_1 ((qf l0 x15_1).f1).length c207_1] 110 (0, 0)) Z3 hb); have n2_ := qb.mk (qd Z81 hb); clear HO_3 BK208 HB; have HO_3 := n0_; have BK208 := n1_; have HB := n2_; clear n0_ n1_ n2_; (try clear hb); (try clear hb2); (try clear hk); (try clear hi))))
   (try simp only [Act.put, sT, s0, s1])
   go_cut [25] (fun v25 wc => ∃ (kq : Nat) (x25_9 : Bool), v25 = .bool x25_9 ∧ qb (partner_CheckPartners.j1 kq l0 x3_1 l0 (l0.length : Int) x15_1 x25_9 ((qf l0 x15_1).f0) ((qf l0 x15_1).f1) = some r) ∧ qb (kq ≤ k1) ∧ qb (MpR wc w.heap.size (fun _ => True) v205 x3_1) ∧ qb (wc.heap[gb208]? = some (.cells #[.string ((qf l0 x15_1).f0), (.slice A207_1 ((qf l0 x15_1).f1).length c207_1)] 110 (0, 0))) ∧ qb (Below w.heap.size w wc))
   case first =>
    have H := HC10.out
    clear HC10
    by_cases c14 : x15_1 > 0
    case neg =>
     rw [if_neg c14] at H
     have c14b0 : decide (0 < x15_1) = false := decide_eq_false c14
     clear c14
     (first | rw [c14b0] | (simp only [qr, qt]; rw [c14b0]) | skip)
     have H' := qb.mk H
     clear H
     go_wp2
     repeat (go_quiet (fail); try go_wp2)
     go_meet
     case rel => exact ⟨_, (false), qD, H', ⟨Z139⟩, ⟨Z120⟩, ⟨Z111⟩, ⟨Z81⟩⟩
    rw [if_pos c14] at H
    have c14b0 : decide (0 < x15_1) = true := decide_eq_true c14
    clear c14
    (first | rw [c14b0] | (simp only [qr, qt]; rw [c14b0]) | skip)
    obtain ⟨ji15, hji15⟩ : ∃ j_ : Int, (wrap64 (x15_1 - 1)) = j_ := ⟨_, rfl⟩
    replace H : (if 0 ≤ (ji15) then (if (ji15) < (l0.length : Int) then (partner_CheckPartners.j1 k1 l0 x3_1 l0 (l0.length : Int) x15_1 (!(Op.bytesLess (((qf l0 (ji15)).f0).toList) (((qf l0 x15_1).f0).toList))) ((qf l0 x15_1).f0) ((qf l0 x15_1).f1)) else (none)) else (none)) = some r := by first | (rw [hji15] at H; exact H) | (simp only [hji15] at H ⊢; exact H)
    have hji15w : (IntKind.i64.wrap (x15_1 - 1)) = ji15 := (qr _).trans hji15
    by_cases c16 : 0 ≤ (ji15)
    case neg =>
     rw [if_neg c16] at H
     exact absurd H (by simp)
    rw [if_pos c16] at H
    have c16b0 : decide (0 ≤ (ji15)) = true := decide_eq_true c16
    clear c16
    by_cases c17 : (ji15) < (l0.length : Int)
    case neg =>
     rw [if_neg c17] at H
     exact absurd H (by simp)
    rw [if_pos c17] at H
    have c17b0 : decide ((ji15) < (l0.length : Int)) = true := decide_eq_true c17
    clear c17
    have H' := qb.mk H
    clear H
    obtain ⟨yc18_0, yc18_1, yf18_0, yf18_1⟩ := bf2 BK208.out
    have p210 : 0 ≤ ((ji15) : Int) := of_decide_eq_true qB
    have q210 : (ji15) < (l0.length : Int) := of_decide_eq_true qB
    obtain ⟨ad210, A210_1, c210_1, e210, hx210_0, hx210_1, hl210_1, hi210_1⟩ := at_T110 HR0.out (ji15) p210 q210
    obtain rfl : ad207 = ad210 := (by injection e210)
    replace hx210_0 := bx HB hx210_0
    replace hx210_1 := bx HB hx210_1
    have HR210_1 := qb.mk hi210_1
    have HC210_1 := qb.mk hl210_1
    clear hi210_1 hl210_1
    replace p210 := eq_true p210
    replace q210 := eq_true q210
    go_wp2
    repeat (go_quiet (fail); try go_wp2)
    go_meet
    case rel => exact ⟨_, (!(Op.bytesLess (((qf l0 (ji15)).f0).toList) (((qf l0 x15_1).f0).toList))), (by first | rfl | (simp; done) | (simp only [← hji15] <;> (first | rfl | simp)) | (simp [*]; done)), H', ⟨Z139⟩, ⟨Z120⟩, ⟨Z111⟩, ⟨Z81⟩⟩
   case rest =>
    clear HC10
    try clear c1; try clear c2; try clear c2b0; try clear c2b1; try clear p2 p2; try clear q2; try clear hx2; try clear c5; try clear c5b0; try clear c6; try clear c6b0; try clear p6; try clear c7; try clear c7b0; try clear c9; try clear c14; try clear c14b0; try clear c16; try clear c16b0; try clear c17; try clear c17b0; try clear yc12_0 yc12_1 yf12_0 yf12_1; try clear yc18_0 yc18_1 yf18_0 yf18_1; try clear hx207_0; try clear hx207_1; try clear hx210_0; try clear hx210_1; try clear p207; try clear p210; try clear q207; try clear q210
    obtain ⟨kq, x25_9, rfl, HA, HJ9, HO_3, BK208, HB⟩ := hcut
    cases kq with
    | zero => exact absurd HA.out (by simp [partner_CheckPartners.j1])
    | succ kj9 =>
     have H := HA.out
     clear HA
     simp only [partner_CheckPartners.j1] at H
     by_cases c19 : x25_9 = true
     case pos =>
      subst c19
      have H1 : (some 8) = some r := by rw [if_pos rfl] at H; exact H
      clear H
      have H := H1
      clear H1
      obtain rfl := Option.some.inj H
      go_wp2
      repeat (go_quiet (fail); try go_wp2)
      go_ret
      exact ⟨Z97, Z81⟩
     replace c19 := Bool.eq_false_iff.mpr c19
     subst c19
     have H1 : (if (((qf l0 x15_1).f1).length : Int) > 10 then (some 2) else (partner_CheckPartners.l1 kj9 l0 x3_1 l0 (l0.length : Int) x15_1 ((qf l0 x15_1).f1) (((qf l0 x15_1).f1).length : Int) 0)) = some r := by rw [if_neg (show ¬ (false = true) by decide)] at H; exact H
     clear H
     have H := H1
     clear H1
     by_cases c20 : (((qf l0 x15_1).f1).length : Int) > 10
     case pos =>
      rw [if_pos c20] at H
      have c20b0 : decide (10 < (((qf l0 x15_1).f1).length : Int)) = true := decide_eq_true c20
      have c20b1 : decide (10 < ((qf l0 x15_1).f1).length) = true := decide_eq_true (by omega)
      clear c20
      obtain rfl := Option.some.inj H
      have yc21_0 : wc.cell? ⟨gb208, 0, none⟩ = some (.string ((qf l0 x15_1).f0)) := (qc BK208.out 0).trans rfl
      have yc21_1 : wc.cell? ⟨gb208, 1, none⟩ = some (.slice A207_1 ((qf l0 x15_1).f1).length c207_1) := (qc BK208.out 1).trans rfl
      have yf21_0 := qe BK208.out 0
      have yf21_1 := qe BK208.out 1
      go_wp2
      repeat (go_quiet (fail); try go_wp2)
      go_ret
      exact ⟨Z97, Z81⟩
     rw [if_neg c20] at H
     have c20b0 : decide (10 < (((qf l0 x15_1).f1).length : Int)) = false := decide_eq_false c20
     have c20b1 : decide (10 < ((qf l0 x15_1).f1).length) = false := decide_eq_false (by omega)
     clear c20
     have H' := qb.mk H
     clear H
     have yc22_0 : wc.cell? ⟨gb208, 0, none⟩ = some (.string ((qf l0 x15_1).f0)) := (qc BK208.out 0).trans rfl
     have yc22_1 : wc.cell? ⟨gb208, 1, none⟩ = some (.slice A207_1 ((qf l0 x15_1).f1).length c207_1) := (qc BK208.out 1).trans rfl
     have yf22_0 := qe BK208.out 0
     have yf22_1 := qe BK208.out 1
     go_wp2
     repeat (go_quiet (fail); try go_wp2)
     go_loopg [47] kj9 (fun kq v47 w' => ∃ (x3_3 : List (S119)) (x47_3 : Int), v47 = .int .i64 x47_3 ∧ qb (partner_CheckPartners.l1 kq l0 x3_3 l0 (l0.length : Int) x15_1 ((qf l0 x15_1).f1) (((qf l0 x15_1).f1).length : Int) x47_3 = some r) ∧ qb (kq ≤ kj9) ∧ qb (MpR w' w.heap.size (fun _ => True) v205 x3_3) ∧ qb (w'.heap[gb208]? = some (.cells #[.string ((qf l0 x15_1).f0), (.slice A207_1 ((qf l0 x15_1).f1).length c207_1)] 110 (0, 0))) ∧ qb (Below w.heap.size w w'))
     case atStart => exact ⟨(x3_1), (0), qD, H', ⟨Nat.le_refl _⟩, ⟨Z120⟩, ⟨Z111⟩, ⟨Z81⟩⟩
     case round =>
      clear H'
      try clear c1; try clear c2; try clear c2b0; try clear c2b1; try clear p2 p2; try clear q2 q2; try clear hx2; try clear c5; try clear c5b0; try clear c6; try clear c6b0; try clear p6 p6; try clear c7; try clear c7b0; try clear c9; try clear c14; try clear c14b0; try clear c16; try clear c16b0; try clear c17; try clear c17b0; try clear c19; try clear c20; try clear c20b0; try clear c20b1; try clear p20; try clear q20; try clear hx20; try clear c21; try clear p21; try clear q21; try clear hx21; try clear yc12_0 yc12_1 yf12_0 yf12_1; try clear yc18_0 yc18_1 yf18_0 yf18_1; try clear yc21_0 yc21_1 yf21_0 yf21_1; try clear yc22_0 yc22_1 yf22_0 yf22_1; try clear hx207_0; try clear hx207_1; try clear hx210_0; try clear hx210_1; try clear p207; try clear p210; try clear q207; try clear q210
      obtain ⟨x3_3, x47_3, rfl, HA, HK3, HO_3, BK208, HB⟩ := hrel
      cases gk with
      | zero => exact absurd HA.out (by simp [partner_CheckPartners.l1])
      | succ k3 =>
       have H := HA.out
       clear HA
       simp only [partner_CheckPartners.l1] at H
       by_cases c23 : x47_3 < (((qf l0 x15_1).f1).length : Int)
       case neg =>
        rw [if_neg c23] at H
        have c23b0 : decide (x47_3 < (((qf l0 x15_1).f1).length : Int)) = false := decide_eq_false c23
        clear c23
        have H' := qb.mk H
        clear H
        go_wp2
        repeat (go_quiet (fail); try go_wp2)
        go_roundg k3
        case measure => have := HK1.out; have := HJ9.out; have := HK3.out; omega
        case rel => exact ⟨(x3_3), (wrap64 (x15_1 + 1)), qD, H', ⟨by have := HK1.out; have := HJ9.out; have := HK3.out; omega⟩, ⟨Z120⟩, ⟨Z81⟩⟩
       rw [if_pos c23] at H
       have c23b0 : decide (x47_3 < (((qf l0 x15_1).f1).length : Int)) = true := decide_eq_true c23
       clear c23
       by_cases c24 : 0 ≤ x47_3
       case neg =>
        rw [if_neg c24] at H
        exact absurd H (by simp)
       rw [if_pos c24] at H
       have c24b0 : decide (0 ≤ x47_3) = true := decide_eq_true c24
       clear c24
       by_cases c25 : x47_3 < (((qf l0 x15_1).f1).length : Int)
       case neg =>
        rw [if_neg c25] at H
        exact absurd H (by simp)
       rw [if_pos c25] at H
       have c25b0 : decide (x47_3 < (((qf l0 x15_1).f1).length : Int)) = true := decide_eq_true c25
       clear c25
       replace H := Option.bind_eq_some_iff.mp H
       obtain ⟨t213, A260, H⟩ := H
       replace H : (if t213 = 0 then ((map_has_adr.f x3_3 ((qk ((qf l0 x15_1).f1) x47_3).f0) ((qk ((qf l0 x15_1).f1) x47_3).f1)).bind fun bt214 => (if bt214.1 = true then (some 7) else ((map_put_adr.f bt214.2 ((qk ((qf l0 x15_1).f1) x47_3).f0) ((qk ((qf l0 x15_1).f1) x47_3).f1)).bind fun t216 => (partner_CheckPartners.l1 k3 l0 t216 l0 (l0.length : Int) x15_1 ((qf l0 x15_1).f1) (((qf l0 x15_1).f1).length : Int) (wrap64 (x47_3 + 1)))))) else (some t213)) = some r := H
       have A26 := qb.mk A260
       clear A260
       by_cases c27 : t213 = 0
       case neg =>
        rw [if_neg c27] at H
        have c27b0 : (t213 == 0) = false := beq_eq_false_iff_ne.mpr c27
        have c27b1 : (t213 != 0) = true := bne_iff_ne.mpr c27
        obtain rfl := Option.some.inj H
        have p211 : 0 ≤ (x47_3 : Int) := of_decide_eq_true qB
        have q211 : x47_3 < (((qf l0 x15_1).f1).length : Int) := of_decide_eq_true qB
        obtain ⟨ad211, e211, hx211_0, hx211_1⟩ := at_T119 HR207_1.out x47_3 p211 q211
        cases e211
        replace hx211_0 := bx HB hx211_0
        replace hx211_1 := bx HB hx211_1
        replace p211 := eq_true p211
        replace q211 := eq_true q211
        go_wp2_with (first | ((with_reducible refine qi (N := 7) rfl ?_); refine qh ?hg (N := 7) ?hd (cs := #[.string (⟨#[]⟩ : ByteArray), .string (⟨#[]⟩ : ByteArray)]) (t := 119) ?hr ?_; (case hd => rfl); (case hg => rfl); (case hr => exact qC); intro gb212 hg w47 hbox hb; have n0_ := qb.mk (XMap.R_below (XMap.R_elderB Z120 gb212 (Nat.le_of_eq hg.symm)) hb); have n1_ := bb BK208 hb; have n2_ := qb.mk (qd Z81 hb); have n3_ := qb.mk (hbox); have n4_ := qb.mk ((Z42 : w.heap.size ≤ gb212)); have n5_ := n4_; have n6_ := qb.mk ((Z148 : gb208 ≠ gb212)); have n7_ := qb.mk ((Z149 : gb212 ≠ gb208)); clear HO_3 BK208 HB; have HO_3 := n0_; have BK208 := n1_; have HB := n2_; have BK212 := n3_; have GW212 := n4_; have GE212 := n5_; have NB208_212 := n6_; have NB212_208 := n7_; clear n0_ n1_ n2_ n3_ n4_ n5_ n6_ n7_; clear hb hbox hg; have hnb48 := NB212_208.out; have hnc48 := NB208_212.out; obtain ⟨yc49_0, yc49_1, yf49_0, yf49_1⟩ := bf2 BK212.out) | (go_at_call 100; (with_reducible refine (partner_addressFault.calls k3 ((qk ((qf l0 x15_1).f1) x47_3).f0) ((qk ((qf l0 x15_1).f1) x47_3).f1) t213 _ A26.out).mono ?_); rintro e w50 ⟨rfl, hb⟩; have n0_ := qb.mk (XMap.R_below Z5 hb); have n1_ := qb.mk (qw (g := gb208) (o := .cells #[.string ((qf l0 x15_1).f0), .slice (some ad211) ((qf l0 x15_1).f1).length c207_1] 110 (0, 0)) Z8 hb); have n2_ := qb.mk (qw (g := gb212) (o := .cells #[.string ((qk ((qf l0 x15_1).f1) x47_3).f0), .string ((qk ((qf l0 x15_1).f1) x47_3).f1)] 119 (0, 0)) Z1 hb); have n3_ := qb.mk (qd Z52 hb); clear HO_3 BK208 BK212 HB; have HO_3 := n0_; have BK208 := n1_; have BK212 := n2_; have HB := n3_; clear n0_ n1_ n2_ n3_; (try clear hb); (try clear hb2); (try clear hk); (try clear hi)))
        repeat (go_quiet (first | ((with_reducible refine qi (N := 7) rfl ?_); refine qh ?hg (N := 7) ?hd (cs := #[.string (⟨#[]⟩ : ByteArray), .string (⟨#[]⟩ : ByteArray)]) (t := 119) ?hr ?_; (case hd => rfl); (case hg => rfl); (case hr => exact qC); intro gb212 hg w47 hbox hb; have n0_ := qb.mk (XMap.R_below (XMap.R_elderB Z120 gb212 (Nat.le_of_eq hg.symm)) hb); have n1_ := bb BK208 hb; have n2_ := qb.mk (qd Z81 hb); have n3_ := qb.mk (hbox); have n4_ := qb.mk ((Z42 : w.heap.size ≤ gb212)); have n5_ := n4_; have n6_ := qb.mk ((Z148 : gb208 ≠ gb212)); have n7_ := qb.mk ((Z149 : gb212 ≠ gb208)); clear HO_3 BK208 HB; have HO_3 := n0_; have BK208 := n1_; have HB := n2_; have BK212 := n3_; have GW212 := n4_; have GE212 := n5_; have NB208_212 := n6_; have NB212_208 := n7_; clear n0_ n1_ n2_ n3_ n4_ n5_ n6_ n7_; clear hb hbox hg; have hnb48 := NB212_208.out; have hnc48 := NB208_212.out; obtain ⟨yc49_0, yc49_1, yf49_0, yf49_1⟩ := bf2 BK212.out) | (go_at_call 100; (with_reducible refine (partner_addressFault.calls k3 ((qk ((qf l0 x15_1).f1) x47_3).f0) ((qk ((qf l0 x15_1).f1) x47_3).f1) t213 _ A26.out).mono ?_); rintro e w50 ⟨rfl, hb⟩; have n0_ := qb.mk (XMap.R_below Z5 hb); have n1_ := qb.mk (qw (g := gb208) (o := .cells #[.string ((qf l0 x15_1).f0), .slice (some ad211) ((qf l0 x15_1).f1).length c207_1] 110 (0, 0)) Z8 hb); have n2_ := qb.mk (qw (g := gb212) (o := .cells #[.string ((qk ((qf l0 x15_1).f1) x47_3).f0), .string ((qk ((qf l0 x15_1).f1) x47_3).f1)] 119 (0, 0)) Z1 hb); have n3_ := qb.mk (qd Z52 hb); clear HO_3 BK208 BK212 HB; have HO_3 := n0_; have BK208 := n1_; have BK212 := n2_; have HB := n3_; clear n0_ n1_ n2_ n3_; (try clear hb); (try clear hb2); (try clear hk); (try clear hi))); try go_wp2_with (first | ((with_reducible refine qi (N := 7) rfl ?_); refine qh ?hg (N := 7) ?hd (cs := #[.string (⟨#[]⟩ : ByteArray), .string (⟨#[]⟩ : ByteArray)]) (t := 119) ?hr ?_; (case hd => rfl); (case hg => rfl); (case hr => exact qC); intro gb212 hg w47 hbox hb; have n0_ := qb.mk (XMap.R_below (XMap.R_elderB Z120 gb212 (Nat.le_of_eq hg.symm)) hb); have n1_ := bb BK208 hb; have n2_ := qb.mk (qd Z81 hb); have n3_ := qb.mk (hbox); have n4_ := qb.mk ((Z42 : w.heap.size ≤ gb212)); have n5_ := n4_; have n6_ := qb.mk ((Z148 : gb208 ≠ gb212)); have n7_ := qb.mk ((Z149 : gb212 ≠ gb208)); clear HO_3 BK208 HB; have HO_3 := n0_; have BK208 := n1_; have HB := n2_; have BK212 := n3_; have GW212 := n4_; have GE212 := n5_; have NB208_212 := n6_; have NB212_208 := n7_; clear n0_ n1_ n2_ n3_ n4_ n5_ n6_ n7_; clear hb hbox hg; have hnb48 := NB212_208.out; have hnc48 := NB208_212.out; obtain ⟨yc49_0, yc49_1, yf49_0, yf49_1⟩ := bf2 BK212.out) | (go_at_call 100; (with_reducible refine (partner_addressFault.calls k3 ((qk ((qf l0 x15_1).f1) x47_3).f0) ((qk ((qf l0 x15_1).f1) x47_3).f1) t213 _ A26.out).mono ?_); rintro e w50 ⟨rfl, hb⟩; have n0_ := qb.mk (XMap.R_below Z5 hb); have n1_ := qb.mk (qw (g := gb208) (o := .cells #[.string ((qf l0 x15_1).f0), .slice (some ad211) ((qf l0 x15_1).f1).length c207_1] 110 (0, 0)) Z8 hb); have n2_ := qb.mk (qw (g := gb212) (o := .cells #[.string ((qk ((qf l0 x15_1).f1) x47_3).f0), .string ((qk ((qf l0 x15_1).f1) x47_3).f1)] 119 (0, 0)) Z1 hb); have n3_ := qb.mk (qd Z52 hb); clear HO_3 BK208 BK212 HB; have HO_3 := n0_; have BK208 := n1_; have BK212 := n2_; have HB := n3_; clear n0_ n1_ n2_ n3_; (try clear hb); (try clear hb2); (try clear hk); (try clear hi))))
        go_ret
        exact ⟨Z97, Z52⟩
       rw [if_pos c27] at H
       have c27b0 : (t213 == 0) = true := beq_iff_eq.mpr c27
       have c27b1 : (t213 != 0) = false := bne_eq_false_iff_eq.mpr c27
       clear c27
       replace H := Option.bind_eq_some_iff.mp H
       obtain ⟨⟨t214, t215⟩, A280, H⟩ := H
       replace H : (if t214 = true then (some 7) else ((map_put_adr.f t215 ((qk ((qf l0 x15_1).f1) x47_3).f0) ((qk ((qf l0 x15_1).f1) x47_3).f1)).bind fun t216 => (partner_CheckPartners.l1 k3 l0 t216 l0 (l0.length : Int) x15_1 ((qf l0 x15_1).f1) (((qf l0 x15_1).f1).length : Int) (wrap64 (x47_3 + 1))))) = some r := H
       have A28 := qb.mk A280
       clear A280
       by_cases c29 : t214 = true
       case pos =>
        subst c29
        have H1 : (some 7) = some r := by rw [if_pos rfl] at H; exact H
        clear H
        have H := H1
        clear H1
        obtain rfl := Option.some.inj H
        have p211 : 0 ≤ (x47_3 : Int) := of_decide_eq_true qB
        have q211 : x47_3 < (((qf l0 x15_1).f1).length : Int) := of_decide_eq_true qB
        obtain ⟨ad211, e211, hx211_0, hx211_1⟩ := at_T119 HR207_1.out x47_3 p211 q211
        cases e211
        replace hx211_0 := bx HB hx211_0
        replace hx211_1 := bx HB hx211_1
        replace p211 := eq_true p211
        replace q211 := eq_true q211
        go_wp2_with (first | ((with_reducible refine qi (N := 7) rfl ?_); refine qh ?hg (N := 7) ?hd (cs := #[.string (⟨#[]⟩ : ByteArray), .string (⟨#[]⟩ : ByteArray)]) (t := 119) ?hr ?_; (case hd => rfl); (case hg => rfl); (case hr => exact qC); intro gb212 hg w30 hbox hb; have n0_ := qb.mk (XMap.R_below (XMap.R_elderB Z120 gb212 (Nat.le_of_eq hg.symm)) hb); have n1_ := bb BK208 hb; have n2_ := qb.mk (qd Z81 hb); have n3_ := qb.mk (hbox); have n4_ := qb.mk ((Z42 : w.heap.size ≤ gb212)); have n5_ := n4_; have n6_ := qb.mk ((Z148 : gb208 ≠ gb212)); have n7_ := qb.mk ((Z149 : gb212 ≠ gb208)); clear HO_3 BK208 HB; have HO_3 := n0_; have BK208 := n1_; have HB := n2_; have BK212 := n3_; have GW212 := n4_; have GE212 := n5_; have NB208_212 := n6_; have NB212_208 := n7_; clear n0_ n1_ n2_ n3_ n4_ n5_ n6_ n7_; clear hb hbox hg; have hnb31 := NB212_208.out; have hnc31 := NB208_212.out; obtain ⟨yc32_0, yc32_1, yf32_0, yf32_1⟩ := bf2 BK212.out) | (go_at_call 100; (with_reducible refine (partner_addressFault.calls k3 ((qk ((qf l0 x15_1).f1) x47_3).f0) ((qk ((qf l0 x15_1).f1) x47_3).f1) t213 _ A26.out).mono ?_); rintro e w33 ⟨rfl, hb⟩; have n0_ := qb.mk (XMap.R_below Z5 hb); have n1_ := qb.mk (qw (g := gb208) (o := .cells #[.string ((qf l0 x15_1).f0), .slice (some ad211) ((qf l0 x15_1).f1).length c207_1] 110 (0, 0)) Z8 hb); have n2_ := qb.mk (qw (g := gb212) (o := .cells #[.string ((qk ((qf l0 x15_1).f1) x47_3).f0), .string ((qk ((qf l0 x15_1).f1) x47_3).f1)] 119 (0, 0)) Z1 hb); have n3_ := qb.mk (qd Z52 hb); clear HO_3 BK208 BK212 HB; have HO_3 := n0_; have BK208 := n1_; have BK212 := n2_; have HB := n3_; clear n0_ n1_ n2_ n3_; (try clear hb); (try clear hb2); (try clear hk); (try clear hi); obtain ⟨yc34_0, yc34_1, yf34_0, yf34_1⟩ := bf2 BK212.out; obtain ⟨Ao35, co35, eo35⟩ := XMap.R_slice HO_3.out; subst eo35) | ((with_reducible refine XMap.mapHas_ rfl rfl rfl rfl ?_); (refine (map_has_adr.calls (fun k_ => some k_ = XMap.mOwn (.map (some Ao35))) (.map (some Ao35)) x3_3 ((qk ((qf l0 x15_1).f1) x47_3).f0) ((qk ((qf l0 x15_1).f1) x47_3).f1) true t215 w _ ?side1 ?side2 A28.out).mono ?_); (case side1 => exact Z52); (case side2 => exact Z156); rintro e w36 ⟨rfl, hy0, hb, hkp⟩; refine XMap.ret_of ?_; have n0_ := qb.mk (XMap.R_reok rfl hy0 (fun k_ e_ => XMap.R_ok HO_3.out k_ e_)); have n1_ := qb.mk (blk_kept Z111 hkp (fun hs_ => (fun e_ => (XMap.R_ne HO_3.out BK208.out (by decide)) e_) hs_)); have n2_ := qb.mk (blk_kept Z112 hkp (fun hs_ => (fun e_ => (XMap.R_away HO_3.out (fun _ hk => hk.2)) e_) hs_)); have n3_ := qb.mk (hb); clear HO_3 BK208 BK212 HB; have HO_3 := n0_; have BK208 := n1_; have BK212 := n2_; have HB := n3_; clear n0_ n1_ n2_ n3_; (try clear hb); (try clear hkp); (try clear hy0)))
        repeat (go_quiet (first | ((with_reducible refine qi (N := 7) rfl ?_); refine qh ?hg (N := 7) ?hd (cs := #[.string (⟨#[]⟩ : ByteArray), .string (⟨#[]⟩ : ByteArray)]) (t := 119) ?hr ?_; (case hd => rfl); (case hg => rfl); (case hr => exact qC); intro gb212 hg w30 hbox hb; have n0_ := qb.mk (XMap.R_below (XMap.R_elderB Z120 gb212 (Nat.le_of_eq hg.symm)) hb); have n1_ := bb BK208 hb; have n2_ := qb.mk (qd Z81 hb); have n3_ := qb.mk (hbox); have n4_ := qb.mk ((Z42 : w.heap.size ≤ gb212)); have n5_ := n4_; have n6_ := qb.mk ((Z148 : gb208 ≠ gb212)); have n7_ := qb.mk ((Z149 : gb212 ≠ gb208)); clear HO_3 BK208 HB; have HO_3 := n0_; have BK208 := n1_; have HB := n2_; have BK212 := n3_; have GW212 := n4_; have GE212 := n5_; have NB208_212 := n6_; have NB212_208 := n7_; clear n0_ n1_ n2_ n3_ n4_ n5_ n6_ n7_; clear hb hbox hg; have hnb31 := NB212_208.out; have hnc31 := NB208_212.out; obtain ⟨yc32_0, yc32_1, yf32_0, yf32_1⟩ := bf2 BK212.out) | (go_at_call 100; (with_reducible refine (partner_addressFault.calls k3 ((qk ((qf l0 x15_1).f1) x47_3).f0) ((qk ((qf l0 x15_1).f1) x47_3).f1) t213 _ A26.out).mono ?_); rintro e w33 ⟨rfl, hb⟩; have n0_ := qb.mk (XMap.R_below Z5 hb); have n1_ := qb.mk (qw (g := gb208) (o := .cells #[.string ((qf l0 x15_1).f0), .slice (some ad211) ((qf l0 x15_1).f1).length c207_1] 110 (0, 0)) Z8 hb); have n2_ := qb.mk (qw (g := gb212) (o := .cells #[.string ((qk ((qf l0 x15_1).f1) x47_3).f0), .string ((qk ((qf l0 x15_1).f1) x47_3).f1)] 119 (0, 0)) Z1 hb); have n3_ := qb.mk (qd Z52 hb); clear HO_3 BK208 BK212 HB; have HO_3 := n0_; have BK208 := n1_; have BK212 := n2_; have HB := n3_; clear n0_ n1_ n2_ n3_; (try clear hb); (try clear hb2); (try clear hk); (try clear hi); obtain ⟨yc34_0, yc34_1, yf34_0, yf34_1⟩ := bf2 BK212.out; obtain ⟨Ao35, co35, eo35⟩ := XMap.R_slice HO_3.out; subst eo35) | ((with_reducible refine XMap.mapHas_ rfl rfl rfl rfl ?_); (refine (map_has_adr.calls (fun k_ => some k_ = XMap.mOwn (.map (some Ao35))) (.map (some Ao35)) x3_3 ((qk ((qf l0 x15_1).f1) x47_3).f0) ((qk ((qf l0 x15_1).f1) x47_3).f1) true t215 w _ ?side1 ?side2 A28.out).mono ?_); (case side1 => exact Z52); (case side2 => exact Z156); rintro e w36 ⟨rfl, hy0, hb, hkp⟩; refine XMap.ret_of ?_; have n0_ := qb.mk (XMap.R_reok rfl hy0 (fun k_ e_ => XMap.R_ok HO_3.out k_ e_)); have n1_ := qb.mk (blk_kept Z111 hkp (fun hs_ => (fun e_ => (XMap.R_ne HO_3.out BK208.out (by decide)) e_) hs_)); have n2_ := qb.mk (blk_kept Z112 hkp (fun hs_ => (fun e_ => (XMap.R_away HO_3.out (fun _ hk => hk.2)) e_) hs_)); have n3_ := qb.mk (hb); clear HO_3 BK208 BK212 HB; have HO_3 := n0_; have BK208 := n1_; have BK212 := n2_; have HB := n3_; clear n0_ n1_ n2_ n3_; (try clear hb); (try clear hkp); (try clear hy0))); try go_wp2_with (first | ((with_reducible refine qi (N := 7) rfl ?_); refine qh ?hg (N := 7) ?hd (cs := #[.string (⟨#[]⟩ : ByteArray), .string (⟨#[]⟩ : ByteArray)]) (t := 119) ?hr ?_; (case hd => rfl); (case hg => rfl); (case hr => exact qC); intro gb212 hg w30 hbox hb; have n0_ := qb.mk (XMap.R_below (XMap.R_elderB Z120 gb212 (Nat.le_of_eq hg.symm)) hb); have n1_ := bb BK208 hb; have n2_ := qb.mk (qd Z81 hb); have n3_ := qb.mk (hbox); have n4_ := qb.mk ((Z42 : w.heap.size ≤ gb212)); have n5_ := n4_; have n6_ := qb.mk ((Z148 : gb208 ≠ gb212)); have n7_ := qb.mk ((Z149 : gb212 ≠ gb208)); clear HO_3 BK208 HB; have HO_3 := n0_; have BK208 := n1_; have HB := n2_; have BK212 := n3_; have GW212 := n4_; have GE212 := n5_; have NB208_212 := n6_; have NB212_208 := n7_; clear n0_ n1_ n2_ n3_ n4_ n5_ n6_ n7_; clear hb hbox hg; have hnb31 := NB212_208.out; have hnc31 := NB208_212.out; obtain ⟨yc32_0, yc32_1, yf32_0, yf32_1⟩ := bf2 BK212.out) | (go_at_call 100; (with_reducible refine (partner_addressFault.calls k3 ((qk ((qf l0 x15_1).f1) x47_3).f0) ((qk ((qf l0 x15_1).f1) x47_3).f1) t213 _ A26.out).mono ?_); rintro e w33 ⟨rfl, hb⟩; have n0_ := qb.mk (XMap.R_below Z5 hb); have n1_ := qb.mk (qw (g := gb208) (o := .cells #[.string ((qf l0 x15_1).f0), .slice (some ad211) ((qf l0 x15_1).f1).length c207_1] 110 (0, 0)) Z8 hb); have n2_ := qb.mk (qw (g := gb212) (o := .cells #[.string ((qk ((qf l0 x15_1).f1) x47_3).f0), .string ((qk ((qf l0 x15_1).f1) x47_3).f1)] 119 (0, 0)) Z1 hb); have n3_ := qb.mk (qd Z52 hb); clear HO_3 BK208 BK212 HB; have HO_3 := n0_; have BK208 := n1_; have BK212 := n2_; have HB := n3_; clear n0_ n1_ n2_ n3_; (try clear hb); (try clear hb2); (try clear hk); (try clear hi); obtain ⟨yc34_0, yc34_1, yf34_0, yf34_1⟩ := bf2 BK212.out; obtain ⟨Ao35, co35, eo35⟩ := XMap.R_slice HO_3.out; subst eo35) | ((with_reducible refine XMap.mapHas_ rfl rfl rfl rfl ?_); (refine (map_has_adr.calls (fun k_ => some k_ = XMap.mOwn (.map (some Ao35))) (.map (some Ao35)) x3_3 ((qk ((qf l0 x15_1).f1) x47_3).f0) ((qk ((qf l0 x15_1).f1) x47_3).f1) true t215 w _ ?side1 ?side2 A28.out).mono ?_); (case side1 => exact Z52); (case side2 => exact Z156); rintro e w36 ⟨rfl, hy0, hb, hkp⟩; refine XMap.ret_of ?_; have n0_ := qb.mk (XMap.R_reok rfl hy0 (fun k_ e_ => XMap.R_ok HO_3.out k_ e_)); have n1_ := qb.mk (blk_kept Z111 hkp (fun hs_ => (fun e_ => (XMap.R_ne HO_3.out BK208.out (by decide)) e_) hs_)); have n2_ := qb.mk (blk_kept Z112 hkp (fun hs_ => (fun e_ => (XMap.R_away HO_3.out (fun _ hk => hk.2)) e_) hs_)); have n3_ := qb.mk (hb); clear HO_3 BK208 BK212 HB; have HO_3 := n0_; have BK208 := n1_; have BK212 := n2_; have HB := n3_; clear n0_ n1_ n2_ n3_; (try clear hb); (try clear hkp); (try clear hy0))))
        go_ret
        exact ⟨Z97, Z52⟩
       replace c29 := Bool.eq_false_iff.mpr c29
       subst c29
       have H1 : ((map_put_adr.f t215 ((qk ((qf l0 x15_1).f1) x47_3).f0) ((qk ((qf l0 x15_1).f1) x47_3).f1)).bind fun t216 => (partner_CheckPartners.l1 k3 l0 t216 l0 (l0.length : Int) x15_1 ((qf l0 x15_1).f1) (((qf l0 x15_1).f1).length : Int) (wrap64 (x47_3 + 1)))) = some r := by rw [if_neg (show ¬ (false = true) by decide)] at H; exact H
       clear H
       have H := H1
       clear H1
       replace H := Option.bind_eq_some_iff.mp H
       obtain ⟨t216, A370, H⟩ := H
       replace H : (partner_CheckPartners.l1 k3 l0 t216 l0 (l0.length : Int) x15_1 ((qf l0 x15_1).f1) (((qf l0 x15_1).f1).length : Int) (wrap64 (x47_3 + 1))) = some r := H
       have A37 := qb.mk A370
       clear A370
       have H' := qb.mk H
       clear H
       have p211 : 0 ≤ (x47_3 : Int) := of_decide_eq_true qB
       have q211 : x47_3 < (((qf l0 x15_1).f1).length : Int) := of_decide_eq_true qB
       obtain ⟨ad211, e211, hx211_0, hx211_1⟩ := at_T119 HR207_1.out x47_3 p211 q211
       cases e211
       replace hx211_0 := bx HB hx211_0
       replace hx211_1 := bx HB hx211_1
       replace p211 := eq_true p211
       replace q211 := eq_true q211
       go_wp2_with (first | ((with_reducible refine qi (N := 7) rfl ?_); refine qh ?hg (N := 7) ?hd (cs := #[.string (⟨#[]⟩ : ByteArray), .string (⟨#[]⟩ : ByteArray)]) (t := 119) ?hr ?_; (case hd => rfl); (case hg => rfl); (case hr => exact qC); intro gb212 hg w38 hbox hb; have n0_ := qb.mk (XMap.R_below (XMap.R_elderB Z120 gb212 (Nat.le_of_eq hg.symm)) hb); have n1_ := bb BK208 hb; have n2_ := qb.mk (qd Z81 hb); have n3_ := qb.mk (hbox); have n4_ := qb.mk ((Z42 : w.heap.size ≤ gb212)); have n5_ := n4_; have n6_ := qb.mk ((Z148 : gb208 ≠ gb212)); have n7_ := qb.mk ((Z149 : gb212 ≠ gb208)); clear HO_3 BK208 HB; have HO_3 := n0_; have BK208 := n1_; have HB := n2_; have BK212 := n3_; have GW212 := n4_; have GE212 := n5_; have NB208_212 := n6_; have NB212_208 := n7_; clear n0_ n1_ n2_ n3_ n4_ n5_ n6_ n7_; clear hb hbox hg; have hnb39 := NB212_208.out; have hnc39 := NB208_212.out; obtain ⟨yc40_0, yc40_1, yf40_0, yf40_1⟩ := bf2 BK212.out) | (go_at_call 100; (with_reducible refine (partner_addressFault.calls k3 ((qk ((qf l0 x15_1).f1) x47_3).f0) ((qk ((qf l0 x15_1).f1) x47_3).f1) t213 _ A26.out).mono ?_); rintro e w41 ⟨rfl, hb⟩; have n0_ := qb.mk (XMap.R_below Z5 hb); have n1_ := qb.mk (qw (g := gb208) (o := .cells #[.string ((qf l0 x15_1).f0), .slice (some ad211) ((qf l0 x15_1).f1).length c207_1] 110 (0, 0)) Z8 hb); have n2_ := qb.mk (qw (g := gb212) (o := .cells #[.string ((qk ((qf l0 x15_1).f1) x47_3).f0), .string ((qk ((qf l0 x15_1).f1) x47_3).f1)] 119 (0, 0)) Z1 hb); have n3_ := qb.mk (qd Z52 hb); clear HO_3 BK208 BK212 HB; have HO_3 := n0_; have BK208 := n1_; have BK212 := n2_; have HB := n3_; clear n0_ n1_ n2_ n3_; (try clear hb); (try clear hb2); (try clear hk); (try clear hi); obtain ⟨yc42_0, yc42_1, yf42_0, yf42_1⟩ := bf2 BK212.out; obtain ⟨Ao43, co43, eo43⟩ := XMap.R_slice HO_3.out; subst eo43) | ((with_reducible refine XMap.mapHas_ rfl rfl rfl rfl ?_); (refine (map_has_adr.calls (fun k_ => some k_ = XMap.mOwn (.map (some Ao43))) (.map (some Ao43)) x3_3 ((qk ((qf l0 x15_1).f1) x47_3).f0) ((qk ((qf l0 x15_1).f1) x47_3).f1) false t215 w _ ?side1 ?side2 A28.out).mono ?_); (case side1 => exact Z52); (case side2 => exact Z156); rintro e w44 ⟨rfl, hy0, hb, hkp⟩; refine XMap.ret_of ?_; have n0_ := qb.mk (XMap.R_reok rfl hy0 (fun k_ e_ => XMap.R_ok HO_3.out k_ e_)); have n1_ := qb.mk (blk_kept Z111 hkp (fun hs_ => (fun e_ => (XMap.R_ne HO_3.out BK208.out (by decide)) e_) hs_)); have n2_ := qb.mk (blk_kept Z112 hkp (fun hs_ => (fun e_ => (XMap.R_away HO_3.out (fun _ hk => hk.2)) e_) hs_)); have n3_ := qb.mk (hb); clear HO_3 BK208 BK212 HB; have HO_3 := n0_; have BK208 := n1_; have BK212 := n2_; have HB := n3_; clear n0_ n1_ n2_ n3_; (try clear hb); (try clear hkp); (try clear hy0); obtain ⟨yc45_0, yc45_1, yf45_0, yf45_1⟩ := bf2 BK212.out) | ((with_reducible refine XMap.mapPut_ rfl rfl rfl rfl rfl rfl ?_); (refine (map_put_adr.calls (fun k_ => some k_ = XMap.mOwn (.map (some Ao43))) (.map (some Ao43)) t215 ((qk ((qf l0 x15_1).f1) x47_3).f0) ((qk ((qf l0 x15_1).f1) x47_3).f1) t216 w _ ?side1 ?side2 A37.out).mono ?_); (case side1 => exact Z52); (case side2 => exact Z156); rintro e w46 ⟨rfl, hy0, hb, hkp⟩; refine XMap.ret_of ?_; have n0_ := qb.mk (XMap.R_reok rfl hy0 (fun k_ e_ => XMap.R_ok HO_3.out k_ e_)); have n1_ := qb.mk (blk_kept Z111 hkp (fun hs_ => (fun e_ => (XMap.R_ne HO_3.out BK208.out (by decide)) e_) hs_)); have n2_ := qb.mk (blk_kept Z112 hkp (fun hs_ => (fun e_ => (XMap.R_away HO_3.out (fun _ hk => hk.2)) e_) hs_)); have n3_ := qb.mk (hb); clear HO_3 BK208 BK212 HB; have HO_3 := n0_; have BK208 := n1_; have BK212 := n2_; have HB := n3_; clear n0_ n1_ n2_ n3_; (try clear hb); (try clear hkp); (try clear hy0)))
       repeat (go_quiet (first | ((with_reducible refine qi (N := 7) rfl ?_); refine qh ?hg (N := 7) ?hd (cs := #[.string (⟨#[]⟩ : ByteArray), .string (⟨#[]⟩ : ByteArray)]) (t := 119) ?hr ?_; (case hd => rfl); (case hg => rfl); (case hr => exact qC); intro gb212 hg w38 hbox hb; have n0_ := qb.mk (XMap.R_below (XMap.R_elderB Z120 gb212 (Nat.le_of_eq hg.symm)) hb); have n1_ := bb BK208 hb; have n2_ := qb.mk (qd Z81 hb); have n3_ := qb.mk (hbox); have n4_ := qb.mk ((Z42 : w.heap.size ≤ gb212)); have n5_ := n4_; have n6_ := qb.mk ((Z148 : gb208 ≠ gb212)); have n7_ := qb.mk ((Z149 : gb212 ≠ gb208)); clear HO_3 BK208 HB; have HO_3 := n0_; have BK208 := n1_; have HB := n2_; have BK212 := n3_; have GW212 := n4_; have GE212 := n5_; have NB208_212 := n6_; have NB212_208 := n7_; clear n0_ n1_ n2_ n3_ n4_ n5_ n6_ n7_; clear hb hbox hg; have hnb39 := NB212_208.out; have hnc39 := NB208_212.out; obtain ⟨yc40_0, yc40_1, yf40_0, yf40_1⟩ := bf2 BK212.out) | (go_at_call 100; (with_reducible refine (partner_addressFault.calls k3 ((qk ((qf l0 x15_1).f1) x47_3).f0) ((qk ((qf l0 x15_1).f1) x47_3).f1) t213 _ A26.out).mono ?_); rintro e w41 ⟨rfl, hb⟩; have n0_ := qb.mk (XMap.R_below Z5 hb); have n1_ := qb.mk (qw (g := gb208) (o := .cells #[.string ((qf l0 x15_1).f0), .slice (some ad211) ((qf l0 x15_1).f1).length c207_1] 110 (0, 0)) Z8 hb); have n2_ := qb.mk (qw (g := gb212) (o := .cells #[.string ((qk ((qf l0 x15_1).f1) x47_3).f0), .string ((qk ((qf l0 x15_1).f1) x47_3).f1)] 119 (0, 0)) Z1 hb); have n3_ := qb.mk (qd Z52 hb); clear HO_3 BK208 BK212 HB; have HO_3 := n0_; have BK208 := n1_; have BK212 := n2_; have HB := n3_; clear n0_ n1_ n2_ n3_; (try clear hb); (try clear hb2); (try clear hk); (try clear hi); obtain ⟨yc42_0, yc42_1, yf42_0, yf42_1⟩ := bf2 BK212.out; obtain ⟨Ao43, co43, eo43⟩ := XMap.R_slice HO_3.out; subst eo43) | ((with_reducible refine XMap.mapHas_ rfl rfl rfl rfl ?_); (refine (map_has_adr.calls (fun k_ => some k_ = XMap.mOwn (.map (some Ao43))) (.map (some Ao43)) x3_3 ((qk ((qf l0 x15_1).f1) x47_3).f0) ((qk ((qf l0 x15_1).f1) x47_3).f1) false t215 w _ ?side1 ?side2 A28.out).mono ?_); (case side1 => exact Z52); (case side2 => exact Z156); rintro e w44 ⟨rfl, hy0, hb, hkp⟩; refine XMap.ret_of ?_; have n0_ := qb.mk (XMap.R_reok rfl hy0 (fun k_ e_ => XMap.R_ok HO_3.out k_ e_)); have n1_ := qb.mk (blk_kept Z111 hkp (fun hs_ => (fun e_ => (XMap.R_ne HO_3.out BK208.out (by decide)) e_) hs_)); have n2_ := qb.mk (blk_kept Z112 hkp (fun hs_ => (fun e_ => (XMap.R_away HO_3.out (fun _ hk => hk.2)) e_) hs_)); have n3_ := qb.mk (hb); clear HO_3 BK208 BK212 HB; have HO_3 := n0_; have BK208 := n1_; have BK212 := n2_; have HB := n3_; clear n0_ n1_ n2_ n3_; (try clear hb); (try clear hkp); (try clear hy0); obtain ⟨yc45_0, yc45_1, yf45_0, yf45_1⟩ := bf2 BK212.out) | ((with_reducible refine XMap.mapPut_ rfl rfl rfl rfl rfl rfl ?_); (refine (map_put_adr.calls (fun k_ => some k_ = XMap.mOwn (.map (some Ao43))) (.map (some Ao43)) t215 ((qk ((qf l0 x15_1).f1) x47_3).f0) ((qk ((qf l0 x15_1).f1) x47_3).f1) t216 w _ ?side1 ?side2 A37.out).mono ?_); (case side1 => exact Z52); (case side2 => exact Z156); rintro e w46 ⟨rfl, hy0, hb, hkp⟩; refine XMap.ret_of ?_; have n0_ := qb.mk (XMap.R_reok rfl hy0 (fun k_ e_ => XMap.R_ok HO_3.out k_ e_)); have n1_ := qb.mk (blk_kept Z111 hkp (fun hs_ => (fun e_ => (XMap.R_ne HO_3.out BK208.out (by decide)) e_) hs_)); have n2_ := qb.mk (blk_kept Z112 hkp (fun hs_ => (fun e_ => (XMap.R_away HO_3.out (fun _ hk => hk.2)) e_) hs_)); have n3_ := qb.mk (hb); clear HO_3 BK208 BK212 HB; have HO_3 := n0_; have BK208 := n1_; have BK212 := n2_; have HB := n3_; clear n0_ n1_ n2_ n3_; (try clear hb); (try clear hkp); (try clear hy0))); try go_wp2_with (first | ((with_reducible refine qi (N := 7) rfl ?_); refine qh ?hg (N := 7) ?hd (cs := #[.string (⟨#[]⟩ : ByteArray), .string (⟨#[]⟩ : ByteArray)]) (t := 119) ?hr ?_; (case hd => rfl); (case hg => rfl); (case hr => exact qC); intro gb212 hg w38 hbox hb; have n0_ := qb.mk (XMap.R_below (XMap.R_elderB Z120 gb212 (Nat.le_of_eq hg.symm)) hb); have n1_ := bb BK208 hb; have n2_ := qb.mk (qd Z81 hb); have n3_ := qb.mk (hbox); have n4_ := qb.mk ((Z42 : w.heap.size ≤ gb212)); have n5_ := n4_; have n6_ := qb.mk ((Z148 : gb208 ≠ gb212)); have n7_ := qb.mk ((Z149 : gb212 ≠ gb208)); clear HO_3 BK208 HB; have HO_3 := n0_; have BK208 := n1_; have HB := n2_; have BK212 := n3_; have GW212 := n4_; have GE212 := n5_; have NB208_212 := n6_; have NB212_208 := n7_; clear n0_ n1_ n2_ n3_ n4_ n5_ n6_ n7_; clear hb hbox hg; have hnb39 := NB212_208.out; have hnc39 := NB208_212.out; obtain ⟨yc40_0, yc40_1, yf40_0, yf40_1⟩ := bf2 BK212.out) | (go_at_call 100; (with_reducible refine (partner_addressFault.calls k3 ((qk ((qf l0 x15_1).f1) x47_3).f0) ((qk ((qf l0 x15_1).f1) x47_3).f1) t213 _ A26.out).mono ?_); rintro e w41 ⟨rfl, hb⟩; have n0_ := qb.mk (XMap.R_below Z5 hb); have n1_ := qb.mk (qw (g := gb208) (o := .cells #[.string ((qf l0 x15_1).f0), .slice (some ad211) ((qf l0 x15_1).f1).length c207_1] 110 (0, 0)) Z8 hb); have n2_ := qb.mk (qw (g := gb212) (o := .cells #[.string ((qk ((qf l0 x15_1).f1) x47_3).f0), .string ((qk ((qf l0 x15_1).f1) x47_3).f1)] 119 (0, 0)) Z1 hb); have n3_ := qb.mk (qd Z52 hb); clear HO_3 BK208 BK212 HB; have HO_3 := n0_; have BK208 := n1_; have BK212 := n2_; have HB := n3_; clear n0_ n1_ n2_ n3_; (try clear hb); (try clear hb2); (try clear hk); (try clear hi); obtain ⟨yc42_0, yc42_1, yf42_0, yf42_1⟩ := bf2 BK212.out; obtain ⟨Ao43, co43, eo43⟩ := XMap.R_slice HO_3.out; subst eo43) | ((with_reducible refine XMap.mapHas_ rfl rfl rfl rfl ?_); (refine (map_has_adr.calls (fun k_ => some k_ = XMap.mOwn (.map (some Ao43))) (.map (some Ao43)) x3_3 ((qk ((qf l0 x15_1).f1) x47_3).f0) ((qk ((qf l0 x15_1).f1) x47_3).f1) false t215 w _ ?side1 ?side2 A28.out).mono ?_); (case side1 => exact Z52); (case side2 => exact Z156); rintro e w44 ⟨rfl, hy0, hb, hkp⟩; refine XMap.ret_of ?_; have n0_ := qb.mk (XMap.R_reok rfl hy0 (fun k_ e_ => XMap.R_ok HO_3.out k_ e_)); have n1_ := qb.mk (blk_kept Z111 hkp (fun hs_ => (fun e_ => (XMap.R_ne HO_3.out BK208.out (by decide)) e_) hs_)); have n2_ := qb.mk (blk_kept Z112 hkp (fun hs_ => (fun e_ => (XMap.R_away HO_3.out (fun _ hk => hk.2)) e_) hs_)); have n3_ := qb.mk (hb); clear HO_3 BK208 BK212 HB; have HO_3 := n0_; have BK208 := n1_; have BK212 := n2_; have HB := n3_; clear n0_ n1_ n2_ n3_; (try clear hb); (try clear hkp); (try clear hy0); obtain ⟨yc45_0, yc45_1, yf45_0, yf45_1⟩ := bf2 BK212.out) | ((with_reducible refine XMap.mapPut_ rfl rfl rfl rfl rfl rfl ?_); (refine (map_put_adr.calls (fun k_ => some k_ = XMap.mOwn (.map (some Ao43))) (.map (some Ao43)) t215 ((qk ((qf l0 x15_1).f1) x47_3).f0) ((qk ((qf l0 x15_1).f1) x47_3).f1) t216 w _ ?side1 ?side2 A37.out).mono ?_); (case side1 => exact Z52); (case side2 => exact Z156); rintro e w46 ⟨rfl, hy0, hb, hkp⟩; refine XMap.ret_of ?_; have n0_ := qb.mk (XMap.R_reok rfl hy0 (fun k_ e_ => XMap.R_ok HO_3.out k_ e_)); have n1_ := qb.mk (blk_kept Z111 hkp (fun hs_ => (fun e_ => (XMap.R_ne HO_3.out BK208.out (by decide)) e_) hs_)); have n2_ := qb.mk (blk_kept Z112 hkp (fun hs_ => (fun e_ => (XMap.R_away HO_3.out (fun _ hk => hk.2)) e_) hs_)); have n3_ := qb.mk (hb); clear HO_3 BK208 BK212 HB; have HO_3 := n0_; have BK208 := n1_; have BK212 := n2_; have HB := n3_; clear n0_ n1_ n2_ n3_; (try clear hb); (try clear hkp); (try clear hy0))))
       go_roundg k3
       case measure => have := HK1.out; have := HJ9.out; have := HK3.out; omega
       case rel => exact ⟨(t216), (wrap64 (x47_3 + 1)), qD, H', ⟨by have := HK1.out; have := HJ9.out; have := HK3.out; omega⟩, ⟨by (with_reducible repeat (first | apply XMap.R_alloc | apply XMap.R_drewN | apply XMap.R_drew)); exact XMap.R_mono HO_3.out (fun _ hk => trivial)⟩, ⟨Z111⟩, ⟨Z52⟩⟩
/-! ### kit_Outside: function 75 -/
def kit_Outside.f (a0 : Int) (a1 : Int) (a2 : Int) : Option (Bool) := if a0 < a1 then (some true) else (some (decide (a0 > a2)))
set_option maxHeartbeats 8000000 in
set_option maxRecDepth 100000 in
theorem kit_Outside.calls (a0 : Int) (a1 : Int) (a2 : Int) (r : Bool) (w : World) (h : kit_Outside.f a0 a1 a2 = some r) :
  Calls Tryz.prog 75 #[.int .i64 a0, .int .i64 a1, .int .i64 a2] w fun e w' => e = .returned (.bool r) ∧ Drawn0 w w' := by
 have H : (if a0 < a1 then (some true) else (some (decide (a0 > a2)))) = some r := h
 clear h
 by_cases c4 : a0 < a1
 case pos =>
  rw [if_pos c4] at H
  have c4b0 : decide (a0 < a1) = true := decide_eq_true c4
  clear c4
  obtain rfl := Option.some.inj H
  go_enter Tryz.func75, Tryz.ntmps75
  go_wp2
  go_ret
  exact ⟨Z141, Z138⟩
 rw [if_neg c4] at H
 have c4b0 : decide (a0 < a1) = false := decide_eq_false c4
 clear c4
 obtain rfl := Option.some.inj H
 go_enter Tryz.func75, Tryz.ntmps75
 go_wp2
 go_ret
 exact ⟨Z141, Z138⟩

/-! ### partner_isAny: function 101 -/
def partner_isAny.f (a0 : ByteArray) : Option (Bool) := if a0.toList = ([] : List UInt8) then (some true) else ((kit_IsName.f a0).bind fun t217 => (some t217))
set_option maxHeartbeats 8000000 in
set_option maxRecDepth 100000 in
theorem partner_isAny.calls (a0 : ByteArray) (r : Bool) (w : World) (h : partner_isAny.f a0 = some r) :
  Calls Tryz.prog 101 #[.string a0] w fun e w' => e = .returned (.bool r) ∧ Below w.heap.size w w' := by
 have HB := qb.mk (Below.refl w.heap.size w)
 have H : (if a0.toList = ([] : List UInt8) then (some true) else ((kit_IsName.f a0).bind fun t217 => (some t217))) = some r := h
 clear h
 by_cases c2 : a0.toList = ([] : List UInt8)
 case pos =>
  rw [if_pos c2] at H
  have c2b0 : (a0.toList == ([] : List UInt8)) = true := beq_iff_eq.mpr c2
  have c2b1 : (a0.toList != ([] : List UInt8)) = false := bne_eq_false_iff_eq.mpr c2
  clear c2
  obtain rfl := Option.some.inj H
  go_enter Tryz.func101, Tryz.ntmps101
  go_wp2
  go_ret
  exact ⟨Z97, qz⟩
 rw [if_neg c2] at H
 have c2b0 : (a0.toList == ([] : List UInt8)) = false := beq_eq_false_iff_ne.mpr c2
 have c2b1 : (a0.toList != ([] : List UInt8)) = true := bne_iff_ne.mpr c2
 replace H := Option.bind_eq_some_iff.mp H
 obtain ⟨t217, A30, H⟩ := H
 replace H : (some t217) = some r := H
 have A3 := qb.mk A30
 clear A30
 obtain rfl := Option.some.inj H
 go_enter Tryz.func101, Tryz.ntmps101
 go_wp2_with (first | (go_at_call 88; (with_reducible refine (kit_IsName.calls a0 t217 _ A3.out).mono ?_); rintro e w4 ⟨rfl, hb⟩; have n0_ := qb.mk (qd qz hb); clear HB; have HB := n0_; clear n0_; (try clear hb); (try clear hb2); (try clear hk); (try clear hi)))
 go_ret
 exact ⟨Z97, qz⟩

end Go.Proofs.YtmmknokdgbgjgaaGreatDoor.XPartnerDaysMatchSpec
