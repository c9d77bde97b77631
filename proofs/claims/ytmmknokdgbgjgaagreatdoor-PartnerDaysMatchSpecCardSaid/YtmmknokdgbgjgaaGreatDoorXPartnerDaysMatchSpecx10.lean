-- Walks of PartnerDaysMatchSpec: written by xprint.py out of the translation (hand-proved functions among them). Lean checks it.
import Derived.Test.YtmmknokdgbgjgaaGreatDoorXPartnerDaysMatchSpecx0
import Derived.Test.YtmmknokdgbgjgaaGreatDoorXPartnerDaysMatchSpecx2
import Derived.Test.YtmmknokdgbgjgaaGreatDoorXPartnerDaysMatchSpecx9
namespace Go.Proofs.YtmmknokdgbgjgaaGreatDoor.XPartnerDaysMatchSpec
open Go.RowKit Go.Proofs.YtmmknokdgbgjgaaGreatDoorW.PrintWords Go.Proofs.YtmmknokdgbgjgaaGreatDoorW.PrintLast Go.Proofs.YtmmknokdgbgjgaaGreatDoorW.PrintMore
attribute [local go_sem] max2_int min2_int max_two min_two max_three min_three max_four min_four   -- for this text's walks alone
set_option linter.unusedVariables false
set_option linter.unusedSimpArgs false

/-! ### fn_bsearch_partner: function 221 -/
def fn_bsearch_partner.l0 : Nat → List (S110) → ByteArray → Int → Int → Int → Option (Int × Bool)
 | 0, _, _, _, _, _ => none
 | k + 1, x0, x1, x8, x9, x10 => if x9 < x10 then (if 0 ≤ (wrap64 ((IntKind.u64.wrap (wrap64 (x9 + x10))) / 2)) then (if (wrap64 ((IntKind.u64.wrap (wrap64 (x9 + x10))) / 2)) < (x0.length : Int) then ((partner_isPartner_1.f ((qf x0 (wrap64 ((IntKind.u64.wrap (wrap64 (x9 + x10))) / 2))).f0) ((qf x0 (wrap64 ((IntKind.u64.wrap (wrap64 (x9 + x10))) / 2))).f1) x1).bind fun t195 => (if t195 < 0 then (fn_bsearch_partner.l0 k x0 x1 x8 (wrap64 ((wrap64 ((IntKind.u64.wrap (wrap64 (x9 + x10))) / 2)) + 1)) x10) else (fn_bsearch_partner.l0 k x0 x1 x8 x9 (wrap64 ((IntKind.u64.wrap (wrap64 (x9 + x10))) / 2))))) else (none)) else (none)) else (if x9 < x8 then (if 0 ≤ x9 then (if x9 < (x0.length : Int) then ((partner_isPartner_1.f ((qf x0 x9).f0) ((qf x0 x9).f1) x1).bind fun t197 => (some (x9, (t197 == 0)))) else (none)) else (none)) else (some (x9, false)))
def fn_bsearch_partner.f (k : Nat) (l0 : List (S110)) (a1 : ByteArray) : Option (Int × Bool) := fn_bsearch_partner.l0 k l0 a1 (l0.length : Int) 0 (l0.length : Int)
theorem fn_bsearch_partner.mono_l : ∀ k, (∀ y0 y1 y2 y3 y4, qv (fn_bsearch_partner.l0 k y0 y1 y2 y3 y4) (fn_bsearch_partner.l0 (k + 1) y0 y1 y2 y3 y4))
 | 0 => fun _ _ _ _ _ r h => by simp [fn_bsearch_partner.l0] at h
 | k + 1 => by
  have ih0 := fn_bsearch_partner.mono_l k
  ·intro y0 y1 y2 y3 y4
   unfold fn_bsearch_partner.l0
   repeat' first
   | (with_reducible apply ih0)
   | (with_reducible exact qv.refl _)
   | (with_reducible exact qv.none _)
   | (with_reducible refine qv.ite ?_ ?_)
   | (with_reducible refine qv.bind ?_ (fun _ => ?_))
   | apply ih0
   | exact qv.none _
   | refine qv.ite ?_ ?_
   | refine qv.bind ?_ (fun _ => ?_)
theorem fn_bsearch_partner.mono : ∀ a0 a1 k, qv (fn_bsearch_partner.f k a0 a1) (fn_bsearch_partner.f (k + 1) a0 a1) := by
 intro a0 a1 k
 have ih0 := fn_bsearch_partner.mono_l k
 unfold fn_bsearch_partner.f
 repeat' first
   | (with_reducible apply ih0)
   | (with_reducible exact qv.refl _)
   | (with_reducible exact qv.none _)
   | (with_reducible refine qv.ite ?_ ?_)
   | (with_reducible refine qv.bind ?_ (fun _ => ?_))
   | apply ih0
   | exact qv.none _
   | refine qv.ite ?_ ?_
   | refine qv.bind ?_ (fun _ => ?_)
set_option maxHeartbeats 8000000 in
set_option maxRecDepth 100000 in
theorem fn_bsearch_partner.calls (k : Nat) (A0 : Option Addr) (c0 : Nat) (l0 : List (S110)) (a1 : ByteArray) (r1 : Int) (r2 : Bool) (w : World) (hr0 : Kd.C k110 w A0 l0.length l0) (hc0 : l0.length ≤ c0) (h : fn_bsearch_partner.f k l0 a1 = some (r1, r2)) :
  Calls Tryz.prog 90 #[.slice A0 l0.length c0, .string a1, .func (.func 91) #[] #[]] w fun e w' => e = .returned (.tuple #[.int .i64 r1, .bool r2]) ∧ Below w.heap.size w w' := by
 have hu110 := Tryz.underlying110
 have HR0 := qb.mk hr0
 have HC0 := qb.mk hc0
 clear hr0 hc0
 have HB := qb.mk (Below.refl w.heap.size w)
 have H : (fn_bsearch_partner.l0 k l0 a1 (l0.length : Int) 0 (l0.length : Int)) = some (r1, r2) := h
 clear h
 have H' := qb.mk H
 clear H
 go_enter Tryz.func90, Tryz.ntmps90
 go_wp2
 go_loopg [9, 10] k (fun kq v9 v10 w' => ∃ (x9_1 : Int) (x10_1 : Int), v9 = .int .i64 x9_1 ∧ v10 = .int .i64 x10_1 ∧ qb (fn_bsearch_partner.l0 kq l0 a1 (l0.length : Int) x9_1 x10_1 = some (r1, r2)) ∧ qb (kq ≤ k) ∧ qb (Below w.heap.size w w'))
 case atStart => exact ⟨(0), ((l0.length : Int)), qD, qD, H', ⟨Nat.le_refl _⟩, ⟨qz⟩⟩
 case round =>
  clear H'
  try clear c2; try clear p2
  obtain ⟨x9_1, x10_1, rfl, rfl, HA, HK1, HB⟩ := hrel
  cases gk with
  | zero => exact absurd HA.out (by simp [fn_bsearch_partner.l0])
  | succ k1 =>
   have H := HA.out
   clear HA
   simp only [fn_bsearch_partner.l0] at H
   by_cases c3 : x9_1 < x10_1
   case neg =>
    rw [if_neg c3] at H
    have c3b0 : decide (x9_1 < x10_1) = false := decide_eq_false c3
    clear c3
    by_cases c11 : x9_1 < (l0.length : Int)
    case neg =>
     rw [if_neg c11] at H
     have c11b0 : decide (x9_1 < (l0.length : Int)) = false := decide_eq_false c11
     clear c11
     simp only [Option.some.injEq, Prod.mk.injEq] at H
     obtain ⟨rfl, rfl⟩ := H
     go_wp2
     go_ret2
     exact ⟨Z97, qz⟩

    rw [if_pos c11] at H
    have c11b0 : decide (x9_1 < (l0.length : Int)) = true := decide_eq_true c11
    clear c11
    by_cases c12 : 0 ≤ x9_1
    case neg =>
     rw [if_neg c12] at H
     exact absurd H (by simp)
    rw [if_pos c12] at H
    have c12b0 : decide (0 ≤ x9_1) = true := decide_eq_true c12
    clear c12
    by_cases c13 : x9_1 < (l0.length : Int)
    case neg =>
     rw [if_neg c13] at H
     exact absurd H (by simp)
    rw [if_pos c13] at H
    have c13b0 : decide (x9_1 < (l0.length : Int)) = true := decide_eq_true c13
    clear c13
    replace H := Option.bind_eq_some_iff.mp H
    obtain ⟨t197, A140, H⟩ := H
    replace H : (some (x9_1, (t197 == 0))) = some (r1, r2) := H
    have A14 := qb.mk A140
    clear A140
    simp only [Option.some.injEq, Prod.mk.injEq] at H
    obtain ⟨rfl, rfl⟩ := H
    have p196 : 0 ≤ (x9_1 : Int) := of_decide_eq_true qB
    have q196 : x9_1 < (l0.length : Int) := of_decide_eq_true qB
    obtain ⟨ad196, A196_1, c196_1, e196, hx196_0, hx196_1, hl196_1, hi196_1⟩ := at_T110 HR0.out x9_1 p196 q196
    cases e196
    replace hx196_0 := bx HB hx196_0
    replace hx196_1 := bx HB hx196_1
    have HR196_1 := qb.mk hi196_1
    have HC196_1 := qb.mk hl196_1
    clear hi196_1 hl196_1
    replace p196 := eq_true p196
    replace q196 := eq_true q196
    go_wp2_with (first | (go_at_call 91; (with_reducible refine (partner_isPartner_1.calls ((qf l0 x9_1).f0) _ _ ((qf l0 x9_1).f1) a1 t197 _ ?side1 ?side2 A14.out).mono ?_); (case side1 => repeat (first | exact (Kd.C_below HR196_1.out HB.out) | (with_reducible refine Kd.C_alloc ?_ _) | (with_reducible refine Kd.C_drewN ?_ _) | (with_reducible refine Kd.C_drew ?_))); (case side2 => exact HC196_1.out); rintro e w15 ⟨rfl, hb⟩; have n0_ := qb.mk (qd qz hb); clear HB; have HB := n0_; clear n0_; (try clear hb); (try clear hb2); (try clear hk); (try clear hi)))
    go_ret2
    exact ⟨Z97, qz⟩
   rw [if_pos c3] at H
   have c3b0 : decide (x9_1 < x10_1) = true := decide_eq_true c3
   clear c3
   obtain ⟨ji4, hji4⟩ : ∃ j_ : Int, (wrap64 ((IntKind.u64.wrap (wrap64 (x9_1 + x10_1))) / 2)) = j_ := ⟨_, rfl⟩
   replace H : (if 0 ≤ (ji4) then (if (ji4) < (l0.length : Int) then ((partner_isPartner_1.f ((qf l0 (ji4)).f0) ((qf l0 (ji4)).f1) a1).bind fun t195 => (if t195 < 0 then (fn_bsearch_partner.l0 k1 l0 a1 (l0.length : Int) (wrap64 ((ji4) + 1)) x10_1) else (fn_bsearch_partner.l0 k1 l0 a1 (l0.length : Int) x9_1 ji4))) else (none)) else (none)) = some (r1, r2) := by first | (rw [hji4] at H; exact H) | (simp only [hji4] at H ⊢; exact H)
   have hji4w : (IntKind.i64.wrap ((IntKind.u64.wrap (wrap64 (x9_1 + x10_1))) / 2)) = ji4 := (qr _).trans hji4
   by_cases c5 : 0 ≤ (ji4)
   case neg =>
    rw [if_neg c5] at H
    exact absurd H (by simp)
   rw [if_pos c5] at H
   have c5b0 : decide (0 ≤ (ji4)) = true := decide_eq_true c5
   clear c5
   by_cases c6 : (ji4) < (l0.length : Int)
   case neg =>
    rw [if_neg c6] at H
    exact absurd H (by simp)
   rw [if_pos c6] at H
   have c6b0 : decide ((ji4) < (l0.length : Int)) = true := decide_eq_true c6
   clear c6
   replace H := Option.bind_eq_some_iff.mp H
   obtain ⟨t195, A70, H⟩ := H
   replace H : (if t195 < 0 then (fn_bsearch_partner.l0 k1 l0 a1 (l0.length : Int) (wrap64 ((ji4) + 1)) x10_1) else (fn_bsearch_partner.l0 k1 l0 a1 (l0.length : Int) x9_1 ji4)) = some (r1, r2) := H
   have A7 := qb.mk A70
   clear A70
   by_cases c8 : t195 < 0
   case neg =>
    rw [if_neg c8] at H
    have c8b0 : decide (t195 < 0) = false := decide_eq_false c8
    clear c8
    have H' := qb.mk H
    clear H
    have p194 : 0 ≤ ((ji4) : Int) := of_decide_eq_true qB
    have q194 : (ji4) < (l0.length : Int) := of_decide_eq_true qB
    obtain ⟨ad194, A194_1, c194_1, e194, hx194_0, hx194_1, hl194_1, hi194_1⟩ := at_T110 HR0.out (ji4) p194 q194
    cases e194
    replace hx194_0 := bx HB hx194_0
    replace hx194_1 := bx HB hx194_1
    have HR194_1 := qb.mk hi194_1
    have HC194_1 := qb.mk hl194_1
    clear hi194_1 hl194_1
    replace p194 := eq_true p194
    replace q194 := eq_true q194
    go_wp2_with (first | (go_at_call 91; (with_reducible refine (partner_isPartner_1.calls ((qf l0 (ji4)).f0) _ _ ((qf l0 (ji4)).f1) a1 t195 _ ?side1 ?side2 A7.out).mono ?_); (case side1 => repeat (first | exact (Kd.C_below HR194_1.out HB.out) | (with_reducible refine Kd.C_alloc ?_ _) | (with_reducible refine Kd.C_drewN ?_ _) | (with_reducible refine Kd.C_drew ?_))); (case side2 => exact HC194_1.out); rintro e w10 ⟨rfl, hb⟩; have n0_ := qb.mk (qd qz hb); clear HB; have HB := n0_; clear n0_; (try clear hb); (try clear hb2); (try clear hk); (try clear hi)))
    go_roundg k1
    case measure => have := HK1.out; omega
    case rel => exact ⟨(x9_1), (ji4), qD, (by first | rfl | (simp; done) | (simp only [← hji4] <;> (first | rfl | simp)) | (simp [*]; done)), H', ⟨Z157⟩, ⟨qz⟩⟩
   rw [if_pos c8] at H
   have c8b0 : decide (t195 < 0) = true := decide_eq_true c8
   clear c8
   have H' := qb.mk H
   clear H
   have p194 : 0 ≤ ((ji4) : Int) := of_decide_eq_true qB
   have q194 : (ji4) < (l0.length : Int) := of_decide_eq_true qB
   obtain ⟨ad194, A194_1, c194_1, e194, hx194_0, hx194_1, hl194_1, hi194_1⟩ := at_T110 HR0.out (ji4) p194 q194
   cases e194
   replace hx194_0 := bx HB hx194_0
   replace hx194_1 := bx HB hx194_1
   have HR194_1 := qb.mk hi194_1
   have HC194_1 := qb.mk hl194_1
   clear hi194_1 hl194_1
   replace p194 := eq_true p194
   replace q194 := eq_true q194
   go_wp2_with (first | (go_at_call 91; (with_reducible refine (partner_isPartner_1.calls ((qf l0 (ji4)).f0) _ _ ((qf l0 (ji4)).f1) a1 t195 _ ?side1 ?side2 A7.out).mono ?_); (case side1 => repeat (first | exact (Kd.C_below HR194_1.out HB.out) | (with_reducible refine Kd.C_alloc ?_ _) | (with_reducible refine Kd.C_drewN ?_ _) | (with_reducible refine Kd.C_drew ?_))); (case side2 => exact HC194_1.out); rintro e w9 ⟨rfl, hb⟩; have n0_ := qb.mk (qd qz hb); clear HB; have HB := n0_; clear n0_; (try clear hb); (try clear hb2); (try clear hk); (try clear hi)))
   go_roundg k1
   case measure => have := HK1.out; omega
   case rel => exact ⟨(wrap64 ((ji4) + 1)), (x10_1), (by first | rfl | (simp; done) | (simp only [← hji4] <;> (first | rfl | simp)) | (simp [*]; done)), qD, H', ⟨Z157⟩, ⟨qz⟩⟩
/-! ### partner_isPartner: function 55 -/
def partner_isPartner.f (k : Nat) (l0 : List (S110)) (a1 : ByteArray) : Option (Bool) := (fn_bsearch_partner.f k l0 a1).bind fun bt198 => (some bt198.2)
theorem partner_isPartner.mono : ∀ a0 a1 k, qv (partner_isPartner.f k a0 a1) (partner_isPartner.f (k + 1) a0 a1) := by
 intro a0 a1 k
 unfold partner_isPartner.f
 repeat' first
   | (with_reducible apply fn_bsearch_partner.mono)
   | (with_reducible exact qv.refl _)
   | (with_reducible exact qv.none _)
   | (with_reducible refine qv.ite ?_ ?_)
   | (with_reducible refine qv.bind ?_ (fun _ => ?_))
   | apply fn_bsearch_partner.mono
   | exact qv.none _
   | refine qv.ite ?_ ?_
   | refine qv.bind ?_ (fun _ => ?_)
set_option maxHeartbeats 8000000 in
set_option maxRecDepth 100000 in
theorem partner_isPartner.calls (k : Nat) (A0 : Option Addr) (c0 : Nat) (l0 : List (S110)) (a1 : ByteArray) (r : Bool) (w : World) (hr0 : Kd.C k110 w A0 l0.length l0) (hc0 : l0.length ≤ c0) (h : partner_isPartner.f k l0 a1 = some r) :
  Calls Tryz.prog 55 #[.slice A0 l0.length c0, .string a1] w fun e w' => e = .returned (.bool r) ∧ Below w.heap.size w w' := by
 have HR0 := qb.mk hr0
 have HC0 := qb.mk hc0
 clear hr0 hc0
 have HB := qb.mk (Below.refl w.heap.size w)
 have H : ((fn_bsearch_partner.f k l0 a1).bind fun bt198 => (some bt198.2)) = some r := h
 clear h
 replace H := Option.bind_eq_some_iff.mp H
 obtain ⟨⟨t198, t199⟩, A30, H⟩ := H
 replace H : (some t199) = some r := H
 have A3 := qb.mk A30
 clear A30
 obtain rfl := Option.some.inj H
 go_enter Tryz.func55, Tryz.ntmps55
 go_wp2_with (first | ((with_reducible refine qg (f := 90) rfl ?_); refine goesL_ (some 10) rfl rfl Tryz.func90 (by kernel_rfl) rfl #[.slice A0 l0.length c0, .string a1, .func (.func 91) #[] #[]] rfl Z61 ?_; (with_reducible refine (fn_bsearch_partner.calls k _ _ l0 a1 t198 t199 _ ?side1 ?side2 A3.out).mono ?_); (case side1 => exact Z98); (case side2 => exact Z158); rintro e w4 ⟨rfl, hb⟩; refine ⟨_, rfl, ?_⟩; have n0_ := qb.mk (qd qz hb); clear HB; have HB := n0_; clear n0_; (try clear hb); (try clear hb2); (try clear hk); (try clear hi)))
 go_ret
 exact ⟨Z97, qz⟩

/-! ### strings_Trim: function 80 -/
def strings_Trim.f (a0 : ByteArray) (a1 : ByteArray) : Option (ByteArray) := if a0.size ≤ 9223372036854775807 ∧ a1.size < 4294967281 ∧ a1.data.toList.all (fun b => decide (b.toNat < 128)) = true then some ⟨(Lib.trimS a0.data.toList a1.data.toList).toArray⟩ else none
theorem strings_Trim.calls (a0 : ByteArray) (a1 : ByteArray) (r : ByteArray) (w : World) (h : strings_Trim.f a0 a1 = some r) :
  Calls Tryz.prog 80 #[.string a0, .string a1] w fun e w' => e = .returned (.string r) ∧ Below w.heap.size w w' := by
 unfold strings_Trim.f at h
 split at h
 ·rename_i hc
  obtain rfl := Option.some.inj h
  exact Go.Proofs.Any.strings_Trim_laid Tryz.lays160 (by kernel_rfl) a0 a1 w hc.1 hc.2.1 (Go.Proofs.ascii_of_all hc.2.2)
 ·cases h

/-! ### kit_IsName: function 88 -/
def kit_IsName.f (a0 : ByteArray) : Option (Bool) := if (a0.size : Int) < 1 then (some false) else (if (a0.size : Int) > 40 then (some false) else (if 0 < (a0.size : Int) then (if (bt a0 0) < 97 then (some false) else (if (bt a0 0) > 122 then (some false) else ((strings_Trim.f a0 (⟨#[97, 98, 99, 100, 101, 102, 103, 104, 105, 106, 107, 108, 109, 110, 111, 112, 113, 114, 115, 116, 117, 118, 119, 120, 121, 122, 48, 49, 50, 51, 52, 53, 54, 55, 56, 57, 45]⟩ : ByteArray)).bind fun t200 => (some (t200.toList == ([] : List UInt8)))))) else (none)))
set_option maxHeartbeats 8000000 in
set_option maxRecDepth 100000 in
theorem kit_IsName.calls (a0 : ByteArray) (r : Bool) (w : World) (h : kit_IsName.f a0 = some r) :
  Calls Tryz.prog 88 #[.string a0] w fun e w' => e = .returned (.bool r) ∧ Below w.heap.size w w' := by
 have HB := qb.mk (Below.refl w.heap.size w)
 have H : (if (a0.size : Int) < 1 then (some false) else (if (a0.size : Int) > 40 then (some false) else (if 0 < (a0.size : Int) then (if (bt a0 0) < 97 then (some false) else (if (bt a0 0) > 122 then (some false) else ((strings_Trim.f a0 (⟨#[97, 98, 99, 100, 101, 102, 103, 104, 105, 106, 107, 108, 109, 110, 111, 112, 113, 114, 115, 116, 117, 118, 119, 120, 121, 122, 48, 49, 50, 51, 52, 53, 54, 55, 56, 57, 45]⟩ : ByteArray)).bind fun t200 => (some (t200.toList == ([] : List UInt8)))))) else (none)))) = some r := h
 clear h
 by_cases c2 : (a0.size : Int) < 1
 case pos =>
  rw [if_pos c2] at H
  have c2b0 : decide ((a0.size : Int) < 1) = true := decide_eq_true c2
  have c2b1 : decide (a0.size < 1) = true := decide_eq_true (by omega)
  clear c2
  obtain rfl := Option.some.inj H
  go_enter Tryz.func88, Tryz.ntmps88
  go_wp2
  go_ret
  exact ⟨Z97, qz⟩
 rw [if_neg c2] at H
 have c2b0 : decide ((a0.size : Int) < 1) = false := decide_eq_false c2
 have c2b1 : decide (a0.size < 1) = false := decide_eq_false (by omega)
 clear c2
 by_cases c3 : (a0.size : Int) > 40
 case pos =>
  rw [if_pos c3] at H
  have c3b0 : decide (40 < (a0.size : Int)) = true := decide_eq_true c3
  have c3b1 : decide (40 < a0.size) = true := decide_eq_true (by omega)
  clear c3
  obtain rfl := Option.some.inj H
  go_enter Tryz.func88, Tryz.ntmps88
  go_wp2
  go_ret
  exact ⟨Z97, qz⟩
 rw [if_neg c3] at H
 have c3b0 : decide (40 < (a0.size : Int)) = false := decide_eq_false c3
 have c3b1 : decide (40 < a0.size) = false := decide_eq_false (by omega)
 clear c3
 by_cases c4 : 0 < (a0.size : Int)
 case neg =>
  rw [if_neg c4] at H
  exact absurd H (by simp)

 rw [if_pos c4] at H
 have c4b0 : decide (0 < (a0.size : Int)) = true := decide_eq_true c4
 have c4b1 : decide (0 < a0.size) = true := decide_eq_true (by omega)
 clear c4
 by_cases c6 : (bt a0 0) < 97
 case pos =>
  rw [if_pos c6] at H
  have c6b0 : decide ((bt a0 0) < 97) = true := decide_eq_true c6
  clear c6
  obtain rfl := Option.some.inj H
  have p5 : 0 ≤ (0 : Int) := (by omega)
  have q5 : 0 < a0.size := (by have : (0 : Int) < (a0.size : Int) := of_decide_eq_true qB; omega)
  have hx5 : ∀ h : 0 < a0.size, ((a0[0]'h).toNat : Int) = bt a0 0 := bt_at a0 0
  clear p5
  have qi5 : (0 < (a0.size : Int)) = True := eq_true (of_decide_eq_true qB)
  replace q5 := eq_true q5
  go_enter Tryz.func88, Tryz.ntmps88
  go_wp2
  go_ret
  exact ⟨Z97, qz⟩
 rw [if_neg c6] at H
 have c6b0 : decide ((bt a0 0) < 97) = false := decide_eq_false c6
 clear c6
 by_cases c8 : (bt a0 0) > 122
 case pos =>
  rw [if_pos c8] at H
  have c8b0 : decide (122 < (bt a0 0)) = true := decide_eq_true c8
  clear c8
  obtain rfl := Option.some.inj H
  have p5 : 0 ≤ (0 : Int) := (by omega)
  have q5 : 0 < a0.size := (by have : (0 : Int) < (a0.size : Int) := of_decide_eq_true qB; omega)
  have hx5 : ∀ h : 0 < a0.size, ((a0[0]'h).toNat : Int) = bt a0 0 := bt_at a0 0
  clear p5
  have qi5 : (0 < (a0.size : Int)) = True := eq_true (of_decide_eq_true qB)
  replace q5 := eq_true q5
  have p7 : 0 ≤ (0 : Int) := (by omega)
  have q7 : 0 < a0.size := (by have : (0 : Int) < (a0.size : Int) := of_decide_eq_true qB; omega)
  have hx7 : ∀ h : 0 < a0.size, ((a0[0]'h).toNat : Int) = bt a0 0 := bt_at a0 0
  clear p7
  have qi7 : (0 < (a0.size : Int)) = True := eq_true (of_decide_eq_true qB)
  replace q7 := eq_true q7
  go_enter Tryz.func88, Tryz.ntmps88
  go_wp2
  go_ret
  exact ⟨Z97, qz⟩
 rw [if_neg c8] at H
 have c8b0 : decide (122 < (bt a0 0)) = false := decide_eq_false c8
 clear c8
 replace H := Option.bind_eq_some_iff.mp H
 obtain ⟨t200, A90, H⟩ := H
 replace H : (some (t200.toList == ([] : List UInt8))) = some r := H
 have A9 := qb.mk A90
 clear A90
 obtain rfl := Option.some.inj H
 have p5 : 0 ≤ (0 : Int) := (by omega)
 have q5 : 0 < a0.size := (by have : (0 : Int) < (a0.size : Int) := of_decide_eq_true qB; omega)
 have hx5 : ∀ h : 0 < a0.size, ((a0[0]'h).toNat : Int) = bt a0 0 := bt_at a0 0
 clear p5
 have qi5 : (0 < (a0.size : Int)) = True := eq_true (of_decide_eq_true qB)
 replace q5 := eq_true q5
 have p7 : 0 ≤ (0 : Int) := (by omega)
 have q7 : 0 < a0.size := (by have : (0 : Int) < (a0.size : Int) := of_decide_eq_true qB; omega)
 have hx7 : ∀ h : 0 < a0.size, ((a0[0]'h).toNat : Int) = bt a0 0 := bt_at a0 0
 clear p7
 have qi7 : (0 < (a0.size : Int)) = True := eq_true (of_decide_eq_true qB)
 replace q7 := eq_true q7
 go_enter Tryz.func88, Tryz.ntmps88
 go_wp2_with (first | ((with_reducible refine qg (f := 80) rfl ?_); refine goesL_ (some 22) rfl rfl Tryz.func80 (by kernel_rfl) rfl #[.string a0, .string (⟨#[97, 98, 99, 100, 101, 102, 103, 104, 105, 106, 107, 108, 109, 110, 111, 112, 113, 114, 115, 116, 117, 118, 119, 120, 121, 122, 48, 49, 50, 51, 52, 53, 54, 55, 56, 57, 45]⟩ : ByteArray)] rfl Z61 ?_; (with_reducible refine (strings_Trim.calls a0 (⟨#[97, 98, 99, 100, 101, 102, 103, 104, 105, 106, 107, 108, 109, 110, 111, 112, 113, 114, 115, 116, 117, 118, 119, 120, 121, 122, 48, 49, 50, 51, 52, 53, 54, 55, 56, 57, 45]⟩ : ByteArray) t200 _ A9.out).mono ?_); rintro e w10 ⟨rfl, hb⟩; refine ⟨_, rfl, ?_⟩; have n0_ := qb.mk (qd qz hb); clear HB; have HB := n0_; clear n0_; (try clear hb); (try clear hb2); (try clear hk); (try clear hi)))
 go_ret
 exact ⟨Z97, qz⟩
/-! ### kit_InBytes: function 124 -/
def kit_InBytes.l0 : Nat → ByteArray → Int → Int → Int → Int → Option (Bool)
 | 0, _, _, _, _, _ => none
 | k + 1, x0, x1, x2, x9, x10 => if x10 < x9 then (if 0 ≤ x10 then (if x10 < (x0.size : Int) then (if (bt x0 x10) < x1 then (some false) else (if (bt x0 x10) > x2 then (some false) else (kit_InBytes.l0 k x0 x1 x2 x9 (wrap64 (x10 + 1))))) else (none)) else (none)) else (some true)
def kit_InBytes.f (k : Nat) (a0 : ByteArray) (a1 : Int) (a2 : Int) : Option (Bool) := kit_InBytes.l0 k a0 a1 a2 (a0.size : Int) 0
theorem kit_InBytes.mono_l : ∀ k, (∀ y0 y1 y2 y3 y4, qv (kit_InBytes.l0 k y0 y1 y2 y3 y4) (kit_InBytes.l0 (k + 1) y0 y1 y2 y3 y4))
 | 0 => fun _ _ _ _ _ r h => by simp [kit_InBytes.l0] at h
 | k + 1 => by
  have ih0 := kit_InBytes.mono_l k
  ·intro y0 y1 y2 y3 y4
   unfold kit_InBytes.l0
   repeat' first
   | (with_reducible apply ih0)
   | (with_reducible exact qv.refl _)
   | (with_reducible exact qv.none _)
   | (with_reducible refine qv.ite ?_ ?_)
   | (with_reducible refine qv.bind ?_ (fun _ => ?_))
   | apply ih0
   | exact qv.none _
   | refine qv.ite ?_ ?_
   | refine qv.bind ?_ (fun _ => ?_)
theorem kit_InBytes.mono : ∀ a0 a1 a2 k, qv (kit_InBytes.f k a0 a1 a2) (kit_InBytes.f (k + 1) a0 a1 a2) := by
 intro a0 a1 a2 k
 have ih0 := kit_InBytes.mono_l k
 unfold kit_InBytes.f
 repeat' first
   | (with_reducible apply ih0)
   | (with_reducible exact qv.refl _)
   | (with_reducible exact qv.none _)
   | (with_reducible refine qv.ite ?_ ?_)
   | (with_reducible refine qv.bind ?_ (fun _ => ?_))
   | apply ih0
   | exact qv.none _
   | refine qv.ite ?_ ?_
   | refine qv.bind ?_ (fun _ => ?_)
set_option maxHeartbeats 8000000 in
set_option maxRecDepth 100000 in
theorem kit_InBytes.calls (k : Nat) (a0 : ByteArray) (a1 : Int) (a2 : Int) (r : Bool) (w : World) (h : kit_InBytes.f k a0 a1 a2 = some r) :
  Calls Tryz.prog 124 #[.string a0, .int .u8 a1, .int .u8 a2] w fun e w' => e = .returned (.bool r) ∧ Drawn0 w w' := by
 have H : (kit_InBytes.l0 k a0 a1 a2 (a0.size : Int) 0) = some r := h
 clear h
 have H' := qb.mk H
 clear H
 go_enter Tryz.func124, Tryz.ntmps124
 go_wp2
 go_loopg [10] k (fun kq v10 w' => ∃ (x10_1 : Int), v10 = .int .i64 x10_1 ∧ qb (kit_InBytes.l0 kq a0 a1 a2 (a0.size : Int) x10_1 = some r) ∧ qb (kq ≤ k) ∧ Drawn0 w w')
 case atStart => exact ⟨(0), qD, H', ⟨Nat.le_refl _⟩, Z138⟩
 case round =>
  clear H'
  try clear c1; try clear p2
  obtain ⟨x10_1, rfl, HA, HK1, ⟨m1, rfl⟩⟩ := hrel
  cases gk with
  | zero => exact absurd HA.out (by simp [kit_InBytes.l0])
  | succ k1 =>
   have H := HA.out
   clear HA
   simp only [kit_InBytes.l0] at H
   by_cases c4 : x10_1 < (a0.size : Int)
   case neg =>
    rw [if_neg c4] at H
    have c4b0 : decide (x10_1 < (a0.size : Int)) = false := decide_eq_false c4
    clear c4
    obtain rfl := Option.some.inj H
    go_wp2
    go_ret
    exact ⟨Z141, Z138⟩

   rw [if_pos c4] at H
   have c4b0 : decide (x10_1 < (a0.size : Int)) = true := decide_eq_true c4
   clear c4
   by_cases c5 : 0 ≤ x10_1
   case neg =>
    rw [if_neg c5] at H
    exact absurd H (by simp)
   rw [if_pos c5] at H
   have c5b0 : decide (0 ≤ x10_1) = true := decide_eq_true c5
   clear c5
   by_cases c6 : x10_1 < (a0.size : Int)
   case neg =>
    rw [if_neg c6] at H
    exact absurd H (by simp)
   rw [if_pos c6] at H
   have c6b0 : decide (x10_1 < (a0.size : Int)) = true := decide_eq_true c6
   clear c6
   by_cases c8 : (bt a0 x10_1) < a1
   case pos =>
    rw [if_pos c8] at H
    have c8b0 : decide ((bt a0 x10_1) < a1) = true := decide_eq_true c8
    clear c8
    obtain rfl := Option.some.inj H
    have p7 : 0 ≤ (x10_1 : Int) := of_decide_eq_true qB
    have q7 : x10_1 < (a0.size : Int) := of_decide_eq_true qB
    have hx7 := bt_at a0 x10_1
    replace p7 := eq_true p7
    replace q7 := eq_true q7
    go_wp2
    go_ret
    exact ⟨Z141, Z138⟩
   rw [if_neg c8] at H
   have c8b0 : decide ((bt a0 x10_1) < a1) = false := decide_eq_false c8
   clear c8
   by_cases c10 : (bt a0 x10_1) > a2
   case pos =>
    rw [if_pos c10] at H
    have c10b0 : decide (a2 < (bt a0 x10_1)) = true := decide_eq_true c10
    clear c10
    obtain rfl := Option.some.inj H
    have p7 : 0 ≤ (x10_1 : Int) := of_decide_eq_true qB
    have q7 : x10_1 < (a0.size : Int) := of_decide_eq_true qB
    have hx7 := bt_at a0 x10_1
    replace p7 := eq_true p7
    replace q7 := eq_true q7
    have p9 : 0 ≤ (x10_1 : Int) := of_decide_eq_true qB
    have q9 : x10_1 < (a0.size : Int) := of_decide_eq_true qB
    have hx9 := bt_at a0 x10_1
    replace p9 := eq_true p9
    replace q9 := eq_true q9
    go_wp2
    go_ret
    exact ⟨Z141, Z138⟩
   rw [if_neg c10] at H
   have c10b0 : decide (a2 < (bt a0 x10_1)) = false := decide_eq_false c10
   clear c10
   have H' := qb.mk H
   clear H
   have p7 : 0 ≤ (x10_1 : Int) := of_decide_eq_true qB
   have q7 : x10_1 < (a0.size : Int) := of_decide_eq_true qB
   have hx7 := bt_at a0 x10_1
   replace p7 := eq_true p7
   replace q7 := eq_true q7
   have p9 : 0 ≤ (x10_1 : Int) := of_decide_eq_true qB
   have q9 : x10_1 < (a0.size : Int) := of_decide_eq_true qB
   have hx9 := bt_at a0 x10_1
   replace p9 := eq_true p9
   replace q9 := eq_true q9
   go_wp2
   go_roundg k1
   case measure => have := HK1.out; omega
   case rel => exact ⟨(wrap64 (x10_1 + 1)), qD, H', ⟨Z157⟩, Z138⟩
/-! ### partner_addressFault: function 100 -/
def partner_addressFault.f (k : Nat) (a0_0 : ByteArray) (a0_1 : ByteArray) : Option (Int) := (kit_IsName.f a0_0).bind fun t202 => (if t202 = true then (if (a0_1.size : Int) < 1 then (some 3) else (if (a0_1.size : Int) > 35 then (some 3) else ((kit_InBytes.f k a0_1 33 126).bind fun t203 => (if t203 = true then (some 0) else (some 3))))) else (some 5))
theorem partner_addressFault.mono : ∀ a0 a1 k, qv (partner_addressFault.f k a0 a1) (partner_addressFault.f (k + 1) a0 a1) := by
 intro a0 a1 k
 unfold partner_addressFault.f
 repeat' first
   | (with_reducible apply kit_InBytes.mono)
   | (with_reducible exact qv.refl _)
   | (with_reducible exact qv.none _)
   | (with_reducible refine qv.ite ?_ ?_)
   | (with_reducible refine qv.bind ?_ (fun _ => ?_))
   | apply kit_InBytes.mono
   | exact qv.none _
   | refine qv.ite ?_ ?_
   | refine qv.bind ?_ (fun _ => ?_)
set_option maxHeartbeats 8000000 in
set_option maxRecDepth 100000 in
theorem partner_addressFault.calls (k : Nat) (a0_0 : ByteArray) (a0_1 : ByteArray) (r : Int) (w : World) (h : partner_addressFault.f k a0_0 a0_1 = some r) :
  Calls Tryz.prog 100 #[.agg #[.string a0_0, .string a0_1]] w fun e w' => e = .returned (.int .i64 r) ∧ Below w.heap.size w w' := by
 have hu119 := Tryz.underlying119
 have HB := qb.mk (Below.refl w.heap.size w)
 have H : ((kit_IsName.f a0_0).bind fun t202 => (if t202 = true then (if (a0_1.size : Int) < 1 then (some 3) else (if (a0_1.size : Int) > 35 then (some 3) else ((kit_InBytes.f k a0_1 33 126).bind fun t203 => (if t203 = true then (some 0) else (some 3))))) else (some 5))) = some r := h
 clear h
 replace H := Option.bind_eq_some_iff.mp H
 obtain ⟨t202, A20, H⟩ := H
 replace H : (if t202 = true then (if (a0_1.size : Int) < 1 then (some 3) else (if (a0_1.size : Int) > 35 then (some 3) else ((kit_InBytes.f k a0_1 33 126).bind fun t203 => (if t203 = true then (some 0) else (some 3))))) else (some 5)) = some r := H
 have A2 := qb.mk A20
 clear A20
 by_cases c3 : t202 = true
 case neg =>
  replace c3 := Bool.eq_false_iff.mpr c3
  subst c3
  have H1 : (some 5) = some r := by rw [if_neg (show ¬ (false = true) by decide)] at H; exact H
  clear H
  have H := H1
  clear H1
  obtain rfl := Option.some.inj H
  go_enter Tryz.func100, Tryz.ntmps100
  go_wp2_with (first | ((with_reducible refine qi (N := 1) rfl ?_); (try (refine gate_guard (by rfl) ?_; dsimp only)); refine qh ?hg (N := 1) ?hd (cs := #[.string a0_0, .string a0_1]) (t := 119) ?hr ?_; (case hd => rfl); (case hg => rfl); (case hr => exact qC); intro gb201 hg w24 hbox hb; have n0_ := qb.mk (qd qz hb); have n1_ := qb.mk (hbox); have n2_ := qb.mk ((Z66 : w.heap.size ≤ gb201)); have n3_ := n2_; clear HB; have HB := n0_; have BK201 := n1_; have GW201 := n2_; have GE201 := n3_; clear n0_ n1_ n2_ n3_; clear hb hbox hg; obtain ⟨yc25_0, yc25_1, yf25_0, yf25_1⟩ := bf2 BK201.out) | ((with_reducible refine qg (f := 88) rfl ?_); refine goesL_ (some 5) rfl rfl Tryz.func88 (by kernel_rfl) rfl #[.string a0_0] rfl Z61 ?_; (with_reducible refine (kit_IsName.calls a0_0 false _ A2.out).mono ?_); rintro e w26 ⟨rfl, hb⟩; refine ⟨_, rfl, ?_⟩; have n0_ := bb BK201 hb; have n1_ := qb.mk (qd Z80 hb); clear BK201 HB; have BK201 := n0_; have HB := n1_; clear n0_ n1_; (try clear hb); (try clear hb2); (try clear hk); (try clear hi)))
  go_ret
  exact ⟨Z97, Z80⟩

 subst c3
 have H1 : (if (a0_1.size : Int) < 1 then (some 3) else (if (a0_1.size : Int) > 35 then (some 3) else ((kit_InBytes.f k a0_1 33 126).bind fun t203 => (if t203 = true then (some 0) else (some 3))))) = some r := by rw [if_pos rfl] at H; exact H
 clear H
 have H := H1
 clear H1
 by_cases c4 : (a0_1.size : Int) < 1
 case pos =>
  rw [if_pos c4] at H
  have c4b0 : decide ((a0_1.size : Int) < 1) = true := decide_eq_true c4
  have c4b1 : decide (a0_1.size < 1) = true := decide_eq_true (by omega)
  clear c4
  obtain rfl := Option.some.inj H
  go_enter Tryz.func100, Tryz.ntmps100
  go_wp2_with (first | ((with_reducible refine qi (N := 1) rfl ?_); (try (refine gate_guard (by rfl) ?_; dsimp only)); refine qh ?hg (N := 1) ?hd (cs := #[.string a0_0, .string a0_1]) (t := 119) ?hr ?_; (case hd => rfl); (case hg => rfl); (case hr => exact qC); intro gb201 hg w5 hbox hb; have n0_ := qb.mk (qd qz hb); have n1_ := qb.mk (hbox); have n2_ := qb.mk ((Z66 : w.heap.size ≤ gb201)); have n3_ := n2_; clear HB; have HB := n0_; have BK201 := n1_; have GW201 := n2_; have GE201 := n3_; clear n0_ n1_ n2_ n3_; clear hb hbox hg; obtain ⟨yc6_0, yc6_1, yf6_0, yf6_1⟩ := bf2 BK201.out) | ((with_reducible refine qg (f := 88) rfl ?_); refine goesL_ (some 5) rfl rfl Tryz.func88 (by kernel_rfl) rfl #[.string a0_0] rfl Z61 ?_; (with_reducible refine (kit_IsName.calls a0_0 true _ A2.out).mono ?_); rintro e w7 ⟨rfl, hb⟩; refine ⟨_, rfl, ?_⟩; have n0_ := bb BK201 hb; have n1_ := qb.mk (qd Z80 hb); clear BK201 HB; have BK201 := n0_; have HB := n1_; clear n0_ n1_; (try clear hb); (try clear hb2); (try clear hk); (try clear hi); obtain ⟨yc8_0, yc8_1, yf8_0, yf8_1⟩ := bf2 BK201.out))
  go_ret
  exact ⟨Z97, Z80⟩
 rw [if_neg c4] at H
 have c4b0 : decide ((a0_1.size : Int) < 1) = false := decide_eq_false c4
 have c4b1 : decide (a0_1.size < 1) = false := decide_eq_false (by omega)
 clear c4
 by_cases c9 : (a0_1.size : Int) > 35
 case pos =>
  rw [if_pos c9] at H
  have c9b0 : decide (35 < (a0_1.size : Int)) = true := decide_eq_true c9
  have c9b1 : decide (35 < a0_1.size) = true := decide_eq_true (by omega)
  clear c9
  obtain rfl := Option.some.inj H
  go_enter Tryz.func100, Tryz.ntmps100
  go_wp2_with (first | ((with_reducible refine qi (N := 1) rfl ?_); (try (refine gate_guard (by rfl) ?_; dsimp only)); refine qh ?hg (N := 1) ?hd (cs := #[.string a0_0, .string a0_1]) (t := 119) ?hr ?_; (case hd => rfl); (case hg => rfl); (case hr => exact qC); intro gb201 hg w10 hbox hb; have n0_ := qb.mk (qd qz hb); have n1_ := qb.mk (hbox); have n2_ := qb.mk ((Z66 : w.heap.size ≤ gb201)); have n3_ := n2_; clear HB; have HB := n0_; have BK201 := n1_; have GW201 := n2_; have GE201 := n3_; clear n0_ n1_ n2_ n3_; clear hb hbox hg; obtain ⟨yc11_0, yc11_1, yf11_0, yf11_1⟩ := bf2 BK201.out) | ((with_reducible refine qg (f := 88) rfl ?_); refine goesL_ (some 5) rfl rfl Tryz.func88 (by kernel_rfl) rfl #[.string a0_0] rfl Z61 ?_; (with_reducible refine (kit_IsName.calls a0_0 true _ A2.out).mono ?_); rintro e w12 ⟨rfl, hb⟩; refine ⟨_, rfl, ?_⟩; have n0_ := bb BK201 hb; have n1_ := qb.mk (qd Z80 hb); clear BK201 HB; have BK201 := n0_; have HB := n1_; clear n0_ n1_; (try clear hb); (try clear hb2); (try clear hk); (try clear hi); obtain ⟨yc13_0, yc13_1, yf13_0, yf13_1⟩ := bf2 BK201.out))
  go_ret
  exact ⟨Z97, Z80⟩
 rw [if_neg c9] at H
 have c9b0 : decide (35 < (a0_1.size : Int)) = false := decide_eq_false c9
 have c9b1 : decide (35 < a0_1.size) = false := decide_eq_false (by omega)
 clear c9
 replace H := Option.bind_eq_some_iff.mp H
 obtain ⟨t203, A140, H⟩ := H
 replace H : (if t203 = true then (some 0) else (some 3)) = some r := H
 have A14 := qb.mk A140
 clear A140
 by_cases c15 : t203 = true
 case pos =>
  subst c15
  have H1 : (some 0) = some r := by rw [if_pos rfl] at H; exact H
  clear H
  have H := H1
  clear H1
  obtain rfl := Option.some.inj H
  go_enter Tryz.func100, Tryz.ntmps100
  go_wp2_with (first | ((with_reducible refine qi (N := 1) rfl ?_); (try (refine gate_guard (by rfl) ?_; dsimp only)); refine qh ?hg (N := 1) ?hd (cs := #[.string a0_0, .string a0_1]) (t := 119) ?hr ?_; (case hd => rfl); (case hg => rfl); (case hr => exact qC); intro gb201 hg w16 hbox hb; have n0_ := qb.mk (qd qz hb); have n1_ := qb.mk (hbox); have n2_ := qb.mk ((Z66 : w.heap.size ≤ gb201)); have n3_ := n2_; clear HB; have HB := n0_; have BK201 := n1_; have GW201 := n2_; have GE201 := n3_; clear n0_ n1_ n2_ n3_; clear hb hbox hg; obtain ⟨yc17_0, yc17_1, yf17_0, yf17_1⟩ := bf2 BK201.out) | ((with_reducible refine qg (f := 88) rfl ?_); refine goesL_ (some 5) rfl rfl Tryz.func88 (by kernel_rfl) rfl #[.string a0_0] rfl Z61 ?_; (with_reducible refine (kit_IsName.calls a0_0 true _ A2.out).mono ?_); rintro e w18 ⟨rfl, hb⟩; refine ⟨_, rfl, ?_⟩; have n0_ := bb BK201 hb; have n1_ := qb.mk (qd Z80 hb); clear BK201 HB; have BK201 := n0_; have HB := n1_; clear n0_ n1_; (try clear hb); (try clear hb2); (try clear hk); (try clear hi); obtain ⟨yc19_0, yc19_1, yf19_0, yf19_1⟩ := bf2 BK201.out) | (go_at_call 124; (with_reducible refine (kit_InBytes.calls k a0_1 33 126 true _ A14.out).mono ?_); rintro e w' ⟨rfl, ⟨nd, rfl⟩⟩))
  go_ret
  exact ⟨Z97, Z80⟩
 replace c15 := Bool.eq_false_iff.mpr c15
 subst c15
 have H1 : (some 3) = some r := by rw [if_neg (show ¬ (false = true) by decide)] at H; exact H
 clear H
 have H := H1
 clear H1
 obtain rfl := Option.some.inj H
 go_enter Tryz.func100, Tryz.ntmps100
 go_wp2_with (first | ((with_reducible refine qi (N := 1) rfl ?_); (try (refine gate_guard (by rfl) ?_; dsimp only)); refine qh ?hg (N := 1) ?hd (cs := #[.string a0_0, .string a0_1]) (t := 119) ?hr ?_; (case hd => rfl); (case hg => rfl); (case hr => exact qC); intro gb201 hg w20 hbox hb; have n0_ := qb.mk (qd qz hb); have n1_ := qb.mk (hbox); have n2_ := qb.mk ((Z66 : w.heap.size ≤ gb201)); have n3_ := n2_; clear HB; have HB := n0_; have BK201 := n1_; have GW201 := n2_; have GE201 := n3_; clear n0_ n1_ n2_ n3_; clear hb hbox hg; obtain ⟨yc21_0, yc21_1, yf21_0, yf21_1⟩ := bf2 BK201.out) | ((with_reducible refine qg (f := 88) rfl ?_); refine goesL_ (some 5) rfl rfl Tryz.func88 (by kernel_rfl) rfl #[.string a0_0] rfl Z61 ?_; (with_reducible refine (kit_IsName.calls a0_0 true _ A2.out).mono ?_); rintro e w22 ⟨rfl, hb⟩; refine ⟨_, rfl, ?_⟩; have n0_ := bb BK201 hb; have n1_ := qb.mk (qd Z80 hb); clear BK201 HB; have BK201 := n0_; have HB := n1_; clear n0_ n1_; (try clear hb); (try clear hb2); (try clear hk); (try clear hi); obtain ⟨yc23_0, yc23_1, yf23_0, yf23_1⟩ := bf2 BK201.out) | (go_at_call 124; (with_reducible refine (kit_InBytes.calls k a0_1 33 126 false _ A14.out).mono ?_); rintro e w' ⟨rfl, ⟨nd, rfl⟩⟩))
 go_ret
 exact ⟨Z97, Z80⟩
/-! ### map_mk_adr: function 218 -/
section
open Go.Proofs.YtmmknokdgbgjgaaGreatDoor.XMap
def adrVal (x : S119) : Value := .agg #[.string x.f0, .string x.f1]
def adrSame (x y : S119) : Bool := decide (x.f0.toList = y.f0.toList) && decide (x.f1.toList = y.f1.toList)
theorem str_eq {a b : ByteArray} : a.toList = b.toList ↔ a = b := by
 rw [Go.Lib.toList_data, Go.Lib.toList_data]
 constructor
 ·intro h
  cases a; cases b
  simp only [ByteArray.mk.injEq]
  exact Array.toList_inj.1 h
 ·rintro rfl; rfl
theorem adr_kl (n : Nat) (x : S119) (h0 : x.f0.size ≤ 1000) (h1 : x.f1.size ≤ 1000) : Tryz.prog.keyLits (n + 2) 119 [.string x.f0, .string x.f1] = some [.string x.f0.data.toList, .string x.f1.data.toList] := by
 have c119 : Tryz.prog.cellsOf 119 = 2 := by kernel_rfl
 have c9 : Tryz.prog.cellsOf 9 = 1 := by kernel_rfl
 have m0 : x.f0.size ≤ maxLen := by unfold maxLen; omega
 have m1 : x.f1.size ≤ maxLen := by unfold maxLen; omega
 simp [Program.keyLits, Tryz.underlying119, Tryz.underlying9, c119, c9, m0, m1]
theorem adr_key (x : S119) (h0 : x.f0.size ≤ 1000) (h1 : x.f1.size ≤ 1000) : ∃ kl, keyOf Tryz.prog 119 (adrVal x) = some kl := by
 have c119 : Tryz.prog.cellsOf 119 = 2 := by kernel_rfl
 have hkt : Tryz.prog.keyType 119 = true := by kernel_rfl
 have hsz : (Nat.ble 2 Tryz.prog.types.size) = true := by kernel_rfl
 obtain ⟨n, hn⟩ : ∃ n, Tryz.prog.types.size + 1 = n + 2 := ⟨Tryz.prog.types.size - 1, by have := Nat.le_of_ble_eq_true hsz; omega⟩
 refine ⟨.string (keyBytes [.string x.f0.data.toList, .string x.f1.data.toList]), ?_⟩
 unfold keyOf adrVal
 rw [Tryz.underlying119]
 have := adr_kl n x h0 h1
 rw [← hn] at this
 simp at this
 simp [hkt, Value.formed, Tryz.underlying119, c119, Value.cells, this]
theorem adrKeys : Keys Tryz.prog 119 adrVal adrSame where
 law := Go.Maps.Keyed.of_law (deep_law_laid (by kernel_rfl) (m := 3) (by omega) (of_decide_eq_true (by kernel_rfl)) (by kernel_rfl) (by kernel_rfl))
 inj := fun x y => by simp [adrSame, adrVal, str_eq]
def MpR (w : World) (base : Nat) (ok : Nat → Prop) (v : Value) (xs : List S119) : Prop := R Tryz.prog 119 4 adrVal adrSame w base ok v xs
end
def map_mk_adr.f : Option (List S119) := some []
theorem map_mk_adr.calls (r : List S119) (w : World) (h : map_mk_adr.f = some r) :
  XMap.MkDoes Tryz.prog 123 w fun e w' => ∃ v0_ : Value, e = .returned (v0_) ∧ MpR w' w.heap.size (fun _ => True) v0_ r ∧ Below w.heap.size w w' := by
 obtain rfl := Option.some.inj h
 exact XMap.mk_does adrKeys w

/-! ### map_has_adr: function 219 -/
def map_has_adr.f (l0 : List S119) (a1_0 a1_1 : ByteArray) : Option (Bool × List S119) := if a1_0.size ≤ 1000 ∧ a1_1.size ≤ 1000 then some (l0.any (adrSame ⟨a1_0, a1_1⟩), l0) else none
theorem map_has_adr.calls (P0_ : Nat → Prop) (u9000_ : Value) (l0 : List S119) (a1_0 a1_1 : ByteArray) (r1 : Bool) (r2 : List S119) (w0 w : World) (hB : Below w0.heap.size w0 w) (ho0 : MpR w w0.heap.size P0_ u9000_ l0) (h : map_has_adr.f l0 a1_0 a1_1 = some (r1, r2)) :
  XMap.HasDoes Tryz.prog 123 u9000_ (.agg #[.string a1_0, .string a1_1]) w fun e w' => e = .returned (.bool r1) ∧ MpR w' w0.heap.size (fun k_ => (P0_ k_ ∨ w.heap.size ≤ k_)) u9000_ r2 ∧ Below w0.heap.size w0 w' ∧ Kept w w' (fun k_ => P0_ k_) := by
 unfold map_has_adr.f at h
 split at h
 ·rename_i hs
  obtain ⟨rfl, rfl⟩ := Prod.mk.inj (Option.some.inj h)
  obtain ⟨kl, hkl⟩ := adr_key ⟨a1_0, a1_1⟩ hs.1 hs.2
  exact XMap.has_does adrKeys Tryz.underlying123 Tryz.underlying4 (fun w => by kernel_rfl) P0_ u9000_ l0 ⟨a1_0, a1_1⟩ kl hkl w0 w hB ho0
 ·cases h

/-! ### map_put_adr: function 220 -/
def map_put_adr.f (l0 : List S119) (a1_0 a1_1 : ByteArray) : Option (List S119) := if a1_0.size ≤ 1000 ∧ a1_1.size ≤ 1000 ∧ l0.length < 1099511627776 then some (l0 ++ [⟨a1_0, a1_1⟩]) else none
theorem map_put_adr.calls (P0_ : Nat → Prop) (u9000_ : Value) (l0 : List S119) (a1_0 a1_1 : ByteArray) (r : List S119) (w0 w : World) (hB : Below w0.heap.size w0 w) (ho0 : MpR w w0.heap.size P0_ u9000_ l0) (h : map_put_adr.f l0 a1_0 a1_1 = some r) :
  XMap.PutDoes Tryz.prog 123 u9000_ (.agg #[.string a1_0, .string a1_1]) w fun e w' => e = .returned (.tuple #[]) ∧ MpR w' w0.heap.size (fun k_ => (P0_ k_ ∨ w.heap.size ≤ k_)) u9000_ r ∧ Below w0.heap.size w0 w' ∧ Kept w w' (fun k_ => P0_ k_) := by
 unfold map_put_adr.f at h
 split at h
 ·rename_i hs
  obtain rfl := Option.some.inj h
  obtain ⟨kl, hkl⟩ := adr_key ⟨a1_0, a1_1⟩ hs.1 hs.2.1
  exact XMap.put_does adrKeys Tryz.underlying123 Tryz.underlying4 P0_ u9000_ l0 ⟨a1_0, a1_1⟩ kl hkl hs.2.2 w0 w hB ho0
 ·cases h

end Go.Proofs.YtmmknokdgbgjgaaGreatDoor.XPartnerDaysMatchSpec
