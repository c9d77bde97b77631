-- Walks of PartnerDaysMatchSpec: written by xprint.py out of the translation (hand-proved functions among them). Lean checks it.
import Derived.Test.YtmmknokdgbgjgaaGreatDoorXPartnerDaysMatchSpecx0
import Derived.Test.YtmmknokdgbgjgaaGreatDoorXPartnerDaysMatchSpecx1
import Derived.Test.YtmmknokdgbgjgaaGreatDoorXPartnerDaysMatchSpecx2
namespace Go.Proofs.YtmmknokdgbgjgaaGreatDoor.XPartnerDaysMatchSpec
open Go.RowKit Go.Proofs.YtmmknokdgbgjgaaGreatDoorW.PrintWords Go.Proofs.YtmmknokdgbgjgaaGreatDoorW.PrintLast Go.Proofs.YtmmknokdgbgjgaaGreatDoorW.PrintMore
attribute [local go_sem] max2_int min2_int max_two min_two max_three min_three max_four min_four   -- for this text's walks alone
set_option linter.unusedVariables false
set_option linter.unusedSimpArgs false

attribute [local go_sem high] eqA119
/-! ### r8checkAddress: function 95 -/
def r8checkAddress.l0 : Nat → Int → Int → ByteArray → ByteArray → Option (Int)
 | 0, _, _, _, _ => none
 | k + 1, x15, x16, x105000, x105001 => if x16 < x15 then (if 0 ≤ x16 then (if x16 < (x105001.size : Int) then (if (bt x105001 x16) < 33 then (some 3) else (if (bt x105001 x16) > 126 then (some 3) else (r8checkAddress.l0 k x15 (wrap64 (x16 + 1)) x105000 x105001))) else (none)) else (none)) else (some 0)
def r8checkAddress.f (k : Nat) (a0_0 : ByteArray) (a0_1 : ByteArray) : Option (Int) := (interchangeref1_IsName.f k a0_0).bind fun t105 => (if t105 = true then ((r8within.f (a0_1.size : Int) 1 35).bind fun t106 => (if t106 = true then (r8checkAddress.l0 k (a0_1.size : Int) 0 a0_0 a0_1) else (some 3))) else (some 5))
theorem r8checkAddress.mono_l : ∀ k, (∀ y0 y1 y2 y3, qv (r8checkAddress.l0 k y0 y1 y2 y3) (r8checkAddress.l0 (k + 1) y0 y1 y2 y3))
 | 0 => fun _ _ _ _ r h => by simp [r8checkAddress.l0] at h
 | k + 1 => by
  have ih0 := r8checkAddress.mono_l k
  ·intro y0 y1 y2 y3
   unfold r8checkAddress.l0
   repeat' first
   | (with_reducible apply ih0)
   | (with_reducible apply interchangeref1_IsName.mono)
   | (with_reducible exact qv.refl _)
   | (with_reducible exact qv.none _)
   | (with_reducible refine qv.ite ?_ ?_)
   | (with_reducible refine qv.bind ?_ (fun _ => ?_))
   | apply ih0
   | apply interchangeref1_IsName.mono
   | exact qv.none _
   | refine qv.ite ?_ ?_
   | refine qv.bind ?_ (fun _ => ?_)
theorem r8checkAddress.mono : ∀ a0 a1 k, qv (r8checkAddress.f k a0 a1) (r8checkAddress.f (k + 1) a0 a1) := by
 intro a0 a1 k
 have ih0 := r8checkAddress.mono_l k
 unfold r8checkAddress.f
 repeat' first
   | (with_reducible apply ih0)
   | (with_reducible apply interchangeref1_IsName.mono)
   | (with_reducible exact qv.refl _)
   | (with_reducible exact qv.none _)
   | (with_reducible refine qv.ite ?_ ?_)
   | (with_reducible refine qv.bind ?_ (fun _ => ?_))
   | apply ih0
   | apply interchangeref1_IsName.mono
   | exact qv.none _
   | refine qv.ite ?_ ?_
   | refine qv.bind ?_ (fun _ => ?_)
set_option maxHeartbeats 8000000 in
set_option maxRecDepth 100000 in
theorem r8checkAddress.calls (k : Nat) (a0_0 : ByteArray) (a0_1 : ByteArray) (r : Int) (w : World) (h : r8checkAddress.f k a0_0 a0_1 = some r) :
  Calls Tryz.prog 95 #[.agg #[.string a0_0, .string a0_1]] w fun e w' => e = .returned (.int .i64 r) ∧ Below w.heap.size w w' := by
 have hu119 := Tryz.underlying119
 have HB := qb.mk (Below.refl w.heap.size w)
 have H : ((interchangeref1_IsName.f k a0_0).bind fun t105 => (if t105 = true then ((r8within.f (a0_1.size : Int) 1 35).bind fun t106 => (if t106 = true then (r8checkAddress.l0 k (a0_1.size : Int) 0 a0_0 a0_1) else (some 3))) else (some 5))) = some r := h
 clear h
 replace H := Option.bind_eq_some_iff.mp H
 obtain ⟨t105, A20, H⟩ := H
 replace H : (if t105 = true then ((r8within.f (a0_1.size : Int) 1 35).bind fun t106 => (if t106 = true then (r8checkAddress.l0 k (a0_1.size : Int) 0 a0_0 a0_1) else (some 3))) else (some 5)) = some r := H
 have A2 := qb.mk A20
 clear A20
 by_cases c3 : t105 = true
 case neg =>
  replace c3 := Bool.eq_false_iff.mpr c3
  subst c3
  have H1 : (some 5) = some r := by rw [if_neg (show ¬ (false = true) by decide)] at H; exact H
  clear H
  have H := H1
  clear H1
  obtain rfl := Option.some.inj H
  go_enter Tryz.func95, Tryz.ntmps95
  go_wp2_with (first | ((with_reducible refine qi (N := 1) rfl ?_); refine qh ?hg (N := 1) ?hd (cs := #[.string a0_0, .string a0_1]) (t := 119) ?hr ?_; (case hd => rfl); (case hg => rfl); (case hr => exact qC); intro gb104 hg w20 hbox hb; have n0_ := qb.mk (qd qz hb); have n1_ := qb.mk (hbox); have n2_ := qb.mk ((Z66 : w.heap.size ≤ gb104)); have n3_ := n2_; clear HB; have HB := n0_; have BK104 := n1_; have GW104 := n2_; have GE104 := n3_; clear n0_ n1_ n2_ n3_; clear hb hbox hg; obtain ⟨yc21_0, yc21_1, yf21_0, yf21_1⟩ := bf2 BK104.out) | ((with_reducible refine qg (f := 83) rfl ?_); refine goesL_ (some 6) rfl rfl Tryz.func83 (by kernel_rfl) rfl #[.string a0_0] rfl Z61 ?_; (with_reducible refine (interchangeref1_IsName.calls k a0_0 false _ A2.out).mono ?_); rintro e w' ⟨rfl, ⟨nd, rfl⟩⟩; refine ⟨_, rfl, ?_⟩))
  go_ret
  exact ⟨Z97, Z67⟩

 subst c3
 have H1 : ((r8within.f (a0_1.size : Int) 1 35).bind fun t106 => (if t106 = true then (r8checkAddress.l0 k (a0_1.size : Int) 0 a0_0 a0_1) else (some 3))) = some r := by rw [if_pos rfl] at H; exact H
 clear H
 have H := H1
 clear H1
 replace H := Option.bind_eq_some_iff.mp H
 obtain ⟨t106, A40, H⟩ := H
 replace H : (if t106 = true then (r8checkAddress.l0 k (a0_1.size : Int) 0 a0_0 a0_1) else (some 3)) = some r := H
 have A4 := qb.mk A40
 clear A40
 by_cases c5 : t106 = true
 case neg =>
  replace c5 := Bool.eq_false_iff.mpr c5
  subst c5
  have H1 : (some 3) = some r := by rw [if_neg (show ¬ (false = true) by decide)] at H; exact H
  clear H
  have H := H1
  clear H1
  obtain rfl := Option.some.inj H
  go_enter Tryz.func95, Tryz.ntmps95
  go_wp2_with (first | ((with_reducible refine qi (N := 1) rfl ?_); refine qh ?hg (N := 1) ?hd (cs := #[.string a0_0, .string a0_1]) (t := 119) ?hr ?_; (case hd => rfl); (case hg => rfl); (case hr => exact qC); intro gb104 hg w18 hbox hb; have n0_ := qb.mk (qd qz hb); have n1_ := qb.mk (hbox); have n2_ := qb.mk ((Z66 : w.heap.size ≤ gb104)); have n3_ := n2_; clear HB; have HB := n0_; have BK104 := n1_; have GW104 := n2_; have GE104 := n3_; clear n0_ n1_ n2_ n3_; clear hb hbox hg; obtain ⟨yc19_0, yc19_1, yf19_0, yf19_1⟩ := bf2 BK104.out) | ((with_reducible refine qg (f := 83) rfl ?_); refine goesL_ (some 6) rfl rfl Tryz.func83 (by kernel_rfl) rfl #[.string a0_0] rfl Z61 ?_; (with_reducible refine (interchangeref1_IsName.calls k a0_0 true _ A2.out).mono ?_); rintro e w' ⟨rfl, ⟨nd, rfl⟩⟩; refine ⟨_, rfl, ?_⟩) | ((with_reducible refine qg (f := 35) rfl ?_); refine goesL_ (some 11) rfl rfl Tryz.func35 (by kernel_rfl) rfl #[.int .i64 (a0_1.size : Int), .int .i64 1, .int .i64 35] rfl Z61 ?_; (with_reducible refine (r8within.calls (a0_1.size : Int) 1 35 false _ A4.out).mono ?_); rintro e w' ⟨rfl, ⟨nd, rfl⟩⟩; refine ⟨_, rfl, ?_⟩))
  go_ret
  exact ⟨Z97, Z67⟩
 subst c5
 have H1 : (r8checkAddress.l0 k (a0_1.size : Int) 0 a0_0 a0_1) = some r := by rw [if_pos rfl] at H; exact H
 clear H
 have H := H1
 clear H1
 have H' := qb.mk H
 clear H
 go_enter Tryz.func95, Tryz.ntmps95
 go_wp2_with (first | ((with_reducible refine qi (N := 1) rfl ?_); refine qh ?hg (N := 1) ?hd (cs := #[.string a0_0, .string a0_1]) (t := 119) ?hr ?_; (case hd => rfl); (case hg => rfl); (case hr => exact qC); intro gb104 hg w6 hbox hb; have n0_ := qb.mk (qd qz hb); have n1_ := qb.mk (hbox); have n2_ := qb.mk ((Z66 : w.heap.size ≤ gb104)); have n3_ := n2_; clear HB; have HB := n0_; have BK104 := n1_; have GW104 := n2_; have GE104 := n3_; clear n0_ n1_ n2_ n3_; clear hb hbox hg; obtain ⟨yc7_0, yc7_1, yf7_0, yf7_1⟩ := bf2 BK104.out) | ((with_reducible refine qg (f := 83) rfl ?_); refine goesL_ (some 6) rfl rfl Tryz.func83 (by kernel_rfl) rfl #[.string a0_0] rfl Z61 ?_; (with_reducible refine (interchangeref1_IsName.calls k a0_0 true _ A2.out).mono ?_); rintro e w' ⟨rfl, ⟨nd, rfl⟩⟩; refine ⟨_, rfl, ?_⟩) | ((with_reducible refine qg (f := 35) rfl ?_); refine goesL_ (some 11) rfl rfl Tryz.func35 (by kernel_rfl) rfl #[.int .i64 (a0_1.size : Int), .int .i64 1, .int .i64 35] rfl Z61 ?_; (with_reducible refine (r8within.calls (a0_1.size : Int) 1 35 true _ A4.out).mono ?_); rintro e w' ⟨rfl, ⟨nd, rfl⟩⟩; refine ⟨_, rfl, ?_⟩))
 go_loopg [16] k (fun kq v16 w' => ∃ (x16_1 : Int), v16 = .int .i64 x16_1 ∧ qb (r8checkAddress.l0 kq (a0_1.size : Int) x16_1 a0_0 a0_1 = some r) ∧ qb (kq ≤ k) ∧ qb (w'.heap[gb104]? = some (.cells #[.string a0_0, .string a0_1] 119 (0, 0))) ∧ qb (Below w.heap.size w w'))
 case atStart => exact ⟨(0), qD, H', ⟨Nat.le_refl _⟩, ⟨by (with_reducible repeat (first | refine qn ?_ _ | refine qm ?_ | refine ql ?_ _)); exact BK104.out⟩, ⟨Z67⟩⟩
 case round =>
  clear H'
  try clear p2; try clear c3; try clear c5; try clear yc7_0 yc7_1 yf7_0 yf7_1
  obtain ⟨x16_1, rfl, HA, HK1, BK104, HB⟩ := hrel
  cases gk with
  | zero => exact absurd HA.out (by simp [r8checkAddress.l0])
  | succ k1 =>
   have H := HA.out
   clear HA
   simp only [r8checkAddress.l0] at H
   by_cases c8 : x16_1 < (a0_1.size : Int)
   case neg =>
    rw [if_neg c8] at H
    have c8b0 : decide (x16_1 < (a0_1.size : Int)) = false := decide_eq_false c8
    clear c8
    obtain rfl := Option.some.inj H
    go_wp2
    go_ret
    exact ⟨Z97, Z67⟩
   rw [if_pos c8] at H
   have c8b0 : decide (x16_1 < (a0_1.size : Int)) = true := decide_eq_true c8
   clear c8
   by_cases c9 : 0 ≤ x16_1
   case neg =>
    rw [if_neg c9] at H
    exact absurd H (by simp)
   rw [if_pos c9] at H
   have c9b0 : decide (0 ≤ x16_1) = true := decide_eq_true c9
   clear c9
   by_cases c10 : x16_1 < (a0_1.size : Int)
   case neg =>
    rw [if_neg c10] at H
    exact absurd H (by simp)
   rw [if_pos c10] at H
   have c10b0 : decide (x16_1 < (a0_1.size : Int)) = true := decide_eq_true c10
   clear c10
   by_cases c12 : (bt a0_1 x16_1) < 33
   case pos =>
    rw [if_pos c12] at H
    have c12b0 : decide ((bt a0_1 x16_1) < 33) = true := decide_eq_true c12
    clear c12
    obtain rfl := Option.some.inj H
    have yc13_0 : wr.cell? ⟨gb104, 0, none⟩ = some (.string a0_0) := (qc BK104.out 0).trans rfl
    have yc13_1 : wr.cell? ⟨gb104, 1, none⟩ = some (.string a0_1) := (qc BK104.out 1).trans rfl
    have yf13_0 := qe BK104.out 0
    have yf13_1 := qe BK104.out 1
    have p11 : 0 ≤ (x16_1 : Int) := of_decide_eq_true qB
    have q11 : x16_1 < (a0_1.size : Int) := of_decide_eq_true qB
    have hx11 := bt_at a0_1 x16_1
    replace p11 := eq_true p11
    replace q11 := eq_true q11
    go_wp2
    go_ret
    exact ⟨Z97, Z67⟩
   rw [if_neg c12] at H
   have c12b0 : decide ((bt a0_1 x16_1) < 33) = false := decide_eq_false c12
   clear c12
   by_cases c15 : (bt a0_1 x16_1) > 126
   case pos =>
    rw [if_pos c15] at H
    have c15b0 : decide (126 < (bt a0_1 x16_1)) = true := decide_eq_true c15
    clear c15
    obtain rfl := Option.some.inj H
    have yc16_0 : wr.cell? ⟨gb104, 0, none⟩ = some (.string a0_0) := (qc BK104.out 0).trans rfl
    have yc16_1 : wr.cell? ⟨gb104, 1, none⟩ = some (.string a0_1) := (qc BK104.out 1).trans rfl
    have yf16_0 := qe BK104.out 0
    have yf16_1 := qe BK104.out 1
    have p11 : 0 ≤ (x16_1 : Int) := of_decide_eq_true qB
    have q11 : x16_1 < (a0_1.size : Int) := of_decide_eq_true qB
    have hx11 := bt_at a0_1 x16_1
    replace p11 := eq_true p11
    replace q11 := eq_true q11
    have p14 : 0 ≤ (x16_1 : Int) := of_decide_eq_true qB
    have q14 : x16_1 < (a0_1.size : Int) := of_decide_eq_true qB
    have hx14 := bt_at a0_1 x16_1
    replace p14 := eq_true p14
    replace q14 := eq_true q14
    go_wp2
    go_ret
    exact ⟨Z97, Z67⟩
   rw [if_neg c15] at H
   have c15b0 : decide (126 < (bt a0_1 x16_1)) = false := decide_eq_false c15
   clear c15
   have H' := qb.mk H
   clear H
   have yc17_0 : wr.cell? ⟨gb104, 0, none⟩ = some (.string a0_0) := (qc BK104.out 0).trans rfl
   have yc17_1 : wr.cell? ⟨gb104, 1, none⟩ = some (.string a0_1) := (qc BK104.out 1).trans rfl
   have yf17_0 := qe BK104.out 0
   have yf17_1 := qe BK104.out 1
   have p11 : 0 ≤ (x16_1 : Int) := of_decide_eq_true qB
   have q11 : x16_1 < (a0_1.size : Int) := of_decide_eq_true qB
   have hx11 := bt_at a0_1 x16_1
   replace p11 := eq_true p11
   replace q11 := eq_true q11
   have p14 : 0 ≤ (x16_1 : Int) := of_decide_eq_true qB
   have q14 : x16_1 < (a0_1.size : Int) := of_decide_eq_true qB
   have hx14 := bt_at a0_1 x16_1
   replace p14 := eq_true p14
   replace q14 := eq_true q14
   go_wp2
   go_roundg k1
   case measure => have := HK1.out; omega
   case rel => exact ⟨(wrap64 (x16_1 + 1)), qD, H', ⟨Z157⟩, ⟨by (with_reducible repeat (first | refine qn ?_ _ | refine qm ?_ | refine ql ?_ _)); exact BK104.out⟩, ⟨Z67⟩⟩
/-! ### api_Address_141: function 141 -/
def api_Address_141.l0 : Nat → List (S119) → Int → Int → ByteArray → ByteArray → Option (Int)
 | 0, _, _, _, _, _ => none
 | k + 1, x0, x7, x8, x108000, x108001 => if x8 < x7 then (if 0 ≤ x8 then (if x8 < (x0.length : Int) then (if (x108000.toList == (((qk x0 x8).f0).toList) && (x108001.toList == (((qk x0 x8).f1).toList))) = true then (some x8) else (api_Address_141.l0 k x0 x7 (wrap64 (x8 + 1)) x108000 x108001)) else (none)) else (none)) else (some (-1))
def api_Address_141.f (k : Nat) (l0 : List (S119)) (a1_0 : ByteArray) (a1_1 : ByteArray) : Option (Int) := api_Address_141.l0 k l0 (l0.length : Int) 0 a1_0 a1_1
theorem api_Address_141.mono_l : ∀ k, (∀ y0 y1 y2 y3 y4, qv (api_Address_141.l0 k y0 y1 y2 y3 y4) (api_Address_141.l0 (k + 1) y0 y1 y2 y3 y4))
 | 0 => fun _ _ _ _ _ r h => by simp [api_Address_141.l0] at h
 | k + 1 => by
  have ih0 := api_Address_141.mono_l k
  ·intro y0 y1 y2 y3 y4
   unfold api_Address_141.l0
   repeat' first
   | (with_reducible apply ih0)
   | (with_reducible exact qv.refl _)
   | (with_reducible exact qv.none _)
   | (with_reducible refine qv.ite ?_ ?_)
   | (with_reducible refine qv.bind ?_ (fun _ => ?_))
   | apply ih0
   | exact qv.none _
   | refine qv.ite ?_ ?_
   | refine qv.bind ?_ (fun _ => ?_)
theorem api_Address_141.mono : ∀ a0 a1 a2 k, qv (api_Address_141.f k a0 a1 a2) (api_Address_141.f (k + 1) a0 a1 a2) := by
 intro a0 a1 a2 k
 have ih0 := api_Address_141.mono_l k
 unfold api_Address_141.f
 repeat' first
   | (with_reducible apply ih0)
   | (with_reducible exact qv.refl _)
   | (with_reducible exact qv.none _)
   | (with_reducible refine qv.ite ?_ ?_)
   | (with_reducible refine qv.bind ?_ (fun _ => ?_))
   | apply ih0
   | exact qv.none _
   | refine qv.ite ?_ ?_
   | refine qv.bind ?_ (fun _ => ?_)
set_option maxHeartbeats 8000000 in
set_option maxRecDepth 100000 in
theorem api_Address_141.calls (k : Nat) (A0 : Option Addr) (c0 : Nat) (l0 : List (S119)) (a1_0 : ByteArray) (a1_1 : ByteArray) (r : Int) (w : World) (hr0 : Kd.C k119 w A0 l0.length l0) (hc0 : l0.length ≤ c0) (h : api_Address_141.f k l0 a1_0 a1_1 = some r) :
  Calls Tryz.prog 141 #[.slice A0 l0.length c0, .agg #[.string a1_0, .string a1_1]] w fun e w' => e = .returned (.int .i64 r) ∧ Below w.heap.size w w' := by
 have hu119 := Tryz.underlying119
 have HR0 := qb.mk hr0
 have HC0 := qb.mk hc0
 clear hr0 hc0
 have HB := qb.mk (Below.refl w.heap.size w)
 have H : (api_Address_141.l0 k l0 (l0.length : Int) 0 a1_0 a1_1) = some r := h
 clear h
 have H' := qb.mk H
 clear H
 go_enter Tryz.func141, Tryz.ntmps141
 go_wp2_with (first | ((with_reducible refine qi (N := 3) rfl ?_); refine qh ?hg (N := 3) ?hd (cs := #[.string a1_0, .string a1_1]) (t := 119) ?hr ?_; (case hd => rfl); (case hg => rfl); (case hr => exact qC); intro gb107 hg w3 hbox hb; have n0_ := qb.mk (qd qz hb); have n1_ := qb.mk (hbox); have n2_ := qb.mk ((Z66 : w.heap.size ≤ gb107)); have n3_ := n2_; clear HB; have HB := n0_; have BK107 := n1_; have GW107 := n2_; have GE107 := n3_; clear n0_ n1_ n2_ n3_; clear hb hbox hg))
 repeat (go_quiet (first | ((with_reducible refine qi (N := 3) rfl ?_); refine qh ?hg (N := 3) ?hd (cs := #[.string a1_0, .string a1_1]) (t := 119) ?hr ?_; (case hd => rfl); (case hg => rfl); (case hr => exact qC); intro gb107 hg w3 hbox hb; have n0_ := qb.mk (qd qz hb); have n1_ := qb.mk (hbox); have n2_ := qb.mk ((Z66 : w.heap.size ≤ gb107)); have n3_ := n2_; clear HB; have HB := n0_; have BK107 := n1_; have GW107 := n2_; have GE107 := n3_; clear n0_ n1_ n2_ n3_; clear hb hbox hg)); try go_wp2_with (first | ((with_reducible refine qi (N := 3) rfl ?_); refine qh ?hg (N := 3) ?hd (cs := #[.string a1_0, .string a1_1]) (t := 119) ?hr ?_; (case hd => rfl); (case hg => rfl); (case hr => exact qC); intro gb107 hg w3 hbox hb; have n0_ := qb.mk (qd qz hb); have n1_ := qb.mk (hbox); have n2_ := qb.mk ((Z66 : w.heap.size ≤ gb107)); have n3_ := n2_; clear HB; have HB := n0_; have BK107 := n1_; have GW107 := n2_; have GE107 := n3_; clear n0_ n1_ n2_ n3_; clear hb hbox hg)))
 go_loopg [8] k (fun kq v8 w' => ∃ (x8_1 : Int), v8 = .int .i64 x8_1 ∧ qb (api_Address_141.l0 kq l0 (l0.length : Int) x8_1 a1_0 a1_1 = some r) ∧ qb (kq ≤ k) ∧ qb (w'.heap[gb107]? = some (.cells #[.string a1_0, .string a1_1] 119 (0, 0))) ∧ qb (Below w.heap.size w w'))
 case atStart => exact ⟨(0), qD, H', ⟨Nat.le_refl _⟩, ⟨by (with_reducible repeat (first | refine qn ?_ _ | refine qm ?_ | refine ql ?_ _)); exact BK107.out⟩, ⟨Z68⟩⟩
 case round =>
  clear H'
  try clear c1; try clear p2
  obtain ⟨x8_1, rfl, HA, HK1, BK107, HB⟩ := hrel
  cases gk with
  | zero => exact absurd HA.out (by simp [api_Address_141.l0])
  | succ k1 =>
   have H := HA.out
   clear HA
   simp only [api_Address_141.l0] at H
   by_cases c4 : x8_1 < (l0.length : Int)
   case neg =>
    rw [if_neg c4] at H
    have c4b0 : decide (x8_1 < (l0.length : Int)) = false := decide_eq_false c4
    clear c4
    obtain rfl := Option.some.inj H
    go_wp2
    repeat (go_quiet (fail); try go_wp2)
    go_ret
    exact ⟨Z97, Z68⟩

   rw [if_pos c4] at H
   have c4b0 : decide (x8_1 < (l0.length : Int)) = true := decide_eq_true c4
   clear c4
   by_cases c5 : 0 ≤ x8_1
   case neg =>
    rw [if_neg c5] at H
    exact absurd H (by simp)
   rw [if_pos c5] at H
   have c5b0 : decide (0 ≤ x8_1) = true := decide_eq_true c5
   clear c5
   by_cases c6 : x8_1 < (l0.length : Int)
   case neg =>
    rw [if_neg c6] at H
    exact absurd H (by simp)
   rw [if_pos c6] at H
   have c6b0 : decide (x8_1 < (l0.length : Int)) = true := decide_eq_true c6
   clear c6
   by_cases c7 : (a1_0.toList == (((qk l0 x8_1).f0).toList) && (a1_1.toList == (((qk l0 x8_1).f1).toList))) = true
   case pos =>
    rw [if_pos c7] at H
    have c7b0 : (a1_0.toList == (((qk l0 x8_1).f0).toList) && (a1_1.toList == (((qk l0 x8_1).f1).toList))) = true := c7
    (try (have c7b1 : decide (a1_0.toList = (((qk l0 x8_1).f0).toList) && (a1_1.toList == (((qk l0 x8_1).f1).toList))) = true := by simpa using c7))
    (try (have c7b2 : (a1_0.toList == (((qk l0 x8_1).f0).toList) && (a1_1.toList == (((qk l0 x8_1).f1).toList))) = true := by simpa using c7))
    clear c7
    obtain rfl := Option.some.inj H
    have yc8_0 : wr.cell? ⟨gb107, 0, none⟩ = some (.string a1_0) := (qc BK107.out 0).trans rfl
    have yc8_1 : wr.cell? ⟨gb107, 1, none⟩ = some (.string a1_1) := (qc BK107.out 1).trans rfl
    have yf8_0 := qe BK107.out 0
    have yf8_1 := qe BK107.out 1
    have p108 : 0 ≤ (x8_1 : Int) := of_decide_eq_true qB
    have q108 : x8_1 < (l0.length : Int) := of_decide_eq_true qB
    obtain ⟨ad108, e108, hx108_0, hx108_1⟩ := at_T119 HR0.out x8_1 p108 q108
    cases e108
    replace hx108_0 := bx HB hx108_0
    replace hx108_1 := bx HB hx108_1
    replace p108 := eq_true p108
    replace q108 := eq_true q108
    go_wp2
    repeat (go_quiet (fail); try go_wp2)
    go_ret
    exact ⟨Z97, Z68⟩
   rw [if_neg c7] at H
   have c7b0 : (a1_0.toList == (((qk l0 x8_1).f0).toList) && (a1_1.toList == (((qk l0 x8_1).f1).toList))) = false := by simpa using c7
   (try (have c7b1 : decide (a1_0.toList = (((qk l0 x8_1).f0).toList) && (a1_1.toList == (((qk l0 x8_1).f1).toList))) = false := by simpa using c7))
   (try (have c7b2 : (a1_0.toList == (((qk l0 x8_1).f0).toList) && (a1_1.toList == (((qk l0 x8_1).f1).toList))) = false := by simpa using c7))
   (try (have c7b3 : ¬ (a1_0.toList = (((qk l0 x8_1).f0).toList) && (a1_1.toList == (((qk l0 x8_1).f1).toList))) := by simpa using c7))
   clear c7
   have H' := qb.mk H
   clear H
   have yc9_0 : wr.cell? ⟨gb107, 0, none⟩ = some (.string a1_0) := (qc BK107.out 0).trans rfl
   have yc9_1 : wr.cell? ⟨gb107, 1, none⟩ = some (.string a1_1) := (qc BK107.out 1).trans rfl
   have yf9_0 := qe BK107.out 0
   have yf9_1 := qe BK107.out 1
   have p108 : 0 ≤ (x8_1 : Int) := of_decide_eq_true qB
   have q108 : x8_1 < (l0.length : Int) := of_decide_eq_true qB
   obtain ⟨ad108, e108, hx108_0, hx108_1⟩ := at_T119 HR0.out x8_1 p108 q108
   cases e108
   replace hx108_0 := bx HB hx108_0
   replace hx108_1 := bx HB hx108_1
   replace p108 := eq_true p108
   replace q108 := eq_true q108
   go_wp2
   repeat (go_quiet (fail); try go_wp2)
   go_roundg k1
   case measure => have := HK1.out; omega
   case rel => exact ⟨(wrap64 (x8_1 + 1)), qD, H', ⟨Z157⟩, ⟨by (with_reducible repeat (first | refine qn ?_ _ | refine qm ?_ | refine ql ?_ _)); exact BK107.out⟩, ⟨Z68⟩⟩
/-! ### api_Address_96: function 96 -/
def api_Address_96.f (k : Nat) (l0 : List (S119)) (a1_0 : ByteArray) (a1_1 : ByteArray) : Option (Bool) := (api_Address_141.f k l0 a1_0 a1_1).bind fun t110 => (some (decide (t110 ≥ 0)))
theorem api_Address_96.mono : ∀ a0 a1 a2 k, qv (api_Address_96.f k a0 a1 a2) (api_Address_96.f (k + 1) a0 a1 a2) := by
 intro a0 a1 a2 k
 unfold api_Address_96.f
 repeat' first
   | (with_reducible apply api_Address_141.mono)
   | (with_reducible exact qv.refl _)
   | (with_reducible exact qv.none _)
   | (with_reducible refine qv.ite ?_ ?_)
   | (with_reducible refine qv.bind ?_ (fun _ => ?_))
   | apply api_Address_141.mono
   | exact qv.none _
   | refine qv.ite ?_ ?_
   | refine qv.bind ?_ (fun _ => ?_)
set_option maxHeartbeats 8000000 in
set_option maxRecDepth 100000 in
theorem api_Address_96.calls (k : Nat) (A0 : Option Addr) (c0 : Nat) (l0 : List (S119)) (a1_0 : ByteArray) (a1_1 : ByteArray) (r : Bool) (w : World) (hr0 : Kd.C k119 w A0 l0.length l0) (hc0 : l0.length ≤ c0) (h : api_Address_96.f k l0 a1_0 a1_1 = some r) :
  Calls Tryz.prog 96 #[.slice A0 l0.length c0, .agg #[.string a1_0, .string a1_1]] w fun e w' => e = .returned (.bool r) ∧ Below w.heap.size w w' := by
 have hu119 := Tryz.underlying119
 have HR0 := qb.mk hr0
 have HC0 := qb.mk hc0
 clear hr0 hc0
 have HB := qb.mk (Below.refl w.heap.size w)
 have H : ((api_Address_141.f k l0 a1_0 a1_1).bind fun t110 => (some (decide (t110 ≥ 0)))) = some r := h
 clear h
 replace H := Option.bind_eq_some_iff.mp H
 obtain ⟨t110, A30, H⟩ := H
 replace H : (some (decide (t110 ≥ 0))) = some r := H
 have A3 := qb.mk A30
 clear A30
 obtain rfl := Option.some.inj H
 go_enter Tryz.func96, Tryz.ntmps96
 go_wp2_with (first | ((with_reducible refine qi (N := 3) rfl ?_); refine qh ?hg (N := 3) ?hd (cs := #[.string a1_0, .string a1_1]) (t := 119) ?hr ?_; (case hd => rfl); (case hg => rfl); (case hr => exact qC); intro gb109 hg w4 hbox hb; have n0_ := qb.mk (qd qz hb); have n1_ := qb.mk (hbox); have n2_ := qb.mk ((Z66 : w.heap.size ≤ gb109)); have n3_ := n2_; clear HB; have HB := n0_; have BK109 := n1_; have GW109 := n2_; have GE109 := n3_; clear n0_ n1_ n2_ n3_; clear hb hbox hg; obtain ⟨yc5_0, yc5_1, yf5_0, yf5_1⟩ := bf2 BK109.out) | ((with_reducible refine qg (f := 141) rfl ?_); refine goesL_ (some 7) rfl rfl Tryz.func141 (by kernel_rfl) rfl #[.slice A0 l0.length c0, .agg #[.string a1_0, .string a1_1]] rfl Z61 ?_; (with_reducible refine (api_Address_141.calls k _ _ l0 a1_0 a1_1 t110 _ ?side1 ?side2 A3.out).mono ?_); (case side1 => exact Z62); (case side2 => exact Z158); rintro e w6 ⟨rfl, hb⟩; refine ⟨_, rfl, ?_⟩; have n0_ := bb BK109 hb; have n1_ := qb.mk (qd (by repeat (first | (with_reducible first | exact HB.out | apply qp | apply qj | apply qo | refine qq ?_ GE109.out) | exact HB.out)) hb); clear BK109 HB; have BK109 := n0_; have HB := n1_; clear n0_ n1_; (try clear hb); (try clear hb2); (try clear hk); (try clear hi)))
 go_ret
 exact ⟨Z97, by repeat (first | (with_reducible first | exact HB.out | apply qp | apply qj | apply qo | refine qq ?_ GE109.out) | exact HB.out)⟩

end Go.Proofs.YtmmknokdgbgjgaaGreatDoor.XPartnerDaysMatchSpec
