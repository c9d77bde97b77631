-- Walks of PartnerNeverIsNever: written by xprint.py out of the translation (hand-proved functions among them). Lean checks it.
import Derived.Test.YtdlgohhecicnoaaDoorXPartnerNeverIsNeverx0
import Derived.Test.YtdlgohhecicnoaaDoorXPartnerNeverIsNeverx1
import Derived.Test.YtdlgohhecicnoaaDoorXPartnerNeverIsNeverx7
import Derived.Test.YtdlgohhecicnoaaDoorXPartnerNeverIsNeverx9
import Derived.Test.YtdlgohhecicnoaaDoorXPartnerNeverIsNeverx10
namespace Go.Proofs.YtdlgohhecicnoaaDoor.XPartnerNeverIsNever
open Go.RowKit Go.Proofs.YtdlgohhecicnoaaDoorW.PrintWords Go.Proofs.YtdlgohhecicnoaaDoorW.PrintLast Go.Proofs.YtdlgohhecicnoaaDoorW.PrintMore
attribute [local go_sem] max2_int min2_int max_two min_two max_three min_three max_four min_four   -- for this text's walks alone
set_option linter.unusedVariables false
set_option linter.unusedSimpArgs false

/-! ### interchangelaw8_PartnerNeverIsNever: function 12 -/
mutual
def interchangelaw8_PartnerNeverIsNever.l0 : Nat → List (S86) → List (S23) → ByteArray → ByteArray → Int → List Int → Int → Int → Option (Bool)
 | 0, _, _, _, _, _, _, _, _ => none
 | k + 1, x0, x1, x2, x3, x4, x32, x33, x34 => if x34 < x33 then (if 0 ≤ x34 then (if x34 < (x32.length : Int) then (if (rd x32 x34) < 0 then (interchangelaw8_PartnerNeverIsNever.j1 k x0 x1 x2 x3 x4 (rd x32 x34) x32 x33 x34 true) else (interchangelaw8_PartnerNeverIsNever.j1 k x0 x1 x2 x3 x4 (rd x32 x34) x32 x33 x34 (decide ((rd x32 x34) ≥ (x1.length : Int))))) else (none)) else (none)) else ((interchangelaw8_awake.f).bind fun t240 => (some t240))
def interchangelaw8_PartnerNeverIsNever.j1 : Nat → List (S86) → List (S23) → ByteArray → ByteArray → Int → Int → List Int → Int → Int → Bool → Option (Bool)
 | 0, _, _, _, _, _, _, _, _, _, _ => none
 | k + 1, x0, x1, x2, x3, x4, x14, x32, x33, x34, x45 => if x45 = true then (some false) else (if 0 ≤ x14 then (if x14 < (x1.length : Int) then ((interchangeref8_Case.f ((rd_T23 x1 x14).f0) ((rd_T23 x1 x14).f1) ((rd_T23 x1 x14).f2) ((rd_T23 x1 x14).f3) ((rd_T23 x1 x14).f4) ((rd_T23 x1 x14).f5) ((rd_T23 x1 x14).f6) ((rd_T23 x1 x14).f7) ((rd_T23 x1 x14).f8) x2 x3 x4).bind fun bt243 => ((partner_Find.f k x0 x1 bt243.1 bt243.2.1 bt243.2.2.1 bt243.2.2.2.1 bt243.2.2.2.2.1 bt243.2.2.2.2.2).bind fun bt249 => (if bt249.2.2 = 0 then (if bt249.2.1 = true then (if bt249.1 = x14 then (some false) else (interchangelaw8_PartnerNeverIsNever.l0 k x0 x1 x2 x3 x4 x32 x33 (wrap64 (x34 + 1)))) else (interchangelaw8_PartnerNeverIsNever.l0 k x0 x1 x2 x3 x4 x32 x33 (wrap64 (x34 + 1)))) else (interchangelaw8_PartnerNeverIsNever.l0 k x0 x1 x2 x3 x4 x32 x33 (wrap64 (x34 + 1)))))) else (none)) else (none))
end
def interchangelaw8_PartnerNeverIsNever.f (k : Nat) (l0 : List (S86)) (l1 : List (S23)) (a2 : ByteArray) (a3 : ByteArray) (a4 : Int) : Option (Bool) := (partner_Never.f k l0 l1).bind fun bt235 => (if bt235.2 = 0 then (interchangelaw8_PartnerNeverIsNever.l0 k l0 l1 a2 a3 a4 bt235.1 (bt235.1.length : Int) 0) else (if (bt235.1.length : Int) = 0 then ((interchangelaw8_awake.f).bind fun t239 => (some t239)) else (some false)))
theorem interchangelaw8_PartnerNeverIsNever.mono_l : ∀ k, (∀ y0 y1 y2 y3 y4 y5 y6 y7, LeO (interchangelaw8_PartnerNeverIsNever.l0 k y0 y1 y2 y3 y4 y5 y6 y7) (interchangelaw8_PartnerNeverIsNever.l0 (k + 1) y0 y1 y2 y3 y4 y5 y6 y7)) ∧ (∀ y0 y1 y2 y3 y4 y5 y6 y7 y8 y9, LeO (interchangelaw8_PartnerNeverIsNever.j1 k y0 y1 y2 y3 y4 y5 y6 y7 y8 y9) (interchangelaw8_PartnerNeverIsNever.j1 (k + 1) y0 y1 y2 y3 y4 y5 y6 y7 y8 y9))
 | 0 => ⟨fun _ _ _ _ _ _ _ _ r h => by simp [interchangelaw8_PartnerNeverIsNever.l0] at h, fun _ _ _ _ _ _ _ _ _ _ r h => by simp [interchangelaw8_PartnerNeverIsNever.j1] at h⟩
 | k + 1 => by
  obtain ⟨ih0, ih1⟩ := interchangelaw8_PartnerNeverIsNever.mono_l k
  refine ⟨?_, ?_⟩
  ·intro y0 y1 y2 y3 y4 y5 y6 y7
   unfold interchangelaw8_PartnerNeverIsNever.l0
   repeat' first
   | (with_reducible exact ih0 _ _ _ _ _ _ _ _)
   | (with_reducible exact ih1 _ _ _ _ _ _ _ _ _ _)
   | (with_reducible exact partner_Find.mono _ _ _ _ _ _ _ _ _)
   | (with_reducible exact partner_Never.mono _ _ _)
   | (with_reducible exact LeO.refl _)
   | (with_reducible exact LeO.none _)
   | (with_reducible refine LeO.ite ?_ ?_)
   | (with_reducible refine LeO.bind ?_ (fun _ => ?_))
   | exact ih0 _ _ _ _ _ _ _ _
   | exact ih1 _ _ _ _ _ _ _ _ _ _
   | exact partner_Find.mono _ _ _ _ _ _ _ _ _
   | exact partner_Never.mono _ _ _
   | exact LeO.none _
   | refine LeO.ite ?_ ?_
   | refine LeO.bind ?_ (fun _ => ?_)
  ·intro y0 y1 y2 y3 y4 y5 y6 y7 y8 y9
   unfold interchangelaw8_PartnerNeverIsNever.j1
   repeat' first
   | (with_reducible exact ih0 _ _ _ _ _ _ _ _)
   | (with_reducible exact ih1 _ _ _ _ _ _ _ _ _ _)
   | (with_reducible exact partner_Find.mono _ _ _ _ _ _ _ _ _)
   | (with_reducible exact partner_Never.mono _ _ _)
   | (with_reducible exact LeO.refl _)
   | (with_reducible exact LeO.none _)
   | (with_reducible refine LeO.ite ?_ ?_)
   | (with_reducible refine LeO.bind ?_ (fun _ => ?_))
   | exact ih0 _ _ _ _ _ _ _ _
   | exact ih1 _ _ _ _ _ _ _ _ _ _
   | exact partner_Find.mono _ _ _ _ _ _ _ _ _
   | exact partner_Never.mono _ _ _
   | exact LeO.none _
   | refine LeO.ite ?_ ?_
   | refine LeO.bind ?_ (fun _ => ?_)
theorem interchangelaw8_PartnerNeverIsNever.mono : ∀ a0 a1 a2 a3 a4 k, LeO (interchangelaw8_PartnerNeverIsNever.f k a0 a1 a2 a3 a4) (interchangelaw8_PartnerNeverIsNever.f (k + 1) a0 a1 a2 a3 a4) := by
 intro a0 a1 a2 a3 a4 k
 obtain ⟨ih0, ih1⟩ := interchangelaw8_PartnerNeverIsNever.mono_l k
 unfold interchangelaw8_PartnerNeverIsNever.f
 repeat' first
   | (with_reducible exact ih0 _ _ _ _ _ _ _ _)
   | (with_reducible exact ih1 _ _ _ _ _ _ _ _ _ _)
   | (with_reducible exact partner_Find.mono _ _ _ _ _ _ _ _ _)
   | (with_reducible exact partner_Never.mono _ _ _)
   | (with_reducible exact LeO.refl _)
   | (with_reducible exact LeO.none _)
   | (with_reducible refine LeO.ite ?_ ?_)
   | (with_reducible refine LeO.bind ?_ (fun _ => ?_))
   | exact ih0 _ _ _ _ _ _ _ _
   | exact ih1 _ _ _ _ _ _ _ _ _ _
   | exact partner_Find.mono _ _ _ _ _ _ _ _ _
   | exact partner_Never.mono _ _ _
   | exact LeO.none _
   | refine LeO.ite ?_ ?_
   | refine LeO.bind ?_ (fun _ => ?_)
set_option maxHeartbeats 8000000 in
set_option maxRecDepth 100000 in
theorem interchangelaw8_PartnerNeverIsNever.calls (k : Nat) (A0 : Option Addr) (c0 : Nat) (l0 : List (S86)) (A1 : Option Addr) (c1 : Nat) (l1 : List (S23)) (a2 : ByteArray) (a3 : ByteArray) (a4 : Int) (r : Bool) (w : World) (hr0 : Kd.C k86 w A0 l0.length l0) (hc0 : l0.length ≤ c0) (hr1 : Kd.C k23 w A1 l1.length l1) (hc1 : l1.length ≤ c1) (h : interchangelaw8_PartnerNeverIsNever.f k l0 l1 a2 a3 a4 = some r) :
  Calls Tryd.prog 12 #[.slice A0 l0.length c0, .slice A1 l1.length c1, .string a2, .string a3, .int .i64 a4] w fun e w' => e = .returned (.bool r) ∧ Below w.heap.size w w' := by
 have hu23 := Tryd.underlying23
 have HR0 := Aside0.mk hr0
 have HC0 := Aside0.mk hc0
 clear hr0 hc0
 have HR1 := Aside0.mk hr1
 have HC1 := Aside0.mk hc1
 clear hr1 hc1
 have HB := Aside0.mk (Below.refl w.heap.size w)
 have H : ((partner_Never.f k l0 l1).bind fun bt235 => (if bt235.2 = 0 then (interchangelaw8_PartnerNeverIsNever.l0 k l0 l1 a2 a3 a4 bt235.1 (bt235.1.length : Int) 0) else (if (bt235.1.length : Int) = 0 then ((interchangelaw8_awake.f).bind fun t239 => (some t239)) else (some false)))) = some r := h
 clear h
 replace H := Option.bind_eq_some_iff.mp H
 obtain ⟨⟨t235, t236⟩, A60, H⟩ := H
 replace H : (if t236 = 0 then (interchangelaw8_PartnerNeverIsNever.l0 k l0 l1 a2 a3 a4 t235 (t235.length : Int) 0) else (if (t235.length : Int) = 0 then ((interchangelaw8_awake.f).bind fun t239 => (some t239)) else (some false))) = some r := H
 have A6 := Aside0.mk A60
 clear A60
 by_cases c7 : t236 = 0
 ·rw [if_pos c7] at H
  have c7b0 : (t236 == 0) = true := beq_iff_eq.mpr c7
  have c7b1 : (t236 != 0) = false := bne_eq_false_iff_eq.mpr c7
  clear c7
  have H' := Aside0.mk H
  clear H
  go_enter Tryd.func12, Tryd.ntmps12
  go_wp2_with (first | ((with_reducible refine gate_callee (f := 41) rfl ?_); refine goesL_ (some 21) rfl rfl Tryd.func41 (by kernel_rfl) rfl #[.slice A0 l0.length c0, .slice A1 l1.length c1] rfl Z45 ?_; (with_reducible refine (partner_Never.calls k _ _ l0 _ _ l1 t235 t236 _ ?side1 ?side2 ?side3 ?side4 A6.out).mono ?_); (case side1 => exact Z67); (case side2 => exact Z106); (case side3 => exact Z68); (case side4 => exact HC1.out); rintro e w8 ⟨v237, rfl, ho0, hb⟩; refine ⟨_, rfl, ?_⟩; have n0_ := Aside0.mk (Kd.R_lower ho0 (below_size Z70)); have n1_ := Aside0.mk (below_step Z70 hb); clear HB; have HO238 := n0_; have HB := n1_; clear n0_ n1_; (try clear hb); (try clear hb2); (try clear hk); (try clear hi); (try clear ho0); obtain ⟨Ao9, co9, eo9⟩ := Kd.R_slice HO238.out; subst eo9))
  go_loopg [34] k (fun kq v34 w' => ∃ (x34_1 : Int), v34 = .int .i64 x34_1 ∧ Aside0 (interchangelaw8_PartnerNeverIsNever.l0 kq l0 l1 a2 a3 a4 t235 (t235.length : Int) x34_1 = some r) ∧ Aside0 (kq ≤ k) ∧ Aside0 (Kd.R (Kd.int .i64) 3 w' w.heap.size (fun _ => True) (.slice Ao9 t235.length co9) t235) ∧ Aside0 (Below w.heap.size w w'))
  case atStart => exact ⟨(0), Z98, H', ⟨Nat.le_refl _⟩, ⟨by (with_reducible repeat (first | apply Kd.R_alloc | apply Kd.R_drewN | apply Kd.R_drew)); exact HO238.out⟩, ⟨Z70⟩⟩
  case round =>
   clear H'
   try clear c1
   try clear p2
   try clear c4
   try clear c7
   try clear c7b0
   try clear c7b1
   obtain ⟨x34_1, rfl, HA, HK1, HO_32, HB⟩ := hrel
   cases gk with
   | zero => exact absurd HA.out (by simp [interchangelaw8_PartnerNeverIsNever.l0])
   | succ k1 =>
    have H := HA.out
    clear HA
    simp only [interchangelaw8_PartnerNeverIsNever.l0] at H
    by_cases c10 : x34_1 < (t235.length : Int)
    ·rw [if_pos c10] at H
     have c10b0 : decide (x34_1 < (t235.length : Int)) = true := decide_eq_true c10
     clear c10
     by_cases c11 : 0 ≤ x34_1
     ·rw [if_pos c11] at H
      have c11b0 : decide (0 ≤ x34_1) = true := decide_eq_true c11
      clear c11
      by_cases c12 : x34_1 < (t235.length : Int)
      ·rw [if_pos c12] at H
       have c12b0 : decide (x34_1 < (t235.length : Int)) = true := decide_eq_true c12
       clear c12
       have HC13 := Aside0.mk H
       clear H
       have p241 : 0 ≤ (x34_1 : Int) := of_decide_eq_true Z101
       have q241 : x34_1 < (t235.length : Int) := of_decide_eq_true Z101
       obtain ⟨ad241, e241, hx241_0⟩ := Kd.at_int (Kd.R_reads' HO_32.out).2.2 x34_1 p241 q241
       cases e241
       replace p241 := eq_true p241
       replace q241 := eq_true q241
       go_upto_region 7 with (fail)
       go_cut [45] (fun v45 wc => ∃ (kq : Nat) (x45_12 : Bool), v45 = .bool x45_12 ∧ Aside0 (interchangelaw8_PartnerNeverIsNever.j1 kq l0 l1 a2 a3 a4 (rd t235 x34_1) t235 (t235.length : Int) x34_1 x45_12 = some r) ∧ Aside0 (kq ≤ k1) ∧ Aside0 (Kd.R (Kd.int .i64) 3 wc w.heap.size (fun _ => True) (.slice (some ad241) t235.length co9) t235) ∧ Aside0 (Below w.heap.size w wc))
       case first =>
        have H := HC13.out
        clear HC13
        by_cases c14 : (rd t235 x34_1) < 0
        ·rw [if_pos c14] at H
         have c14b0 : decide ((rd t235 x34_1) < 0) = true := decide_eq_true c14
         clear c14
         (first | rw [c14b0] | (simp only [i64_w, i32_w]; rw [c14b0]) | skip)
         have H' := Aside0.mk H
         clear H
         go_wp2
         go_meet
         case rel => exact ⟨_, (true), Z98, H', ⟨Z100⟩, ⟨Z95⟩, ⟨Z70⟩⟩
        ·rw [if_neg c14] at H
         have c14b0 : decide ((rd t235 x34_1) < 0) = false := decide_eq_false c14
         clear c14
         (first | rw [c14b0] | (simp only [i64_w, i32_w]; rw [c14b0]) | skip)
         have H' := Aside0.mk H
         clear H
         go_wp2
         go_meet
         case rel => exact ⟨_, (decide ((rd t235 x34_1) ≥ (l1.length : Int))), Z98, H', ⟨Z100⟩, ⟨Z95⟩, ⟨Z70⟩⟩
       case rest =>
        clear HC13
        try clear c1
        try clear p2
        try clear q2
        try clear hx2
        try clear c4
        try clear c7
        try clear c7b0
        try clear c7b1
        try clear c10
        try clear c10b0
        try clear c11
        try clear c11b0
        try clear c12
        try clear c12b0
        try clear c14
        try clear c14b0
        try clear hx241_0
        try clear p2
        try clear p241
        try clear q241
        obtain ⟨kq, x45_12, rfl, HA, HJ12, HO_32, HB⟩ := hcut
        cases kq with
        | zero => exact absurd HA.out (by simp [interchangelaw8_PartnerNeverIsNever.j1])
        | succ kj12 =>
         have H := HA.out
         clear HA
         simp only [interchangelaw8_PartnerNeverIsNever.j1] at H
         by_cases c15 : x45_12 = true
         ·subst c15
          have H1 : (some false) = some r := by rw [if_pos rfl] at H; exact H
          clear H
          have H := H1
          clear H1
          obtain rfl := Option.some.inj H
          go_wp2
          go_ret
          exact ⟨Z66, Z70⟩
         ·replace c15 := Bool.eq_false_iff.mpr c15
          subst c15
          have H1 : (if 0 ≤ (rd t235 x34_1) then (if (rd t235 x34_1) < (l1.length : Int) then ((interchangeref8_Case.f ((rd_T23 l1 (rd t235 x34_1)).f0) ((rd_T23 l1 (rd t235 x34_1)).f1) ((rd_T23 l1 (rd t235 x34_1)).f2) ((rd_T23 l1 (rd t235 x34_1)).f3) ((rd_T23 l1 (rd t235 x34_1)).f4) ((rd_T23 l1 (rd t235 x34_1)).f5) ((rd_T23 l1 (rd t235 x34_1)).f6) ((rd_T23 l1 (rd t235 x34_1)).f7) ((rd_T23 l1 (rd t235 x34_1)).f8) a2 a3 a4).bind fun bt243 => ((partner_Find.f kj12 l0 l1 bt243.1 bt243.2.1 bt243.2.2.1 bt243.2.2.2.1 bt243.2.2.2.2.1 bt243.2.2.2.2.2).bind fun bt249 => (if bt249.2.2 = 0 then (if bt249.2.1 = true then (if bt249.1 = (rd t235 x34_1) then (some false) else (interchangelaw8_PartnerNeverIsNever.l0 kj12 l0 l1 a2 a3 a4 t235 (t235.length : Int) (wrap64 (x34_1 + 1)))) else (interchangelaw8_PartnerNeverIsNever.l0 kj12 l0 l1 a2 a3 a4 t235 (t235.length : Int) (wrap64 (x34_1 + 1)))) else (interchangelaw8_PartnerNeverIsNever.l0 kj12 l0 l1 a2 a3 a4 t235 (t235.length : Int) (wrap64 (x34_1 + 1)))))) else (none)) else (none)) = some r := by rw [if_neg (show ¬ (false = true) by decide)] at H; exact H
          clear H
          have H := H1
          clear H1
          by_cases c16 : 0 ≤ (rd t235 x34_1)
          ·rw [if_pos c16] at H
           have c16b0 : decide (0 ≤ (rd t235 x34_1)) = true := decide_eq_true c16
           clear c16
           by_cases c17 : (rd t235 x34_1) < (l1.length : Int)
           ·rw [if_pos c17] at H
            have c17b0 : decide ((rd t235 x34_1) < (l1.length : Int)) = true := decide_eq_true c17
            clear c17
            replace H := Option.bind_eq_some_iff.mp H
            obtain ⟨⟨t243, t244, t245, t246, t247, t248⟩, A180, H⟩ := H
            replace H : ((partner_Find.f kj12 l0 l1 t243 t244 t245 t246 t247 t248).bind fun bt249 => (if bt249.2.2 = 0 then (if bt249.2.1 = true then (if bt249.1 = (rd t235 x34_1) then (some false) else (interchangelaw8_PartnerNeverIsNever.l0 kj12 l0 l1 a2 a3 a4 t235 (t235.length : Int) (wrap64 (x34_1 + 1)))) else (interchangelaw8_PartnerNeverIsNever.l0 kj12 l0 l1 a2 a3 a4 t235 (t235.length : Int) (wrap64 (x34_1 + 1)))) else (interchangelaw8_PartnerNeverIsNever.l0 kj12 l0 l1 a2 a3 a4 t235 (t235.length : Int) (wrap64 (x34_1 + 1))))) = some r := H
            have A18 := Aside0.mk A180
            clear A180
            replace H := Option.bind_eq_some_iff.mp H
            obtain ⟨⟨t249, t250, t251⟩, A190, H⟩ := H
            replace H : (if t251 = 0 then (if t250 = true then (if t249 = (rd t235 x34_1) then (some false) else (interchangelaw8_PartnerNeverIsNever.l0 kj12 l0 l1 a2 a3 a4 t235 (t235.length : Int) (wrap64 (x34_1 + 1)))) else (interchangelaw8_PartnerNeverIsNever.l0 kj12 l0 l1 a2 a3 a4 t235 (t235.length : Int) (wrap64 (x34_1 + 1)))) else (interchangelaw8_PartnerNeverIsNever.l0 kj12 l0 l1 a2 a3 a4 t235 (t235.length : Int) (wrap64 (x34_1 + 1)))) = some r := H
            have A19 := Aside0.mk A190
            clear A190
            by_cases c20 : t251 = 0
            ·rw [if_pos c20] at H
             have c20b0 : (t251 == 0) = true := beq_iff_eq.mpr c20
             have c20b1 : (t251 != 0) = false := bne_eq_false_iff_eq.mpr c20
             clear c20
             by_cases c21 : t250 = true
             ·subst c21
              have H1 : (if t249 = (rd t235 x34_1) then (some false) else (interchangelaw8_PartnerNeverIsNever.l0 kj12 l0 l1 a2 a3 a4 t235 (t235.length : Int) (wrap64 (x34_1 + 1)))) = some r := by rw [if_pos rfl] at H; exact H
              clear H
              have H := H1
              clear H1
              by_cases c22 : t249 = (rd t235 x34_1)
              ·rw [if_pos c22] at H
               have c22b0 : (t249 == (rd t235 x34_1)) = true := beq_iff_eq.mpr c22
               have c22b1 : (t249 != (rd t235 x34_1)) = false := bne_eq_false_iff_eq.mpr c22
               clear c22
               obtain rfl := Option.some.inj H
               have p242 : 0 ≤ ((rd t235 x34_1) : Int) := of_decide_eq_true Z101
               have q242 : (rd t235 x34_1) < (l1.length : Int) := of_decide_eq_true Z101
               obtain ⟨ad242, e242, hx242_0, hx242_1, hx242_2, hx242_3, hx242_4, hx242_5, hx242_6, hx242_7, hx242_8⟩ := at_T23 HR1.out (rd t235 x34_1) p242 q242
               cases e242
               replace hx242_0 := (HB.out.cell (World.block_lt_of_cell? w _ hx242_0)).trans hx242_0
               replace hx242_1 := (HB.out.cell (World.block_lt_of_cell? w _ hx242_1)).trans hx242_1
               replace hx242_2 := (HB.out.cell (World.block_lt_of_cell? w _ hx242_2)).trans hx242_2
               replace hx242_3 := (HB.out.cell (World.block_lt_of_cell? w _ hx242_3)).trans hx242_3
               replace hx242_4 := (HB.out.cell (World.block_lt_of_cell? w _ hx242_4)).trans hx242_4
               replace hx242_5 := (HB.out.cell (World.block_lt_of_cell? w _ hx242_5)).trans hx242_5
               replace hx242_6 := (HB.out.cell (World.block_lt_of_cell? w _ hx242_6)).trans hx242_6
               replace hx242_7 := (HB.out.cell (World.block_lt_of_cell? w _ hx242_7)).trans hx242_7
               replace hx242_8 := (HB.out.cell (World.block_lt_of_cell? w _ hx242_8)).trans hx242_8
               replace p242 := eq_true p242
               replace q242 := eq_true q242
               go_wp2_with (first | ((with_reducible refine gate_callee (f := 42) rfl ?_); refine goesL_ (some 56) rfl rfl Tryd.func42 (by kernel_rfl) rfl #[.agg #[.string ((rd_T23 l1 (rd t235 x34_1)).f0), .string ((rd_T23 l1 (rd t235 x34_1)).f1), .string ((rd_T23 l1 (rd t235 x34_1)).f2), .string ((rd_T23 l1 (rd t235 x34_1)).f3), .int .i64 ((rd_T23 l1 (rd t235 x34_1)).f4), .int .i64 ((rd_T23 l1 (rd t235 x34_1)).f5), .bool ((rd_T23 l1 (rd t235 x34_1)).f6), .int .i64 ((rd_T23 l1 (rd t235 x34_1)).f7), .bool ((rd_T23 l1 (rd t235 x34_1)).f8)], .string a2, .string a3, .int .i64 a4] rfl Z45 ?_; (with_reducible refine (interchangeref8_Case.calls ((rd_T23 l1 (rd t235 x34_1)).f0) ((rd_T23 l1 (rd t235 x34_1)).f1) ((rd_T23 l1 (rd t235 x34_1)).f2) ((rd_T23 l1 (rd t235 x34_1)).f3) ((rd_T23 l1 (rd t235 x34_1)).f4) ((rd_T23 l1 (rd t235 x34_1)).f5) ((rd_T23 l1 (rd t235 x34_1)).f6) ((rd_T23 l1 (rd t235 x34_1)).f7) ((rd_T23 l1 (rd t235 x34_1)).f8) a2 a3 a4 t243 t244 t245 t246 t247 t248 _ A18.out).mono ?_); rintro e w23 ⟨rfl, hb⟩; refine ⟨_, rfl, ?_⟩; have n0_ := Aside0.mk (Kd.R_below Z95 hb); have n1_ := Aside0.mk (below_step Z70 hb); clear HO_32; clear HB; have HO_32 := n0_; have HB := n1_; clear n0_ n1_; (try clear hb); (try clear hb2); (try clear hk); (try clear hi)) | ((with_reducible refine gate_callee (f := 29) rfl ?_); refine goesL_ (some 57) rfl rfl Tryd.func29 (by kernel_rfl) rfl #[.slice A0 l0.length c0, .slice (some ad242) l1.length c1, .agg #[.string t243, .string t244, .string t245, .string t246, .int .i64 t247, .bool t248]] rfl Z45 ?_; (with_reducible refine (partner_Find.calls kj12 _ _ l0 _ _ l1 t243 t244 t245 t246 t247 t248 t249 true t251 _ ?side1 ?side2 ?side3 ?side4 A19.out).mono ?_); (case side1 => exact Z46); (case side2 => exact Z106); (case side3 => exact Z47); (case side4 => exact HC1.out); rintro e w24 ⟨rfl, hb⟩; refine ⟨_, rfl, ?_⟩; have n0_ := Aside0.mk (Kd.R_below Z95 hb); have n1_ := Aside0.mk (below_step Z70 hb); clear HO_32; clear HB; have HO_32 := n0_; have HB := n1_; clear n0_ n1_; (try clear hb); (try clear hb2); (try clear hk); (try clear hi)))
               go_ret
               exact ⟨Z66, Z70⟩
              ·rw [if_neg c22] at H
               have c22b0 : (t249 == (rd t235 x34_1)) = false := beq_eq_false_iff_ne.mpr c22
               have c22b1 : (t249 != (rd t235 x34_1)) = true := bne_iff_ne.mpr c22
               have H' := Aside0.mk H
               clear H
               have p242 : 0 ≤ ((rd t235 x34_1) : Int) := of_decide_eq_true Z101
               have q242 : (rd t235 x34_1) < (l1.length : Int) := of_decide_eq_true Z101
               obtain ⟨ad242, e242, hx242_0, hx242_1, hx242_2, hx242_3, hx242_4, hx242_5, hx242_6, hx242_7, hx242_8⟩ := at_T23 HR1.out (rd t235 x34_1) p242 q242
               cases e242
               replace hx242_0 := (HB.out.cell (World.block_lt_of_cell? w _ hx242_0)).trans hx242_0
               replace hx242_1 := (HB.out.cell (World.block_lt_of_cell? w _ hx242_1)).trans hx242_1
               replace hx242_2 := (HB.out.cell (World.block_lt_of_cell? w _ hx242_2)).trans hx242_2
               replace hx242_3 := (HB.out.cell (World.block_lt_of_cell? w _ hx242_3)).trans hx242_3
               replace hx242_4 := (HB.out.cell (World.block_lt_of_cell? w _ hx242_4)).trans hx242_4
               replace hx242_5 := (HB.out.cell (World.block_lt_of_cell? w _ hx242_5)).trans hx242_5
               replace hx242_6 := (HB.out.cell (World.block_lt_of_cell? w _ hx242_6)).trans hx242_6
               replace hx242_7 := (HB.out.cell (World.block_lt_of_cell? w _ hx242_7)).trans hx242_7
               replace hx242_8 := (HB.out.cell (World.block_lt_of_cell? w _ hx242_8)).trans hx242_8
               replace p242 := eq_true p242
               replace q242 := eq_true q242
               go_wp2_with (first | ((with_reducible refine gate_callee (f := 42) rfl ?_); refine goesL_ (some 56) rfl rfl Tryd.func42 (by kernel_rfl) rfl #[.agg #[.string ((rd_T23 l1 (rd t235 x34_1)).f0), .string ((rd_T23 l1 (rd t235 x34_1)).f1), .string ((rd_T23 l1 (rd t235 x34_1)).f2), .string ((rd_T23 l1 (rd t235 x34_1)).f3), .int .i64 ((rd_T23 l1 (rd t235 x34_1)).f4), .int .i64 ((rd_T23 l1 (rd t235 x34_1)).f5), .bool ((rd_T23 l1 (rd t235 x34_1)).f6), .int .i64 ((rd_T23 l1 (rd t235 x34_1)).f7), .bool ((rd_T23 l1 (rd t235 x34_1)).f8)], .string a2, .string a3, .int .i64 a4] rfl Z45 ?_; (with_reducible refine (interchangeref8_Case.calls ((rd_T23 l1 (rd t235 x34_1)).f0) ((rd_T23 l1 (rd t235 x34_1)).f1) ((rd_T23 l1 (rd t235 x34_1)).f2) ((rd_T23 l1 (rd t235 x34_1)).f3) ((rd_T23 l1 (rd t235 x34_1)).f4) ((rd_T23 l1 (rd t235 x34_1)).f5) ((rd_T23 l1 (rd t235 x34_1)).f6) ((rd_T23 l1 (rd t235 x34_1)).f7) ((rd_T23 l1 (rd t235 x34_1)).f8) a2 a3 a4 t243 t244 t245 t246 t247 t248 _ A18.out).mono ?_); rintro e w25 ⟨rfl, hb⟩; refine ⟨_, rfl, ?_⟩; have n0_ := Aside0.mk (Kd.R_below Z95 hb); have n1_ := Aside0.mk (below_step Z70 hb); clear HO_32; clear HB; have HO_32 := n0_; have HB := n1_; clear n0_ n1_; (try clear hb); (try clear hb2); (try clear hk); (try clear hi)) | ((with_reducible refine gate_callee (f := 29) rfl ?_); refine goesL_ (some 57) rfl rfl Tryd.func29 (by kernel_rfl) rfl #[.slice A0 l0.length c0, .slice (some ad242) l1.length c1, .agg #[.string t243, .string t244, .string t245, .string t246, .int .i64 t247, .bool t248]] rfl Z45 ?_; (with_reducible refine (partner_Find.calls kj12 _ _ l0 _ _ l1 t243 t244 t245 t246 t247 t248 t249 true t251 _ ?side1 ?side2 ?side3 ?side4 A19.out).mono ?_); (case side1 => exact Z46); (case side2 => exact Z106); (case side3 => exact Z47); (case side4 => exact HC1.out); rintro e w26 ⟨rfl, hb⟩; refine ⟨_, rfl, ?_⟩; have n0_ := Aside0.mk (Kd.R_below Z95 hb); have n1_ := Aside0.mk (below_step Z70 hb); clear HO_32; clear HB; have HO_32 := n0_; have HB := n1_; clear n0_ n1_; (try clear hb); (try clear hb2); (try clear hk); (try clear hi)))
               go_roundg kj12
               case measure => have := HK1.out; have := HJ12.out; omega
               case rel => exact ⟨(wrap64 (x34_1 + 1)), Z98, H', ⟨by have := HK1.out; have := HJ12.out; omega⟩, ⟨Z95⟩, ⟨Z70⟩⟩
             ·replace c21 := Bool.eq_false_iff.mpr c21
              subst c21
              have H1 : (interchangelaw8_PartnerNeverIsNever.l0 kj12 l0 l1 a2 a3 a4 t235 (t235.length : Int) (wrap64 (x34_1 + 1))) = some r := by rw [if_neg (show ¬ (false = true) by decide)] at H; exact H
              clear H
              have H := H1
              clear H1
              have H' := Aside0.mk H
              clear H
              have p242 : 0 ≤ ((rd t235 x34_1) : Int) := of_decide_eq_true Z101
              have q242 : (rd t235 x34_1) < (l1.length : Int) := of_decide_eq_true Z101
              obtain ⟨ad242, e242, hx242_0, hx242_1, hx242_2, hx242_3, hx242_4, hx242_5, hx242_6, hx242_7, hx242_8⟩ := at_T23 HR1.out (rd t235 x34_1) p242 q242
              cases e242
              replace hx242_0 := (HB.out.cell (World.block_lt_of_cell? w _ hx242_0)).trans hx242_0
              replace hx242_1 := (HB.out.cell (World.block_lt_of_cell? w _ hx242_1)).trans hx242_1
              replace hx242_2 := (HB.out.cell (World.block_lt_of_cell? w _ hx242_2)).trans hx242_2
              replace hx242_3 := (HB.out.cell (World.block_lt_of_cell? w _ hx242_3)).trans hx242_3
              replace hx242_4 := (HB.out.cell (World.block_lt_of_cell? w _ hx242_4)).trans hx242_4
              replace hx242_5 := (HB.out.cell (World.block_lt_of_cell? w _ hx242_5)).trans hx242_5
              replace hx242_6 := (HB.out.cell (World.block_lt_of_cell? w _ hx242_6)).trans hx242_6
              replace hx242_7 := (HB.out.cell (World.block_lt_of_cell? w _ hx242_7)).trans hx242_7
              replace hx242_8 := (HB.out.cell (World.block_lt_of_cell? w _ hx242_8)).trans hx242_8
              replace p242 := eq_true p242
              replace q242 := eq_true q242
              go_wp2_with (first | ((with_reducible refine gate_callee (f := 42) rfl ?_); refine goesL_ (some 56) rfl rfl Tryd.func42 (by kernel_rfl) rfl #[.agg #[.string ((rd_T23 l1 (rd t235 x34_1)).f0), .string ((rd_T23 l1 (rd t235 x34_1)).f1), .string ((rd_T23 l1 (rd t235 x34_1)).f2), .string ((rd_T23 l1 (rd t235 x34_1)).f3), .int .i64 ((rd_T23 l1 (rd t235 x34_1)).f4), .int .i64 ((rd_T23 l1 (rd t235 x34_1)).f5), .bool ((rd_T23 l1 (rd t235 x34_1)).f6), .int .i64 ((rd_T23 l1 (rd t235 x34_1)).f7), .bool ((rd_T23 l1 (rd t235 x34_1)).f8)], .string a2, .string a3, .int .i64 a4] rfl Z45 ?_; (with_reducible refine (interchangeref8_Case.calls ((rd_T23 l1 (rd t235 x34_1)).f0) ((rd_T23 l1 (rd t235 x34_1)).f1) ((rd_T23 l1 (rd t235 x34_1)).f2) ((rd_T23 l1 (rd t235 x34_1)).f3) ((rd_T23 l1 (rd t235 x34_1)).f4) ((rd_T23 l1 (rd t235 x34_1)).f5) ((rd_T23 l1 (rd t235 x34_1)).f6) ((rd_T23 l1 (rd t235 x34_1)).f7) ((rd_T23 l1 (rd t235 x34_1)).f8) a2 a3 a4 t243 t244 t245 t246 t247 t248 _ A18.out).mono ?_); rintro e w27 ⟨rfl, hb⟩; refine ⟨_, rfl, ?_⟩; have n0_ := Aside0.mk (Kd.R_below Z95 hb); have n1_ := Aside0.mk (below_step Z70 hb); clear HO_32; clear HB; have HO_32 := n0_; have HB := n1_; clear n0_ n1_; (try clear hb); (try clear hb2); (try clear hk); (try clear hi)) | ((with_reducible refine gate_callee (f := 29) rfl ?_); refine goesL_ (some 57) rfl rfl Tryd.func29 (by kernel_rfl) rfl #[.slice A0 l0.length c0, .slice (some ad242) l1.length c1, .agg #[.string t243, .string t244, .string t245, .string t246, .int .i64 t247, .bool t248]] rfl Z45 ?_; (with_reducible refine (partner_Find.calls kj12 _ _ l0 _ _ l1 t243 t244 t245 t246 t247 t248 t249 false t251 _ ?side1 ?side2 ?side3 ?side4 A19.out).mono ?_); (case side1 => exact Z46); (case side2 => exact Z106); (case side3 => exact Z47); (case side4 => exact HC1.out); rintro e w28 ⟨rfl, hb⟩; refine ⟨_, rfl, ?_⟩; have n0_ := Aside0.mk (Kd.R_below Z95 hb); have n1_ := Aside0.mk (below_step Z70 hb); clear HO_32; clear HB; have HO_32 := n0_; have HB := n1_; clear n0_ n1_; (try clear hb); (try clear hb2); (try clear hk); (try clear hi)))
              go_roundg kj12
              case measure => have := HK1.out; have := HJ12.out; omega
              case rel => exact ⟨(wrap64 (x34_1 + 1)), Z98, H', ⟨by have := HK1.out; have := HJ12.out; omega⟩, ⟨Z95⟩, ⟨Z70⟩⟩
            ·rw [if_neg c20] at H
             have c20b0 : (t251 == 0) = false := beq_eq_false_iff_ne.mpr c20
             have c20b1 : (t251 != 0) = true := bne_iff_ne.mpr c20
             have H' := Aside0.mk H
             clear H
             have p242 : 0 ≤ ((rd t235 x34_1) : Int) := of_decide_eq_true Z101
             have q242 : (rd t235 x34_1) < (l1.length : Int) := of_decide_eq_true Z101
             obtain ⟨ad242, e242, hx242_0, hx242_1, hx242_2, hx242_3, hx242_4, hx242_5, hx242_6, hx242_7, hx242_8⟩ := at_T23 HR1.out (rd t235 x34_1) p242 q242
             cases e242
             replace hx242_0 := (HB.out.cell (World.block_lt_of_cell? w _ hx242_0)).trans hx242_0
             replace hx242_1 := (HB.out.cell (World.block_lt_of_cell? w _ hx242_1)).trans hx242_1
             replace hx242_2 := (HB.out.cell (World.block_lt_of_cell? w _ hx242_2)).trans hx242_2
             replace hx242_3 := (HB.out.cell (World.block_lt_of_cell? w _ hx242_3)).trans hx242_3
             replace hx242_4 := (HB.out.cell (World.block_lt_of_cell? w _ hx242_4)).trans hx242_4
             replace hx242_5 := (HB.out.cell (World.block_lt_of_cell? w _ hx242_5)).trans hx242_5
             replace hx242_6 := (HB.out.cell (World.block_lt_of_cell? w _ hx242_6)).trans hx242_6
             replace hx242_7 := (HB.out.cell (World.block_lt_of_cell? w _ hx242_7)).trans hx242_7
             replace hx242_8 := (HB.out.cell (World.block_lt_of_cell? w _ hx242_8)).trans hx242_8
             replace p242 := eq_true p242
             replace q242 := eq_true q242
             go_wp2_with (first | ((with_reducible refine gate_callee (f := 42) rfl ?_); refine goesL_ (some 56) rfl rfl Tryd.func42 (by kernel_rfl) rfl #[.agg #[.string ((rd_T23 l1 (rd t235 x34_1)).f0), .string ((rd_T23 l1 (rd t235 x34_1)).f1), .string ((rd_T23 l1 (rd t235 x34_1)).f2), .string ((rd_T23 l1 (rd t235 x34_1)).f3), .int .i64 ((rd_T23 l1 (rd t235 x34_1)).f4), .int .i64 ((rd_T23 l1 (rd t235 x34_1)).f5), .bool ((rd_T23 l1 (rd t235 x34_1)).f6), .int .i64 ((rd_T23 l1 (rd t235 x34_1)).f7), .bool ((rd_T23 l1 (rd t235 x34_1)).f8)], .string a2, .string a3, .int .i64 a4] rfl Z45 ?_; (with_reducible refine (interchangeref8_Case.calls ((rd_T23 l1 (rd t235 x34_1)).f0) ((rd_T23 l1 (rd t235 x34_1)).f1) ((rd_T23 l1 (rd t235 x34_1)).f2) ((rd_T23 l1 (rd t235 x34_1)).f3) ((rd_T23 l1 (rd t235 x34_1)).f4) ((rd_T23 l1 (rd t235 x34_1)).f5) ((rd_T23 l1 (rd t235 x34_1)).f6) ((rd_T23 l1 (rd t235 x34_1)).f7) ((rd_T23 l1 (rd t235 x34_1)).f8) a2 a3 a4 t243 t244 t245 t246 t247 t248 _ A18.out).mono ?_); rintro e w29 ⟨rfl, hb⟩; refine ⟨_, rfl, ?_⟩; have n0_ := Aside0.mk (Kd.R_below Z95 hb); have n1_ := Aside0.mk (below_step Z70 hb); clear HO_32; clear HB; have HO_32 := n0_; have HB := n1_; clear n0_ n1_; (try clear hb); (try clear hb2); (try clear hk); (try clear hi)) | ((with_reducible refine gate_callee (f := 29) rfl ?_); refine goesL_ (some 57) rfl rfl Tryd.func29 (by kernel_rfl) rfl #[.slice A0 l0.length c0, .slice (some ad242) l1.length c1, .agg #[.string t243, .string t244, .string t245, .string t246, .int .i64 t247, .bool t248]] rfl Z45 ?_; (with_reducible refine (partner_Find.calls kj12 _ _ l0 _ _ l1 t243 t244 t245 t246 t247 t248 t249 t250 t251 _ ?side1 ?side2 ?side3 ?side4 A19.out).mono ?_); (case side1 => exact Z46); (case side2 => exact Z106); (case side3 => exact Z47); (case side4 => exact HC1.out); rintro e w30 ⟨rfl, hb⟩; refine ⟨_, rfl, ?_⟩; have n0_ := Aside0.mk (Kd.R_below Z95 hb); have n1_ := Aside0.mk (below_step Z70 hb); clear HO_32; clear HB; have HO_32 := n0_; have HB := n1_; clear n0_ n1_; (try clear hb); (try clear hb2); (try clear hk); (try clear hi)))
             go_roundg kj12
             case measure => have := HK1.out; have := HJ12.out; omega
             case rel => exact ⟨(wrap64 (x34_1 + 1)), Z98, H', ⟨by have := HK1.out; have := HJ12.out; omega⟩, ⟨Z95⟩, ⟨Z70⟩⟩
           ·rw [if_neg c17] at H
            exact absurd H (by simp)
          ·rw [if_neg c16] at H
           exact absurd H (by simp)
      ·rw [if_neg c12] at H
       exact absurd H (by simp)
     ·rw [if_neg c11] at H
      exact absurd H (by simp)
    ·rw [if_neg c10] at H
     have c10b0 : decide (x34_1 < (t235.length : Int)) = false := decide_eq_false c10
     clear c10
     replace H := Option.bind_eq_some_iff.mp H
     obtain ⟨t240, A310, H⟩ := H
     replace H : (some t240) = some r := H
     have A31 := Aside0.mk A310
     clear A310
     obtain rfl := Option.some.inj H
     go_wp2_with (first | ((with_reducible refine gate_callee (f := 14) rfl ?_); refine goesL_ (some 72) rfl rfl Tryd.func14 (by kernel_rfl) rfl #[] rfl Z45 ?_; (with_reducible refine (interchangelaw8_awake.calls  t240 _ A31.out).mono ?_); rintro e w32 ⟨rfl, hb⟩; refine ⟨_, rfl, ?_⟩; have n0_ := Aside0.mk (Kd.R_below Z95 hb); have n1_ := Aside0.mk (below_step Z70 hb); clear HO_32; clear HB; have HO_32 := n0_; have HB := n1_; clear n0_ n1_; (try clear hb); (try clear hb2); (try clear hk); (try clear hi)))
     go_ret
     exact ⟨Z66, Z70⟩
 ·rw [if_neg c7] at H
  have c7b0 : (t236 == 0) = false := beq_eq_false_iff_ne.mpr c7
  have c7b1 : (t236 != 0) = true := bne_iff_ne.mpr c7
  by_cases c33 : (t235.length : Int) = 0
  ·rw [if_pos c33] at H
   have c33b0 : ((t235.length : Int) == 0) = true := beq_iff_eq.mpr c33
   have c33b1 : ((t235.length : Int) != 0) = false := bne_eq_false_iff_eq.mpr c33
   clear c33
   replace H := Option.bind_eq_some_iff.mp H
   obtain ⟨t239, A340, H⟩ := H
   replace H : (some t239) = some r := H
   have A34 := Aside0.mk A340
   clear A340
   obtain rfl := Option.some.inj H
   go_enter Tryd.func12, Tryd.ntmps12
   go_wp2_with (first | ((with_reducible refine gate_callee (f := 41) rfl ?_); refine goesL_ (some 21) rfl rfl Tryd.func41 (by kernel_rfl) rfl #[.slice A0 l0.length c0, .slice A1 l1.length c1] rfl Z45 ?_; (with_reducible refine (partner_Never.calls k _ _ l0 _ _ l1 t235 t236 _ ?side1 ?side2 ?side3 ?side4 A6.out).mono ?_); (case side1 => exact Z67); (case side2 => exact Z106); (case side3 => exact Z68); (case side4 => exact HC1.out); rintro e w35 ⟨v237, rfl, ho0, hb⟩; refine ⟨_, rfl, ?_⟩; have n0_ := Aside0.mk (Kd.R_lower ho0 (below_size Z70)); have n1_ := Aside0.mk (below_step Z70 hb); clear HB; have HO238 := n0_; have HB := n1_; clear n0_ n1_; (try clear hb); (try clear hb2); (try clear hk); (try clear hi); (try clear ho0); obtain ⟨Ao36, co36, eo36⟩ := Kd.R_slice HO238.out; subst eo36) | (go_at_call 14; (with_reducible refine (interchangelaw8_awake.calls  t239 _ A34.out).mono ?_); rintro e w37 ⟨rfl, hb⟩; have n0_ := Aside0.mk (Kd.R_below (by (with_reducible repeat (first | apply Kd.R_alloc | apply Kd.R_drewN | apply Kd.R_drew)); exact HO238.out) hb); have n1_ := Aside0.mk (below_step Z70 hb); clear HO238; clear HB; have HO238 := n0_; have HB := n1_; clear n0_ n1_; (try clear hb); (try clear hb2); (try clear hk); (try clear hi)))
   go_ret
   exact ⟨Z66, Z70⟩
  ·rw [if_neg c33] at H
   have c33b0 : ((t235.length : Int) == 0) = false := beq_eq_false_iff_ne.mpr c33
   have c33b1 : ((t235.length : Int) != 0) = true := bne_iff_ne.mpr c33
   have c33b2 : ¬ (t235 = []) := fun h_ => c33 (by rw [h_]; rfl)
   obtain rfl := Option.some.inj H
   go_enter Tryd.func12, Tryd.ntmps12
   go_wp2_with (first | ((with_reducible refine gate_callee (f := 41) rfl ?_); refine goesL_ (some 21) rfl rfl Tryd.func41 (by kernel_rfl) rfl #[.slice A0 l0.length c0, .slice A1 l1.length c1] rfl Z45 ?_; (with_reducible refine (partner_Never.calls k _ _ l0 _ _ l1 t235 t236 _ ?side1 ?side2 ?side3 ?side4 A6.out).mono ?_); (case side1 => exact Z67); (case side2 => exact Z106); (case side3 => exact Z68); (case side4 => exact HC1.out); rintro e w38 ⟨v237, rfl, ho0, hb⟩; refine ⟨_, rfl, ?_⟩; have n0_ := Aside0.mk (Kd.R_lower ho0 (below_size Z70)); have n1_ := Aside0.mk (below_step Z70 hb); clear HB; have HO238 := n0_; have HB := n1_; clear n0_ n1_; (try clear hb); (try clear hb2); (try clear hk); (try clear hi); (try clear ho0); obtain ⟨Ao39, co39, eo39⟩ := Kd.R_slice HO238.out; subst eo39))
   go_ret
   exact ⟨Z66, Z70⟩

end Go.Proofs.YtdlgohhecicnoaaDoor.XPartnerNeverIsNever
