-- Walks of PartnerDaysMatchSpec: written by xprint.py out of the translation (hand-proved functions among them). Lean checks it.
import Derived.Test.YtmmknokdgbgjgaaGreatDoorXPartnerDaysMatchSpecx0
import Derived.Test.YtmmknokdgbgjgaaGreatDoorXPartnerDaysMatchSpecx2
import Derived.Test.YtmmknokdgbgjgaaGreatDoorXPartnerDaysMatchSpecx14
namespace Go.Proofs.YtmmknokdgbgjgaaGreatDoor.XPartnerDaysMatchSpec
open Go.RowKit Go.Proofs.YtmmknokdgbgjgaaGreatDoorW.PrintWords Go.Proofs.YtmmknokdgbgjgaaGreatDoorW.PrintLast Go.Proofs.YtmmknokdgbgjgaaGreatDoorW.PrintMore
attribute [local go_sem] max2_int min2_int max_two min_two max_three min_three max_four min_four   -- for this text's walks alone
set_option linter.unusedVariables false
set_option linter.unusedSimpArgs false

/-! ### partner_find: function 23 -/
def partner_find.l0 : Nat → List (S53) → Int → List (S53) → Int → Int → ByteArray → ByteArray → ByteArray → ByteArray → Int → Bool → Option (Int)
 | 0, _, _, _, _, _, _, _, _, _, _, _ => none
 | k + 1, x0, x5, x8, x9, x10, x261000, x261001, x261002, x261003, x261004, x261005 => if x10 < x9 then (if 0 ≤ x10 then (if x10 < (x8.length : Int) then ((partner_applies.f ((qa x8 x10).f0) ((qa x8 x10).f1) ((qa x8 x10).f2) ((qa x8 x10).f3) ((qa x8 x10).f4) ((qa x8 x10).f5) ((qa x8 x10).f6) ((qa x8 x10).f7) ((qa x8 x10).f8) x261000 x261001 x261002 x261003 x261004 x261005).bind fun t263 => (if t263 = true then (if x5 < 0 then (partner_find.l0 k x0 x10 x8 x9 (wrap64 (x10 + 1)) x261000 x261001 x261002 x261003 x261004 x261005) else (if 0 ≤ x5 then (if x5 < (x0.length : Int) then ((partner_better.f k ((qa x8 x10).f0) ((qa x8 x10).f1) ((qa x8 x10).f2) ((qa x8 x10).f3) ((qa x8 x10).f4) ((qa x8 x10).f5) ((qa x8 x10).f6) ((qa x8 x10).f7) ((qa x8 x10).f8) ((qa x0 x5).f0) ((qa x0 x5).f1) ((qa x0 x5).f2) ((qa x0 x5).f3) ((qa x0 x5).f4) ((qa x0 x5).f5) ((qa x0 x5).f6) ((qa x0 x5).f7) ((qa x0 x5).f8)).bind fun t265 => (if t265 < 0 then (partner_find.l0 k x0 x10 x8 x9 (wrap64 (x10 + 1)) x261000 x261001 x261002 x261003 x261004 x261005) else (partner_find.l0 k x0 x5 x8 x9 (wrap64 (x10 + 1)) x261000 x261001 x261002 x261003 x261004 x261005))) else (none)) else (none))) else (partner_find.l0 k x0 x5 x8 x9 (wrap64 (x10 + 1)) x261000 x261001 x261002 x261003 x261004 x261005))) else (none)) else (none)) else (some x5)
def partner_find.f (k : Nat) (l0 : List (S53)) (a1_0 : ByteArray) (a1_1 : ByteArray) (a1_2 : ByteArray) (a1_3 : ByteArray) (a1_4 : Int) (a1_5 : Bool) : Option (Int) := partner_find.l0 k l0 (-1) l0 (l0.length : Int) 0 a1_0 a1_1 a1_2 a1_3 a1_4 a1_5
theorem partner_find.mono_l : ∀ k, (∀ y0 y1 y2 y3 y4 y5 y6 y7 y8 y9 y10, qv (partner_find.l0 k y0 y1 y2 y3 y4 y5 y6 y7 y8 y9 y10) (partner_find.l0 (k + 1) y0 y1 y2 y3 y4 y5 y6 y7 y8 y9 y10))
 | 0 => fun _ _ _ _ _ _ _ _ _ _ _ r h => by simp [partner_find.l0] at h
 | k + 1 => by
  have ih0 := partner_find.mono_l k
  ·intro y0 y1 y2 y3 y4 y5 y6 y7 y8 y9 y10
   unfold partner_find.l0
   repeat' first
   | (with_reducible apply ih0)
   | (with_reducible apply partner_better.mono)
   | (with_reducible exact qv.refl _)
   | (with_reducible exact qv.none _)
   | (with_reducible refine qv.ite ?_ ?_)
   | (with_reducible refine qv.bind ?_ (fun _ => ?_))
   | apply ih0
   | apply partner_better.mono
   | exact qv.none _
   | refine qv.ite ?_ ?_
   | refine qv.bind ?_ (fun _ => ?_)
theorem partner_find.mono : ∀ a0 a1 a2 a3 a4 a5 a6 k, qv (partner_find.f k a0 a1 a2 a3 a4 a5 a6) (partner_find.f (k + 1) a0 a1 a2 a3 a4 a5 a6) := by
 intro a0 a1 a2 a3 a4 a5 a6 k
 have ih0 := partner_find.mono_l k
 unfold partner_find.f
 repeat' first
   | (with_reducible apply ih0)
   | (with_reducible apply partner_better.mono)
   | (with_reducible exact qv.refl _)
   | (with_reducible exact qv.none _)
   | (with_reducible refine qv.ite ?_ ?_)
   | (with_reducible refine qv.bind ?_ (fun _ => ?_))
   | apply ih0
   | apply partner_better.mono
   | exact qv.none _
   | refine qv.ite ?_ ?_
   | refine qv.bind ?_ (fun _ => ?_)
def partner_find.T5 : Bool × List (List Nat × List Nat) := (true, [([], []), ([], []), ([0, 1], [0, 1]), ([2, 2], [2]), ([3], [3]), ([4, 3], [3, 4]), ([5, 3, 3], [3, 5]), ([6], [6]), ([6], [6]), ([6], [6]), ([8, 9, 6], [6, 8, 9]), ([10, 6], [6, 10]), ([7, 11, 6, 6], [6, 7, 11]), ([12, 6], [6, 12]), ([6, 13, 3], [3, 6, 13]), ([3, 14], [3, 14])])
def partner_find.B5 : List Nat := [0, 0, 3, 7, 15, 31, 63, 127, 127, 127, 895, 1919, 4095, 8191, 16383, 32767]
theorem partner_find.tab5 : rtab .any (opsOf Tryz.f23 5) = partner_find.T5 := by kernel_rfl
theorem partner_find.bits5 : waitsOk partner_find.T5.2 partner_find.B5 = true := by kernel_rfl
set_option maxHeartbeats 8000000 in
set_option maxRecDepth 100000 in
theorem partner_find.calls (k : Nat) (A0 : Option Addr) (c0 : Nat) (l0 : List (S53)) (a1_0 : ByteArray) (a1_1 : ByteArray) (a1_2 : ByteArray) (a1_3 : ByteArray) (a1_4 : Int) (a1_5 : Bool) (r : Int) (w : World) (hr0 : Kd.C k53 w A0 l0.length l0) (hc0 : l0.length ≤ c0) (h : partner_find.f k l0 a1_0 a1_1 a1_2 a1_3 a1_4 a1_5 = some r) :
  Calls Tryz.prog 23 #[.slice A0 l0.length c0, .agg #[.string a1_0, .string a1_1, .string a1_2, .string a1_3, .int .i64 a1_4, .bool a1_5]] w fun e w' => e = .returned (.int .i64 r) ∧ Below w.heap.size w w' := by
 have hu25 := Tryz.underlying25
 have hu53 := Tryz.underlying53
 have HR0 := qb.mk hr0
 have HC0 := qb.mk hc0
 clear hr0 hc0
 have HB := qb.mk (Below.refl w.heap.size w)
 have H : (partner_find.l0 k l0 (-1) l0 (l0.length : Int) 0 a1_0 a1_1 a1_2 a1_3 a1_4 a1_5) = some r := h
 clear h
 have H' := qb.mk H
 clear H
 go_enter Tryz.func23, Tryz.ntmps23
 go_wp2_with (first | ((with_reducible refine qi (N := 3) rfl ?_); refine qh ?hg (N := 3) ?hd (cs := #[.string a1_0, .string a1_1, .string a1_2, .string a1_3, .int .i64 a1_4, .bool a1_5]) (t := 25) ?hr ?_; (case hd => rfl); (case hg => rfl); (case hr => exact qC); intro gb260 hg w3 hbox hb; have n0_ := qb.mk (qd qz hb); have n1_ := qb.mk (hbox); have n2_ := qb.mk ((Z66 : w.heap.size ≤ gb260)); have n3_ := n2_; clear HB; have HB := n0_; have BK260 := n1_; have GW260 := n2_; have GE260 := n3_; clear n0_ n1_ n2_ n3_; clear hb hbox hg))
 go_loopg [5, 10] k (fun kq v5 v10 w' => ∃ (x5_1 : Int) (x10_1 : Int), v5 = .int .i64 x5_1 ∧ v10 = .int .i64 x10_1 ∧ qb (partner_find.l0 kq l0 x5_1 l0 (l0.length : Int) x10_1 a1_0 a1_1 a1_2 a1_3 a1_4 a1_5 = some r) ∧ qb (kq ≤ k) ∧ qb (w'.heap[gb260]? = some (.cells #[.string a1_0, .string a1_1, .string a1_2, .string a1_3, .int .i64 a1_4, .bool a1_5] 25 (0, 0))) ∧ qb (Below w.heap.size w w'))
 case atStart => exact ⟨((-1)), (0), qD, qD, H', ⟨Nat.le_refl _⟩, ⟨Z114⟩, ⟨Z89⟩⟩
 case round =>
  clear H'
  try clear c2; try clear p2
  obtain ⟨x5_1, x10_1, rfl, rfl, HA, HK1, BK260, HB⟩ := hrel
  cases gk with
  | zero => exact absurd HA.out (by simp [partner_find.l0])
  | succ k1 =>
   have H := HA.out
   clear HA
   simp only [partner_find.l0] at H
   by_cases c4 : x10_1 < (l0.length : Int)
   case neg =>
    rw [if_neg c4] at H
    have c4b0 : decide (x10_1 < (l0.length : Int)) = false := decide_eq_false c4
    clear c4
    obtain rfl := Option.some.inj H
    go_wp2
    go_ret
    exact ⟨Z97, Z89⟩

   rw [if_pos c4] at H
   have c4b0 : decide (x10_1 < (l0.length : Int)) = true := decide_eq_true c4
   clear c4
   by_cases c5 : 0 ≤ x10_1
   case neg =>
    rw [if_neg c5] at H
    exact absurd H (by simp)
   rw [if_pos c5] at H
   have c5b0 : decide (0 ≤ x10_1) = true := decide_eq_true c5
   clear c5
   by_cases c6 : x10_1 < (l0.length : Int)
   case neg =>
    rw [if_neg c6] at H
    exact absurd H (by simp)
   rw [if_pos c6] at H
   have c6b0 : decide (x10_1 < (l0.length : Int)) = true := decide_eq_true c6
   clear c6
   replace H := Option.bind_eq_some_iff.mp H
   obtain ⟨t263, A70, H⟩ := H
   replace H : (if t263 = true then (if x5_1 < 0 then (partner_find.l0 k1 l0 x10_1 l0 (l0.length : Int) (wrap64 (x10_1 + 1)) a1_0 a1_1 a1_2 a1_3 a1_4 a1_5) else (if 0 ≤ x5_1 then (if x5_1 < (l0.length : Int) then ((partner_better.f k1 ((qa l0 x10_1).f0) ((qa l0 x10_1).f1) ((qa l0 x10_1).f2) ((qa l0 x10_1).f3) ((qa l0 x10_1).f4) ((qa l0 x10_1).f5) ((qa l0 x10_1).f6) ((qa l0 x10_1).f7) ((qa l0 x10_1).f8) ((qa l0 x5_1).f0) ((qa l0 x5_1).f1) ((qa l0 x5_1).f2) ((qa l0 x5_1).f3) ((qa l0 x5_1).f4) ((qa l0 x5_1).f5) ((qa l0 x5_1).f6) ((qa l0 x5_1).f7) ((qa l0 x5_1).f8)).bind fun t265 => (if t265 < 0 then (partner_find.l0 k1 l0 x10_1 l0 (l0.length : Int) (wrap64 (x10_1 + 1)) a1_0 a1_1 a1_2 a1_3 a1_4 a1_5) else (partner_find.l0 k1 l0 x5_1 l0 (l0.length : Int) (wrap64 (x10_1 + 1)) a1_0 a1_1 a1_2 a1_3 a1_4 a1_5))) else (none)) else (none))) else (partner_find.l0 k1 l0 x5_1 l0 (l0.length : Int) (wrap64 (x10_1 + 1)) a1_0 a1_1 a1_2 a1_3 a1_4 a1_5)) = some r := H
   have A7 := qb.mk A70
   clear A70
   by_cases c8 : t263 = true
   case neg =>
    replace c8 := Bool.eq_false_iff.mpr c8
    subst c8
    have H1 : (partner_find.l0 k1 l0 x5_1 l0 (l0.length : Int) (wrap64 (x10_1 + 1)) a1_0 a1_1 a1_2 a1_3 a1_4 a1_5) = some r := by rw [if_neg (show ¬ (false = true) by decide)] at H; exact H
    clear H
    have H := H1
    clear H1
    have H' := qb.mk H
    clear H
    have p261 : 0 ≤ (x10_1 : Int) := of_decide_eq_true qB
    have q261 : x10_1 < (l0.length : Int) := of_decide_eq_true qB
    obtain ⟨ad261, e261, hx261_0, hx261_1, hx261_2, hx261_3, hx261_4, hx261_5, hx261_6, hx261_7, hx261_8⟩ := at_T53 HR0.out x10_1 p261 q261
    cases e261
    replace hx261_0 := bx HB hx261_0
    replace hx261_1 := bx HB hx261_1
    replace hx261_2 := bx HB hx261_2
    replace hx261_3 := bx HB hx261_3
    replace hx261_4 := bx HB hx261_4
    replace hx261_5 := bx HB hx261_5
    replace hx261_6 := bx HB hx261_6
    replace hx261_7 := bx HB hx261_7
    replace hx261_8 := bx HB hx261_8
    replace p261 := eq_true p261
    replace q261 := eq_true q261
    try go_wp2_with (first | ((with_reducible refine qi (N := 7) rfl ?_); refine qh ?hg (N := 7) ?hd (cs := #[.string (⟨#[]⟩ : ByteArray), .string (⟨#[]⟩ : ByteArray), .string (⟨#[]⟩ : ByteArray), .string (⟨#[]⟩ : ByteArray), .int .i64 0, .int .i64 0, .bool false, .int .i64 0, .bool false]) (t := 53) ?hr ?_; (case hd => rfl); (case hg => rfl); (case hr => exact qC); intro gb262 hg w34 hbox hb; have n0_ := bb BK260 hb; have n1_ := qb.mk (qd Z89 hb); have n2_ := qb.mk (hbox); have n3_ := qb.mk ((Z44 : w.heap.size ≤ gb262)); have n4_ := n3_; have n5_ := qb.mk ((by rw [hg]; exact Nat.ne_of_lt (bt_ BK260) : gb260 ≠ gb262)); have n6_ := qb.mk ((by rw [hg]; exact Nat.ne_of_gt (bt_ BK260) : gb262 ≠ gb260)); clear BK260 HB; have BK260 := n0_; have HB := n1_; have BK262 := n2_; have GW262 := n3_; have GE262 := n4_; have NB260_262 := n5_; have NB262_260 := n6_; clear n0_ n1_ n2_ n3_ n4_ n5_ n6_; clear hb hbox hg; have hnb35 := NB262_260.out; have hnc35 := NB260_262.out; obtain ⟨yc36_0, yc36_1, yc36_2, yc36_3, yc36_4, yc36_5, yc36_6, yc36_7, yc36_8, yf36_0, yf36_1, yf36_2, yf36_3, yf36_4, yf36_5, yf36_6, yf36_7, yf36_8⟩ := bf9 BK262.out))
    obtain ⟨w37, hw37⟩ : ∃ x, x = (((((((((w34.setCell ⟨gb262, 0, none⟩ (.string ((qa l0 x10_1).f0))).setCell ⟨gb262, 1, none⟩ (.string ((qa l0 x10_1).f1))).setCell ⟨gb262, 2, none⟩ (.string ((qa l0 x10_1).f2))).setCell ⟨gb262, 3, none⟩ (.string ((qa l0 x10_1).f3))).setCell ⟨gb262, 4, none⟩ (.int .i64 ((qa l0 x10_1).f4))).setCell ⟨gb262, 5, none⟩ (.int .i64 ((qa l0 x10_1).f5))).setCell ⟨gb262, 6, none⟩ (.bool ((qa l0 x10_1).f6))).setCell ⟨gb262, 7, none⟩ (.int .i64 ((qa l0 x10_1).f7))).setCell ⟨gb262, 8, none⟩ (.bool ((qa l0 x10_1).f8))) := ⟨_, rfl⟩
    have n0_ : qb (w37.heap[gb260]? = some (.cells #[.string a1_0, .string a1_1, .string a1_2, .string a1_3, .int .i64 a1_4, .bool a1_5] 25 (0, 0))) := ⟨by rw [hw37]; (with_reducible repeat (first | refine qn ?_ _ | refine qm ?_ | refine ql ?_ _)); refine far9 ?_ NB260_262.out; (with_reducible repeat (first | refine qn ?_ _ | refine qm ?_ | refine ql ?_ _)); exact BK260.out⟩
    have n1_ : qb (w37.heap[gb262]? = some (.cells #[.string ((qa l0 x10_1).f0), .string ((qa l0 x10_1).f1), .string ((qa l0 x10_1).f2), .string ((qa l0 x10_1).f3), .int .i64 ((qa l0 x10_1).f4), .int .i64 ((qa l0 x10_1).f5), .bool ((qa l0 x10_1).f6), .int .i64 ((qa l0 x10_1).f7), .bool ((qa l0 x10_1).f8)] 53 (0, 0))) := ⟨by rw [hw37]; (with_reducible repeat (first | refine qn ?_ _ | refine qm ?_ | refine ql ?_ _)); apply put9; (with_reducible repeat (first | refine qn ?_ _ | refine qm ?_ | refine ql ?_ _)); exact BK262.out⟩
    have n2_ : qb (Below w.heap.size w w37) := ⟨by rw [hw37]; repeat (first | (with_reducible first | exact HB.out | apply qp | apply qj | apply qo | refine qq ?_ GE260.out | refine qq ?_ GE262.out) | exact HB.out)⟩
    (try clear BK260)
    (try clear BK262)
    (try clear HB)
    rw [← hw37]; clear hw37
    have BK260 := n0_
    have BK262 := n1_
    have HB := n2_
    clear n0_ n1_ n2_
    have n0_ := qb.mk (qm BK260.out)
    have n1_ := qb.mk (qm BK262.out)
    have n2_ := qb.mk (qo HB.out)
    clear BK260 BK262 HB
    have BK260 := n0_
    have BK262 := n1_
    have HB := n2_
    clear n0_ n1_ n2_
    refine start_ (n := 16) (S := fun w' => w'.cell? ⟨gb262, 0, none⟩ = some (.string ((qa l0 x10_1).f0)) ∧ w'.cell? ⟨gb262, 1, none⟩ = some (.string ((qa l0 x10_1).f1)) ∧ w'.cell? ⟨gb262, 2, none⟩ = some (.string ((qa l0 x10_1).f2)) ∧ w'.cell? ⟨gb262, 3, none⟩ = some (.string ((qa l0 x10_1).f3)) ∧ w'.cell? ⟨gb262, 4, none⟩ = some (.int .i64 ((qa l0 x10_1).f4)) ∧ w'.cell? ⟨gb262, 5, none⟩ = some (.int .i64 ((qa l0 x10_1).f5)) ∧ w'.cell? ⟨gb262, 6, none⟩ = some (.bool ((qa l0 x10_1).f6)) ∧ w'.cell? ⟨gb262, 7, none⟩ = some (.int .i64 ((qa l0 x10_1).f7)) ∧ w'.cell? ⟨gb262, 8, none⟩ = some (.bool ((qa l0 x10_1).f8)) ∧ w'.cell? ⟨gb260, 0, none⟩ = some (.string a1_0) ∧ w'.cell? ⟨gb260, 1, none⟩ = some (.string a1_1) ∧ w'.cell? ⟨gb260, 2, none⟩ = some (.string a1_2) ∧ w'.cell? ⟨gb260, 3, none⟩ = some (.string a1_3) ∧ w'.cell? ⟨gb260, 4, none⟩ = some (.int .i64 a1_4) ∧ w'.cell? ⟨gb260, 5, none⟩ = some (.bool a1_5)) (ds := []) #[false, false, false, false, false, false, false, false, false, false, false, false, false, false, false, false] (by kernel_rfl) rfl rfl (bn9 BK262.out (bl6 BK260.out)) (fun hHeld => ?_); refine with_tabW partner_find.tab5 partner_find.bits5 (fun HT_ HW_ => ?_)
    generalize w37.drew = w38 at BK260 BK262 HB hHeld ⊢
    refine take_ (i := 0) (N := some 15) (v := ?_) (a' := ?_) #[true, false, false, false, false, false, false, false, false, false, false, false, false, false, false, false] rfl rfl (qE HT_.out HW_.out (by kernel_rfl)) (fun _ _ _ h => h) (Or.inl ⟨by rfl, ?_⟩) hHeld ?_ ?_
    rotate_left
    ·rintro w' ⟨s0, s1, s2, s3, s4, s5, s6, s7, s8, s9, s10, s11, s12, s13, s14⟩
     go_simp
     with_reducible rfl
    rotate_left
    ·simp only [Act.put, sT, s0, s1, qr, qt]
     rfl
    refine take_ (i := 1) (N := some 16) (v := ?_) (a' := ?_) #[true, true, false, false, false, false, false, false, false, false, false, false, false, false, false, false] rfl rfl (qE HT_.out HW_.out (by kernel_rfl)) (fun _ _ _ h => h) (Or.inl ⟨by rfl, ?_⟩) hHeld ?_ ?_
    rotate_left
    ·rintro w' ⟨s0, s1, s2, s3, s4, s5, s6, s7, s8, s9, s10, s11, s12, s13, s14⟩
     go_simp
     with_reducible rfl
    rotate_left
    ·simp only [Act.put, sT, s0, s1, qr, qt]
     rfl
    refine one_ (i := 2) (N := some 17) #[true, true, true, false, false, false, false, false, false, false, false, false, false, false, false, false] rfl rfl (one_of HT_.out (by kernel_rfl)) (by decide) (fun K hK => ?_)
    refine goes_ Tryz.func56 (by kernel_rfl) rfl #[.agg #[.string ((qa l0 x10_1).f0), .string ((qa l0 x10_1).f1), .string ((qa l0 x10_1).f2), .string ((qa l0 x10_1).f3), .int .i64 ((qa l0 x10_1).f4), .int .i64 ((qa l0 x10_1).f5), .bool ((qa l0 x10_1).f6), .int .i64 ((qa l0 x10_1).f7), .bool ((qa l0 x10_1).f8)], .agg #[.string a1_0, .string a1_1, .string a1_2, .string a1_3, .int .i64 a1_4, .bool a1_5]] (by rfl) rfl rfl Z61 ?_
    with_reducible refine (partner_applies.calls ((qa l0 x10_1).f0) ((qa l0 x10_1).f1) ((qa l0 x10_1).f2) ((qa l0 x10_1).f3) ((qa l0 x10_1).f4) ((qa l0 x10_1).f5) ((qa l0 x10_1).f6) ((qa l0 x10_1).f7) ((qa l0 x10_1).f8) a1_0 a1_1 a1_2 a1_3 a1_4 a1_5 false _ A7.out).mono ?_
    rintro e w39 ⟨rfl, hb⟩
    refine ⟨_, rfl, ?_⟩
    have n0_ := bb BK260 hb
    have n1_ := bb BK262 hb
    have n2_ := qb.mk (qd Z56 hb)
    clear BK260 BK262 HB
    have BK260 := n0_
    have BK262 := n1_
    have HB := n2_
    clear n0_ n1_ n2_
    (try clear hb)
    (try clear hb2)
    (try clear hk)
    (try clear hi)
    refine hK.out _ _ (bn9 BK262.out (bl6 BK260.out)) (fun hHeld => ?_)
    clear hK K
    refine norm_ (a' := ?_) ?_ ?_
    rotate_left
    ·show Act.put _ (some 17) _ = _
     simp only [Act.put, sT, s0, s1, qr, qt]
     rfl
    refine pure_ (i := 3) (N := some 18) (v := ?_) (a' := ?_) #[true, true, true, true, false, false, false, false, false, false, false, false, false, false, false, false] rfl rfl (qy HT_.out (by kernel_rfl)) (fun _ _ _ h => h) (Or.inl ⟨by rfl, ?_⟩) ?_ ?_
    rotate_left
    ·intro w'
     go_simp
     with_reducible rfl
    rotate_left
    ·simp only [Act.put, sT, s0, s1, qr, qt]
     rfl
    refine pure_ (i := 4) (N := some 19) (v := undef) (a' := ?_) #[true, true, true, true, true, false, false, false, false, false, false, false, false, false, false, false] rfl rfl (qy HT_.out (by kernel_rfl)) (fun _ _ _ h => h) (Or.inr ⟨by rfl, rfl⟩) ?_ ?_
    rotate_left
    ·simp only [Act.put, sT, s0, s1, qr, qt]
     rfl
    refine pure_ (i := 5) (N := some 20) (v := undef) (a' := ?_) #[true, true, true, true, true, true, false, false, false, false, false, false, false, false, false, false] rfl rfl (qy HT_.out (by kernel_rfl)) (fun _ _ _ h => h) (Or.inr ⟨by rfl, rfl⟩) ?_ ?_
    rotate_left
    ·simp only [Act.put, sT, s0, s1, qr, qt]
     rfl
    refine pure_ (i := 6) (N := some 21) (v := undef) (a' := ?_) #[true, true, true, true, true, true, true, false, false, false, false, false, false, false, false, false] rfl rfl (qy HT_.out (by kernel_rfl)) (fun _ _ _ h => h) (Or.inr ⟨by rfl, rfl⟩) ?_ ?_
    rotate_left
    ·simp only [Act.put, sT, s0, s1, qr, qt]
     rfl
    refine pure_ (i := 7) (N := some 22) (v := undef) (a' := ?_) #[true, true, true, true, true, true, true, true, false, false, false, false, false, false, false, false] rfl rfl (qy HT_.out (by kernel_rfl)) (fun _ _ _ h => h) (Or.inr ⟨by rfl, rfl⟩) ?_ ?_
    rotate_left
    ·simp only [Act.put, sT, s0, s1, qr, qt]
     rfl
    refine pure_ (i := 8) (N := some 23) (v := undef) (a' := ?_) #[true, true, true, true, true, true, true, true, true, false, false, false, false, false, false, false] rfl rfl (qy HT_.out (by kernel_rfl)) (fun _ _ _ h => h) (Or.inr ⟨by rfl, rfl⟩) ?_ ?_
    rotate_left
    ·simp only [Act.put, sT, s0, s1, qr, qt]
     rfl
    refine pure_ (i := 9) (N := some 24) (v := undef) (a' := ?_) #[true, true, true, true, true, true, true, true, true, true, false, false, false, false, false, false] rfl rfl (qy HT_.out (by kernel_rfl)) (fun _ _ _ h => h) (Or.inr ⟨by rfl, rfl⟩) ?_ ?_
    rotate_left
    ·simp only [Act.put, sT, s0, s1, qr, qt]
     rfl
    refine pure_ (i := 10) (N := some 25) (v := undef) (a' := ?_) #[true, true, true, true, true, true, true, true, true, true, true, false, false, false, false, false] rfl rfl (qy HT_.out (by kernel_rfl)) (fun _ _ _ h => h) (Or.inr ⟨by rfl, rfl⟩) ?_ ?_
    rotate_left
    ·simp only [Act.put, sT, s0, s1, qr, qt]
     rfl
    refine pure_ (i := 11) (N := some 26) (v := undef) (a' := ?_) #[true, true, true, true, true, true, true, true, true, true, true, true, false, false, false, false] rfl rfl (qy HT_.out (by kernel_rfl)) (fun _ _ _ h => h) (Or.inr ⟨by rfl, rfl⟩) ?_ ?_
    rotate_left
    ·simp only [Act.put, sT, s0, s1, qr, qt]
     rfl
    refine pure_ (i := 12) (N := some 27) (v := undef) (a' := ?_) #[true, true, true, true, true, true, true, true, true, true, true, true, true, false, false, false] rfl rfl (qy HT_.out (by kernel_rfl)) (fun _ _ _ h => h) (Or.inr ⟨by rfl, rfl⟩) ?_ ?_
    rotate_left
    ·simp only [Act.put, sT, s0, s1, qr, qt]
     rfl
    refine pure_ (i := 13) (N := some 28) (v := undef) (a' := ?_) #[true, true, true, true, true, true, true, true, true, true, true, true, true, true, false, false] rfl rfl (qy HT_.out (by kernel_rfl)) (fun _ _ _ h => h) (Or.inr ⟨by rfl, rfl⟩) ?_ ?_
    rotate_left
    ·simp only [Act.put, sT, s0, s1, qr, qt]
     rfl
    refine pure_ (i := 14) (N := some 29) (v := undef) (a' := ?_) #[true, true, true, true, true, true, true, true, true, true, true, true, true, true, true, false] rfl rfl (qy HT_.out (by kernel_rfl)) (fun _ _ _ h => h) (Or.inr ⟨by rfl, rfl⟩) ?_ ?_
    rotate_left
    ·simp only [Act.put, sT, s0, s1, qr, qt]
     rfl
    refine pure_ (i := 15) (N := some 30) (v := ?_) (a' := ?_) #[true, true, true, true, true, true, true, true, true, true, true, true, true, true, true, true] rfl rfl (qy HT_.out (by kernel_rfl)) (fun _ _ _ h => h) (Or.inl ⟨by rfl, ?_⟩) ?_ ?_
    rotate_left
    ·intro w'
     go_simp
     with_reducible rfl
    rotate_left
    ·simp only [Act.put, sT, s0, s1, qr, qt]
     rfl
    refine done_ (done_of HT_.out (by kernel_rfl)) ?_
    try go_wp2
    go_roundg k1
    case measure => have := HK1.out; omega
    case rel => exact ⟨(x5_1), (wrap64 (x10_1 + 1)), qD, qD, H', ⟨Z157⟩, ⟨Z114⟩, ⟨Z56⟩⟩
   subst c8
   have H1 : (if x5_1 < 0 then (partner_find.l0 k1 l0 x10_1 l0 (l0.length : Int) (wrap64 (x10_1 + 1)) a1_0 a1_1 a1_2 a1_3 a1_4 a1_5) else (if 0 ≤ x5_1 then (if x5_1 < (l0.length : Int) then ((partner_better.f k1 ((qa l0 x10_1).f0) ((qa l0 x10_1).f1) ((qa l0 x10_1).f2) ((qa l0 x10_1).f3) ((qa l0 x10_1).f4) ((qa l0 x10_1).f5) ((qa l0 x10_1).f6) ((qa l0 x10_1).f7) ((qa l0 x10_1).f8) ((qa l0 x5_1).f0) ((qa l0 x5_1).f1) ((qa l0 x5_1).f2) ((qa l0 x5_1).f3) ((qa l0 x5_1).f4) ((qa l0 x5_1).f5) ((qa l0 x5_1).f6) ((qa l0 x5_1).f7) ((qa l0 x5_1).f8)).bind fun t265 => (if t265 < 0 then (partner_find.l0 k1 l0 x10_1 l0 (l0.length : Int) (wrap64 (x10_1 + 1)) a1_0 a1_1 a1_2 a1_3 a1_4 a1_5) else (partner_find.l0 k1 l0 x5_1 l0 (l0.length : Int) (wrap64 (x10_1 + 1)) a1_0 a1_1 a1_2 a1_3 a1_4 a1_5))) else (none)) else (none))) = some r := by rw [if_pos rfl] at H; exact H
   clear H
   have H := H1
   clear H1
   by_cases c9 : x5_1 < 0
   case pos =>
    rw [if_pos c9] at H
    have c9b0 : decide (x5_1 < 0) = true := decide_eq_true c9
    clear c9
    have H' := qb.mk H
    clear H
    have p261 : 0 ≤ (x10_1 : Int) := of_decide_eq_true qB
    have q261 : x10_1 < (l0.length : Int) := of_decide_eq_true qB
    obtain ⟨ad261, e261, hx261_0, hx261_1, hx261_2, hx261_3, hx261_4, hx261_5, hx261_6, hx261_7, hx261_8⟩ := at_T53 HR0.out x10_1 p261 q261
    cases e261
    replace hx261_0 := bx HB hx261_0
    replace hx261_1 := bx HB hx261_1
    replace hx261_2 := bx HB hx261_2
    replace hx261_3 := bx HB hx261_3
    replace hx261_4 := bx HB hx261_4
    replace hx261_5 := bx HB hx261_5
    replace hx261_6 := bx HB hx261_6
    replace hx261_7 := bx HB hx261_7
    replace hx261_8 := bx HB hx261_8
    replace p261 := eq_true p261
    replace q261 := eq_true q261
    try go_wp2_with (first | ((with_reducible refine qi (N := 7) rfl ?_); refine qh ?hg (N := 7) ?hd (cs := #[.string (⟨#[]⟩ : ByteArray), .string (⟨#[]⟩ : ByteArray), .string (⟨#[]⟩ : ByteArray), .string (⟨#[]⟩ : ByteArray), .int .i64 0, .int .i64 0, .bool false, .int .i64 0, .bool false]) (t := 53) ?hr ?_; (case hd => rfl); (case hg => rfl); (case hr => exact qC); intro gb262 hg w10 hbox hb; have n0_ := bb BK260 hb; have n1_ := qb.mk (qd Z89 hb); have n2_ := qb.mk (hbox); have n3_ := qb.mk ((Z44 : w.heap.size ≤ gb262)); have n4_ := n3_; have n5_ := qb.mk ((by rw [hg]; exact Nat.ne_of_lt (bt_ BK260) : gb260 ≠ gb262)); have n6_ := qb.mk ((by rw [hg]; exact Nat.ne_of_gt (bt_ BK260) : gb262 ≠ gb260)); clear BK260 HB; have BK260 := n0_; have HB := n1_; have BK262 := n2_; have GW262 := n3_; have GE262 := n4_; have NB260_262 := n5_; have NB262_260 := n6_; clear n0_ n1_ n2_ n3_ n4_ n5_ n6_; clear hb hbox hg; have hnb11 := NB262_260.out; have hnc11 := NB260_262.out; obtain ⟨yc12_0, yc12_1, yc12_2, yc12_3, yc12_4, yc12_5, yc12_6, yc12_7, yc12_8, yf12_0, yf12_1, yf12_2, yf12_3, yf12_4, yf12_5, yf12_6, yf12_7, yf12_8⟩ := bf9 BK262.out))
    obtain ⟨w13, hw13⟩ : ∃ x, x = (((((((((w10.setCell ⟨gb262, 0, none⟩ (.string ((qa l0 x10_1).f0))).setCell ⟨gb262, 1, none⟩ (.string ((qa l0 x10_1).f1))).setCell ⟨gb262, 2, none⟩ (.string ((qa l0 x10_1).f2))).setCell ⟨gb262, 3, none⟩ (.string ((qa l0 x10_1).f3))).setCell ⟨gb262, 4, none⟩ (.int .i64 ((qa l0 x10_1).f4))).setCell ⟨gb262, 5, none⟩ (.int .i64 ((qa l0 x10_1).f5))).setCell ⟨gb262, 6, none⟩ (.bool ((qa l0 x10_1).f6))).setCell ⟨gb262, 7, none⟩ (.int .i64 ((qa l0 x10_1).f7))).setCell ⟨gb262, 8, none⟩ (.bool ((qa l0 x10_1).f8))) := ⟨_, rfl⟩
    have n0_ : qb (w13.heap[gb260]? = some (.cells #[.string a1_0, .string a1_1, .string a1_2, .string a1_3, .int .i64 a1_4, .bool a1_5] 25 (0, 0))) := ⟨by rw [hw13]; (with_reducible repeat (first | refine qn ?_ _ | refine qm ?_ | refine ql ?_ _)); refine far9 ?_ NB260_262.out; (with_reducible repeat (first | refine qn ?_ _ | refine qm ?_ | refine ql ?_ _)); exact BK260.out⟩
    have n1_ : qb (w13.heap[gb262]? = some (.cells #[.string ((qa l0 x10_1).f0), .string ((qa l0 x10_1).f1), .string ((qa l0 x10_1).f2), .string ((qa l0 x10_1).f3), .int .i64 ((qa l0 x10_1).f4), .int .i64 ((qa l0 x10_1).f5), .bool ((qa l0 x10_1).f6), .int .i64 ((qa l0 x10_1).f7), .bool ((qa l0 x10_1).f8)] 53 (0, 0))) := ⟨by rw [hw13]; (with_reducible repeat (first | refine qn ?_ _ | refine qm ?_ | refine ql ?_ _)); apply put9; (with_reducible repeat (first | refine qn ?_ _ | refine qm ?_ | refine ql ?_ _)); exact BK262.out⟩
    have n2_ : qb (Below w.heap.size w w13) := ⟨by rw [hw13]; repeat (first | (with_reducible first | exact HB.out | apply qp | apply qj | apply qo | refine qq ?_ GE260.out | refine qq ?_ GE262.out) | exact HB.out)⟩
    (try clear BK260)
    (try clear BK262)
    (try clear HB)
    rw [← hw13]; clear hw13
    have BK260 := n0_
    have BK262 := n1_
    have HB := n2_
    clear n0_ n1_ n2_
    have n0_ := qb.mk (qm BK260.out)
    have n1_ := qb.mk (qm BK262.out)
    have n2_ := qb.mk (qo HB.out)
    clear BK260 BK262 HB
    have BK260 := n0_
    have BK262 := n1_
    have HB := n2_
    clear n0_ n1_ n2_
    refine start_ (n := 16) (S := fun w' => w'.cell? ⟨gb262, 0, none⟩ = some (.string ((qa l0 x10_1).f0)) ∧ w'.cell? ⟨gb262, 1, none⟩ = some (.string ((qa l0 x10_1).f1)) ∧ w'.cell? ⟨gb262, 2, none⟩ = some (.string ((qa l0 x10_1).f2)) ∧ w'.cell? ⟨gb262, 3, none⟩ = some (.string ((qa l0 x10_1).f3)) ∧ w'.cell? ⟨gb262, 4, none⟩ = some (.int .i64 ((qa l0 x10_1).f4)) ∧ w'.cell? ⟨gb262, 5, none⟩ = some (.int .i64 ((qa l0 x10_1).f5)) ∧ w'.cell? ⟨gb262, 6, none⟩ = some (.bool ((qa l0 x10_1).f6)) ∧ w'.cell? ⟨gb262, 7, none⟩ = some (.int .i64 ((qa l0 x10_1).f7)) ∧ w'.cell? ⟨gb262, 8, none⟩ = some (.bool ((qa l0 x10_1).f8)) ∧ w'.cell? ⟨gb260, 0, none⟩ = some (.string a1_0) ∧ w'.cell? ⟨gb260, 1, none⟩ = some (.string a1_1) ∧ w'.cell? ⟨gb260, 2, none⟩ = some (.string a1_2) ∧ w'.cell? ⟨gb260, 3, none⟩ = some (.string a1_3) ∧ w'.cell? ⟨gb260, 4, none⟩ = some (.int .i64 a1_4) ∧ w'.cell? ⟨gb260, 5, none⟩ = some (.bool a1_5)) (ds := []) #[false, false, false, false, false, false, false, false, false, false, false, false, false, false, false, false] (by kernel_rfl) rfl rfl (bn9 BK262.out (bl6 BK260.out)) (fun hHeld => ?_); refine with_tabW partner_find.tab5 partner_find.bits5 (fun HT_ HW_ => ?_)
    generalize w13.drew = w14 at BK260 BK262 HB hHeld ⊢
    refine take_ (i := 0) (N := some 15) (v := ?_) (a' := ?_) #[true, false, false, false, false, false, false, false, false, false, false, false, false, false, false, false] rfl rfl (qE HT_.out HW_.out (by kernel_rfl)) (fun _ _ _ h => h) (Or.inl ⟨by rfl, ?_⟩) hHeld ?_ ?_
    rotate_left
    ·rintro w' ⟨s0, s1, s2, s3, s4, s5, s6, s7, s8, s9, s10, s11, s12, s13, s14⟩
     go_simp
     with_reducible rfl
    rotate_left
    ·simp only [Act.put, sT, s0, s1, qr, qt]
     rfl
    refine take_ (i := 1) (N := some 16) (v := ?_) (a' := ?_) #[true, true, false, false, false, false, false, false, false, false, false, false, false, false, false, false] rfl rfl (qE HT_.out HW_.out (by kernel_rfl)) (fun _ _ _ h => h) (Or.inl ⟨by rfl, ?_⟩) hHeld ?_ ?_
    rotate_left
    ·rintro w' ⟨s0, s1, s2, s3, s4, s5, s6, s7, s8, s9, s10, s11, s12, s13, s14⟩
     go_simp
     with_reducible rfl
    rotate_left
    ·simp only [Act.put, sT, s0, s1, qr, qt]
     rfl
    refine one_ (i := 2) (N := some 17) #[true, true, true, false, false, false, false, false, false, false, false, false, false, false, false, false] rfl rfl (one_of HT_.out (by kernel_rfl)) (by decide) (fun K hK => ?_)
    refine goes_ Tryz.func56 (by kernel_rfl) rfl #[.agg #[.string ((qa l0 x10_1).f0), .string ((qa l0 x10_1).f1), .string ((qa l0 x10_1).f2), .string ((qa l0 x10_1).f3), .int .i64 ((qa l0 x10_1).f4), .int .i64 ((qa l0 x10_1).f5), .bool ((qa l0 x10_1).f6), .int .i64 ((qa l0 x10_1).f7), .bool ((qa l0 x10_1).f8)], .agg #[.string a1_0, .string a1_1, .string a1_2, .string a1_3, .int .i64 a1_4, .bool a1_5]] (by rfl) rfl rfl Z61 ?_
    with_reducible refine (partner_applies.calls ((qa l0 x10_1).f0) ((qa l0 x10_1).f1) ((qa l0 x10_1).f2) ((qa l0 x10_1).f3) ((qa l0 x10_1).f4) ((qa l0 x10_1).f5) ((qa l0 x10_1).f6) ((qa l0 x10_1).f7) ((qa l0 x10_1).f8) a1_0 a1_1 a1_2 a1_3 a1_4 a1_5 true _ A7.out).mono ?_
    rintro e w15 ⟨rfl, hb⟩
    refine ⟨_, rfl, ?_⟩
    have n0_ := bb BK260 hb
    have n1_ := bb BK262 hb
    have n2_ := qb.mk (qd Z56 hb)
    clear BK260 BK262 HB
    have BK260 := n0_
    have BK262 := n1_
    have HB := n2_
    clear n0_ n1_ n2_
    (try clear hb)
    (try clear hb2)
    (try clear hk)
    (try clear hi)
    refine hK.out _ _ (bn9 BK262.out (bl6 BK260.out)) (fun hHeld => ?_)
    clear hK K
    refine norm_ (a' := ?_) ?_ ?_
    rotate_left
    ·show Act.put _ (some 17) _ = _
     simp only [Act.put, sT, s0, s1, qr, qt]
     rfl
    refine pure_ (i := 3) (N := some 18) (v := ?_) (a' := ?_) #[true, true, true, true, false, false, false, false, false, false, false, false, false, false, false, false] rfl rfl (qy HT_.out (by kernel_rfl)) (fun _ _ _ h => h) (Or.inl ⟨by rfl, ?_⟩) ?_ ?_
    rotate_left
    ·intro w'
     go_simp
     with_reducible rfl
    rotate_left
    ·simp only [Act.put, sT, s0, s1, qr, qt]
     rfl
    refine pure_ (i := 4) (N := some 19) (v := ?_) (a' := ?_) #[true, true, true, true, true, false, false, false, false, false, false, false, false, false, false, false] rfl rfl (qy HT_.out (by kernel_rfl)) (fun _ _ _ h => h) (Or.inl ⟨by rfl, ?_⟩) ?_ ?_
    rotate_left
    ·intro w'
     go_simp
     with_reducible rfl
    rotate_left
    ·simp only [Act.put, sT, s0, s1, qr, qt]
     rfl
    refine pure_ (i := 5) (N := some 20) (v := ?_) (a' := ?_) #[true, true, true, true, true, true, false, false, false, false, false, false, false, false, false, false] rfl rfl (qy HT_.out (by kernel_rfl)) (fun _ _ _ h => h) (Or.inl ⟨by rfl, ?_⟩) ?_ ?_
    rotate_left
    ·intro w'
     go_simp
     with_reducible rfl
    rotate_left
    ·simp only [Act.put, sT, s0, s1, qr, qt]
     rfl
    refine pure_ (i := 6) (N := some 21) (v := ?_) (a' := ?_) #[true, true, true, true, true, true, true, false, false, false, false, false, false, false, false, false] rfl rfl (qy HT_.out (by kernel_rfl)) (fun _ _ _ h => h) (Or.inl ⟨by rfl, ?_⟩) ?_ ?_
    rotate_left
    ·intro w'
     go_simp
     with_reducible rfl
    rotate_left
    ·simp only [Act.put, sT, s0, s1, qr, qt]
     rfl
    refine pure_ (i := 7) (N := some 22) (v := undef) (a' := ?_) #[true, true, true, true, true, true, true, true, false, false, false, false, false, false, false, false] rfl rfl (qy HT_.out (by kernel_rfl)) (fun _ _ _ h => h) (Or.inr ⟨by rfl, rfl⟩) ?_ ?_
    rotate_left
    ·simp only [Act.put, sT, s0, s1, qr, qt]
     rfl
    refine pure_ (i := 8) (N := some 23) (v := undef) (a' := ?_) #[true, true, true, true, true, true, true, true, true, false, false, false, false, false, false, false] rfl rfl (qy HT_.out (by kernel_rfl)) (fun _ _ _ h => h) (Or.inr ⟨by rfl, rfl⟩) ?_ ?_
    rotate_left
    ·simp only [Act.put, sT, s0, s1, qr, qt]
     rfl
    refine pure_ (i := 9) (N := some 24) (v := undef) (a' := ?_) #[true, true, true, true, true, true, true, true, true, true, false, false, false, false, false, false] rfl rfl (qy HT_.out (by kernel_rfl)) (fun _ _ _ h => h) (Or.inr ⟨by rfl, rfl⟩) ?_ ?_
    rotate_left
    ·simp only [Act.put, sT, s0, s1, qr, qt]
     rfl
    refine pure_ (i := 10) (N := some 25) (v := undef) (a' := ?_) #[true, true, true, true, true, true, true, true, true, true, true, false, false, false, false, false] rfl rfl (qy HT_.out (by kernel_rfl)) (fun _ _ _ h => h) (Or.inr ⟨by rfl, rfl⟩) ?_ ?_
    rotate_left
    ·simp only [Act.put, sT, s0, s1, qr, qt]
     rfl
    refine pure_ (i := 11) (N := some 26) (v := undef) (a' := ?_) #[true, true, true, true, true, true, true, true, true, true, true, true, false, false, false, false] rfl rfl (qy HT_.out (by kernel_rfl)) (fun _ _ _ h => h) (Or.inr ⟨by rfl, rfl⟩) ?_ ?_
    rotate_left
    ·simp only [Act.put, sT, s0, s1, qr, qt]
     rfl
    refine pure_ (i := 12) (N := some 27) (v := undef) (a' := ?_) #[true, true, true, true, true, true, true, true, true, true, true, true, true, false, false, false] rfl rfl (qy HT_.out (by kernel_rfl)) (fun _ _ _ h => h) (Or.inr ⟨by rfl, rfl⟩) ?_ ?_
    rotate_left
    ·simp only [Act.put, sT, s0, s1, qr, qt]
     rfl
    refine pure_ (i := 13) (N := some 28) (v := undef) (a' := ?_) #[true, true, true, true, true, true, true, true, true, true, true, true, true, true, false, false] rfl rfl (qy HT_.out (by kernel_rfl)) (fun _ _ _ h => h) (Or.inr ⟨by rfl, rfl⟩) ?_ ?_
    rotate_left
    ·simp only [Act.put, sT, s0, s1, qr, qt]
     rfl
    refine pure_ (i := 14) (N := some 29) (v := ?_) (a' := ?_) #[true, true, true, true, true, true, true, true, true, true, true, true, true, true, true, false] rfl rfl (qy HT_.out (by kernel_rfl)) (fun _ _ _ h => h) (Or.inl ⟨by rfl, ?_⟩) ?_ ?_
    rotate_left
    ·intro w'
     go_simp
     with_reducible rfl
    rotate_left
    ·simp only [Act.put, sT, s0, s1, qr, qt]
     rfl
    refine pure_ (i := 15) (N := some 30) (v := ?_) (a' := ?_) #[true, true, true, true, true, true, true, true, true, true, true, true, true, true, true, true] rfl rfl (qy HT_.out (by kernel_rfl)) (fun _ _ _ h => h) (Or.inl ⟨by rfl, ?_⟩) ?_ ?_
    rotate_left
    ·intro w'
     go_simp
     with_reducible rfl
    rotate_left
    ·simp only [Act.put, sT, s0, s1, qr, qt]
     rfl
    refine done_ (done_of HT_.out (by kernel_rfl)) ?_
    try go_wp2
    go_roundg k1
    case measure => have := HK1.out; omega
    case rel => exact ⟨(x10_1), (wrap64 (x10_1 + 1)), qD, qD, H', ⟨Z157⟩, ⟨Z114⟩, ⟨Z56⟩⟩
   rw [if_neg c9] at H
   have c9b0 : decide (x5_1 < 0) = false := decide_eq_false c9
   clear c9
   by_cases c16 : 0 ≤ x5_1
   case neg =>
    rw [if_neg c16] at H
    exact absurd H (by simp)
   rw [if_pos c16] at H
   have c16b0 : decide (0 ≤ x5_1) = true := decide_eq_true c16
   clear c16
   by_cases c17 : x5_1 < (l0.length : Int)
   case neg =>
    rw [if_neg c17] at H
    exact absurd H (by simp)
   rw [if_pos c17] at H
   have c17b0 : decide (x5_1 < (l0.length : Int)) = true := decide_eq_true c17
   clear c17
   replace H := Option.bind_eq_some_iff.mp H
   obtain ⟨t265, A180, H⟩ := H
   replace H : (if t265 < 0 then (partner_find.l0 k1 l0 x10_1 l0 (l0.length : Int) (wrap64 (x10_1 + 1)) a1_0 a1_1 a1_2 a1_3 a1_4 a1_5) else (partner_find.l0 k1 l0 x5_1 l0 (l0.length : Int) (wrap64 (x10_1 + 1)) a1_0 a1_1 a1_2 a1_3 a1_4 a1_5)) = some r := H
   have A18 := qb.mk A180
   clear A180
   by_cases c19 : t265 < 0
   case pos =>
    rw [if_pos c19] at H
    have c19b0 : decide (t265 < 0) = true := decide_eq_true c19
    clear c19
    have H' := qb.mk H
    clear H
    have p261 : 0 ≤ (x10_1 : Int) := of_decide_eq_true qB
    have q261 : x10_1 < (l0.length : Int) := of_decide_eq_true qB
    obtain ⟨ad261, e261, hx261_0, hx261_1, hx261_2, hx261_3, hx261_4, hx261_5, hx261_6, hx261_7, hx261_8⟩ := at_T53 HR0.out x10_1 p261 q261
    cases e261
    replace hx261_0 := bx HB hx261_0
    replace hx261_1 := bx HB hx261_1
    replace hx261_2 := bx HB hx261_2
    replace hx261_3 := bx HB hx261_3
    replace hx261_4 := bx HB hx261_4
    replace hx261_5 := bx HB hx261_5
    replace hx261_6 := bx HB hx261_6
    replace hx261_7 := bx HB hx261_7
    replace hx261_8 := bx HB hx261_8
    replace p261 := eq_true p261
    replace q261 := eq_true q261
    try go_wp2_with (first | ((with_reducible refine qi (N := 7) rfl ?_); refine qh ?hg (N := 7) ?hd (cs := #[.string (⟨#[]⟩ : ByteArray), .string (⟨#[]⟩ : ByteArray), .string (⟨#[]⟩ : ByteArray), .string (⟨#[]⟩ : ByteArray), .int .i64 0, .int .i64 0, .bool false, .int .i64 0, .bool false]) (t := 53) ?hr ?_; (case hd => rfl); (case hg => rfl); (case hr => exact qC); intro gb262 hg w20 hbox hb; have n0_ := bb BK260 hb; have n1_ := qb.mk (qd Z89 hb); have n2_ := qb.mk (hbox); have n3_ := qb.mk ((Z44 : w.heap.size ≤ gb262)); have n4_ := n3_; have n5_ := qb.mk ((by rw [hg]; exact Nat.ne_of_lt (bt_ BK260) : gb260 ≠ gb262)); have n6_ := qb.mk ((by rw [hg]; exact Nat.ne_of_gt (bt_ BK260) : gb262 ≠ gb260)); clear BK260 HB; have BK260 := n0_; have HB := n1_; have BK262 := n2_; have GW262 := n3_; have GE262 := n4_; have NB260_262 := n5_; have NB262_260 := n6_; clear n0_ n1_ n2_ n3_ n4_ n5_ n6_; clear hb hbox hg; have hnb21 := NB262_260.out; have hnc21 := NB260_262.out; obtain ⟨yc22_0, yc22_1, yc22_2, yc22_3, yc22_4, yc22_5, yc22_6, yc22_7, yc22_8, yf22_0, yf22_1, yf22_2, yf22_3, yf22_4, yf22_5, yf22_6, yf22_7, yf22_8⟩ := bf9 BK262.out))
    obtain ⟨w23, hw23⟩ : ∃ x, x = (((((((((w20.setCell ⟨gb262, 0, none⟩ (.string ((qa l0 x10_1).f0))).setCell ⟨gb262, 1, none⟩ (.string ((qa l0 x10_1).f1))).setCell ⟨gb262, 2, none⟩ (.string ((qa l0 x10_1).f2))).setCell ⟨gb262, 3, none⟩ (.string ((qa l0 x10_1).f3))).setCell ⟨gb262, 4, none⟩ (.int .i64 ((qa l0 x10_1).f4))).setCell ⟨gb262, 5, none⟩ (.int .i64 ((qa l0 x10_1).f5))).setCell ⟨gb262, 6, none⟩ (.bool ((qa l0 x10_1).f6))).setCell ⟨gb262, 7, none⟩ (.int .i64 ((qa l0 x10_1).f7))).setCell ⟨gb262, 8, none⟩ (.bool ((qa l0 x10_1).f8))) := ⟨_, rfl⟩
    have n0_ : qb (w23.heap[gb260]? = some (.cells #[.string a1_0, .string a1_1, .string a1_2, .string a1_3, .int .i64 a1_4, .bool a1_5] 25 (0, 0))) := ⟨by rw [hw23]; (with_reducible repeat (first | refine qn ?_ _ | refine qm ?_ | refine ql ?_ _)); refine far9 ?_ NB260_262.out; (with_reducible repeat (first | refine qn ?_ _ | refine qm ?_ | refine ql ?_ _)); exact BK260.out⟩
    have n1_ : qb (w23.heap[gb262]? = some (.cells #[.string ((qa l0 x10_1).f0), .string ((qa l0 x10_1).f1), .string ((qa l0 x10_1).f2), .string ((qa l0 x10_1).f3), .int .i64 ((qa l0 x10_1).f4), .int .i64 ((qa l0 x10_1).f5), .bool ((qa l0 x10_1).f6), .int .i64 ((qa l0 x10_1).f7), .bool ((qa l0 x10_1).f8)] 53 (0, 0))) := ⟨by rw [hw23]; (with_reducible repeat (first | refine qn ?_ _ | refine qm ?_ | refine ql ?_ _)); apply put9; (with_reducible repeat (first | refine qn ?_ _ | refine qm ?_ | refine ql ?_ _)); exact BK262.out⟩
    have n2_ : qb (Below w.heap.size w w23) := ⟨by rw [hw23]; repeat (first | (with_reducible first | exact HB.out | apply qp | apply qj | apply qo | refine qq ?_ GE260.out | refine qq ?_ GE262.out) | exact HB.out)⟩
    (try clear BK260)
    (try clear BK262)
    (try clear HB)
    rw [← hw23]; clear hw23
    have BK260 := n0_
    have BK262 := n1_
    have HB := n2_
    clear n0_ n1_ n2_
    have n0_ := qb.mk (qm BK260.out)
    have n1_ := qb.mk (qm BK262.out)
    have n2_ := qb.mk (qo HB.out)
    clear BK260 BK262 HB
    have BK260 := n0_
    have BK262 := n1_
    have HB := n2_
    clear n0_ n1_ n2_
    have p264 : 0 ≤ (x5_1 : Int) := of_decide_eq_true qB
    have q264 : x5_1 < (l0.length : Int) := of_decide_eq_true qB
    obtain ⟨ad264, e264, hx264_0, hx264_1, hx264_2, hx264_3, hx264_4, hx264_5, hx264_6, hx264_7, hx264_8⟩ := at_T53 HR0.out x5_1 p264 q264
    have hw264_8 := hx264_8
    have hw264_7 := hx264_7
    have hw264_6 := hx264_6
    have hw264_5 := hx264_5
    have hw264_4 := hx264_4
    have hw264_3 := hx264_3
    have hw264_2 := hx264_2
    have hw264_1 := hx264_1
    have hw264_0 := hx264_0
    obtain rfl : ad261 = ad264 := (by injection e264)
    replace hx264_0 := bx HB hx264_0
    replace hx264_1 := bx HB hx264_1
    replace hx264_2 := bx HB hx264_2
    replace hx264_3 := bx HB hx264_3
    replace hx264_4 := bx HB hx264_4
    replace hx264_5 := bx HB hx264_5
    replace hx264_6 := bx HB hx264_6
    replace hx264_7 := bx HB hx264_7
    replace hx264_8 := bx HB hx264_8
    replace p264 := eq_true p264
    replace q264 := eq_true q264
    refine start_ (n := 16) (S := fun w' => w'.cell? ⟨gb262, 0, none⟩ = some (.string ((qa l0 x10_1).f0)) ∧ w'.cell? ⟨gb262, 1, none⟩ = some (.string ((qa l0 x10_1).f1)) ∧ w'.cell? ⟨gb262, 2, none⟩ = some (.string ((qa l0 x10_1).f2)) ∧ w'.cell? ⟨gb262, 3, none⟩ = some (.string ((qa l0 x10_1).f3)) ∧ w'.cell? ⟨gb262, 4, none⟩ = some (.int .i64 ((qa l0 x10_1).f4)) ∧ w'.cell? ⟨gb262, 5, none⟩ = some (.int .i64 ((qa l0 x10_1).f5)) ∧ w'.cell? ⟨gb262, 6, none⟩ = some (.bool ((qa l0 x10_1).f6)) ∧ w'.cell? ⟨gb262, 7, none⟩ = some (.int .i64 ((qa l0 x10_1).f7)) ∧ w'.cell? ⟨gb262, 8, none⟩ = some (.bool ((qa l0 x10_1).f8)) ∧ w'.cell? ⟨gb260, 0, none⟩ = some (.string a1_0) ∧ w'.cell? ⟨gb260, 1, none⟩ = some (.string a1_1) ∧ w'.cell? ⟨gb260, 2, none⟩ = some (.string a1_2) ∧ w'.cell? ⟨gb260, 3, none⟩ = some (.string a1_3) ∧ w'.cell? ⟨gb260, 4, none⟩ = some (.int .i64 a1_4) ∧ w'.cell? ⟨gb260, 5, none⟩ = some (.bool a1_5) ∧ w'.cell? (ad261.add ((x5_1).toNat * 9)) = some (.string ((qa l0 x5_1).f0)) ∧ w'.cell? ⟨(ad261.add ((x5_1).toNat * 9)).block, (ad261.add ((x5_1).toNat * 9)).off + 1, none⟩ = some (.string ((qa l0 x5_1).f1)) ∧ w'.cell? ⟨(ad261.add ((x5_1).toNat * 9)).block, (ad261.add ((x5_1).toNat * 9)).off + 2, none⟩ = some (.string ((qa l0 x5_1).f2)) ∧ w'.cell? ⟨(ad261.add ((x5_1).toNat * 9)).block, (ad261.add ((x5_1).toNat * 9)).off + 3, none⟩ = some (.string ((qa l0 x5_1).f3)) ∧ w'.cell? ⟨(ad261.add ((x5_1).toNat * 9)).block, (ad261.add ((x5_1).toNat * 9)).off + 4, none⟩ = some (.int .i64 ((qa l0 x5_1).f4)) ∧ w'.cell? ⟨(ad261.add ((x5_1).toNat * 9)).block, (ad261.add ((x5_1).toNat * 9)).off + 5, none⟩ = some (.int .i64 ((qa l0 x5_1).f5)) ∧ w'.cell? ⟨(ad261.add ((x5_1).toNat * 9)).block, (ad261.add ((x5_1).toNat * 9)).off + 6, none⟩ = some (.bool ((qa l0 x5_1).f6)) ∧ w'.cell? ⟨(ad261.add ((x5_1).toNat * 9)).block, (ad261.add ((x5_1).toNat * 9)).off + 7, none⟩ = some (.int .i64 ((qa l0 x5_1).f7)) ∧ w'.cell? ⟨(ad261.add ((x5_1).toNat * 9)).block, (ad261.add ((x5_1).toNat * 9)).off + 8, none⟩ = some (.bool ((qa l0 x5_1).f8))) (ds := []) #[false, false, false, false, false, false, false, false, false, false, false, false, false, false, false, false] (by kernel_rfl) rfl rfl ⟨(qc BK262.out 0).trans rfl, (qc BK262.out 1).trans rfl, (qc BK262.out 2).trans rfl, (qc BK262.out 3).trans rfl, (qc BK262.out 4).trans rfl, (qc BK262.out 5).trans rfl, (qc BK262.out 6).trans rfl, (qc BK262.out 7).trans rfl, (qc BK262.out 8).trans rfl, (qc BK260.out 0).trans rfl, (qc BK260.out 1).trans rfl, (qc BK260.out 2).trans rfl, (qc BK260.out 3).trans rfl, (qc BK260.out 4).trans rfl, (qc BK260.out 5).trans rfl, (bx HB hw264_0), (bx HB hw264_1), (bx HB hw264_2), (bx HB hw264_3), (bx HB hw264_4), (bx HB hw264_5), (bx HB hw264_6), (bx HB hw264_7), (bx HB hw264_8)⟩ (fun hHeld => ?_); refine with_tabW partner_find.tab5 partner_find.bits5 (fun HT_ HW_ => ?_)
    generalize w23.drew = w24 at BK260 BK262 HB hx264_0 hx264_1 hx264_2 hx264_3 hx264_4 hx264_5 hx264_6 hx264_7 hx264_8 hHeld ⊢
    refine take_ (i := 0) (N := some 15) (v := ?_) (a' := ?_) #[true, false, false, false, false, false, false, false, false, false, false, false, false, false, false, false] rfl rfl (qE HT_.out HW_.out (by kernel_rfl)) (fun _ _ _ h => h) (Or.inl ⟨by rfl, ?_⟩) hHeld ?_ ?_
    rotate_left
    ·rintro w' ⟨s0, s1, s2, s3, s4, s5, s6, s7, s8, s9, s10, s11, s12, s13, s14, s15, s16, s17, s18, s19, s20, s21, s22, s23⟩
     go_simp
     with_reducible rfl
    rotate_left
    ·simp only [Act.put, sT, s0, s1, qr, qt]
     rfl
    refine take_ (i := 1) (N := some 16) (v := ?_) (a' := ?_) #[true, true, false, false, false, false, false, false, false, false, false, false, false, false, false, false] rfl rfl (qE HT_.out HW_.out (by kernel_rfl)) (fun _ _ _ h => h) (Or.inl ⟨by rfl, ?_⟩) hHeld ?_ ?_
    rotate_left
    ·rintro w' ⟨s0, s1, s2, s3, s4, s5, s6, s7, s8, s9, s10, s11, s12, s13, s14, s15, s16, s17, s18, s19, s20, s21, s22, s23⟩
     go_simp
     with_reducible rfl
    rotate_left
    ·simp only [Act.put, sT, s0, s1, qr, qt]
     rfl
    refine one_ (i := 2) (N := some 17) #[true, true, true, false, false, false, false, false, false, false, false, false, false, false, false, false] rfl rfl (one_of HT_.out (by kernel_rfl)) (by decide) (fun K hK => ?_)
    refine goes_ Tryz.func56 (by kernel_rfl) rfl #[.agg #[.string ((qa l0 x10_1).f0), .string ((qa l0 x10_1).f1), .string ((qa l0 x10_1).f2), .string ((qa l0 x10_1).f3), .int .i64 ((qa l0 x10_1).f4), .int .i64 ((qa l0 x10_1).f5), .bool ((qa l0 x10_1).f6), .int .i64 ((qa l0 x10_1).f7), .bool ((qa l0 x10_1).f8)], .agg #[.string a1_0, .string a1_1, .string a1_2, .string a1_3, .int .i64 a1_4, .bool a1_5]] (by rfl) rfl rfl Z61 ?_
    with_reducible refine (partner_applies.calls ((qa l0 x10_1).f0) ((qa l0 x10_1).f1) ((qa l0 x10_1).f2) ((qa l0 x10_1).f3) ((qa l0 x10_1).f4) ((qa l0 x10_1).f5) ((qa l0 x10_1).f6) ((qa l0 x10_1).f7) ((qa l0 x10_1).f8) a1_0 a1_1 a1_2 a1_3 a1_4 a1_5 true _ A7.out).mono ?_
    rintro e w25 ⟨rfl, hb⟩
    refine ⟨_, rfl, ?_⟩
    have n0_ := bb BK260 hb
    have n1_ := bb BK262 hb
    have n2_ := qb.mk (qd Z56 hb)
    clear BK260 BK262 HB
    have BK260 := n0_
    have BK262 := n1_
    have HB := n2_
    clear n0_ n1_ n2_
    (try clear hb)
    (try clear hb2)
    (try clear hk)
    (try clear hi)
    refine hK.out _ _ ⟨(qc BK262.out 0).trans rfl, (qc BK262.out 1).trans rfl, (qc BK262.out 2).trans rfl, (qc BK262.out 3).trans rfl, (qc BK262.out 4).trans rfl, (qc BK262.out 5).trans rfl, (qc BK262.out 6).trans rfl, (qc BK262.out 7).trans rfl, (qc BK262.out 8).trans rfl, (qc BK260.out 0).trans rfl, (qc BK260.out 1).trans rfl, (qc BK260.out 2).trans rfl, (qc BK260.out 3).trans rfl, (qc BK260.out 4).trans rfl, (qc BK260.out 5).trans rfl, (bx HB hw264_0), (bx HB hw264_1), (bx HB hw264_2), (bx HB hw264_3), (bx HB hw264_4), (bx HB hw264_5), (bx HB hw264_6), (bx HB hw264_7), (bx HB hw264_8)⟩ (fun hHeld => ?_)
    clear hK K
    refine norm_ (a' := ?_) ?_ ?_
    rotate_left
    ·show Act.put _ (some 17) _ = _
     simp only [Act.put, sT, s0, s1, qr, qt]
     rfl
    refine pure_ (i := 3) (N := some 18) (v := ?_) (a' := ?_) #[true, true, true, true, false, false, false, false, false, false, false, false, false, false, false, false] rfl rfl (qy HT_.out (by kernel_rfl)) (fun _ _ _ h => h) (Or.inl ⟨by rfl, ?_⟩) ?_ ?_
    rotate_left
    ·intro w'
     go_simp
     with_reducible rfl
    rotate_left
    ·simp only [Act.put, sT, s0, s1, qr, qt]
     rfl
    refine pure_ (i := 4) (N := some 19) (v := ?_) (a' := ?_) #[true, true, true, true, true, false, false, false, false, false, false, false, false, false, false, false] rfl rfl (qy HT_.out (by kernel_rfl)) (fun _ _ _ h => h) (Or.inl ⟨by rfl, ?_⟩) ?_ ?_
    rotate_left
    ·intro w'
     go_simp
     with_reducible rfl
    rotate_left
    ·simp only [Act.put, sT, s0, s1, qr, qt]
     rfl
    refine pure_ (i := 5) (N := some 20) (v := ?_) (a' := ?_) #[true, true, true, true, true, true, false, false, false, false, false, false, false, false, false, false] rfl rfl (qy HT_.out (by kernel_rfl)) (fun _ _ _ h => h) (Or.inl ⟨by rfl, ?_⟩) ?_ ?_
    rotate_left
    ·intro w'
     go_simp
     with_reducible rfl
    rotate_left
    ·simp only [Act.put, sT, s0, s1, qr, qt]
     rfl
    refine pure_ (i := 6) (N := some 21) (v := ?_) (a' := ?_) #[true, true, true, true, true, true, true, false, false, false, false, false, false, false, false, false] rfl rfl (qy HT_.out (by kernel_rfl)) (fun _ _ _ h => h) (Or.inl ⟨by rfl, ?_⟩) ?_ ?_
    rotate_left
    ·intro w'
     go_simp
     with_reducible rfl
    rotate_left
    ·simp only [Act.put, sT, s0, s1, qr, qt]
     rfl
    refine pure_ (i := 8) (N := some 23) (v := ?_) (a' := ?_) #[true, true, true, true, true, true, true, false, true, false, false, false, false, false, false, false] rfl rfl (qy HT_.out (by kernel_rfl)) (fun _ _ _ h => h) (Or.inl ⟨by rfl, ?_⟩) ?_ ?_
    rotate_left
    ·intro w'
     go_simp
     with_reducible rfl
    rotate_left
    ·simp only [Act.put, sT, s0, s1, qr, qt]
     rfl
    refine pure_ (i := 9) (N := some 24) (v := ?_) (a' := ?_) #[true, true, true, true, true, true, true, false, true, true, false, false, false, false, false, false] rfl rfl (qy HT_.out (by kernel_rfl)) (fun _ _ _ h => h) (Or.inl ⟨by rfl, ?_⟩) ?_ ?_
    rotate_left
    ·intro w'
     go_simp
     with_reducible rfl
    rotate_left
    ·simp only [Act.put, sT, s0, s1, qr, qt]
     rfl
    refine pure_ (i := 10) (N := some 25) (v := ?_) (a' := ?_) #[true, true, true, true, true, true, true, false, true, true, true, false, false, false, false, false] rfl rfl (qy HT_.out (by kernel_rfl)) (fun _ _ _ h => h) (Or.inl ⟨by rfl, ?_⟩) ?_ ?_
    rotate_left
    ·intro w'
     go_simp
     with_reducible rfl
    rotate_left
    ·simp only [Act.put, sT, s0, s1, qr, qt]
     rfl
    refine take_ (i := 7) (N := some 22) (v := ?_) (a' := ?_) #[true, true, true, true, true, true, true, true, true, true, true, false, false, false, false, false] rfl rfl (qE HT_.out HW_.out (by kernel_rfl)) (fun _ _ _ h => h) (Or.inl ⟨by rfl, ?_⟩) hHeld ?_ ?_
    rotate_left
    ·rintro w' ⟨s0, s1, s2, s3, s4, s5, s6, s7, s8, s9, s10, s11, s12, s13, s14, s15, s16, s17, s18, s19, s20, s21, s22, s23⟩
     go_simp
     with_reducible rfl
    rotate_left
    ·simp only [Act.put, sT, s0, s1, qr, qt]
     rfl
    refine take_ (i := 11) (N := some 26) (v := ?_) (a' := ?_) #[true, true, true, true, true, true, true, true, true, true, true, true, false, false, false, false] rfl rfl (qE HT_.out HW_.out (by kernel_rfl)) (fun _ _ _ h => h) (Or.inl ⟨by rfl, ?_⟩) hHeld ?_ ?_
    rotate_left
    ·rintro w' ⟨s0, s1, s2, s3, s4, s5, s6, s7, s8, s9, s10, s11, s12, s13, s14, s15, s16, s17, s18, s19, s20, s21, s22, s23⟩
     go_simp
     with_reducible rfl
    rotate_left
    ·simp only [Act.put, sT, s0, s1, qr, qt]
     rfl
    refine one_ (i := 12) (N := some 27) #[true, true, true, true, true, true, true, true, true, true, true, true, true, false, false, false] rfl rfl (one_of HT_.out (by kernel_rfl)) (by decide) (fun K hK => ?_)
    refine goes_ Tryz.func57 (by kernel_rfl) rfl #[.agg #[.string ((qa l0 x10_1).f0), .string ((qa l0 x10_1).f1), .string ((qa l0 x10_1).f2), .string ((qa l0 x10_1).f3), .int .i64 ((qa l0 x10_1).f4), .int .i64 ((qa l0 x10_1).f5), .bool ((qa l0 x10_1).f6), .int .i64 ((qa l0 x10_1).f7), .bool ((qa l0 x10_1).f8)], .agg #[.string ((qa l0 x5_1).f0), .string ((qa l0 x5_1).f1), .string ((qa l0 x5_1).f2), .string ((qa l0 x5_1).f3), .int .i64 ((qa l0 x5_1).f4), .int .i64 ((qa l0 x5_1).f5), .bool ((qa l0 x5_1).f6), .int .i64 ((qa l0 x5_1).f7), .bool ((qa l0 x5_1).f8)]] (by rfl) rfl rfl Z61 ?_
    with_reducible refine (partner_better.calls k1 ((qa l0 x10_1).f0) ((qa l0 x10_1).f1) ((qa l0 x10_1).f2) ((qa l0 x10_1).f3) ((qa l0 x10_1).f4) ((qa l0 x10_1).f5) ((qa l0 x10_1).f6) ((qa l0 x10_1).f7) ((qa l0 x10_1).f8) ((qa l0 x5_1).f0) ((qa l0 x5_1).f1) ((qa l0 x5_1).f2) ((qa l0 x5_1).f3) ((qa l0 x5_1).f4) ((qa l0 x5_1).f5) ((qa l0 x5_1).f6) ((qa l0 x5_1).f7) ((qa l0 x5_1).f8) t265 _ A18.out).mono ?_
    rintro e w26 ⟨rfl, hb⟩
    refine ⟨_, rfl, ?_⟩
    have n0_ := bb BK260 hb
    have n1_ := bb BK262 hb
    have n2_ := qb.mk (qd Z56 hb)
    clear BK260 BK262 HB
    have BK260 := n0_
    have BK262 := n1_
    have HB := n2_
    clear n0_ n1_ n2_
    (try clear hb)
    (try clear hb2)
    (try clear hk)
    (try clear hi)
    refine hK.out _ _ ⟨(qc BK262.out 0).trans rfl, (qc BK262.out 1).trans rfl, (qc BK262.out 2).trans rfl, (qc BK262.out 3).trans rfl, (qc BK262.out 4).trans rfl, (qc BK262.out 5).trans rfl, (qc BK262.out 6).trans rfl, (qc BK262.out 7).trans rfl, (qc BK262.out 8).trans rfl, (qc BK260.out 0).trans rfl, (qc BK260.out 1).trans rfl, (qc BK260.out 2).trans rfl, (qc BK260.out 3).trans rfl, (qc BK260.out 4).trans rfl, (qc BK260.out 5).trans rfl, (bx HB hw264_0), (bx HB hw264_1), (bx HB hw264_2), (bx HB hw264_3), (bx HB hw264_4), (bx HB hw264_5), (bx HB hw264_6), (bx HB hw264_7), (bx HB hw264_8)⟩ (fun hHeld => ?_)
    clear hK K
    refine norm_ (a' := ?_) ?_ ?_
    rotate_left
    ·show Act.put _ (some 27) _ = _
     simp only [Act.put, sT, s0, s1, qr, qt]
     rfl
    refine pure_ (i := 13) (N := some 28) (v := ?_) (a' := ?_) #[true, true, true, true, true, true, true, true, true, true, true, true, true, true, false, false] rfl rfl (qy HT_.out (by kernel_rfl)) (fun _ _ _ h => h) (Or.inl ⟨by rfl, ?_⟩) ?_ ?_
    rotate_left
    ·intro w'
     go_simp
     with_reducible rfl
    rotate_left
    ·simp only [Act.put, sT, s0, s1, qr, qt]
     rfl
    refine pure_ (i := 14) (N := some 29) (v := ?_) (a' := ?_) #[true, true, true, true, true, true, true, true, true, true, true, true, true, true, true, false] rfl rfl (qy HT_.out (by kernel_rfl)) (fun _ _ _ h => h) (Or.inl ⟨by rfl, ?_⟩) ?_ ?_
    rotate_left
    ·intro w'
     go_simp
     with_reducible rfl
    rotate_left
    ·simp only [Act.put, sT, s0, s1, qr, qt]
     rfl
    refine pure_ (i := 15) (N := some 30) (v := ?_) (a' := ?_) #[true, true, true, true, true, true, true, true, true, true, true, true, true, true, true, true] rfl rfl (qy HT_.out (by kernel_rfl)) (fun _ _ _ h => h) (Or.inl ⟨by rfl, ?_⟩) ?_ ?_
    rotate_left
    ·intro w'
     go_simp
     with_reducible rfl
    rotate_left
    ·simp only [Act.put, sT, s0, s1, qr, qt]
     rfl
    refine done_ (done_of HT_.out (by kernel_rfl)) ?_
    try go_wp2
    go_roundg k1
    case measure => have := HK1.out; omega
    case rel => exact ⟨(x10_1), (wrap64 (x10_1 + 1)), qD, qD, H', ⟨Z157⟩, ⟨Z114⟩, ⟨Z56⟩⟩
   rw [if_neg c19] at H
   have c19b0 : decide (t265 < 0) = false := decide_eq_false c19
   clear c19
   have H' := qb.mk H
   clear H
   have p261 : 0 ≤ (x10_1 : Int) := of_decide_eq_true qB
   have q261 : x10_1 < (l0.length : Int) := of_decide_eq_true qB
   obtain ⟨ad261, e261, hx261_0, hx261_1, hx261_2, hx261_3, hx261_4, hx261_5, hx261_6, hx261_7, hx261_8⟩ := at_T53 HR0.out x10_1 p261 q261
   cases e261
   replace hx261_0 := bx HB hx261_0
   replace hx261_1 := bx HB hx261_1
   replace hx261_2 := bx HB hx261_2
   replace hx261_3 := bx HB hx261_3
   replace hx261_4 := bx HB hx261_4
   replace hx261_5 := bx HB hx261_5
   replace hx261_6 := bx HB hx261_6
   replace hx261_7 := bx HB hx261_7
   replace hx261_8 := bx HB hx261_8
   replace p261 := eq_true p261
   replace q261 := eq_true q261
   try go_wp2_with (first | ((with_reducible refine qi (N := 7) rfl ?_); refine qh ?hg (N := 7) ?hd (cs := #[.string (⟨#[]⟩ : ByteArray), .string (⟨#[]⟩ : ByteArray), .string (⟨#[]⟩ : ByteArray), .string (⟨#[]⟩ : ByteArray), .int .i64 0, .int .i64 0, .bool false, .int .i64 0, .bool false]) (t := 53) ?hr ?_; (case hd => rfl); (case hg => rfl); (case hr => exact qC); intro gb262 hg w27 hbox hb; have n0_ := bb BK260 hb; have n1_ := qb.mk (qd Z89 hb); have n2_ := qb.mk (hbox); have n3_ := qb.mk ((Z44 : w.heap.size ≤ gb262)); have n4_ := n3_; have n5_ := qb.mk ((by rw [hg]; exact Nat.ne_of_lt (bt_ BK260) : gb260 ≠ gb262)); have n6_ := qb.mk ((by rw [hg]; exact Nat.ne_of_gt (bt_ BK260) : gb262 ≠ gb260)); clear BK260 HB; have BK260 := n0_; have HB := n1_; have BK262 := n2_; have GW262 := n3_; have GE262 := n4_; have NB260_262 := n5_; have NB262_260 := n6_; clear n0_ n1_ n2_ n3_ n4_ n5_ n6_; clear hb hbox hg; have hnb28 := NB262_260.out; have hnc28 := NB260_262.out; obtain ⟨yc29_0, yc29_1, yc29_2, yc29_3, yc29_4, yc29_5, yc29_6, yc29_7, yc29_8, yf29_0, yf29_1, yf29_2, yf29_3, yf29_4, yf29_5, yf29_6, yf29_7, yf29_8⟩ := bf9 BK262.out))
   obtain ⟨w30, hw30⟩ : ∃ x, x = (((((((((w27.setCell ⟨gb262, 0, none⟩ (.string ((qa l0 x10_1).f0))).setCell ⟨gb262, 1, none⟩ (.string ((qa l0 x10_1).f1))).setCell ⟨gb262, 2, none⟩ (.string ((qa l0 x10_1).f2))).setCell ⟨gb262, 3, none⟩ (.string ((qa l0 x10_1).f3))).setCell ⟨gb262, 4, none⟩ (.int .i64 ((qa l0 x10_1).f4))).setCell ⟨gb262, 5, none⟩ (.int .i64 ((qa l0 x10_1).f5))).setCell ⟨gb262, 6, none⟩ (.bool ((qa l0 x10_1).f6))).setCell ⟨gb262, 7, none⟩ (.int .i64 ((qa l0 x10_1).f7))).setCell ⟨gb262, 8, none⟩ (.bool ((qa l0 x10_1).f8))) := ⟨_, rfl⟩
   have n0_ : qb (w30.heap[gb260]? = some (.cells #[.string a1_0, .string a1_1, .string a1_2, .string a1_3, .int .i64 a1_4, .bool a1_5] 25 (0, 0))) := ⟨by rw [hw30]; (with_reducible repeat (first | refine qn ?_ _ | refine qm ?_ | refine ql ?_ _)); refine far9 ?_ NB260_262.out; (with_reducible repeat (first | refine qn ?_ _ | refine qm ?_ | refine ql ?_ _)); exact BK260.out⟩
   have n1_ : qb (w30.heap[gb262]? = some (.cells #[.string ((qa l0 x10_1).f0), .string ((qa l0 x10_1).f1), .string ((qa l0 x10_1).f2), .string ((qa l0 x10_1).f3), .int .i64 ((qa l0 x10_1).f4), .int .i64 ((qa l0 x10_1).f5), .bool ((qa l0 x10_1).f6), .int .i64 ((qa l0 x10_1).f7), .bool ((qa l0 x10_1).f8)] 53 (0, 0))) := ⟨by rw [hw30]; (with_reducible repeat (first | refine qn ?_ _ | refine qm ?_ | refine ql ?_ _)); apply put9; (with_reducible repeat (first | refine qn ?_ _ | refine qm ?_ | refine ql ?_ _)); exact BK262.out⟩
   have n2_ : qb (Below w.heap.size w w30) := ⟨by rw [hw30]; repeat (first | (with_reducible first | exact HB.out | apply qp | apply qj | apply qo | refine qq ?_ GE260.out | refine qq ?_ GE262.out) | exact HB.out)⟩
   (try clear BK260)
   (try clear BK262)
   (try clear HB)
   rw [← hw30]; clear hw30
   have BK260 := n0_
   have BK262 := n1_
   have HB := n2_
   clear n0_ n1_ n2_
   have n0_ := qb.mk (qm BK260.out)
   have n1_ := qb.mk (qm BK262.out)
   have n2_ := qb.mk (qo HB.out)
   clear BK260 BK262 HB
   have BK260 := n0_
   have BK262 := n1_
   have HB := n2_
   clear n0_ n1_ n2_
   have p264 : 0 ≤ (x5_1 : Int) := of_decide_eq_true qB
   have q264 : x5_1 < (l0.length : Int) := of_decide_eq_true qB
   obtain ⟨ad264, e264, hx264_0, hx264_1, hx264_2, hx264_3, hx264_4, hx264_5, hx264_6, hx264_7, hx264_8⟩ := at_T53 HR0.out x5_1 p264 q264
   have hw264_8 := hx264_8
   have hw264_7 := hx264_7
   have hw264_6 := hx264_6
   have hw264_5 := hx264_5
   have hw264_4 := hx264_4
   have hw264_3 := hx264_3
   have hw264_2 := hx264_2
   have hw264_1 := hx264_1
   have hw264_0 := hx264_0
   obtain rfl : ad261 = ad264 := (by injection e264)
   replace hx264_0 := bx HB hx264_0
   replace hx264_1 := bx HB hx264_1
   replace hx264_2 := bx HB hx264_2
   replace hx264_3 := bx HB hx264_3
   replace hx264_4 := bx HB hx264_4
   replace hx264_5 := bx HB hx264_5
   replace hx264_6 := bx HB hx264_6
   replace hx264_7 := bx HB hx264_7
   replace hx264_8 := bx HB hx264_8
   replace p264 := eq_true p264
   replace q264 := eq_true q264
   refine start_ (n := 16) (S := fun w' => w'.cell? ⟨gb262, 0, none⟩ = some (.string ((qa l0 x10_1).f0)) ∧ w'.cell? ⟨gb262, 1, none⟩ = some (.string ((qa l0 x10_1).f1)) ∧ w'.cell? ⟨gb262, 2, none⟩ = some (.string ((qa l0 x10_1).f2)) ∧ w'.cell? ⟨gb262, 3, none⟩ = some (.string ((qa l0 x10_1).f3)) ∧ w'.cell? ⟨gb262, 4, none⟩ = some (.int .i64 ((qa l0 x10_1).f4)) ∧ w'.cell? ⟨gb262, 5, none⟩ = some (.int .i64 ((qa l0 x10_1).f5)) ∧ w'.cell? ⟨gb262, 6, none⟩ = some (.bool ((qa l0 x10_1).f6)) ∧ w'.cell? ⟨gb262, 7, none⟩ = some (.int .i64 ((qa l0 x10_1).f7)) ∧ w'.cell? ⟨gb262, 8, none⟩ = some (.bool ((qa l0 x10_1).f8)) ∧ w'.cell? ⟨gb260, 0, none⟩ = some (.string a1_0) ∧ w'.cell? ⟨gb260, 1, none⟩ = some (.string a1_1) ∧ w'.cell? ⟨gb260, 2, none⟩ = some (.string a1_2) ∧ w'.cell? ⟨gb260, 3, none⟩ = some (.string a1_3) ∧ w'.cell? ⟨gb260, 4, none⟩ = some (.int .i64 a1_4) ∧ w'.cell? ⟨gb260, 5, none⟩ = some (.bool a1_5) ∧ w'.cell? (ad261.add ((x5_1).toNat * 9)) = some (.string ((qa l0 x5_1).f0)) ∧ w'.cell? ⟨(ad261.add ((x5_1).toNat * 9)).block, (ad261.add ((x5_1).toNat * 9)).off + 1, none⟩ = some (.string ((qa l0 x5_1).f1)) ∧ w'.cell? ⟨(ad261.add ((x5_1).toNat * 9)).block, (ad261.add ((x5_1).toNat * 9)).off + 2, none⟩ = some (.string ((qa l0 x5_1).f2)) ∧ w'.cell? ⟨(ad261.add ((x5_1).toNat * 9)).block, (ad261.add ((x5_1).toNat * 9)).off + 3, none⟩ = some (.string ((qa l0 x5_1).f3)) ∧ w'.cell? ⟨(ad261.add ((x5_1).toNat * 9)).block, (ad261.add ((x5_1).toNat * 9)).off + 4, none⟩ = some (.int .i64 ((qa l0 x5_1).f4)) ∧ w'.cell? ⟨(ad261.add ((x5_1).toNat * 9)).block, (ad261.add ((x5_1).toNat * 9)).off + 5, none⟩ = some (.int .i64 ((qa l0 x5_1).f5)) ∧ w'.cell? ⟨(ad261.add ((x5_1).toNat * 9)).block, (ad261.add ((x5_1).toNat * 9)).off + 6, none⟩ = some (.bool ((qa l0 x5_1).f6)) ∧ w'.cell? ⟨(ad261.add ((x5_1).toNat * 9)).block, (ad261.add ((x5_1).toNat * 9)).off + 7, none⟩ = some (.int .i64 ((qa l0 x5_1).f7)) ∧ w'.cell? ⟨(ad261.add ((x5_1).toNat * 9)).block, (ad261.add ((x5_1).toNat * 9)).off + 8, none⟩ = some (.bool ((qa l0 x5_1).f8))) (ds := []) #[false, false, false, false, false, false, false, false, false, false, false, false, false, false, false, false] (by kernel_rfl) rfl rfl ⟨(qc BK262.out 0).trans rfl, (qc BK262.out 1).trans rfl, (qc BK262.out 2).trans rfl, (qc BK262.out 3).trans rfl, (qc BK262.out 4).trans rfl, (qc BK262.out 5).trans rfl, (qc BK262.out 6).trans rfl, (qc BK262.out 7).trans rfl, (qc BK262.out 8).trans rfl, (qc BK260.out 0).trans rfl, (qc BK260.out 1).trans rfl, (qc BK260.out 2).trans rfl, (qc BK260.out 3).trans rfl, (qc BK260.out 4).trans rfl, (qc BK260.out 5).trans rfl, (bx HB hw264_0), (bx HB hw264_1), (bx HB hw264_2), (bx HB hw264_3), (bx HB hw264_4), (bx HB hw264_5), (bx HB hw264_6), (bx HB hw264_7), (bx HB hw264_8)⟩ (fun hHeld => ?_); refine with_tabW partner_find.tab5 partner_find.bits5 (fun HT_ HW_ => ?_)
   generalize w30.drew = w31 at BK260 BK262 HB hx264_0 hx264_1 hx264_2 hx264_3 hx264_4 hx264_5 hx264_6 hx264_7 hx264_8 hHeld ⊢
   refine take_ (i := 0) (N := some 15) (v := ?_) (a' := ?_) #[true, false, false, false, false, false, false, false, false, false, false, false, false, false, false, false] rfl rfl (qE HT_.out HW_.out (by kernel_rfl)) (fun _ _ _ h => h) (Or.inl ⟨by rfl, ?_⟩) hHeld ?_ ?_
   rotate_left
   ·rintro w' ⟨s0, s1, s2, s3, s4, s5, s6, s7, s8, s9, s10, s11, s12, s13, s14, s15, s16, s17, s18, s19, s20, s21, s22, s23⟩
    go_simp
    with_reducible rfl
   rotate_left
   ·simp only [Act.put, sT, s0, s1, qr, qt]
    rfl
   refine take_ (i := 1) (N := some 16) (v := ?_) (a' := ?_) #[true, true, false, false, false, false, false, false, false, false, false, false, false, false, false, false] rfl rfl (qE HT_.out HW_.out (by kernel_rfl)) (fun _ _ _ h => h) (Or.inl ⟨by rfl, ?_⟩) hHeld ?_ ?_
   rotate_left
   ·rintro w' ⟨s0, s1, s2, s3, s4, s5, s6, s7, s8, s9, s10, s11, s12, s13, s14, s15, s16, s17, s18, s19, s20, s21, s22, s23⟩
    go_simp
    with_reducible rfl
   rotate_left
   ·simp only [Act.put, sT, s0, s1, qr, qt]
    rfl
   refine one_ (i := 2) (N := some 17) #[true, true, true, false, false, false, false, false, false, false, false, false, false, false, false, false] rfl rfl (one_of HT_.out (by kernel_rfl)) (by decide) (fun K hK => ?_)
   refine goes_ Tryz.func56 (by kernel_rfl) rfl #[.agg #[.string ((qa l0 x10_1).f0), .string ((qa l0 x10_1).f1), .string ((qa l0 x10_1).f2), .string ((qa l0 x10_1).f3), .int .i64 ((qa l0 x10_1).f4), .int .i64 ((qa l0 x10_1).f5), .bool ((qa l0 x10_1).f6), .int .i64 ((qa l0 x10_1).f7), .bool ((qa l0 x10_1).f8)], .agg #[.string a1_0, .string a1_1, .string a1_2, .string a1_3, .int .i64 a1_4, .bool a1_5]] (by rfl) rfl rfl Z61 ?_
   with_reducible refine (partner_applies.calls ((qa l0 x10_1).f0) ((qa l0 x10_1).f1) ((qa l0 x10_1).f2) ((qa l0 x10_1).f3) ((qa l0 x10_1).f4) ((qa l0 x10_1).f5) ((qa l0 x10_1).f6) ((qa l0 x10_1).f7) ((qa l0 x10_1).f8) a1_0 a1_1 a1_2 a1_3 a1_4 a1_5 true _ A7.out).mono ?_
   rintro e w32 ⟨rfl, hb⟩
   refine ⟨_, rfl, ?_⟩
   have n0_ := bb BK260 hb
   have n1_ := bb BK262 hb
   have n2_ := qb.mk (qd Z56 hb)
   clear BK260 BK262 HB
   have BK260 := n0_
   have BK262 := n1_
   have HB := n2_
   clear n0_ n1_ n2_
   (try clear hb)
   (try clear hb2)
   (try clear hk)
   (try clear hi)
   refine hK.out _ _ ⟨(qc BK262.out 0).trans rfl, (qc BK262.out 1).trans rfl, (qc BK262.out 2).trans rfl, (qc BK262.out 3).trans rfl, (qc BK262.out 4).trans rfl, (qc BK262.out 5).trans rfl, (qc BK262.out 6).trans rfl, (qc BK262.out 7).trans rfl, (qc BK262.out 8).trans rfl, (qc BK260.out 0).trans rfl, (qc BK260.out 1).trans rfl, (qc BK260.out 2).trans rfl, (qc BK260.out 3).trans rfl, (qc BK260.out 4).trans rfl, (qc BK260.out 5).trans rfl, (bx HB hw264_0), (bx HB hw264_1), (bx HB hw264_2), (bx HB hw264_3), (bx HB hw264_4), (bx HB hw264_5), (bx HB hw264_6), (bx HB hw264_7), (bx HB hw264_8)⟩ (fun hHeld => ?_)
   clear hK K
   refine norm_ (a' := ?_) ?_ ?_
   rotate_left
   ·show Act.put _ (some 17) _ = _
    simp only [Act.put, sT, s0, s1, qr, qt]
    rfl
   refine pure_ (i := 3) (N := some 18) (v := ?_) (a' := ?_) #[true, true, true, true, false, false, false, false, false, false, false, false, false, false, false, false] rfl rfl (qy HT_.out (by kernel_rfl)) (fun _ _ _ h => h) (Or.inl ⟨by rfl, ?_⟩) ?_ ?_
   rotate_left
   ·intro w'
    go_simp
    with_reducible rfl
   rotate_left
   ·simp only [Act.put, sT, s0, s1, qr, qt]
    rfl
   refine pure_ (i := 4) (N := some 19) (v := ?_) (a' := ?_) #[true, true, true, true, true, false, false, false, false, false, false, false, false, false, false, false] rfl rfl (qy HT_.out (by kernel_rfl)) (fun _ _ _ h => h) (Or.inl ⟨by rfl, ?_⟩) ?_ ?_
   rotate_left
   ·intro w'
    go_simp
    with_reducible rfl
   rotate_left
   ·simp only [Act.put, sT, s0, s1, qr, qt]
    rfl
   refine pure_ (i := 5) (N := some 20) (v := ?_) (a' := ?_) #[true, true, true, true, true, true, false, false, false, false, false, false, false, false, false, false] rfl rfl (qy HT_.out (by kernel_rfl)) (fun _ _ _ h => h) (Or.inl ⟨by rfl, ?_⟩) ?_ ?_
   rotate_left
   ·intro w'
    go_simp
    with_reducible rfl
   rotate_left
   ·simp only [Act.put, sT, s0, s1, qr, qt]
    rfl
   refine pure_ (i := 6) (N := some 21) (v := ?_) (a' := ?_) #[true, true, true, true, true, true, true, false, false, false, false, false, false, false, false, false] rfl rfl (qy HT_.out (by kernel_rfl)) (fun _ _ _ h => h) (Or.inl ⟨by rfl, ?_⟩) ?_ ?_
   rotate_left
   ·intro w'
    go_simp
    with_reducible rfl
   rotate_left
   ·simp only [Act.put, sT, s0, s1, qr, qt]
    rfl
   refine pure_ (i := 8) (N := some 23) (v := ?_) (a' := ?_) #[true, true, true, true, true, true, true, false, true, false, false, false, false, false, false, false] rfl rfl (qy HT_.out (by kernel_rfl)) (fun _ _ _ h => h) (Or.inl ⟨by rfl, ?_⟩) ?_ ?_
   rotate_left
   ·intro w'
    go_simp
    with_reducible rfl
   rotate_left
   ·simp only [Act.put, sT, s0, s1, qr, qt]
    rfl
   refine pure_ (i := 9) (N := some 24) (v := ?_) (a' := ?_) #[true, true, true, true, true, true, true, false, true, true, false, false, false, false, false, false] rfl rfl (qy HT_.out (by kernel_rfl)) (fun _ _ _ h => h) (Or.inl ⟨by rfl, ?_⟩) ?_ ?_
   rotate_left
   ·intro w'
    go_simp
    with_reducible rfl
   rotate_left
   ·simp only [Act.put, sT, s0, s1, qr, qt]
    rfl
   refine pure_ (i := 10) (N := some 25) (v := ?_) (a' := ?_) #[true, true, true, true, true, true, true, false, true, true, true, false, false, false, false, false] rfl rfl (qy HT_.out (by kernel_rfl)) (fun _ _ _ h => h) (Or.inl ⟨by rfl, ?_⟩) ?_ ?_
   rotate_left
   ·intro w'
    go_simp
    with_reducible rfl
   rotate_left
   ·simp only [Act.put, sT, s0, s1, qr, qt]
    rfl
   refine take_ (i := 7) (N := some 22) (v := ?_) (a' := ?_) #[true, true, true, true, true, true, true, true, true, true, true, false, false, false, false, false] rfl rfl (qE HT_.out HW_.out (by kernel_rfl)) (fun _ _ _ h => h) (Or.inl ⟨by rfl, ?_⟩) hHeld ?_ ?_
   rotate_left
   ·rintro w' ⟨s0, s1, s2, s3, s4, s5, s6, s7, s8, s9, s10, s11, s12, s13, s14, s15, s16, s17, s18, s19, s20, s21, s22, s23⟩
    go_simp
    with_reducible rfl
   rotate_left
   ·simp only [Act.put, sT, s0, s1, qr, qt]
    rfl
   refine take_ (i := 11) (N := some 26) (v := ?_) (a' := ?_) #[true, true, true, true, true, true, true, true, true, true, true, true, false, false, false, false] rfl rfl (qE HT_.out HW_.out (by kernel_rfl)) (fun _ _ _ h => h) (Or.inl ⟨by rfl, ?_⟩) hHeld ?_ ?_
   rotate_left
   ·rintro w' ⟨s0, s1, s2, s3, s4, s5, s6, s7, s8, s9, s10, s11, s12, s13, s14, s15, s16, s17, s18, s19, s20, s21, s22, s23⟩
    go_simp
    with_reducible rfl
   rotate_left
   ·simp only [Act.put, sT, s0, s1, qr, qt]
    rfl
   refine one_ (i := 12) (N := some 27) #[true, true, true, true, true, true, true, true, true, true, true, true, true, false, false, false] rfl rfl (one_of HT_.out (by kernel_rfl)) (by decide) (fun K hK => ?_)
   refine goes_ Tryz.func57 (by kernel_rfl) rfl #[.agg #[.string ((qa l0 x10_1).f0), .string ((qa l0 x10_1).f1), .string ((qa l0 x10_1).f2), .string ((qa l0 x10_1).f3), .int .i64 ((qa l0 x10_1).f4), .int .i64 ((qa l0 x10_1).f5), .bool ((qa l0 x10_1).f6), .int .i64 ((qa l0 x10_1).f7), .bool ((qa l0 x10_1).f8)], .agg #[.string ((qa l0 x5_1).f0), .string ((qa l0 x5_1).f1), .string ((qa l0 x5_1).f2), .string ((qa l0 x5_1).f3), .int .i64 ((qa l0 x5_1).f4), .int .i64 ((qa l0 x5_1).f5), .bool ((qa l0 x5_1).f6), .int .i64 ((qa l0 x5_1).f7), .bool ((qa l0 x5_1).f8)]] (by rfl) rfl rfl Z61 ?_
   with_reducible refine (partner_better.calls k1 ((qa l0 x10_1).f0) ((qa l0 x10_1).f1) ((qa l0 x10_1).f2) ((qa l0 x10_1).f3) ((qa l0 x10_1).f4) ((qa l0 x10_1).f5) ((qa l0 x10_1).f6) ((qa l0 x10_1).f7) ((qa l0 x10_1).f8) ((qa l0 x5_1).f0) ((qa l0 x5_1).f1) ((qa l0 x5_1).f2) ((qa l0 x5_1).f3) ((qa l0 x5_1).f4) ((qa l0 x5_1).f5) ((qa l0 x5_1).f6) ((qa l0 x5_1).f7) ((qa l0 x5_1).f8) t265 _ A18.out).mono ?_
   rintro e w33 ⟨rfl, hb⟩
   refine ⟨_, rfl, ?_⟩
   have n0_ := bb BK260 hb
   have n1_ := bb BK262 hb
   have n2_ := qb.mk (qd Z56 hb)
   clear BK260 BK262 HB
   have BK260 := n0_
   have BK262 := n1_
   have HB := n2_
   clear n0_ n1_ n2_
   (try clear hb)
   (try clear hb2)
   (try clear hk)
   (try clear hi)
   refine hK.out _ _ ⟨(qc BK262.out 0).trans rfl, (qc BK262.out 1).trans rfl, (qc BK262.out 2).trans rfl, (qc BK262.out 3).trans rfl, (qc BK262.out 4).trans rfl, (qc BK262.out 5).trans rfl, (qc BK262.out 6).trans rfl, (qc BK262.out 7).trans rfl, (qc BK262.out 8).trans rfl, (qc BK260.out 0).trans rfl, (qc BK260.out 1).trans rfl, (qc BK260.out 2).trans rfl, (qc BK260.out 3).trans rfl, (qc BK260.out 4).trans rfl, (qc BK260.out 5).trans rfl, (bx HB hw264_0), (bx HB hw264_1), (bx HB hw264_2), (bx HB hw264_3), (bx HB hw264_4), (bx HB hw264_5), (bx HB hw264_6), (bx HB hw264_7), (bx HB hw264_8)⟩ (fun hHeld => ?_)
   clear hK K
   refine norm_ (a' := ?_) ?_ ?_
   rotate_left
   ·show Act.put _ (some 27) _ = _
    simp only [Act.put, sT, s0, s1, qr, qt]
    rfl
   refine pure_ (i := 13) (N := some 28) (v := ?_) (a' := ?_) #[true, true, true, true, true, true, true, true, true, true, true, true, true, true, false, false] rfl rfl (qy HT_.out (by kernel_rfl)) (fun _ _ _ h => h) (Or.inl ⟨by rfl, ?_⟩) ?_ ?_
   rotate_left
   ·intro w'
    go_simp
    with_reducible rfl
   rotate_left
   ·simp only [Act.put, sT, s0, s1, qr, qt]
    rfl
   refine pure_ (i := 14) (N := some 29) (v := ?_) (a' := ?_) #[true, true, true, true, true, true, true, true, true, true, true, true, true, true, true, false] rfl rfl (qy HT_.out (by kernel_rfl)) (fun _ _ _ h => h) (Or.inl ⟨by rfl, ?_⟩) ?_ ?_
   rotate_left
   ·intro w'
    go_simp
    with_reducible rfl
   rotate_left
   ·simp only [Act.put, sT, s0, s1, qr, qt]
    rfl
   refine pure_ (i := 15) (N := some 30) (v := ?_) (a' := ?_) #[true, true, true, true, true, true, true, true, true, true, true, true, true, true, true, true] rfl rfl (qy HT_.out (by kernel_rfl)) (fun _ _ _ h => h) (Or.inl ⟨by rfl, ?_⟩) ?_ ?_
   rotate_left
   ·intro w'
    go_simp
    with_reducible rfl
   rotate_left
   ·simp only [Act.put, sT, s0, s1, qr, qt]
    rfl
   refine done_ (done_of HT_.out (by kernel_rfl)) ?_
   try go_wp2
   go_roundg k1
   case measure => have := HK1.out; omega
   case rel => exact ⟨(x5_1), (wrap64 (x10_1 + 1)), qD, qD, H', ⟨Z157⟩, ⟨Z114⟩, ⟨Z56⟩⟩
end Go.Proofs.YtmmknokdgbgjgaaGreatDoor.XPartnerDaysMatchSpec
