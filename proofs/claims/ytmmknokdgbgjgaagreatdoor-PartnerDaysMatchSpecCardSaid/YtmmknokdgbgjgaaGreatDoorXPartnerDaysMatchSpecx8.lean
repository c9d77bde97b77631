-- Walks of PartnerDaysMatchSpec: written by xprint.py out of the translation (hand-proved functions among them). Lean checks it.
import Derived.Test.YtmmknokdgbgjgaaGreatDoorXPartnerDaysMatchSpecx0
import Derived.Test.YtmmknokdgbgjgaaGreatDoorXPartnerDaysMatchSpecx2
import Derived.Test.YtmmknokdgbgjgaaGreatDoorXPartnerDaysMatchSpecx7
namespace Go.Proofs.YtmmknokdgbgjgaaGreatDoor.XPartnerDaysMatchSpec
open Go.RowKit Go.Proofs.YtmmknokdgbgjgaaGreatDoorW.PrintWords Go.Proofs.YtmmknokdgbgjgaaGreatDoorW.PrintLast Go.Proofs.YtmmknokdgbgjgaaGreatDoorW.PrintMore
attribute [local go_sem] max2_int min2_int max_two min_two max_three min_three max_four min_four   -- for this text's walks alone
set_option linter.unusedVariables false
set_option linter.unusedSimpArgs false

/-! ### r8find: function 20 -/
def r8find.l0 : Nat → List (S53) → Int → List (S53) → Int → Int → ByteArray → ByteArray → ByteArray → ByteArray → Int → Bool → Option (Int)
 | 0, _, _, _, _, _, _, _, _, _, _, _ => none
 | k + 1, x0, x5, x8, x9, x10, x166000, x166001, x166002, x166003, x166004, x166005 => if x10 < x9 then (if 0 ≤ x10 then (if x10 < (x8.length : Int) then ((r8applies.f ((qa x8 x10).f0) ((qa x8 x10).f1) ((qa x8 x10).f2) ((qa x8 x10).f3) ((qa x8 x10).f4) ((qa x8 x10).f5) ((qa x8 x10).f6) ((qa x8 x10).f7) ((qa x8 x10).f8) x166000 x166001 x166002 x166003 x166004 x166005).bind fun t168 => (if t168 = true then (if x5 < 0 then (r8find.l0 k x0 x10 x8 x9 (wrap64 (x10 + 1)) x166000 x166001 x166002 x166003 x166004 x166005) else (if 0 ≤ x5 then (if x5 < (x0.length : Int) then ((r8better.f k ((qa x8 x10).f0) ((qa x8 x10).f1) ((qa x8 x10).f2) ((qa x8 x10).f3) ((qa x8 x10).f4) ((qa x8 x10).f5) ((qa x8 x10).f6) ((qa x8 x10).f7) ((qa x8 x10).f8) ((qa x0 x5).f0) ((qa x0 x5).f1) ((qa x0 x5).f2) ((qa x0 x5).f3) ((qa x0 x5).f4) ((qa x0 x5).f5) ((qa x0 x5).f6) ((qa x0 x5).f7) ((qa x0 x5).f8)).bind fun t170 => (if t170 < 0 then (r8find.l0 k x0 x10 x8 x9 (wrap64 (x10 + 1)) x166000 x166001 x166002 x166003 x166004 x166005) else (r8find.l0 k x0 x5 x8 x9 (wrap64 (x10 + 1)) x166000 x166001 x166002 x166003 x166004 x166005))) else (none)) else (none))) else (r8find.l0 k x0 x5 x8 x9 (wrap64 (x10 + 1)) x166000 x166001 x166002 x166003 x166004 x166005))) else (none)) else (none)) else (some x5)
def r8find.f (k : Nat) (l0 : List (S53)) (a1_0 : ByteArray) (a1_1 : ByteArray) (a1_2 : ByteArray) (a1_3 : ByteArray) (a1_4 : Int) (a1_5 : Bool) : Option (Int) := r8find.l0 k l0 (-1) l0 (l0.length : Int) 0 a1_0 a1_1 a1_2 a1_3 a1_4 a1_5
theorem r8find.mono_l : ∀ k, (∀ y0 y1 y2 y3 y4 y5 y6 y7 y8 y9 y10, qv (r8find.l0 k y0 y1 y2 y3 y4 y5 y6 y7 y8 y9 y10) (r8find.l0 (k + 1) y0 y1 y2 y3 y4 y5 y6 y7 y8 y9 y10))
 | 0 => fun _ _ _ _ _ _ _ _ _ _ _ r h => by simp [r8find.l0] at h
 | k + 1 => by
  have ih0 := r8find.mono_l k
  ·intro y0 y1 y2 y3 y4 y5 y6 y7 y8 y9 y10
   unfold r8find.l0
   repeat' first
   | (with_reducible apply ih0)
   | (with_reducible apply r8better.mono)
   | (with_reducible exact qv.refl _)
   | (with_reducible exact qv.none _)
   | (with_reducible refine qv.ite ?_ ?_)
   | (with_reducible refine qv.bind ?_ (fun _ => ?_))
   | apply ih0
   | apply r8better.mono
   | exact qv.none _
   | refine qv.ite ?_ ?_
   | refine qv.bind ?_ (fun _ => ?_)
theorem r8find.mono : ∀ a0 a1 a2 a3 a4 a5 a6 k, qv (r8find.f k a0 a1 a2 a3 a4 a5 a6) (r8find.f (k + 1) a0 a1 a2 a3 a4 a5 a6) := by
 intro a0 a1 a2 a3 a4 a5 a6 k
 have ih0 := r8find.mono_l k
 unfold r8find.f
 repeat' first
   | (with_reducible apply ih0)
   | (with_reducible apply r8better.mono)
   | (with_reducible exact qv.refl _)
   | (with_reducible exact qv.none _)
   | (with_reducible refine qv.ite ?_ ?_)
   | (with_reducible refine qv.bind ?_ (fun _ => ?_))
   | apply ih0
   | apply r8better.mono
   | exact qv.none _
   | refine qv.ite ?_ ?_
   | refine qv.bind ?_ (fun _ => ?_)
def r8find.T5 : Bool × List (List Nat × List Nat) := (true, [([], []), ([], []), ([0, 1], [0, 1]), ([2, 2], [2]), ([3], [3]), ([4, 3], [3, 4]), ([5, 3, 3], [3, 5]), ([6], [6]), ([6], [6]), ([6], [6]), ([8, 9, 6], [6, 8, 9]), ([10, 6], [6, 10]), ([7, 11, 6, 6], [6, 7, 11]), ([12, 6], [6, 12]), ([6, 13, 3], [3, 6, 13]), ([3, 14], [3, 14])])
def r8find.B5 : List Nat := [0, 0, 3, 7, 15, 31, 63, 127, 127, 127, 895, 1919, 4095, 8191, 16383, 32767]
theorem r8find.tab5 : rtab .any (opsOf Tryz.f20 5) = r8find.T5 := by kernel_rfl
theorem r8find.bits5 : waitsOk r8find.T5.2 r8find.B5 = true := by kernel_rfl
set_option maxHeartbeats 8000000 in
set_option maxRecDepth 100000 in
theorem r8find.calls (k : Nat) (A0 : Option Addr) (c0 : Nat) (l0 : List (S53)) (a1_0 : ByteArray) (a1_1 : ByteArray) (a1_2 : ByteArray) (a1_3 : ByteArray) (a1_4 : Int) (a1_5 : Bool) (r : Int) (w : World) (hr0 : Kd.C k53 w A0 l0.length l0) (hc0 : l0.length ≤ c0) (h : r8find.f k l0 a1_0 a1_1 a1_2 a1_3 a1_4 a1_5 = some r) :
  Calls Tryz.prog 20 #[.slice A0 l0.length c0, .agg #[.string a1_0, .string a1_1, .string a1_2, .string a1_3, .int .i64 a1_4, .bool a1_5]] w fun e w' => e = .returned (.int .i64 r) ∧ Below w.heap.size w w' := by
 have hu25 := Tryz.underlying25
 have hu53 := Tryz.underlying53
 have HR0 := qb.mk hr0
 have HC0 := qb.mk hc0
 clear hr0 hc0
 have HB := qb.mk (Below.refl w.heap.size w)
 have H : (r8find.l0 k l0 (-1) l0 (l0.length : Int) 0 a1_0 a1_1 a1_2 a1_3 a1_4 a1_5) = some r := h
 clear h
 have H' := qb.mk H
 clear H
 go_enter Tryz.func20, Tryz.ntmps20
 go_wp2_with (first | ((with_reducible refine qi (N := 3) rfl ?_); refine qh ?hg (N := 3) ?hd (cs := #[.string a1_0, .string a1_1, .string a1_2, .string a1_3, .int .i64 a1_4, .bool a1_5]) (t := 25) ?hr ?_; (case hd => rfl); (case hg => rfl); (case hr => exact qC); intro gb165 hg w3 hbox hb; have n0_ := qb.mk (qd qz hb); have n1_ := qb.mk (hbox); have n2_ := qb.mk ((Z66 : w.heap.size ≤ gb165)); have n3_ := n2_; clear HB; have HB := n0_; have BK165 := n1_; have GW165 := n2_; have GE165 := n3_; clear n0_ n1_ n2_ n3_; clear hb hbox hg))
 go_loopg [5, 10] k (fun kq v5 v10 w' => ∃ (x5_1 : Int) (x10_1 : Int), v5 = .int .i64 x5_1 ∧ v10 = .int .i64 x10_1 ∧ qb (r8find.l0 kq l0 x5_1 l0 (l0.length : Int) x10_1 a1_0 a1_1 a1_2 a1_3 a1_4 a1_5 = some r) ∧ qb (kq ≤ k) ∧ qb (w'.heap[gb165]? = some (.cells #[.string a1_0, .string a1_1, .string a1_2, .string a1_3, .int .i64 a1_4, .bool a1_5] 25 (0, 0))) ∧ qb (Below w.heap.size w w'))
 case atStart => exact ⟨((-1)), (0), qD, qD, H', ⟨Nat.le_refl _⟩, ⟨Z109⟩, ⟨Z77⟩⟩
 case round =>
  clear H'
  try clear c2; try clear p2
  obtain ⟨x5_1, x10_1, rfl, rfl, HA, HK1, BK165, HB⟩ := hrel
  cases gk with
  | zero => exact absurd HA.out (by simp [r8find.l0])
  | succ k1 =>
   have H := HA.out
   clear HA
   simp only [r8find.l0] at H
   by_cases c4 : x10_1 < (l0.length : Int)
   case neg =>
    rw [if_neg c4] at H
    have c4b0 : decide (x10_1 < (l0.length : Int)) = false := decide_eq_false c4
    clear c4
    obtain rfl := Option.some.inj H
    go_wp2
    go_ret
    exact ⟨Z97, Z77⟩

   rw [if_pos c4] at H
   have c4b0 : decide (x10_1 < (l0.length : Int)) = true := decide_eq_true c4
   clear c4
   by_cases c5 : 0 ≤ x10_1
   case neg =>
    rw [if_neg c5] at H
    exact absurd H (by simp)
   rw [if_pos c5] at H
   have c5b0 : decide (0 ≤ x10_1) = true := decide_eq_true c5
   clear c5
   by_cases c6 : x10_1 < (l0.length : Int)
   case neg =>
    rw [if_neg c6] at H
    exact absurd H (by simp)
   rw [if_pos c6] at H
   have c6b0 : decide (x10_1 < (l0.length : Int)) = true := decide_eq_true c6
   clear c6
   replace H := Option.bind_eq_some_iff.mp H
   obtain ⟨t168, A70, H⟩ := H
   replace H : (if t168 = true then (if x5_1 < 0 then (r8find.l0 k1 l0 x10_1 l0 (l0.length : Int) (wrap64 (x10_1 + 1)) a1_0 a1_1 a1_2 a1_3 a1_4 a1_5) else (if 0 ≤ x5_1 then (if x5_1 < (l0.length : Int) then ((r8better.f k1 ((qa l0 x10_1).f0) ((qa l0 x10_1).f1) ((qa l0 x10_1).f2) ((qa l0 x10_1).f3) ((qa l0 x10_1).f4) ((qa l0 x10_1).f5) ((qa l0 x10_1).f6) ((qa l0 x10_1).f7) ((qa l0 x10_1).f8) ((qa l0 x5_1).f0) ((qa l0 x5_1).f1) ((qa l0 x5_1).f2) ((qa l0 x5_1).f3) ((qa l0 x5_1).f4) ((qa l0 x5_1).f5) ((qa l0 x5_1).f6) ((qa l0 x5_1).f7) ((qa l0 x5_1).f8)).bind fun t170 => (if t170 < 0 then (r8find.l0 k1 l0 x10_1 l0 (l0.length : Int) (wrap64 (x10_1 + 1)) a1_0 a1_1 a1_2 a1_3 a1_4 a1_5) else (r8find.l0 k1 l0 x5_1 l0 (l0.length : Int) (wrap64 (x10_1 + 1)) a1_0 a1_1 a1_2 a1_3 a1_4 a1_5))) else (none)) else (none))) else (r8find.l0 k1 l0 x5_1 l0 (l0.length : Int) (wrap64 (x10_1 + 1)) a1_0 a1_1 a1_2 a1_3 a1_4 a1_5)) = some r := H
   have A7 := qb.mk A70
   clear A70
   by_cases c8 : t168 = true
   case neg =>
    replace c8 := Bool.eq_false_iff.mpr c8
    subst c8
    have H1 : (r8find.l0 k1 l0 x5_1 l0 (l0.length : Int) (wrap64 (x10_1 + 1)) a1_0 a1_1 a1_2 a1_3 a1_4 a1_5) = some r := by rw [if_neg (show ¬ (false = true) by decide)] at H; exact H
    clear H
    have H := H1
    clear H1
    have H' := qb.mk H
    clear H
    have p166 : 0 ≤ (x10_1 : Int) := of_decide_eq_true qB
    have q166 : x10_1 < (l0.length : Int) := of_decide_eq_true qB
    obtain ⟨ad166, e166, hx166_0, hx166_1, hx166_2, hx166_3, hx166_4, hx166_5, hx166_6, hx166_7, hx166_8⟩ := at_T53 HR0.out x10_1 p166 q166
    cases e166
    replace hx166_0 := bx HB hx166_0
    replace hx166_1 := bx HB hx166_1
    replace hx166_2 := bx HB hx166_2
    replace hx166_3 := bx HB hx166_3
    replace hx166_4 := bx HB hx166_4
    replace hx166_5 := bx HB hx166_5
    replace hx166_6 := bx HB hx166_6
    replace hx166_7 := bx HB hx166_7
    replace hx166_8 := bx HB hx166_8
    replace p166 := eq_true p166
    replace q166 := eq_true q166
    try go_wp2_with (first | ((with_reducible refine qi (N := 7) rfl ?_); refine qh ?hg (N := 7) ?hd (cs := #[.string (⟨#[]⟩ : ByteArray), .string (⟨#[]⟩ : ByteArray), .string (⟨#[]⟩ : ByteArray), .string (⟨#[]⟩ : ByteArray), .int .i64 0, .int .i64 0, .bool false, .int .i64 0, .bool false]) (t := 53) ?hr ?_; (case hd => rfl); (case hg => rfl); (case hr => exact qC); intro gb167 hg w34 hbox hb; have n0_ := bb BK165 hb; have n1_ := qb.mk (qd Z77 hb); have n2_ := qb.mk (hbox); have n3_ := qb.mk ((Z41 : w.heap.size ≤ gb167)); have n4_ := n3_; have n5_ := qb.mk ((by rw [hg]; exact Nat.ne_of_lt (bt_ BK165) : gb165 ≠ gb167)); have n6_ := qb.mk ((by rw [hg]; exact Nat.ne_of_gt (bt_ BK165) : gb167 ≠ gb165)); clear BK165 HB; have BK165 := n0_; have HB := n1_; have BK167 := n2_; have GW167 := n3_; have GE167 := n4_; have NB165_167 := n5_; have NB167_165 := n6_; clear n0_ n1_ n2_ n3_ n4_ n5_ n6_; clear hb hbox hg; have hnb35 := NB167_165.out; have hnc35 := NB165_167.out; obtain ⟨yc36_0, yc36_1, yc36_2, yc36_3, yc36_4, yc36_5, yc36_6, yc36_7, yc36_8, yf36_0, yf36_1, yf36_2, yf36_3, yf36_4, yf36_5, yf36_6, yf36_7, yf36_8⟩ := bf9 BK167.out))
    obtain ⟨w37, hw37⟩ : ∃ x, x = (((((((((w34.setCell ⟨gb167, 0, none⟩ (.string ((qa l0 x10_1).f0))).setCell ⟨gb167, 1, none⟩ (.string ((qa l0 x10_1).f1))).setCell ⟨gb167, 2, none⟩ (.string ((qa l0 x10_1).f2))).setCell ⟨gb167, 3, none⟩ (.string ((qa l0 x10_1).f3))).setCell ⟨gb167, 4, none⟩ (.int .i64 ((qa l0 x10_1).f4))).setCell ⟨gb167, 5, none⟩ (.int .i64 ((qa l0 x10_1).f5))).setCell ⟨gb167, 6, none⟩ (.bool ((qa l0 x10_1).f6))).setCell ⟨gb167, 7, none⟩ (.int .i64 ((qa l0 x10_1).f7))).setCell ⟨gb167, 8, none⟩ (.bool ((qa l0 x10_1).f8))) := ⟨_, rfl⟩
    have n0_ : qb (w37.heap[gb165]? = some (.cells #[.string a1_0, .string a1_1, .string a1_2, .string a1_3, .int .i64 a1_4, .bool a1_5] 25 (0, 0))) := ⟨by rw [hw37]; (with_reducible repeat (first | refine qn ?_ _ | refine qm ?_ | refine ql ?_ _)); refine far9 ?_ NB165_167.out; (with_reducible repeat (first | refine qn ?_ _ | refine qm ?_ | refine ql ?_ _)); exact BK165.out⟩
    have n1_ : qb (w37.heap[gb167]? = some (.cells #[.string ((qa l0 x10_1).f0), .string ((qa l0 x10_1).f1), .string ((qa l0 x10_1).f2), .string ((qa l0 x10_1).f3), .int .i64 ((qa l0 x10_1).f4), .int .i64 ((qa l0 x10_1).f5), .bool ((qa l0 x10_1).f6), .int .i64 ((qa l0 x10_1).f7), .bool ((qa l0 x10_1).f8)] 53 (0, 0))) := ⟨by rw [hw37]; (with_reducible repeat (first | refine qn ?_ _ | refine qm ?_ | refine ql ?_ _)); apply put9; (with_reducible repeat (first | refine qn ?_ _ | refine qm ?_ | refine ql ?_ _)); exact BK167.out⟩
    have n2_ : qb (Below w.heap.size w w37) := ⟨by rw [hw37]; repeat (first | (with_reducible first | exact HB.out | apply qp | apply qj | apply qo | refine qq ?_ GE165.out | refine qq ?_ GE167.out) | exact HB.out)⟩
    (try clear BK165)
    (try clear BK167)
    (try clear HB)
    rw [← hw37]; clear hw37
    have BK165 := n0_
    have BK167 := n1_
    have HB := n2_
    clear n0_ n1_ n2_
    have n0_ := qb.mk (qm BK165.out)
    have n1_ := qb.mk (qm BK167.out)
    have n2_ := qb.mk (qo HB.out)
    clear BK165 BK167 HB
    have BK165 := n0_
    have BK167 := n1_
    have HB := n2_
    clear n0_ n1_ n2_
    refine start_ (n := 16) (S := fun w' => w'.cell? ⟨gb167, 0, none⟩ = some (.string ((qa l0 x10_1).f0)) ∧ w'.cell? ⟨gb167, 1, none⟩ = some (.string ((qa l0 x10_1).f1)) ∧ w'.cell? ⟨gb167, 2, none⟩ = some (.string ((qa l0 x10_1).f2)) ∧ w'.cell? ⟨gb167, 3, none⟩ = some (.string ((qa l0 x10_1).f3)) ∧ w'.cell? ⟨gb167, 4, none⟩ = some (.int .i64 ((qa l0 x10_1).f4)) ∧ w'.cell? ⟨gb167, 5, none⟩ = some (.int .i64 ((qa l0 x10_1).f5)) ∧ w'.cell? ⟨gb167, 6, none⟩ = some (.bool ((qa l0 x10_1).f6)) ∧ w'.cell? ⟨gb167, 7, none⟩ = some (.int .i64 ((qa l0 x10_1).f7)) ∧ w'.cell? ⟨gb167, 8, none⟩ = some (.bool ((qa l0 x10_1).f8)) ∧ w'.cell? ⟨gb165, 0, none⟩ = some (.string a1_0) ∧ w'.cell? ⟨gb165, 1, none⟩ = some (.string a1_1) ∧ w'.cell? ⟨gb165, 2, none⟩ = some (.string a1_2) ∧ w'.cell? ⟨gb165, 3, none⟩ = some (.string a1_3) ∧ w'.cell? ⟨gb165, 4, none⟩ = some (.int .i64 a1_4) ∧ w'.cell? ⟨gb165, 5, none⟩ = some (.bool a1_5)) (ds := []) #[false, false, false, false, false, false, false, false, false, false, false, false, false, false, false, false] (by kernel_rfl) rfl rfl (bn9 BK167.out (bl6 BK165.out)) (fun hHeld => ?_); refine with_tabW r8find.tab5 r8find.bits5 (fun HT_ HW_ => ?_)
    generalize w37.drew = w38 at BK165 BK167 HB hHeld ⊢
    refine take_ (i := 0) (N := some 15) (v := ?_) (a' := ?_) #[true, false, false, false, false, false, false, false, false, false, false, false, false, false, false, false] rfl rfl (qE HT_.out HW_.out (by kernel_rfl)) (fun _ _ _ h => h) (Or.inl ⟨by rfl, ?_⟩) hHeld ?_ ?_
    rotate_left
    ·rintro w' ⟨s0, s1, s2, s3, s4, s5, s6, s7, s8, s9, s10, s11, s12, s13, s14⟩
     go_simp
     with_reducible rfl
    rotate_left
    ·simp only [Act.put, sT, s0, s1, qr, qt]
     rfl
    refine take_ (i := 1) (N := some 16) (v := ?_) (a' := ?_) #[true, true, false, false, false, false, false, false, false, false, false, false, false, false, false, false] rfl rfl (qE HT_.out HW_.out (by kernel_rfl)) (fun _ _ _ h => h) (Or.inl ⟨by rfl, ?_⟩) hHeld ?_ ?_
    rotate_left
    ·rintro w' ⟨s0, s1, s2, s3, s4, s5, s6, s7, s8, s9, s10, s11, s12, s13, s14⟩
     go_simp
     with_reducible rfl
    rotate_left
    ·simp only [Act.put, sT, s0, s1, qr, qt]
     rfl
    refine one_ (i := 2) (N := some 17) #[true, true, true, false, false, false, false, false, false, false, false, false, false, false, false, false] rfl rfl (one_of HT_.out (by kernel_rfl)) (by decide) (fun K hK => ?_)
    refine goes_ Tryz.func50 (by kernel_rfl) rfl #[.agg #[.string ((qa l0 x10_1).f0), .string ((qa l0 x10_1).f1), .string ((qa l0 x10_1).f2), .string ((qa l0 x10_1).f3), .int .i64 ((qa l0 x10_1).f4), .int .i64 ((qa l0 x10_1).f5), .bool ((qa l0 x10_1).f6), .int .i64 ((qa l0 x10_1).f7), .bool ((qa l0 x10_1).f8)], .agg #[.string a1_0, .string a1_1, .string a1_2, .string a1_3, .int .i64 a1_4, .bool a1_5]] (by rfl) rfl rfl Z61 ?_
    with_reducible refine (r8applies.calls ((qa l0 x10_1).f0) ((qa l0 x10_1).f1) ((qa l0 x10_1).f2) ((qa l0 x10_1).f3) ((qa l0 x10_1).f4) ((qa l0 x10_1).f5) ((qa l0 x10_1).f6) ((qa l0 x10_1).f7) ((qa l0 x10_1).f8) a1_0 a1_1 a1_2 a1_3 a1_4 a1_5 false _ A7.out).mono ?_
    rintro e w39 ⟨rfl, hb⟩
    refine ⟨_, rfl, ?_⟩
    have n0_ := bb BK165 hb
    have n1_ := bb BK167 hb
    have n2_ := qb.mk (qd Z50 hb)
    clear BK165 BK167 HB
    have BK165 := n0_
    have BK167 := n1_
    have HB := n2_
    clear n0_ n1_ n2_
    (try clear hb)
    (try clear hb2)
    (try clear hk)
    (try clear hi)
    refine hK.out _ _ (bn9 BK167.out (bl6 BK165.out)) (fun hHeld => ?_)
    clear hK K
    refine norm_ (a' := ?_) ?_ ?_
    rotate_left
    ·show Act.put _ (some 17) _ = _
     simp only [Act.put, sT, s0, s1, qr, qt]
     rfl
    refine pure_ (i := 3) (N := some 18) (v := ?_) (a' := ?_) #[true, true, true, true, false, false, false, false, false, false, false, false, false, false, false, false] rfl rfl (qy HT_.out (by kernel_rfl)) (fun _ _ _ h => h) (Or.inl ⟨by rfl, ?_⟩) ?_ ?_
    rotate_left
    ·intro w'
     go_simp
     with_reducible rfl
    rotate_left
    ·simp only [Act.put, sT, s0, s1, qr, qt]
     rfl
    refine pure_ (i := 4) (N := some 19) (v := undef) (a' := ?_) #[true, true, true, true, true, false, false, false, false, false, false, false, false, false, false, false] rfl rfl (qy HT_.out (by kernel_rfl)) (fun _ _ _ h => h) (Or.inr ⟨by rfl, rfl⟩) ?_ ?_
    rotate_left
    ·simp only [Act.put, sT, s0, s1, qr, qt]
     rfl
    refine pure_ (i := 5) (N := some 20) (v := undef) (a' := ?_) #[true, true, true, true, true, true, false, false, false, false, false, false, false, false, false, false] rfl rfl (qy HT_.out (by kernel_rfl)) (fun _ _ _ h => h) (Or.inr ⟨by rfl, rfl⟩) ?_ ?_
    rotate_left
    ·simp only [Act.put, sT, s0, s1, qr, qt]
     rfl
    refine pure_ (i := 6) (N := some 21) (v := undef) (a' := ?_) #[true, true, true, true, true, true, true, false, false, false, false, false, false, false, false, false] rfl rfl (qy HT_.out (by kernel_rfl)) (fun _ _ _ h => h) (Or.inr ⟨by rfl, rfl⟩) ?_ ?_
    rotate_left
    ·simp only [Act.put, sT, s0, s1, qr, qt]
     rfl
    refine pure_ (i := 7) (N := some 22) (v := undef) (a' := ?_) #[true, true, true, true, true, true, true, true, false, false, false, false, false, false, false, false] rfl rfl (qy HT_.out (by kernel_rfl)) (fun _ _ _ h => h) (Or.inr ⟨by rfl, rfl⟩) ?_ ?_
    rotate_left
    ·simp only [Act.put, sT, s0, s1, qr, qt]
     rfl
    refine pure_ (i := 8) (N := some 23) (v := undef) (a' := ?_) #[true, true, true, true, true, true, true, true, true, false, false, false, false, false, false, false] rfl rfl (qy HT_.out (by kernel_rfl)) (fun _ _ _ h => h) (Or.inr ⟨by rfl, rfl⟩) ?_ ?_
    rotate_left
    ·simp only [Act.put, sT, s0, s1, qr, qt]
     rfl
    refine pure_ (i := 9) (N := some 24) (v := undef) (a' := ?_) #[true, true, true, true, true, true, true, true, true, true, false, false, false, false, false, false] rfl rfl (qy HT_.out (by kernel_rfl)) (fun _ _ _ h => h) (Or.inr ⟨by rfl, rfl⟩) ?_ ?_
    rotate_left
    ·simp only [Act.put, sT, s0, s1, qr, qt]
     rfl
    refine pure_ (i := 10) (N := some 25) (v := undef) (a' := ?_) #[true, true, true, true, true, true, true, true, true, true, true, false, false, false, false, false] rfl rfl (qy HT_.out (by kernel_rfl)) (fun _ _ _ h => h) (Or.inr ⟨by rfl, rfl⟩) ?_ ?_
    rotate_left
    ·simp only [Act.put, sT, s0, s1, qr, qt]
     rfl
    refine pure_ (i := 11) (N := some 26) (v := undef) (a' := ?_) #[true, true, true, true, true, true, true, true, true, true, true, true, false, false, false, false] rfl rfl (qy HT_.out (by kernel_rfl)) (fun _ _ _ h => h) (Or.inr ⟨by rfl, rfl⟩) ?_ ?_
    rotate_left
    ·simp only [Act.put, sT, s0, s1, qr, qt]
     rfl
    refine pure_ (i := 12) (N := some 27) (v := undef) (a' := ?_) #[true, true, true, true, true, true, true, true, true, true, true, true, true, false, false, false] rfl rfl (qy HT_.out (by kernel_rfl)) (fun _ _ _ h => h) (Or.inr ⟨by rfl, rfl⟩) ?_ ?_
    rotate_left
    ·simp only [Act.put, sT, s0, s1, qr, qt]
     rfl
    refine pure_ (i := 13) (N := some 28) (v := undef) (a' := ?_) #[true, true, true, true, true, true, true, true, true, true, true, true, true, true, false, false] rfl rfl (qy HT_.out (by kernel_rfl)) (fun _ _ _ h => h) (Or.inr ⟨by rfl, rfl⟩) ?_ ?_
    rotate_left
    ·simp only [Act.put, sT, s0, s1, qr, qt]
     rfl
    refine pure_ (i := 14) (N := some 29) (v := undef) (a' := ?_) #[true, true, true, true, true, true, true, true, true, true, true, true, true, true, true, false] rfl rfl (qy HT_.out (by kernel_rfl)) (fun _ _ _ h => h) (Or.inr ⟨by rfl, rfl⟩) ?_ ?_
    rotate_left
    ·simp only [Act.put, sT, s0, s1, qr, qt]
     rfl
    refine pure_ (i := 15) (N := some 30) (v := ?_) (a' := ?_) #[true, true, true, true, true, true, true, true, true, true, true, true, true, true, true, true] rfl rfl (qy HT_.out (by kernel_rfl)) (fun _ _ _ h => h) (Or.inl ⟨by rfl, ?_⟩) ?_ ?_
    rotate_left
    ·intro w'
     go_simp
     with_reducible rfl
    rotate_left
    ·simp only [Act.put, sT, s0, s1, qr, qt]
     rfl
    refine done_ (done_of HT_.out (by kernel_rfl)) ?_
    try go_wp2
    go_roundg k1
    case measure => have := HK1.out; omega
    case rel => exact ⟨(x5_1), (wrap64 (x10_1 + 1)), qD, qD, H', ⟨Z157⟩, ⟨Z109⟩, ⟨Z50⟩⟩
   subst c8
   have H1 : (if x5_1 < 0 then (r8find.l0 k1 l0 x10_1 l0 (l0.length : Int) (wrap64 (x10_1 + 1)) a1_0 a1_1 a1_2 a1_3 a1_4 a1_5) else (if 0 ≤ x5_1 then (if x5_1 < (l0.length : Int) then ((r8better.f k1 ((qa l0 x10_1).f0) ((qa l0 x10_1).f1) ((qa l0 x10_1).f2) ((qa l0 x10_1).f3) ((qa l0 x10_1).f4) ((qa l0 x10_1).f5) ((qa l0 x10_1).f6) ((qa l0 x10_1).f7) ((qa l0 x10_1).f8) ((qa l0 x5_1).f0) ((qa l0 x5_1).f1) ((qa l0 x5_1).f2) ((qa l0 x5_1).f3) ((qa l0 x5_1).f4) ((qa l0 x5_1).f5) ((qa l0 x5_1).f6) ((qa l0 x5_1).f7) ((qa l0 x5_1).f8)).bind fun t170 => (if t170 < 0 then (r8find.l0 k1 l0 x10_1 l0 (l0.length : Int) (wrap64 (x10_1 + 1)) a1_0 a1_1 a1_2 a1_3 a1_4 a1_5) else (r8find.l0 k1 l0 x5_1 l0 (l0.length : Int) (wrap64 (x10_1 + 1)) a1_0 a1_1 a1_2 a1_3 a1_4 a1_5))) else (none)) else (none))) = some r := by rw [if_pos rfl] at H; exact H
   clear H
   have H := H1
   clear H1
   by_cases c9 : x5_1 < 0
   case pos =>
    rw [if_pos c9] at H
    have c9b0 : decide (x5_1 < 0) = true := decide_eq_true c9
    clear c9
    have H' := qb.mk H
    clear H
    have p166 : 0 ≤ (x10_1 : Int) := of_decide_eq_true qB
    have q166 : x10_1 < (l0.length : Int) := of_decide_eq_true qB
    obtain ⟨ad166, e166, hx166_0, hx166_1, hx166_2, hx166_3, hx166_4, hx166_5, hx166_6, hx166_7, hx166_8⟩ := at_T53 HR0.out x10_1 p166 q166
    cases e166
    replace hx166_0 := bx HB hx166_0
    replace hx166_1 := bx HB hx166_1
    replace hx166_2 := bx HB hx166_2
    replace hx166_3 := bx HB hx166_3
    replace hx166_4 := bx HB hx166_4
    replace hx166_5 := bx HB hx166_5
    replace hx166_6 := bx HB hx166_6
    replace hx166_7 := bx HB hx166_7
    replace hx166_8 := bx HB hx166_8
    replace p166 := eq_true p166
    replace q166 := eq_true q166
    try go_wp2_with (first | ((with_reducible refine qi (N := 7) rfl ?_); refine qh ?hg (N := 7) ?hd (cs := #[.string (⟨#[]⟩ : ByteArray), .string (⟨#[]⟩ : ByteArray), .string (⟨#[]⟩ : ByteArray), .string (⟨#[]⟩ : ByteArray), .int .i64 0, .int .i64 0, .bool false, .int .i64 0, .bool false]) (t := 53) ?hr ?_; (case hd => rfl); (case hg => rfl); (case hr => exact qC); intro gb167 hg w10 hbox hb; have n0_ := bb BK165 hb; have n1_ := qb.mk (qd Z77 hb); have n2_ := qb.mk (hbox); have n3_ := qb.mk ((Z41 : w.heap.size ≤ gb167)); have n4_ := n3_; have n5_ := qb.mk ((by rw [hg]; exact Nat.ne_of_lt (bt_ BK165) : gb165 ≠ gb167)); have n6_ := qb.mk ((by rw [hg]; exact Nat.ne_of_gt (bt_ BK165) : gb167 ≠ gb165)); clear BK165 HB; have BK165 := n0_; have HB := n1_; have BK167 := n2_; have GW167 := n3_; have GE167 := n4_; have NB165_167 := n5_; have NB167_165 := n6_; clear n0_ n1_ n2_ n3_ n4_ n5_ n6_; clear hb hbox hg; have hnb11 := NB167_165.out; have hnc11 := NB165_167.out; obtain ⟨yc12_0, yc12_1, yc12_2, yc12_3, yc12_4, yc12_5, yc12_6, yc12_7, yc12_8, yf12_0, yf12_1, yf12_2, yf12_3, yf12_4, yf12_5, yf12_6, yf12_7, yf12_8⟩ := bf9 BK167.out))
    obtain ⟨w13, hw13⟩ : ∃ x, x = (((((((((w10.setCell ⟨gb167, 0, none⟩ (.string ((qa l0 x10_1).f0))).setCell ⟨gb167, 1, none⟩ (.string ((qa l0 x10_1).f1))).setCell ⟨gb167, 2, none⟩ (.string ((qa l0 x10_1).f2))).setCell ⟨gb167, 3, none⟩ (.string ((qa l0 x10_1).f3))).setCell ⟨gb167, 4, none⟩ (.int .i64 ((qa l0 x10_1).f4))).setCell ⟨gb167, 5, none⟩ (.int .i64 ((qa l0 x10_1).f5))).setCell ⟨gb167, 6, none⟩ (.bool ((qa l0 x10_1).f6))).setCell ⟨gb167, 7, none⟩ (.int .i64 ((qa l0 x10_1).f7))).setCell ⟨gb167, 8, none⟩ (.bool ((qa l0 x10_1).f8))) := ⟨_, rfl⟩
    have n0_ : qb (w13.heap[gb165]? = some (.cells #[.string a1_0, .string a1_1, .string a1_2, .string a1_3, .int .i64 a1_4, .bool a1_5] 25 (0, 0))) := ⟨by rw [hw13]; (with_reducible repeat (first | refine qn ?_ _ | refine qm ?_ | refine ql ?_ _)); refine far9 ?_ NB165_167.out; (with_reducible repeat (first | refine qn ?_ _ | refine qm ?_ | refine ql ?_ _)); exact BK165.out⟩
    have n1_ : qb (w13.heap[gb167]? = some (.cells #[.string ((qa l0 x10_1).f0), .string ((qa l0 x10_1).f1), .string ((qa l0 x10_1).f2), .string ((qa l0 x10_1).f3), .int .i64 ((qa l0 x10_1).f4), .int .i64 ((qa l0 x10_1).f5), .bool ((qa l0 x10_1).f6), .int .i64 ((qa l0 x10_1).f7), .bool ((qa l0 x10_1).f8)] 53 (0, 0))) := ⟨by rw [hw13]; (with_reducible repeat (first | refine qn ?_ _ | refine qm ?_ | refine ql ?_ _)); apply put9; (with_reducible repeat (first | refine qn ?_ _ | refine qm ?_ | refine ql ?_ _)); exact BK167.out⟩
    have n2_ : qb (Below w.heap.size w w13) := ⟨by rw [hw13]; repeat (first | (with_reducible first | exact HB.out | apply qp | apply qj | apply qo | refine qq ?_ GE165.out | refine qq ?_ GE167.out) | exact HB.out)⟩
    (try clear BK165)
    (try clear BK167)
    (try clear HB)
    rw [← hw13]; clear hw13
    have BK165 := n0_
    have BK167 := n1_
    have HB := n2_
    clear n0_ n1_ n2_
    have n0_ := qb.mk (qm BK165.out)
    have n1_ := qb.mk (qm BK167.out)
    have n2_ := qb.mk (qo HB.out)
    clear BK165 BK167 HB
    have BK165 := n0_
    have BK167 := n1_
    have HB := n2_
    clear n0_ n1_ n2_
    refine start_ (n := 16) (S := fun w' => w'.cell? ⟨gb167, 0, none⟩ = some (.string ((qa l0 x10_1).f0)) ∧ w'.cell? ⟨gb167, 1, none⟩ = some (.string ((qa l0 x10_1).f1)) ∧ w'.cell? ⟨gb167, 2, none⟩ = some (.string ((qa l0 x10_1).f2)) ∧ w'.cell? ⟨gb167, 3, none⟩ = some (.string ((qa l0 x10_1).f3)) ∧ w'.cell? ⟨gb167, 4, none⟩ = some (.int .i64 ((qa l0 x10_1).f4)) ∧ w'.cell? ⟨gb167, 5, none⟩ = some (.int .i64 ((qa l0 x10_1).f5)) ∧ w'.cell? ⟨gb167, 6, none⟩ = some (.bool ((qa l0 x10_1).f6)) ∧ w'.cell? ⟨gb167, 7, none⟩ = some (.int .i64 ((qa l0 x10_1).f7)) ∧ w'.cell? ⟨gb167, 8, none⟩ = some (.bool ((qa l0 x10_1).f8)) ∧ w'.cell? ⟨gb165, 0, none⟩ = some (.string a1_0) ∧ w'.cell? ⟨gb165, 1, none⟩ = some (.string a1_1) ∧ w'.cell? ⟨gb165, 2, none⟩ = some (.string a1_2) ∧ w'.cell? ⟨gb165, 3, none⟩ = some (.string a1_3) ∧ w'.cell? ⟨gb165, 4, none⟩ = some (.int .i64 a1_4) ∧ w'.cell? ⟨gb165, 5, none⟩ = some (.bool a1_5)) (ds := []) #[false, false, false, false, false, false, false, false, false, false, false, false, false, false, false, false] (by kernel_rfl) rfl rfl (bn9 BK167.out (bl6 BK165.out)) (fun hHeld => ?_); refine with_tabW r8find.tab5 r8find.bits5 (fun HT_ HW_ => ?_)
    generalize w13.drew = w14 at BK165 BK167 HB hHeld ⊢
    refine take_ (i := 0) (N := some 15) (v := ?_) (a' := ?_) #[true, false, false, false, false, false, false, false, false, false, false, false, false, false, false, false] rfl rfl (qE HT_.out HW_.out (by kernel_rfl)) (fun _ _ _ h => h) (Or.inl ⟨by rfl, ?_⟩) hHeld ?_ ?_
    rotate_left
    ·rintro w' ⟨s0, s1, s2, s3, s4, s5, s6, s7, s8, s9, s10, s11, s12, s13, s14⟩
     go_simp
     with_reducible rfl
    rotate_left
    ·simp only [Act.put, sT, s0, s1, qr, qt]
     rfl
    refine take_ (i := 1) (N := some 16) (v := ?_) (a' := ?_) #[true, true, false, false, false, false, false, false, false, false, false, false, false, false, false, false] rfl rfl (qE HT_.out HW_.out (by kernel_rfl)) (fun _ _ _ h => h) (Or.inl ⟨by rfl, ?_⟩) hHeld ?_ ?_
    rotate_left
    ·rintro w' ⟨s0, s1, s2, s3, s4, s5, s6, s7, s8, s9, s10, s11, s12, s13, s14⟩
     go_simp
     with_reducible rfl
    rotate_left
    ·simp only [Act.put, sT, s0, s1, qr, qt]
     rfl
    refine one_ (i := 2) (N := some 17) #[true, true, true, false, false, false, false, false, false, false, false, false, false, false, false, false] rfl rfl (one_of HT_.out (by kernel_rfl)) (by decide) (fun K hK => ?_)
    refine goes_ Tryz.func50 (by kernel_rfl) rfl #[.agg #[.string ((qa l0 x10_1).f0), .string ((qa l0 x10_1).f1), .string ((qa l0 x10_1).f2), .string ((qa l0 x10_1).f3), .int .i64 ((qa l0 x10_1).f4), .int .i64 ((qa l0 x10_1).f5), .bool ((qa l0 x10_1).f6), .int .i64 ((qa l0 x10_1).f7), .bool ((qa l0 x10_1).f8)], .agg #[.string a1_0, .string a1_1, .string a1_2, .string a1_3, .int .i64 a1_4, .bool a1_5]] (by rfl) rfl rfl Z61 ?_
    with_reducible refine (r8applies.calls ((qa l0 x10_1).f0) ((qa l0 x10_1).f1) ((qa l0 x10_1).f2) ((qa l0 x10_1).f3) ((qa l0 x10_1).f4) ((qa l0 x10_1).f5) ((qa l0 x10_1).f6) ((qa l0 x10_1).f7) ((qa l0 x10_1).f8) a1_0 a1_1 a1_2 a1_3 a1_4 a1_5 true _ A7.out).mono ?_
    rintro e w15 ⟨rfl, hb⟩
    refine ⟨_, rfl, ?_⟩
    have n0_ := bb BK165 hb
    have n1_ := bb BK167 hb
    have n2_ := qb.mk (qd Z50 hb)
    clear BK165 BK167 HB
    have BK165 := n0_
    have BK167 := n1_
    have HB := n2_
    clear n0_ n1_ n2_
    (try clear hb)
    (try clear hb2)
    (try clear hk)
    (try clear hi)
    refine hK.out _ _ (bn9 BK167.out (bl6 BK165.out)) (fun hHeld => ?_)
    clear hK K
    refine norm_ (a' := ?_) ?_ ?_
    rotate_left
    ·show Act.put _ (some 17) _ = _
     simp only [Act.put, sT, s0, s1, qr, qt]
     rfl
    refine pure_ (i := 3) (N := some 18) (v := ?_) (a' := ?_) #[true, true, true, true, false, false, false, false, false, false, false, false, false, false, false, false] rfl rfl (qy HT_.out (by kernel_rfl)) (fun _ _ _ h => h) (Or.inl ⟨by rfl, ?_⟩) ?_ ?_
    rotate_left
    ·intro w'
     go_simp
     with_reducible rfl
    rotate_left
    ·simp only [Act.put, sT, s0, s1, qr, qt]
     rfl
    refine pure_ (i := 4) (N := some 19) (v := ?_) (a' := ?_) #[true, true, true, true, true, false, false, false, false, false, false, false, false, false, false, false] rfl rfl (qy HT_.out (by kernel_rfl)) (fun _ _ _ h => h) (Or.inl ⟨by rfl, ?_⟩) ?_ ?_
    rotate_left
    ·intro w'
     go_simp
     with_reducible rfl
    rotate_left
    ·simp only [Act.put, sT, s0, s1, qr, qt]
     rfl
    refine pure_ (i := 5) (N := some 20) (v := ?_) (a' := ?_) #[true, true, true, true, true, true, false, false, false, false, false, false, false, false, false, false] rfl rfl (qy HT_.out (by kernel_rfl)) (fun _ _ _ h => h) (Or.inl ⟨by rfl, ?_⟩) ?_ ?_
    rotate_left
    ·intro w'
     go_simp
     with_reducible rfl
    rotate_left
    ·simp only [Act.put, sT, s0, s1, qr, qt]
     rfl
    refine pure_ (i := 6) (N := some 21) (v := ?_) (a' := ?_) #[true, true, true, true, true, true, true, false, false, false, false, false, false, false, false, false] rfl rfl (qy HT_.out (by kernel_rfl)) (fun _ _ _ h => h) (Or.inl ⟨by rfl, ?_⟩) ?_ ?_
    rotate_left
    ·intro w'
     go_simp
     with_reducible rfl
    rotate_left
    ·simp only [Act.put, sT, s0, s1, qr, qt]
     rfl
    refine pure_ (i := 7) (N := some 22) (v := undef) (a' := ?_) #[true, true, true, true, true, true, true, true, false, false, false, false, false, false, false, false] rfl rfl (qy HT_.out (by kernel_rfl)) (fun _ _ _ h => h) (Or.inr ⟨by rfl, rfl⟩) ?_ ?_
    rotate_left
    ·simp only [Act.put, sT, s0, s1, qr, qt]
     rfl
    refine pure_ (i := 8) (N := some 23) (v := undef) (a' := ?_) #[true, true, true, true, true, true, true, true, true, false, false, false, false, false, false, false] rfl rfl (qy HT_.out (by kernel_rfl)) (fun _ _ _ h => h) (Or.inr ⟨by rfl, rfl⟩) ?_ ?_
    rotate_left
    ·simp only [Act.put, sT, s0, s1, qr, qt]
     rfl
    refine pure_ (i := 9) (N := some 24) (v := undef) (a' := ?_) #[true, true, true, true, true, true, true, true, true, true, false, false, false, false, false, false] rfl rfl (qy HT_.out (by kernel_rfl)) (fun _ _ _ h => h) (Or.inr ⟨by rfl, rfl⟩) ?_ ?_
    rotate_left
    ·simp only [Act.put, sT, s0, s1, qr, qt]
     rfl
    refine pure_ (i := 10) (N := some 25) (v := undef) (a' := ?_) #[true, true, true, true, true, true, true, true, true, true, true, false, false, false, false, false] rfl rfl (qy HT_.out (by kernel_rfl)) (fun _ _ _ h => h) (Or.inr ⟨by rfl, rfl⟩) ?_ ?_
    rotate_left
    ·simp only [Act.put, sT, s0, s1, qr, qt]
     rfl
    refine pure_ (i := 11) (N := some 26) (v := undef) (a' := ?_) #[true, true, true, true, true, true, true, true, true, true, true, true, false, false, false, false] rfl rfl (qy HT_.out (by kernel_rfl)) (fun _ _ _ h => h) (Or.inr ⟨by rfl, rfl⟩) ?_ ?_
    rotate_left
    ·simp only [Act.put, sT, s0, s1, qr, qt]
     rfl
    refine pure_ (i := 12) (N := some 27) (v := undef) (a' := ?_) #[true, true, true, true, true, true, true, true, true, true, true, true, true, false, false, false] rfl rfl (qy HT_.out (by kernel_rfl)) (fun _ _ _ h => h) (Or.inr ⟨by rfl, rfl⟩) ?_ ?_
    rotate_left
    ·simp only [Act.put, sT, s0, s1, qr, qt]
     rfl
    refine pure_ (i := 13) (N := some 28) (v := undef) (a' := ?_) #[true, true, true, true, true, true, true, true, true, true, true, true, true, true, false, false] rfl rfl (qy HT_.out (by kernel_rfl)) (fun _ _ _ h => h) (Or.inr ⟨by rfl, rfl⟩) ?_ ?_
    rotate_left
    ·simp only [Act.put, sT, s0, s1, qr, qt]
     rfl
    refine pure_ (i := 14) (N := some 29) (v := ?_) (a' := ?_) #[true, true, true, true, true, true, true, true, true, true, true, true, true, true, true, false] rfl rfl (qy HT_.out (by kernel_rfl)) (fun _ _ _ h => h) (Or.inl ⟨by rfl, ?_⟩) ?_ ?_
    rotate_left
    ·intro w'
     go_simp
     with_reducible rfl
    rotate_left
    ·simp only [Act.put, sT, s0, s1, qr, qt]
     rfl
    refine pure_ (i := 15) (N := some 30) (v := ?_) (a' := ?_) #[true, true, true, true, true, true, true, true, true, true, true, true, true, true, true, true] rfl rfl (qy HT_.out (by kernel_rfl)) (fun _ _ _ h => h) (Or.inl ⟨by rfl, ?_⟩) ?_ ?_
    rotate_left
    ·intro w'
     go_simp
     with_reducible rfl
    rotate_left
    ·simp only [Act.put, sT, s0, s1, qr, qt]
     rfl
    refine done_ (done_of HT_.out (by kernel_rfl)) ?_
    try go_wp2
    go_roundg k1
    case measure => have := HK1.out; omega
    case rel => exact ⟨(x10_1), (wrap64 (x10_1 + 1)), qD, qD, H', ⟨Z157⟩, ⟨Z109⟩, ⟨Z50⟩⟩
   rw [if_neg c9] at H
   have c9b0 : decide (x5_1 < 0) = false := decide_eq_false c9
   clear c9
   by_cases c16 : 0 ≤ x5_1
   case neg =>
    rw [if_neg c16] at H
    exact absurd H (by simp)
   rw [if_pos c16] at H
   have c16b0 : decide (0 ≤ x5_1) = true := decide_eq_true c16
   clear c16
   by_cases c17 : x5_1 < (l0.length : Int)
   case neg =>
    rw [if_neg c17] at H
    exact absurd H (by simp)
   rw [if_pos c17] at H
   have c17b0 : decide (x5_1 < (l0.length : Int)) = true := decide_eq_true c17
   clear c17
   replace H := Option.bind_eq_some_iff.mp H
   obtain ⟨t170, A180, H⟩ := H
   replace H : (if t170 < 0 then (r8find.l0 k1 l0 x10_1 l0 (l0.length : Int) (wrap64 (x10_1 + 1)) a1_0 a1_1 a1_2 a1_3 a1_4 a1_5) else (r8find.l0 k1 l0 x5_1 l0 (l0.length : Int) (wrap64 (x10_1 + 1)) a1_0 a1_1 a1_2 a1_3 a1_4 a1_5)) = some r := H
   have A18 := qb.mk A180
   clear A180
   by_cases c19 : t170 < 0
   case pos =>
    rw [if_pos c19] at H
    have c19b0 : decide (t170 < 0) = true := decide_eq_true c19
    clear c19
    have H' := qb.mk H
    clear H
    have p166 : 0 ≤ (x10_1 : Int) := of_decide_eq_true qB
    have q166 : x10_1 < (l0.length : Int) := of_decide_eq_true qB
    obtain ⟨ad166, e166, hx166_0, hx166_1, hx166_2, hx166_3, hx166_4, hx166_5, hx166_6, hx166_7, hx166_8⟩ := at_T53 HR0.out x10_1 p166 q166
    cases e166
    replace hx166_0 := bx HB hx166_0
    replace hx166_1 := bx HB hx166_1
    replace hx166_2 := bx HB hx166_2
    replace hx166_3 := bx HB hx166_3
    replace hx166_4 := bx HB hx166_4
    replace hx166_5 := bx HB hx166_5
    replace hx166_6 := bx HB hx166_6
    replace hx166_7 := bx HB hx166_7
    replace hx166_8 := bx HB hx166_8
    replace p166 := eq_true p166
    replace q166 := eq_true q166
    try go_wp2_with (first | ((with_reducible refine qi (N := 7) rfl ?_); refine qh ?hg (N := 7) ?hd (cs := #[.string (⟨#[]⟩ : ByteArray), .string (⟨#[]⟩ : ByteArray), .string (⟨#[]⟩ : ByteArray), .string (⟨#[]⟩ : ByteArray), .int .i64 0, .int .i64 0, .bool false, .int .i64 0, .bool false]) (t := 53) ?hr ?_; (case hd => rfl); (case hg => rfl); (case hr => exact qC); intro gb167 hg w20 hbox hb; have n0_ := bb BK165 hb; have n1_ := qb.mk (qd Z77 hb); have n2_ := qb.mk (hbox); have n3_ := qb.mk ((Z41 : w.heap.size ≤ gb167)); have n4_ := n3_; have n5_ := qb.mk ((by rw [hg]; exact Nat.ne_of_lt (bt_ BK165) : gb165 ≠ gb167)); have n6_ := qb.mk ((by rw [hg]; exact Nat.ne_of_gt (bt_ BK165) : gb167 ≠ gb165)); clear BK165 HB; have BK165 := n0_; have HB := n1_; have BK167 := n2_; have GW167 := n3_; have GE167 := n4_; have NB165_167 := n5_; have NB167_165 := n6_; clear n0_ n1_ n2_ n3_ n4_ n5_ n6_; clear hb hbox hg; have hnb21 := NB167_165.out; have hnc21 := NB165_167.out; obtain ⟨yc22_0, yc22_1, yc22_2, yc22_3, yc22_4, yc22_5, yc22_6, yc22_7, yc22_8, yf22_0, yf22_1, yf22_2, yf22_3, yf22_4, yf22_5, yf22_6, yf22_7, yf22_8⟩ := bf9 BK167.out))
    obtain ⟨w23, hw23⟩ : ∃ x, x = (((((((((w20.setCell ⟨gb167, 0, none⟩ (.string ((qa l0 x10_1).f0))).setCell ⟨gb167, 1, none⟩ (.string ((qa l0 x10_1).f1))).setCell ⟨gb167, 2, none⟩ (.string ((qa l0 x10_1).f2))).setCell ⟨gb167, 3, none⟩ (.string ((qa l0 x10_1).f3))).setCell ⟨gb167, 4, none⟩ (.int .i64 ((qa l0 x10_1).f4))).setCell ⟨gb167, 5, none⟩ (.int .i64 ((qa l0 x10_1).f5))).setCell ⟨gb167, 6, none⟩ (.bool ((qa l0 x10_1).f6))).setCell ⟨gb167, 7, none⟩ (.int .i64 ((qa l0 x10_1).f7))).setCell ⟨gb167, 8, none⟩ (.bool ((qa l0 x10_1).f8))) := ⟨_, rfl⟩
    have n0_ : qb (w23.heap[gb165]? = some (.cells #[.string a1_0, .string a1_1, .string a1_2, .string a1_3, .int .i64 a1_4, .bool a1_5] 25 (0, 0))) := ⟨by rw [hw23]; (with_reducible repeat (first | refine qn ?_ _ | refine qm ?_ | refine ql ?_ _)); refine far9 ?_ NB165_167.out; (with_reducible repeat (first | refine qn ?_ _ | refine qm ?_ | refine ql ?_ _)); exact BK165.out⟩
    have n1_ : qb (w23.heap[gb167]? = some (.cells #[.string ((qa l0 x10_1).f0), .string ((qa l0 x10_1).f1), .string ((qa l0 x10_1).f2), .string ((qa l0 x10_1).f3), .int .i64 ((qa l0 x10_1).f4), .int .i64 ((qa l0 x10_1).f5), .bool ((qa l0 x10_1).f6), .int .i64 ((qa l0 x10_1).f7), .bool ((qa l0 x10_1).f8)] 53 (0, 0))) := ⟨by rw [hw23]; (with_reducible repeat (first | refine qn ?_ _ | refine qm ?_ | refine ql ?_ _)); apply put9; (with_reducible repeat (first | refine qn ?_ _ | refine qm ?_ | refine ql ?_ _)); exact BK167.out⟩
    have n2_ : qb (Below w.heap.size w w23) := ⟨by rw [hw23]; repeat (first | (with_reducible first | exact HB.out | apply qp | apply qj | apply qo | refine qq ?_ GE165.out | refine qq ?_ GE167.out) | exact HB.out)⟩
    (try clear BK165)
    (try clear BK167)
    (try clear HB)
    rw [← hw23]; clear hw23
    have BK165 := n0_
    have BK167 := n1_
    have HB := n2_
    clear n0_ n1_ n2_
    have n0_ := qb.mk (qm BK165.out)
    have n1_ := qb.mk (qm BK167.out)
    have n2_ := qb.mk (qo HB.out)
    clear BK165 BK167 HB
    have BK165 := n0_
    have BK167 := n1_
    have HB := n2_
    clear n0_ n1_ n2_
    have p169 : 0 ≤ (x5_1 : Int) := of_decide_eq_true qB
    have q169 : x5_1 < (l0.length : Int) := of_decide_eq_true qB
    obtain ⟨ad169, e169, hx169_0, hx169_1, hx169_2, hx169_3, hx169_4, hx169_5, hx169_6, hx169_7, hx169_8⟩ := at_T53 HR0.out x5_1 p169 q169
    have hw169_8 := hx169_8
    have hw169_7 := hx169_7
    have hw169_6 := hx169_6
    have hw169_5 := hx169_5
    have hw169_4 := hx169_4
    have hw169_3 := hx169_3
    have hw169_2 := hx169_2
    have hw169_1 := hx169_1
    have hw169_0 := hx169_0
    obtain rfl : ad166 = ad169 := (by injection e169)
    replace hx169_0 := bx HB hx169_0
    replace hx169_1 := bx HB hx169_1
    replace hx169_2 := bx HB hx169_2
    replace hx169_3 := bx HB hx169_3
    replace hx169_4 := bx HB hx169_4
    replace hx169_5 := bx HB hx169_5
    replace hx169_6 := bx HB hx169_6
    replace hx169_7 := bx HB hx169_7
    replace hx169_8 := bx HB hx169_8
    replace p169 := eq_true p169
    replace q169 := eq_true q169
    refine start_ (n := 16) (S := fun w' => w'.cell? ⟨gb167, 0, none⟩ = some (.string ((qa l0 x10_1).f0)) ∧ w'.cell? ⟨gb167, 1, none⟩ = some (.string ((qa l0 x10_1).f1)) ∧ w'.cell? ⟨gb167, 2, none⟩ = some (.string ((qa l0 x10_1).f2)) ∧ w'.cell? ⟨gb167, 3, none⟩ = some (.string ((qa l0 x10_1).f3)) ∧ w'.cell? ⟨gb167, 4, none⟩ = some (.int .i64 ((qa l0 x10_1).f4)) ∧ w'.cell? ⟨gb167, 5, none⟩ = some (.int .i64 ((qa l0 x10_1).f5)) ∧ w'.cell? ⟨gb167, 6, none⟩ = some (.bool ((qa l0 x10_1).f6)) ∧ w'.cell? ⟨gb167, 7, none⟩ = some (.int .i64 ((qa l0 x10_1).f7)) ∧ w'.cell? ⟨gb167, 8, none⟩ = some (.bool ((qa l0 x10_1).f8)) ∧ w'.cell? ⟨gb165, 0, none⟩ = some (.string a1_0) ∧ w'.cell? ⟨gb165, 1, none⟩ = some (.string a1_1) ∧ w'.cell? ⟨gb165, 2, none⟩ = some (.string a1_2) ∧ w'.cell? ⟨gb165, 3, none⟩ = some (.string a1_3) ∧ w'.cell? ⟨gb165, 4, none⟩ = some (.int .i64 a1_4) ∧ w'.cell? ⟨gb165, 5, none⟩ = some (.bool a1_5) ∧ w'.cell? (ad166.add ((x5_1).toNat * 9)) = some (.string ((qa l0 x5_1).f0)) ∧ w'.cell? ⟨(ad166.add ((x5_1).toNat * 9)).block, (ad166.add ((x5_1).toNat * 9)).off + 1, none⟩ = some (.string ((qa l0 x5_1).f1)) ∧ w'.cell? ⟨(ad166.add ((x5_1).toNat * 9)).block, (ad166.add ((x5_1).toNat * 9)).off + 2, none⟩ = some (.string ((qa l0 x5_1).f2)) ∧ w'.cell? ⟨(ad166.add ((x5_1).toNat * 9)).block, (ad166.add ((x5_1).toNat * 9)).off + 3, none⟩ = some (.string ((qa l0 x5_1).f3)) ∧ w'.cell? ⟨(ad166.add ((x5_1).toNat * 9)).block, (ad166.add ((x5_1).toNat * 9)).off + 4, none⟩ = some (.int .i64 ((qa l0 x5_1).f4)) ∧ w'.cell? ⟨(ad166.add ((x5_1).toNat * 9)).block, (ad166.add ((x5_1).toNat * 9)).off + 5, none⟩ = some (.int .i64 ((qa l0 x5_1).f5)) ∧ w'.cell? ⟨(ad166.add ((x5_1).toNat * 9)).block, (ad166.add ((x5_1).toNat * 9)).off + 6, none⟩ = some (.bool ((qa l0 x5_1).f6)) ∧ w'.cell? ⟨(ad166.add ((x5_1).toNat * 9)).block, (ad166.add ((x5_1).toNat * 9)).off + 7, none⟩ = some (.int .i64 ((qa l0 x5_1).f7)) ∧ w'.cell? ⟨(ad166.add ((x5_1).toNat * 9)).block, (ad166.add ((x5_1).toNat * 9)).off + 8, none⟩ = some (.bool ((qa l0 x5_1).f8))) (ds := []) #[false, false, false, false, false, false, false, false, false, false, false, false, false, false, false, false] (by kernel_rfl) rfl rfl ⟨(qc BK167.out 0).trans rfl, (qc BK167.out 1).trans rfl, (qc BK167.out 2).trans rfl, (qc BK167.out 3).trans rfl, (qc BK167.out 4).trans rfl, (qc BK167.out 5).trans rfl, (qc BK167.out 6).trans rfl, (qc BK167.out 7).trans rfl, (qc BK167.out 8).trans rfl, (qc BK165.out 0).trans rfl, (qc BK165.out 1).trans rfl, (qc BK165.out 2).trans rfl, (qc BK165.out 3).trans rfl, (qc BK165.out 4).trans rfl, (qc BK165.out 5).trans rfl, (bx HB hw169_0), (bx HB hw169_1), (bx HB hw169_2), (bx HB hw169_3), (bx HB hw169_4), (bx HB hw169_5), (bx HB hw169_6), (bx HB hw169_7), (bx HB hw169_8)⟩ (fun hHeld => ?_); refine with_tabW r8find.tab5 r8find.bits5 (fun HT_ HW_ => ?_)
    generalize w23.drew = w24 at BK165 BK167 HB hx169_0 hx169_1 hx169_2 hx169_3 hx169_4 hx169_5 hx169_6 hx169_7 hx169_8 hHeld ⊢
    refine take_ (i := 0) (N := some 15) (v := ?_) (a' := ?_) #[true, false, false, false, false, false, false, false, false, false, false, false, false, false, false, false] rfl rfl (qE HT_.out HW_.out (by kernel_rfl)) (fun _ _ _ h => h) (Or.inl ⟨by rfl, ?_⟩) hHeld ?_ ?_
    rotate_left
    ·rintro w' ⟨s0, s1, s2, s3, s4, s5, s6, s7, s8, s9, s10, s11, s12, s13, s14, s15, s16, s17, s18, s19, s20, s21, s22, s23⟩
     go_simp
     with_reducible rfl
    rotate_left
    ·simp only [Act.put, sT, s0, s1, qr, qt]
     rfl
    refine take_ (i := 1) (N := some 16) (v := ?_) (a' := ?_) #[true, true, false, false, false, false, false, false, false, false, false, false, false, false, false, false] rfl rfl (qE HT_.out HW_.out (by kernel_rfl)) (fun _ _ _ h => h) (Or.inl ⟨by rfl, ?_⟩) hHeld ?_ ?_
    rotate_left
    ·rintro w' ⟨s0, s1, s2, s3, s4, s5, s6, s7, s8, s9, s10, s11, s12, s13, s14, s15, s16, s17, s18, s19, s20, s21, s22, s23⟩
     go_simp
     with_reducible rfl
    rotate_left
    ·simp only [Act.put, sT, s0, s1, qr, qt]
     rfl
    refine one_ (i := 2) (N := some 17) #[true, true, true, false, false, false, false, false, false, false, false, false, false, false, false, false] rfl rfl (one_of HT_.out (by kernel_rfl)) (by decide) (fun K hK => ?_)
    refine goes_ Tryz.func50 (by kernel_rfl) rfl #[.agg #[.string ((qa l0 x10_1).f0), .string ((qa l0 x10_1).f1), .string ((qa l0 x10_1).f2), .string ((qa l0 x10_1).f3), .int .i64 ((qa l0 x10_1).f4), .int .i64 ((qa l0 x10_1).f5), .bool ((qa l0 x10_1).f6), .int .i64 ((qa l0 x10_1).f7), .bool ((qa l0 x10_1).f8)], .agg #[.string a1_0, .string a1_1, .string a1_2, .string a1_3, .int .i64 a1_4, .bool a1_5]] (by rfl) rfl rfl Z61 ?_
    with_reducible refine (r8applies.calls ((qa l0 x10_1).f0) ((qa l0 x10_1).f1) ((qa l0 x10_1).f2) ((qa l0 x10_1).f3) ((qa l0 x10_1).f4) ((qa l0 x10_1).f5) ((qa l0 x10_1).f6) ((qa l0 x10_1).f7) ((qa l0 x10_1).f8) a1_0 a1_1 a1_2 a1_3 a1_4 a1_5 true _ A7.out).mono ?_
    rintro e w25 ⟨rfl, hb⟩
    refine ⟨_, rfl, ?_⟩
    have n0_ := bb BK165 hb
    have n1_ := bb BK167 hb
    have n2_ := qb.mk (qd Z50 hb)
    clear BK165 BK167 HB
    have BK165 := n0_
    have BK167 := n1_
    have HB := n2_
    clear n0_ n1_ n2_
    (try clear hb)
    (try clear hb2)
    (try clear hk)
    (try clear hi)
    refine hK.out _ _ ⟨(qc BK167.out 0).trans rfl, (qc BK167.out 1).trans rfl, (qc BK167.out 2).trans rfl, (qc BK167.out 3).trans rfl, (qc BK167.out 4).trans rfl, (qc BK167.out 5).trans rfl, (qc BK167.out 6).trans rfl, (qc BK167.out 7).trans rfl, (qc BK167.out 8).trans rfl, (qc BK165.out 0).trans rfl, (qc BK165.out 1).trans rfl, (qc BK165.out 2).trans rfl, (qc BK165.out 3).trans rfl, (qc BK165.out 4).trans rfl, (qc BK165.out 5).trans rfl, (bx HB hw169_0), (bx HB hw169_1), (bx HB hw169_2), (bx HB hw169_3), (bx HB hw169_4), (bx HB hw169_5), (bx HB hw169_6), (bx HB hw169_7), (bx HB hw169_8)⟩ (fun hHeld => ?_)
    clear hK K
    refine norm_ (a' := ?_) ?_ ?_
    rotate_left
    ·show Act.put _ (some 17) _ = _
     simp only [Act.put, sT, s0, s1, qr, qt]
     rfl
    refine pure_ (i := 3) (N := some 18) (v := ?_) (a' := ?_) #[true, true, true, true, false, false, false, false, false, false, false, false, false, false, false, false] rfl rfl (qy HT_.out (by kernel_rfl)) (fun _ _ _ h => h) (Or.inl ⟨by rfl, ?_⟩) ?_ ?_
    rotate_left
    ·intro w'
     go_simp
     with_reducible rfl
    rotate_left
    ·simp only [Act.put, sT, s0, s1, qr, qt]
     rfl
    refine pure_ (i := 4) (N := some 19) (v := ?_) (a' := ?_) #[true, true, true, true, true, false, false, false, false, false, false, false, false, false, false, false] rfl rfl (qy HT_.out (by kernel_rfl)) (fun _ _ _ h => h) (Or.inl ⟨by rfl, ?_⟩) ?_ ?_
    rotate_left
    ·intro w'
     go_simp
     with_reducible rfl
    rotate_left
    ·simp only [Act.put, sT, s0, s1, qr, qt]
     rfl
    refine pure_ (i := 5) (N := some 20) (v := ?_) (a' := ?_) #[true, true, true, true, true, true, false, false, false, false, false, false, false, false, false, false] rfl rfl (qy HT_.out (by kernel_rfl)) (fun _ _ _ h => h) (Or.inl ⟨by rfl, ?_⟩) ?_ ?_
    rotate_left
    ·intro w'
     go_simp
     with_reducible rfl
    rotate_left
    ·simp only [Act.put, sT, s0, s1, qr, qt]
     rfl
    refine pure_ (i := 6) (N := some 21) (v := ?_) (a' := ?_) #[true, true, true, true, true, true, true, false, false, false, false, false, false, false, false, false] rfl rfl (qy HT_.out (by kernel_rfl)) (fun _ _ _ h => h) (Or.inl ⟨by rfl, ?_⟩) ?_ ?_
    rotate_left
    ·intro w'
     go_simp
     with_reducible rfl
    rotate_left
    ·simp only [Act.put, sT, s0, s1, qr, qt]
     rfl
    refine pure_ (i := 8) (N := some 23) (v := ?_) (a' := ?_) #[true, true, true, true, true, true, true, false, true, false, false, false, false, false, false, false] rfl rfl (qy HT_.out (by kernel_rfl)) (fun _ _ _ h => h) (Or.inl ⟨by rfl, ?_⟩) ?_ ?_
    rotate_left
    ·intro w'
     go_simp
     with_reducible rfl
    rotate_left
    ·simp only [Act.put, sT, s0, s1, qr, qt]
     rfl
    refine pure_ (i := 9) (N := some 24) (v := ?_) (a' := ?_) #[true, true, true, true, true, true, true, false, true, true, false, false, false, false, false, false] rfl rfl (qy HT_.out (by kernel_rfl)) (fun _ _ _ h => h) (Or.inl ⟨by rfl, ?_⟩) ?_ ?_
    rotate_left
    ·intro w'
     go_simp
     with_reducible rfl
    rotate_left
    ·simp only [Act.put, sT, s0, s1, qr, qt]
     rfl
    refine pure_ (i := 10) (N := some 25) (v := ?_) (a' := ?_) #[true, true, true, true, true, true, true, false, true, true, true, false, false, false, false, false] rfl rfl (qy HT_.out (by kernel_rfl)) (fun _ _ _ h => h) (Or.inl ⟨by rfl, ?_⟩) ?_ ?_
    rotate_left
    ·intro w'
     go_simp
     with_reducible rfl
    rotate_left
    ·simp only [Act.put, sT, s0, s1, qr, qt]
     rfl
    refine take_ (i := 7) (N := some 22) (v := ?_) (a' := ?_) #[true, true, true, true, true, true, true, true, true, true, true, false, false, false, false, false] rfl rfl (qE HT_.out HW_.out (by kernel_rfl)) (fun _ _ _ h => h) (Or.inl ⟨by rfl, ?_⟩) hHeld ?_ ?_
    rotate_left
    ·rintro w' ⟨s0, s1, s2, s3, s4, s5, s6, s7, s8, s9, s10, s11, s12, s13, s14, s15, s16, s17, s18, s19, s20, s21, s22, s23⟩
     go_simp
     with_reducible rfl
    rotate_left
    ·simp only [Act.put, sT, s0, s1, qr, qt]
     rfl
    refine take_ (i := 11) (N := some 26) (v := ?_) (a' := ?_) #[true, true, true, true, true, true, true, true, true, true, true, true, false, false, false, false] rfl rfl (qE HT_.out HW_.out (by kernel_rfl)) (fun _ _ _ h => h) (Or.inl ⟨by rfl, ?_⟩) hHeld ?_ ?_
    rotate_left
    ·rintro w' ⟨s0, s1, s2, s3, s4, s5, s6, s7, s8, s9, s10, s11, s12, s13, s14, s15, s16, s17, s18, s19, s20, s21, s22, s23⟩
     go_simp
     with_reducible rfl
    rotate_left
    ·simp only [Act.put, sT, s0, s1, qr, qt]
     rfl
    refine one_ (i := 12) (N := some 27) #[true, true, true, true, true, true, true, true, true, true, true, true, true, false, false, false] rfl rfl (one_of HT_.out (by kernel_rfl)) (by decide) (fun K hK => ?_)
    refine goes_ Tryz.func51 (by kernel_rfl) rfl #[.agg #[.string ((qa l0 x10_1).f0), .string ((qa l0 x10_1).f1), .string ((qa l0 x10_1).f2), .string ((qa l0 x10_1).f3), .int .i64 ((qa l0 x10_1).f4), .int .i64 ((qa l0 x10_1).f5), .bool ((qa l0 x10_1).f6), .int .i64 ((qa l0 x10_1).f7), .bool ((qa l0 x10_1).f8)], .agg #[.string ((qa l0 x5_1).f0), .string ((qa l0 x5_1).f1), .string ((qa l0 x5_1).f2), .string ((qa l0 x5_1).f3), .int .i64 ((qa l0 x5_1).f4), .int .i64 ((qa l0 x5_1).f5), .bool ((qa l0 x5_1).f6), .int .i64 ((qa l0 x5_1).f7), .bool ((qa l0 x5_1).f8)]] (by rfl) rfl rfl Z61 ?_
    with_reducible refine (r8better.calls k1 ((qa l0 x10_1).f0) ((qa l0 x10_1).f1) ((qa l0 x10_1).f2) ((qa l0 x10_1).f3) ((qa l0 x10_1).f4) ((qa l0 x10_1).f5) ((qa l0 x10_1).f6) ((qa l0 x10_1).f7) ((qa l0 x10_1).f8) ((qa l0 x5_1).f0) ((qa l0 x5_1).f1) ((qa l0 x5_1).f2) ((qa l0 x5_1).f3) ((qa l0 x5_1).f4) ((qa l0 x5_1).f5) ((qa l0 x5_1).f6) ((qa l0 x5_1).f7) ((qa l0 x5_1).f8) t170 _ A18.out).mono ?_
    rintro e w26 ⟨rfl, hb⟩
    refine ⟨_, rfl, ?_⟩
    have n0_ := bb BK165 hb
    have n1_ := bb BK167 hb
    have n2_ := qb.mk (qd Z50 hb)
    clear BK165 BK167 HB
    have BK165 := n0_
    have BK167 := n1_
    have HB := n2_
    clear n0_ n1_ n2_
    (try clear hb)
    (try clear hb2)
    (try clear hk)
    (try clear hi)
    refine hK.out _ _ ⟨(qc BK167.out 0).trans rfl, (qc BK167.out 1).trans rfl, (qc BK167.out 2).trans rfl, (qc BK167.out 3).trans rfl, (qc BK167.out 4).trans rfl, (qc BK167.out 5).trans rfl, (qc BK167.out 6).trans rfl, (qc BK167.out 7).trans rfl, (qc BK167.out 8).trans rfl, (qc BK165.out 0).trans rfl, (qc BK165.out 1).trans rfl, (qc BK165.out 2).trans rfl, (qc BK165.out 3).trans rfl, (qc BK165.out 4).trans rfl, (qc BK165.out 5).trans rfl, (bx HB hw169_0), (bx HB hw169_1), (bx HB hw169_2), (bx HB hw169_3), (bx HB hw169_4), (bx HB hw169_5), (bx HB hw169_6), (bx HB hw169_7), (bx HB hw169_8)⟩ (fun hHeld => ?_)
    clear hK K
    refine norm_ (a' := ?_) ?_ ?_
    rotate_left
    ·show Act.put _ (some 27) _ = _
     simp only [Act.put, sT, s0, s1, qr, qt]
     rfl
    refine pure_ (i := 13) (N := some 28) (v := ?_) (a' := ?_) #[true, true, true, true, true, true, true, true, true, true, true, true, true, true, false, false] rfl rfl (qy HT_.out (by kernel_rfl)) (fun _ _ _ h => h) (Or.inl ⟨by rfl, ?_⟩) ?_ ?_
    rotate_left
    ·intro w'
     go_simp
     with_reducible rfl
    rotate_left
    ·simp only [Act.put, sT, s0, s1, qr, qt]
     rfl
    refine pure_ (i := 14) (N := some 29) (v := ?_) (a' := ?_) #[true, true, true, true, true, true, true, true, true, true, true, true, true, true, true, false] rfl rfl (qy HT_.out (by kernel_rfl)) (fun _ _ _ h => h) (Or.inl ⟨by rfl, ?_⟩) ?_ ?_
    rotate_left
    ·intro w'
     go_simp
     with_reducible rfl
    rotate_left
    ·simp only [Act.put, sT, s0, s1, qr, qt]
     rfl
    refine pure_ (i := 15) (N := some 30) (v := ?_) (a' := ?_) #[true, true, true, true, true, true, true, true, true, true, true, true, true, true, true, true] rfl rfl (qy HT_.out (by kernel_rfl)) (fun _ _ _ h => h) (Or.inl ⟨by rfl, ?_⟩) ?_ ?_
    rotate_left
    ·intro w'
     go_simp
     with_reducible rfl
    rotate_left
    ·simp only [Act.put, sT, s0, s1, qr, qt]
     rfl
    refine done_ (done_of HT_.out (by kernel_rfl)) ?_
    try go_wp2
    go_roundg k1
    case measure => have := HK1.out; omega
    case rel => exact ⟨(x10_1), (wrap64 (x10_1 + 1)), qD, qD, H', ⟨Z157⟩, ⟨Z109⟩, ⟨Z50⟩⟩
   rw [if_neg c19] at H
   have c19b0 : decide (t170 < 0) = false := decide_eq_false c19
   clear c19
   have H' := qb.mk H
   clear H
   have p166 : 0 ≤ (x10_1 : Int) := of_decide_eq_true qB
   have q166 : x10_1 < (l0.length : Int) := of_decide_eq_true qB
   obtain ⟨ad166, e166, hx166_0, hx166_1, hx166_2, hx166_3, hx166_4, hx166_5, hx166_6, hx166_7, hx166_8⟩ := at_T53 HR0.out x10_1 p166 q166
   cases e166
   replace hx166_0 := bx HB hx166_0
   replace hx166_1 := bx HB hx166_1
   replace hx166_2 := bx HB hx166_2
   replace hx166_3 := bx HB hx166_3
   replace hx166_4 := bx HB hx166_4
   replace hx166_5 := bx HB hx166_5
   replace hx166_6 := bx HB hx166_6
   replace hx166_7 := bx HB hx166_7
   replace hx166_8 := bx HB hx166_8
   replace p166 := eq_true p166
   replace q166 := eq_true q166
   try go_wp2_with (first | ((with_reducible refine qi (N := 7) rfl ?_); refine qh ?hg (N := 7) ?hd (cs := #[.string (⟨#[]⟩ : ByteArray), .string (⟨#[]⟩ : ByteArray), .string (⟨#[]⟩ : ByteArray), .string (⟨#[]⟩ : ByteArray), .int .i64 0, .int .i64 0, .bool false, .int .i64 0, .bool false]) (t := 53) ?hr ?_; (case hd => rfl); (case hg => rfl); (case hr => exact qC); intro gb167 hg w27 hbox hb; have n0_ := bb BK165 hb; have n1_ := qb.mk (qd Z77 hb); have n2_ := qb.mk (hbox); have n3_ := qb.mk ((Z41 : w.heap.size ≤ gb167)); have n4_ := n3_; have n5_ := qb.mk ((by rw [hg]; exact Nat.ne_of_lt (bt_ BK165) : gb165 ≠ gb167)); have n6_ := qb.mk ((by rw [hg]; exact Nat.ne_of_gt (bt_ BK165) : gb167 ≠ gb165)); clear BK165 HB; have BK165 := n0_; have HB := n1_; have BK167 := n2_; have GW167 := n3_; have GE167 := n4_; have NB165_167 := n5_; have NB167_165 := n6_; clear n0_ n1_ n2_ n3_ n4_ n5_ n6_; clear hb hbox hg; have hnb28 := NB167_165.out; have hnc28 := NB165_167.out; obtain ⟨yc29_0, yc29_1, yc29_2, yc29_3, yc29_4, yc29_5, yc29_6, yc29_7, yc29_8, yf29_0, yf29_1, yf29_2, yf29_3, yf29_4, yf29_5, yf29_6, yf29_7, yf29_8⟩ := bf9 BK167.out))
   obtain ⟨w30, hw30⟩ : ∃ x, x = (((((((((w27.setCell ⟨gb167, 0, none⟩ (.string ((qa l0 x10_1).f0))).setCell ⟨gb167, 1, none⟩ (.string ((qa l0 x10_1).f1))).setCell ⟨gb167, 2, none⟩ (.string ((qa l0 x10_1).f2))).setCell ⟨gb167, 3, none⟩ (.string ((qa l0 x10_1).f3))).setCell ⟨gb167, 4, none⟩ (.int .i64 ((qa l0 x10_1).f4))).setCell ⟨gb167, 5, none⟩ (.int .i64 ((qa l0 x10_1).f5))).setCell ⟨gb167, 6, none⟩ (.bool ((qa l0 x10_1).f6))).setCell ⟨gb167, 7, none⟩ (.int .i64 ((qa l0 x10_1).f7))).setCell ⟨gb167, 8, none⟩ (.bool ((qa l0 x10_1).f8))) := ⟨_, rfl⟩
   have n0_ : qb (w30.heap[gb165]? = some (.cells #[.string a1_0, .string a1_1, .string a1_2, .string a1_3, .int .i64 a1_4, .bool a1_5] 25 (0, 0))) := ⟨by rw [hw30]; (with_reducible repeat (first | refine qn ?_ _ | refine qm ?_ | refine ql ?_ _)); refine far9 ?_ NB165_167.out; (with_reducible repeat (first | refine qn ?_ _ | refine qm ?_ | refine ql ?_ _)); exact BK165.out⟩
   have n1_ : qb (w30.heap[gb167]? = some (.cells #[.string ((qa l0 x10_1).f0), .string ((qa l0 x10_1).f1), .string ((qa l0 x10_1).f2), .string ((qa l0 x10_1).f3), .int .i64 ((qa l0 x10_1).f4), .int .i64 ((qa l0 x10_1).f5), .bool ((qa l0 x10_1).f6), .int .i64 ((qa l0 x10_1).f7), .bool ((qa l0 x10_1).f8)] 53 (0, 0))) := ⟨by rw [hw30]; (with_reducible repeat (first | refine qn ?_ _ | refine qm ?_ | refine ql ?_ _)); apply put9; (with_reducible repeat (first | refine qn ?_ _ | refine qm ?_ | refine ql ?_ _)); exact BK167.out⟩
   have n2_ : qb (Below w.heap.size w w30) := ⟨by rw [hw30]; repeat (first | (with_reducible first | exact HB.out | apply qp | apply qj | apply qo | refine qq ?_ GE165.out | refine qq ?_ GE167.out) | exact HB.out)⟩
   (try clear BK165)
   (try clear BK167)
   (try clear HB)
   rw [← hw30]; clear hw30
   have BK165 := n0_
   have BK167 := n1_
   have HB := n2_
   clear n0_ n1_ n2_
   have n0_ := qb.mk (qm BK165.out)
   have n1_ := qb.mk (qm BK167.out)
   have n2_ := qb.mk (qo HB.out)
   clear BK165 BK167 HB
   have BK165 := n0_
   have BK167 := n1_
   have HB := n2_
   clear n0_ n1_ n2_
   have p169 : 0 ≤ (x5_1 : Int) := of_decide_eq_true qB
   have q169 : x5_1 < (l0.length : Int) := of_decide_eq_true qB
   obtain ⟨ad169, e169, hx169_0, hx169_1, hx169_2, hx169_3, hx169_4, hx169_5, hx169_6, hx169_7, hx169_8⟩ := at_T53 HR0.out x5_1 p169 q169
   have hw169_8 := hx169_8
   have hw169_7 := hx169_7
   have hw169_6 := hx169_6
   have hw169_5 := hx169_5
   have hw169_4 := hx169_4
   have hw169_3 := hx169_3
   have hw169_2 := hx169_2
   have hw169_1 := hx169_1
   have hw169_0 := hx169_0
   obtain rfl : ad166 = ad169 := (by injection e169)
   replace hx169_0 := bx HB hx169_0
   replace hx169_1 := bx HB hx169_1
   replace hx169_2 := bx HB hx169_2
   replace hx169_3 := bx HB hx169_3
   replace hx169_4 := bx HB hx169_4
   replace hx169_5 := bx HB hx169_5
   replace hx169_6 := bx HB hx169_6
   replace hx169_7 := bx HB hx169_7
   replace hx169_8 := bx HB hx169_8
   replace p169 := eq_true p169
   replace q169 := eq_true q169
   refine start_ (n := 16) (S := fun w' => w'.cell? ⟨gb167, 0, none⟩ = some (.string ((qa l0 x10_1).f0)) ∧ w'.cell? ⟨gb167, 1, none⟩ = some (.string ((qa l0 x10_1).f1)) ∧ w'.cell? ⟨gb167, 2, none⟩ = some (.string ((qa l0 x10_1).f2)) ∧ w'.cell? ⟨gb167, 3, none⟩ = some (.string ((qa l0 x10_1).f3)) ∧ w'.cell? ⟨gb167, 4, none⟩ = some (.int .i64 ((qa l0 x10_1).f4)) ∧ w'.cell? ⟨gb167, 5, none⟩ = some (.int .i64 ((qa l0 x10_1).f5)) ∧ w'.cell? ⟨gb167, 6, none⟩ = some (.bool ((qa l0 x10_1).f6)) ∧ w'.cell? ⟨gb167, 7, none⟩ = some (.int .i64 ((qa l0 x10_1).f7)) ∧ w'.cell? ⟨gb167, 8, none⟩ = some (.bool ((qa l0 x10_1).f8)) ∧ w'.cell? ⟨gb165, 0, none⟩ = some (.string a1_0) ∧ w'.cell? ⟨gb165, 1, none⟩ = some (.string a1_1) ∧ w'.cell? ⟨gb165, 2, none⟩ = some (.string a1_2) ∧ w'.cell? ⟨gb165, 3, none⟩ = some (.string a1_3) ∧ w'.cell? ⟨gb165, 4, none⟩ = some (.int .i64 a1_4) ∧ w'.cell? ⟨gb165, 5, none⟩ = some (.bool a1_5) ∧ w'.cell? (ad166.add ((x5_1).toNat * 9)) = some (.string ((qa l0 x5_1).f0)) ∧ w'.cell? ⟨(ad166.add ((x5_1).toNat * 9)).block, (ad166.add ((x5_1).toNat * 9)).off + 1, none⟩ = some (.string ((qa l0 x5_1).f1)) ∧ w'.cell? ⟨(ad166.add ((x5_1).toNat * 9)).block, (ad166.add ((x5_1).toNat * 9)).off + 2, none⟩ = some (.string ((qa l0 x5_1).f2)) ∧ w'.cell? ⟨(ad166.add ((x5_1).toNat * 9)).block, (ad166.add ((x5_1).toNat * 9)).off + 3, none⟩ = some (.string ((qa l0 x5_1).f3)) ∧ w'.cell? ⟨(ad166.add ((x5_1).toNat * 9)).block, (ad166.add ((x5_1).toNat * 9)).off + 4, none⟩ = some (.int .i64 ((qa l0 x5_1).f4)) ∧ w'.cell? ⟨(ad166.add ((x5_1).toNat * 9)).block, (ad166.add ((x5_1).toNat * 9)).off + 5, none⟩ = some (.int .i64 ((qa l0 x5_1).f5)) ∧ w'.cell? ⟨(ad166.add ((x5_1).toNat * 9)).block, (ad166.add ((x5_1).toNat * 9)).off + 6, none⟩ = some (.bool ((qa l0 x5_1).f6)) ∧ w'.cell? ⟨(ad166.add ((x5_1).toNat * 9)).block, (ad166.add ((x5_1).toNat * 9)).off + 7, none⟩ = some (.int .i64 ((qa l0 x5_1).f7)) ∧ w'.cell? ⟨(ad166.add ((x5_1).toNat * 9)).block, (ad166.add ((x5_1).toNat * 9)).off + 8, none⟩ = some (.bool ((qa l0 x5_1).f8))) (ds := []) #[false, false, false, false, false, false, false, false, false, false, false, false, false, false, false, false] (by kernel_rfl) rfl rfl ⟨(qc BK167.out 0).trans rfl, (qc BK167.out 1).trans rfl, (qc BK167.out 2).trans rfl, (qc BK167.out 3).trans rfl, (qc BK167.out 4).trans rfl, (qc BK167.out 5).trans rfl, (qc BK167.out 6).trans rfl, (qc BK167.out 7).trans rfl, (qc BK167.out 8).trans rfl, (qc BK165.out 0).trans rfl, (qc BK165.out 1).trans rfl, (qc BK165.out 2).trans rfl, (qc BK165.out 3).trans rfl, (qc BK165.out 4).trans rfl, (qc BK165.out 5).trans rfl, (bx HB hw169_0), (bx HB hw169_1), (bx HB hw169_2), (bx HB hw169_3), (bx HB hw169_4), (bx HB hw169_5), (bx HB hw169_6), (bx HB hw169_7), (bx HB hw169_8)⟩ (fun hHeld => ?_); refine with_tabW r8find.tab5 r8find.bits5 (fun HT_ HW_ => ?_)
   generalize w30.drew = w31 at BK165 BK167 HB hx169_0 hx169_1 hx169_2 hx169_3 hx169_4 hx169_5 hx169_6 hx169_7 hx169_8 hHeld ⊢
   refine take_ (i := 0) (N := some 15) (v := ?_) (a' := ?_) #[true, false, false, false, false, false, false, false, false, false, false, false, false, false, false, false] rfl rfl (qE HT_.out HW_.out (by kernel_rfl)) (fun _ _ _ h => h) (Or.inl ⟨by rfl, ?_⟩) hHeld ?_ ?_
   rotate_left
   ·rintro w' ⟨s0, s1, s2, s3, s4, s5, s6, s7, s8, s9, s10, s11, s12, s13, s14, s15, s16, s17, s18, s19, s20, s21, s22, s23⟩
    go_simp
    with_reducible rfl
   rotate_left
   ·simp only [Act.put, sT, s0, s1, qr, qt]
    rfl
   refine take_ (i := 1) (N := some 16) (v := ?_) (a' := ?_) #[true, true, false, false, false, false, false, false, false, false, false, false, false, false, false, false] rfl rfl (qE HT_.out HW_.out (by kernel_rfl)) (fun _ _ _ h => h) (Or.inl ⟨by rfl, ?_⟩) hHeld ?_ ?_
   rotate_left
   ·rintro w' ⟨s0, s1, s2, s3, s4, s5, s6, s7, s8, s9, s10, s11, s12, s13, s14, s15, s16, s17, s18, s19, s20, s21, s22, s23⟩
    go_simp
    with_reducible rfl
   rotate_left
   ·simp only [Act.put, sT, s0, s1, qr, qt]
    rfl
   refine one_ (i := 2) (N := some 17) #[true, true, true, false, false, false, false, false, false, false, false, false, false, false, false, false] rfl rfl (one_of HT_.out (by kernel_rfl)) (by decide) (fun K hK => ?_)
   refine goes_ Tryz.func50 (by kernel_rfl) rfl #[.agg #[.string ((qa l0 x10_1).f0), .string ((qa l0 x10_1).f1), .string ((qa l0 x10_1).f2), .string ((qa l0 x10_1).f3), .int .i64 ((qa l0 x10_1).f4), .int .i64 ((qa l0 x10_1).f5), .bool ((qa l0 x10_1).f6), .int .i64 ((qa l0 x10_1).f7), .bool ((qa l0 x10_1).f8)], .agg #[.string a1_0, .string a1_1, .string a1_2, .string a1_3, .int .i64 a1_4, .bool a1_5]] (by rfl) rfl rfl Z61 ?_
   with_reducible refine (r8applies.calls ((qa l0 x10_1).f0) ((qa l0 x10_1).f1) ((qa l0 x10_1).f2) ((qa l0 x10_1).f3) ((qa l0 x10_1).f4) ((qa l0 x10_1).f5) ((qa l0 x10_1).f6) ((qa l0 x10_1).f7) ((qa l0 x10_1).f8) a1_0 a1_1 a1_2 a1_3 a1_4 a1_5 true _ A7.out).mono ?_
   rintro e w32 ⟨rfl, hb⟩
   refine ⟨_, rfl, ?_⟩
   have n0_ := bb BK165 hb
   have n1_ := bb BK167 hb
   have n2_ := qb.mk (qd Z50 hb)
   clear BK165 BK167 HB
   have BK165 := n0_
   have BK167 := n1_
   have HB := n2_
   clear n0_ n1_ n2_
   (try clear hb)
   (try clear hb2)
   (try clear hk)
   (try clear hi)
   refine hK.out _ _ ⟨(qc BK167.out 0).trans rfl, (qc BK167.out 1).trans rfl, (qc BK167.out 2).trans rfl, (qc BK167.out 3).trans rfl, (qc BK167.out 4).trans rfl, (qc BK167.out 5).trans rfl, (qc BK167.out 6).trans rfl, (qc BK167.out 7).trans rfl, (qc BK167.out 8).trans rfl, (qc BK165.out 0).trans rfl, (qc BK165.out 1).trans rfl, (qc BK165.out 2).trans rfl, (qc BK165.out 3).trans rfl, (qc BK165.out 4).trans rfl, (qc BK165.out 5).trans rfl, (bx HB hw169_0), (bx HB hw169_1), (bx HB hw169_2), (bx HB hw169_3), (bx HB hw169_4), (bx HB hw169_5), (bx HB hw169_6), (bx HB hw169_7), (bx HB hw169_8)⟩ (fun hHeld => ?_)
   clear hK K
   refine norm_ (a' := ?_) ?_ ?_
   rotate_left
   ·show Act.put _ (some 17) _ = _
    simp only [Act.put, sT, s0, s1, qr, qt]
    rfl
   refine pure_ (i := 3) (N := some 18) (v := ?_) (a' := ?_) #[true, true, true, true, false, false, false, false, false, false, false, false, false, false, false, false] rfl rfl (qy HT_.out (by kernel_rfl)) (fun _ _ _ h => h) (Or.inl ⟨by rfl, ?_⟩) ?_ ?_
   rotate_left
   ·intro w'
    go_simp
    with_reducible rfl
   rotate_left
   ·simp only [Act.put, sT, s0, s1, qr, qt]
    rfl
   refine pure_ (i := 4) (N := some 19) (v := ?_) (a' := ?_) #[true, true, true, true, true, false, false, false, false, false, false, false, false, false, false, false] rfl rfl (qy HT_.out (by kernel_rfl)) (fun _ _ _ h => h) (Or.inl ⟨by rfl, ?_⟩) ?_ ?_
   rotate_left
   ·intro w'
    go_simp
    with_reducible rfl
   rotate_left
   ·simp only [Act.put, sT, s0, s1, qr, qt]
    rfl
   refine pure_ (i := 5) (N := some 20) (v := ?_) (a' := ?_) #[true, true, true, true, true, true, false, false, false, false, false, false, false, false, false, false] rfl rfl (qy HT_.out (by kernel_rfl)) (fun _ _ _ h => h) (Or.inl ⟨by rfl, ?_⟩) ?_ ?_
   rotate_left
   ·intro w'
    go_simp
    with_reducible rfl
   rotate_left
   ·simp only [Act.put, sT, s0, s1, qr, qt]
    rfl
   refine pure_ (i := 6) (N := some 21) (v := ?_) (a' := ?_) #[true, true, true, true, true, true, true, false, false, false, false, false, false, false, false, false] rfl rfl (qy HT_.out (by kernel_rfl)) (fun _ _ _ h => h) (Or.inl ⟨by rfl, ?_⟩) ?_ ?_
   rotate_left
   ·intro w'
    go_simp
    with_reducible rfl
   rotate_left
   ·simp only [Act.put, sT, s0, s1, qr, qt]
    rfl
   refine pure_ (i := 8) (N := some 23) (v := ?_) (a' := ?_) #[true, true, true, true, true, true, true, false, true, false, false, false, false, false, false, false] rfl rfl (qy HT_.out (by kernel_rfl)) (fun _ _ _ h => h) (Or.inl ⟨by rfl, ?_⟩) ?_ ?_
   rotate_left
   ·intro w'
    go_simp
    with_reducible rfl
   rotate_left
   ·simp only [Act.put, sT, s0, s1, qr, qt]
    rfl
   refine pure_ (i := 9) (N := some 24) (v := ?_) (a' := ?_) #[true, true, true, true, true, true, true, false, true, true, false, false, false, false, false, false] rfl rfl (qy HT_.out (by kernel_rfl)) (fun _ _ _ h => h) (Or.inl ⟨by rfl, ?_⟩) ?_ ?_
   rotate_left
   ·intro w'
    go_simp
    with_reducible rfl
   rotate_left
   ·simp only [Act.put, sT, s0, s1, qr, qt]
    rfl
   refine pure_ (i := 10) (N := some 25) (v := ?_) (a' := ?_) #[true, true, true, true, true, true, true, false, true, true, true, false, false, false, false, false] rfl rfl (qy HT_.out (by kernel_rfl)) (fun _ _ _ h => h) (Or.inl ⟨by rfl, ?_⟩) ?_ ?_
   rotate_left
   ·intro w'
    go_simp
    with_reducible rfl
   rotate_left
   ·simp only [Act.put, sT, s0, s1, qr, qt]
    rfl
   refine take_ (i := 7) (N := some 22) (v := ?_) (a' := ?_) #[true, true, true, true, true, true, true, true, true, true, true, false, false, false, false, false] rfl rfl (qE HT_.out HW_.out (by kernel_rfl)) (fun _ _ _ h => h) (Or.inl ⟨by rfl, ?_⟩) hHeld ?_ ?_
   rotate_left
   ·rintro w' ⟨s0, s1, s2, s3, s4, s5, s6, s7, s8, s9, s10, s11, s12, s13, s14, s15, s16, s17, s18, s19, s20, s21, s22, s23⟩
    go_simp
    with_reducible rfl
   rotate_left
   ·simp only [Act.put, sT, s0, s1, qr, qt]
    rfl
   refine take_ (i := 11) (N := some 26) (v := ?_) (a' := ?_) #[true, true, true, true, true, true, true, true, true, true, true, true, false, false, false, false] rfl rfl (qE HT_.out HW_.out (by kernel_rfl)) (fun _ _ _ h => h) (Or.inl ⟨by rfl, ?_⟩) hHeld ?_ ?_
   rotate_left
   ·rintro w' ⟨s0, s1, s2, s3, s4, s5, s6, s7, s8, s9, s10, s11, s12, s13, s14, s15, s16, s17, s18, s19, s20, s21, s22, s23⟩
    go_simp
    with_reducible rfl
   rotate_left
   ·simp only [Act.put, sT, s0, s1, qr, qt]
    rfl
   refine one_ (i := 12) (N := some 27) #[true, true, true, true, true, true, true, true, true, true, true, true, true, false, false, false] rfl rfl (one_of HT_.out (by kernel_rfl)) (by decide) (fun K hK => ?_)
   refine goes_ Tryz.func51 (by kernel_rfl) rfl #[.agg #[.string ((qa l0 x10_1).f0), .string ((qa l0 x10_1).f1), .string ((qa l0 x10_1).f2), .string ((qa l0 x10_1).f3), .int .i64 ((qa l0 x10_1).f4), .int .i64 ((qa l0 x10_1).f5), .bool ((qa l0 x10_1).f6), .int .i64 ((qa l0 x10_1).f7), .bool ((qa l0 x10_1).f8)], .agg #[.string ((qa l0 x5_1).f0), .string ((qa l0 x5_1).f1), .string ((qa l0 x5_1).f2), .string ((qa l0 x5_1).f3), .int .i64 ((qa l0 x5_1).f4), .int .i64 ((qa l0 x5_1).f5), .bool ((qa l0 x5_1).f6), .int .i64 ((qa l0 x5_1).f7), .bool ((qa l0 x5_1).f8)]] (by rfl) rfl rfl Z61 ?_
   with_reducible refine (r8better.calls k1 ((qa l0 x10_1).f0) ((qa l0 x10_1).f1) ((qa l0 x10_1).f2) ((qa l0 x10_1).f3) ((qa l0 x10_1).f4) ((qa l0 x10_1).f5) ((qa l0 x10_1).f6) ((qa l0 x10_1).f7) ((qa l0 x10_1).f8) ((qa l0 x5_1).f0) ((qa l0 x5_1).f1) ((qa l0 x5_1).f2) ((qa l0 x5_1).f3) ((qa l0 x5_1).f4) ((qa l0 x5_1).f5) ((qa l0 x5_1).f6) ((qa l0 x5_1).f7) ((qa l0 x5_1).f8) t170 _ A18.out).mono ?_
   rintro e w33 ⟨rfl, hb⟩
   refine ⟨_, rfl, ?_⟩
   have n0_ := bb BK165 hb
   have n1_ := bb BK167 hb
   have n2_ := qb.mk (qd Z50 hb)
   clear BK165 BK167 HB
   have BK165 := n0_
   have BK167 := n1_
   have HB := n2_
   clear n0_ n1_ n2_
   (try clear hb)
   (try clear hb2)
   (try clear hk)
   (try clear hi)
   refine hK.out _ _ ⟨(qc BK167.out 0).trans rfl, (qc BK167.out 1).trans rfl, (qc BK167.out 2).trans rfl, (qc BK167.out 3).trans rfl, (qc BK167.out 4).trans rfl, (qc BK167.out 5).trans rfl, (qc BK167.out 6).trans rfl, (qc BK167.out 7).trans rfl, (qc BK167.out 8).trans rfl, (qc BK165.out 0).trans rfl, (qc BK165.out 1).trans rfl, (qc BK165.out 2).trans rfl, (qc BK165.out 3).trans rfl, (qc BK165.out 4).trans rfl, (qc BK165.out 5).trans rfl, (bx HB hw169_0), (bx HB hw169_1), (bx HB hw169_2), (bx HB hw169_3), (bx HB hw169_4), (bx HB hw169_5), (bx HB hw169_6), (bx HB hw169_7), (bx HB hw169_8)⟩ (fun hHeld => ?_)
   clear hK K
   refine norm_ (a' := ?_) ?_ ?_
   rotate_left
   ·show Act.put _ (some 27) _ = _
    simp only [Act.put, sT, s0, s1, qr, qt]
    rfl
   refine pure_ (i := 13) (N := some 28) (v := ?_) (a' := ?_) #[true, true, true, true, true, true, true, true, true, true, true, true, true, true, false, false] rfl rfl (qy HT_.out (by kernel_rfl)) (fun _ _ _ h => h) (Or.inl ⟨by rfl, ?_⟩) ?_ ?_
   rotate_left
   ·intro w'
    go_simp
    with_reducible rfl
   rotate_left
   ·simp only [Act.put, sT, s0, s1, qr, qt]
    rfl
   refine pure_ (i := 14) (N := some 29) (v := ?_) (a' := ?_) #[true, true, true, true, true, true, true, true, true, true, true, true, true, true, true, false] rfl rfl (qy HT_.out (by kernel_rfl)) (fun _ _ _ h => h) (Or.inl ⟨by rfl, ?_⟩) ?_ ?_
   rotate_left
   ·intro w'
    go_simp
    with_reducible rfl
   rotate_left
   ·simp only [Act.put, sT, s0, s1, qr, qt]
    rfl
   refine pure_ (i := 15) (N := some 30) (v := ?_) (a' := ?_) #[true, true, true, true, true, true, true, true, true, true, true, true, true, true, true, true] rfl rfl (qy HT_.out (by kernel_rfl)) (fun _ _ _ h => h) (Or.inl ⟨by rfl, ?_⟩) ?_ ?_
   rotate_left
   ·intro w'
    go_simp
    with_reducible rfl
   rotate_left
   ·simp only [Act.put, sT, s0, s1, qr, qt]
    rfl
   refine done_ (done_of HT_.out (by kernel_rfl)) ?_
   try go_wp2
   go_roundg k1
   case measure => have := HK1.out; omega
   case rel => exact ⟨(x5_1), (wrap64 (x10_1 + 1)), qD, qD, H', ⟨Z157⟩, ⟨Z109⟩, ⟨Z50⟩⟩
end Go.Proofs.YtmmknokdgbgjgaaGreatDoor.XPartnerDaysMatchSpec
