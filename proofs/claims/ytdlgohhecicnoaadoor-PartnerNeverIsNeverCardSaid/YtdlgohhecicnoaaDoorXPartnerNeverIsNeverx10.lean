-- Walks of PartnerNeverIsNever: written by xprint.py out of the translation (hand-proved functions among them). Lean checks it.
import Derived.Test.YtdlgohhecicnoaaDoorXPartnerNeverIsNeverx0
import Derived.Test.YtdlgohhecicnoaaDoorXPartnerNeverIsNeverx1
import Derived.Test.YtdlgohhecicnoaaDoorXPartnerNeverIsNeverx9
namespace Go.Proofs.YtdlgohhecicnoaaDoor.XPartnerNeverIsNever
open Go.RowKit Go.Proofs.YtdlgohhecicnoaaDoorW.PrintWords Go.Proofs.YtdlgohhecicnoaaDoorW.PrintLast Go.Proofs.YtdlgohhecicnoaaDoorW.PrintMore
attribute [local go_sem] max2_int min2_int max_two min_two max_three min_three max_four min_four   -- for this text's walks alone
set_option linter.unusedVariables false
set_option linter.unusedSimpArgs false

/-! ### interchangeref8_Case: function 42 -/
def interchangeref8_Case.f (a0_0 : ByteArray) (a0_1 : ByteArray) (a0_2 : ByteArray) (a0_3 : ByteArray) (a0_4 : Int) (a0_5 : Int) (a0_6 : Bool) (a0_7 : Int) (a0_8 : Bool) (a1 : ByteArray) (a2 : ByteArray) (a3 : Int) : Option (ByteArray × ByteArray × ByteArray × ByteArray × Int × Bool) := (interchangeref8_Below.f a3 (wrap64 ((wrap64 (a0_5 - a0_4)) + 1))).bind fun t233 => (if a0_2.toList = ([] : List UInt8) then (if a0_3.toList = ([] : List UInt8) then (some (a0_0, a0_1, a1, a2, wrap64 (a0_4 + t233), a0_6)) else (some (a0_0, a0_1, a1, a0_3, wrap64 (a0_4 + t233), a0_6))) else (if a0_3.toList = ([] : List UInt8) then (some (a0_0, a0_1, a0_2, a2, wrap64 (a0_4 + t233), a0_6)) else (some (a0_0, a0_1, a0_2, a0_3, wrap64 (a0_4 + t233), a0_6))))
def interchangeref8_Case.T1 : Bool × List (List Nat × List Nat) := (true, [([], []), ([0], [0]), ([], []), ([2], [2]), ([], []), ([4], [4]), ([], []), ([], []), ([], []), ([8], [8]), ([], []), ([], []), ([11], [11]), ([], []), ([13], [13]), ([12, 14], [12, 14]), ([15], [15]), ([10, 16], [10, 16]), ([9, 17], [9, 17]), ([1, 3, 5, 6, 7, 18], [1, 3, 5, 6, 7, 18]), ([], []), ([20, 19, 17, 0, 1, 2, 3, 4, 5, 6, 7, 8, 9, 10, 11, 12, 13, 14, 15, 16, 17, 18, 19, 20], [19, 20])])
def interchangeref8_Case.B1 : List Nat := [0, 1, 0, 4, 0, 16, 0, 0, 0, 256, 0, 0, 2048, 0, 8192, 30720, 63488, 130048, 261888, 524287, 0, 2097151]
theorem interchangeref8_Case.tab1 : rtab .any (opsOf Tryd.f42 1) = interchangeref8_Case.T1 := by kernel_rfl
theorem interchangeref8_Case.bits1 : waitsOk interchangeref8_Case.T1.2 interchangeref8_Case.B1 = true := by kernel_rfl
theorem abs_world_ {E : Exit → Act → World → Prop} {x : Exit} {a : Act} {w : World} (h : ∀ ww, ww = w → E x a ww) : E x a w := h w rfl
set_option maxHeartbeats 8000000 in
set_option maxRecDepth 100000 in
theorem interchangeref8_Case.calls (a0_0 : ByteArray) (a0_1 : ByteArray) (a0_2 : ByteArray) (a0_3 : ByteArray) (a0_4 : Int) (a0_5 : Int) (a0_6 : Bool) (a0_7 : Int) (a0_8 : Bool) (a1 : ByteArray) (a2 : ByteArray) (a3 : Int) (r1 : ByteArray) (r2 : ByteArray) (r3 : ByteArray) (r4 : ByteArray) (r5 : Int) (r6 : Bool) (w : World) (h : interchangeref8_Case.f a0_0 a0_1 a0_2 a0_3 a0_4 a0_5 a0_6 a0_7 a0_8 a1 a2 a3 = some (r1, r2, r3, r4, r5, r6)) :
  Calls Tryd.prog 42 #[.agg #[.string a0_0, .string a0_1, .string a0_2, .string a0_3, .int .i64 a0_4, .int .i64 a0_5, .bool a0_6, .int .i64 a0_7, .bool a0_8], .string a1, .string a2, .int .i64 a3] w fun e w' => e = .returned (.agg #[.string r1, .string r2, .string r3, .string r4, .int .i64 r5, .bool r6]) ∧ Below w.heap.size w w' := by
 have hu23 := Tryd.underlying23
 have hu37 := Tryd.underlying37
 have HB := Aside0.mk (Below.refl w.heap.size w)
 have H : ((interchangeref8_Below.f a3 (wrap64 ((wrap64 (a0_5 - a0_4)) + 1))).bind fun t233 => (if a0_2.toList = ([] : List UInt8) then (if a0_3.toList = ([] : List UInt8) then (some (a0_0, a0_1, a1, a2, wrap64 (a0_4 + t233), a0_6)) else (some (a0_0, a0_1, a1, a0_3, wrap64 (a0_4 + t233), a0_6))) else (if a0_3.toList = ([] : List UInt8) then (some (a0_0, a0_1, a0_2, a2, wrap64 (a0_4 + t233), a0_6)) else (some (a0_0, a0_1, a0_2, a0_3, wrap64 (a0_4 + t233), a0_6))))) = some (r1, r2, r3, r4, r5, r6) := h
 clear h
 replace H := Option.bind_eq_some_iff.mp H
 obtain ⟨t233, A50, H⟩ := H
 replace H : (if a0_2.toList = ([] : List UInt8) then (if a0_3.toList = ([] : List UInt8) then (some (a0_0, a0_1, a1, a2, wrap64 (a0_4 + t233), a0_6)) else (some (a0_0, a0_1, a1, a0_3, wrap64 (a0_4 + t233), a0_6))) else (if a0_3.toList = ([] : List UInt8) then (some (a0_0, a0_1, a0_2, a2, wrap64 (a0_4 + t233), a0_6)) else (some (a0_0, a0_1, a0_2, a0_3, wrap64 (a0_4 + t233), a0_6)))) = some (r1, r2, r3, r4, r5, r6) := H
 have A5 := Aside0.mk A50
 clear A50
 have HX := Aside0.mk H
 clear H
 go_enter Tryd.func42, Tryd.ntmps42
 try go_wp2_with (first | ((with_reducible refine gate_dst (N := 4) rfl ?_); refine box_event ?hg (N := 4) ?hd (cs := #[.string a0_0, .string a0_1, .string a0_2, .string a0_3, .int .i64 a0_4, .int .i64 a0_5, .bool a0_6, .int .i64 a0_7, .bool a0_8]) (t := 23) ?hr ?_; (case hd => rfl); (case hg => rfl); (case hr => exact Z103); intro gb231 hg w8 hbox hb; have n0_ := Aside0.mk (below_step Z70 hb); have n1_ := Aside0.mk (hbox); have n2_ := Aside0.mk ((Z49 : w.heap.size ≤ gb231)); have n3_ := Aside0.mk ((Z49 : w.heap.size ≤ gb231)); clear HB; have HB := n0_; have BK231 := n1_; have GW231 := n2_; have GE231 := n3_; clear n0_ n1_ n2_ n3_; clear hb hbox hg) | ((with_reducible refine gate_dst (N := 8) rfl ?_); refine box_event ?hg (N := 8) ?hd (cs := #[.string (⟨#[]⟩ : ByteArray), .string (⟨#[]⟩ : ByteArray), .string (⟨#[]⟩ : ByteArray), .string (⟨#[]⟩ : ByteArray), .int .i64 0, .bool false]) (t := 37) ?hr ?_; (case hd => rfl); (case hg => rfl); (case hr => exact Z103); intro gb232 hg w9 hbox hb; have n0_ := Aside0.mk (blk_below (g := gb231) (o := .cells #[.string a0_0, .string a0_1, .string a0_2, .string a0_3, .int .i64 a0_4, .int .i64 a0_5, .bool a0_6, .int .i64 a0_7, .bool a0_8] 23 (0, 0)) Z90 hb); have n1_ := Aside0.mk (below_step Z65 hb); have n2_ := Aside0.mk (hbox); have n3_ := Aside0.mk ((by rw [hg]; exact (below_size Z65) : w.heap.size ≤ gb232)); have n4_ := Aside0.mk ((by rw [hg]; exact (below_size Z65) : w.heap.size ≤ gb232)); have n5_ := Aside0.mk ((Z25 : gb231 ≠ gb232)); have n6_ := Aside0.mk ((Z26 : gb232 ≠ gb231)); clear BK231; clear HB; have BK231 := n0_; have HB := n1_; have BK232 := n2_; have GW232 := n3_; have GE232 := n4_; have NB231_232 := n5_; have NB232_231 := n6_; clear n0_ n1_ n2_ n3_ n4_ n5_ n6_; clear hb hbox hg))
 have n0_ := Aside0.mk (blk_drew BK231.out)
 have n1_ := Aside0.mk (blk_drew BK232.out)
 have n2_ := Aside0.mk (below_drew1 HB.out)
 clear BK231
 clear BK232
 clear HB
 have BK231 := n0_
 have BK232 := n1_
 have HB := n2_
 clear n0_ n1_ n2_
 refine start_ (n := 22) (S := fun w' => w'.cell? ⟨gb231, 0, none⟩ = some (.string a0_0) ∧ w'.cell? ⟨gb231, 1, none⟩ = some (.string a0_1) ∧ w'.cell? ⟨gb231, 2, none⟩ = some (.string a0_2) ∧ w'.cell? ⟨gb231, 3, none⟩ = some (.string a0_3) ∧ w'.cell? ⟨gb231, 4, none⟩ = some (.int .i64 a0_4) ∧ w'.cell? ⟨gb231, 5, none⟩ = some (.int .i64 a0_5) ∧ w'.cell? ⟨gb231, 6, none⟩ = some (.bool a0_6) ∧ w'.cell? ⟨gb231, 7, none⟩ = some (.int .i64 a0_7) ∧ w'.cell? ⟨gb231, 8, none⟩ = some (.bool a0_8)) (ds := []) #[false, false, false, false, false, false, false, false, false, false, false, false, false, false, false, false, false, false, false, false, false, false] (by kernel_rfl) rfl rfl ⟨(blk_cell BK231.out 0).trans rfl, (blk_cell BK231.out 1).trans rfl, (blk_cell BK231.out 2).trans rfl, (blk_cell BK231.out 3).trans rfl, (blk_cell BK231.out 4).trans rfl, (blk_cell BK231.out 5).trans rfl, (blk_cell BK231.out 6).trans rfl, (blk_cell BK231.out 7).trans rfl, (blk_cell BK231.out 8).trans rfl⟩ (fun hHeld => ?_); refine with_tabW interchangeref8_Case.tab1 interchangeref8_Case.bits1 (fun HT_ HW_ => ?_)
 generalize w9.drew = w10 at BK231 BK232 HB hHeld ⊢
 refine pure_ (i := 0) (N := some 10) (v := ?_) (a' := ?_) #[true, false, false, false, false, false, false, false, false, false, false, false, false, false, false, false, false, false, false, false, false, false] rfl rfl (any_of HT_.out (by kernel_rfl)) (fun _ _ _ h => h) (Or.inl ⟨by rfl, ?_⟩) ?_ ?_
 rotate_left
 ·intro w'
  go_simp
  with_reducible rfl
 rotate_left
 ·simp only [Act.put, List.setIfInBounds_toArray, List.set_cons_zero, List.set_cons_succ, i64_w, i32_w]
  rfl
 refine pure_ (i := 2) (N := some 12) (v := ?_) (a' := ?_) #[true, false, true, false, false, false, false, false, false, false, false, false, false, false, false, false, false, false, false, false, false, false] rfl rfl (any_of HT_.out (by kernel_rfl)) (fun _ _ _ h => h) (Or.inl ⟨by rfl, ?_⟩) ?_ ?_
 rotate_left
 ·intro w'
  go_simp
  with_reducible rfl
 rotate_left
 ·simp only [Act.put, List.setIfInBounds_toArray, List.set_cons_zero, List.set_cons_succ, i64_w, i32_w]
  rfl
 refine pure_ (i := 4) (N := some 14) (v := ?_) (a' := ?_) #[true, false, true, false, true, false, false, false, false, false, false, false, false, false, false, false, false, false, false, false, false, false] rfl rfl (any_of HT_.out (by kernel_rfl)) (fun _ _ _ h => h) (Or.inl ⟨by rfl, ?_⟩) ?_ ?_
 rotate_left
 ·intro w'
  go_simp
  with_reducible rfl
 rotate_left
 ·simp only [Act.put, List.setIfInBounds_toArray, List.set_cons_zero, List.set_cons_succ, i64_w, i32_w]
  rfl
 refine pure_ (i := 6) (N := some 16) (v := ?_) (a' := ?_) #[true, false, true, false, true, false, true, false, false, false, false, false, false, false, false, false, false, false, false, false, false, false] rfl rfl (any_of HT_.out (by kernel_rfl)) (fun _ _ _ h => h) (Or.inl ⟨by rfl, ?_⟩) ?_ ?_
 rotate_left
 ·intro w'
  go_simp
  with_reducible rfl
 rotate_left
 ·simp only [Act.put, List.setIfInBounds_toArray, List.set_cons_zero, List.set_cons_succ, i64_w, i32_w]
  rfl
 refine pure_ (i := 7) (N := some 17) (v := ?_) (a' := ?_) #[true, false, true, false, true, false, true, true, false, false, false, false, false, false, false, false, false, false, false, false, false, false] rfl rfl (any_of HT_.out (by kernel_rfl)) (fun _ _ _ h => h) (Or.inl ⟨by rfl, ?_⟩) ?_ ?_
 rotate_left
 ·intro w'
  go_simp
  with_reducible rfl
 rotate_left
 ·simp only [Act.put, List.setIfInBounds_toArray, List.set_cons_zero, List.set_cons_succ, i64_w, i32_w]
  rfl
 refine pure_ (i := 8) (N := some 18) (v := ?_) (a' := ?_) #[true, false, true, false, true, false, true, true, true, false, false, false, false, false, false, false, false, false, false, false, false, false] rfl rfl (any_of HT_.out (by kernel_rfl)) (fun _ _ _ h => h) (Or.inl ⟨by rfl, ?_⟩) ?_ ?_
 rotate_left
 ·intro w'
  go_simp
  with_reducible rfl
 rotate_left
 ·simp only [Act.put, List.setIfInBounds_toArray, List.set_cons_zero, List.set_cons_succ, i64_w, i32_w]
  rfl
 refine pure_ (i := 10) (N := some 20) (v := ?_) (a' := ?_) #[true, false, true, false, true, false, true, true, true, false, true, false, false, false, false, false, false, false, false, false, false, false] rfl rfl (any_of HT_.out (by kernel_rfl)) (fun _ _ _ h => h) (Or.inl ⟨by rfl, ?_⟩) ?_ ?_
 rotate_left
 ·intro w'
  go_simp
  with_reducible rfl
 rotate_left
 ·simp only [Act.put, List.setIfInBounds_toArray, List.set_cons_zero, List.set_cons_succ, i64_w, i32_w]
  rfl
 refine pure_ (i := 11) (N := some 21) (v := ?_) (a' := ?_) #[true, false, true, false, true, false, true, true, true, false, true, true, false, false, false, false, false, false, false, false, false, false] rfl rfl (any_of HT_.out (by kernel_rfl)) (fun _ _ _ h => h) (Or.inl ⟨by rfl, ?_⟩) ?_ ?_
 rotate_left
 ·intro w'
  go_simp
  with_reducible rfl
 rotate_left
 ·simp only [Act.put, List.setIfInBounds_toArray, List.set_cons_zero, List.set_cons_succ, i64_w, i32_w]
  rfl
 refine pure_ (i := 13) (N := some 23) (v := ?_) (a' := ?_) #[true, false, true, false, true, false, true, true, true, false, true, true, false, true, false, false, false, false, false, false, false, false] rfl rfl (any_of HT_.out (by kernel_rfl)) (fun _ _ _ h => h) (Or.inl ⟨by rfl, ?_⟩) ?_ ?_
 rotate_left
 ·intro w'
  go_simp
  with_reducible rfl
 rotate_left
 ·simp only [Act.put, List.setIfInBounds_toArray, List.set_cons_zero, List.set_cons_succ, i64_w, i32_w]
  rfl
 refine take_ (i := 1) (N := some 11) (v := ?_) (a' := ?_) #[true, true, true, false, true, false, true, true, true, false, true, true, false, true, false, false, false, false, false, false, false, false] rfl rfl (take_ofW HT_.out HW_.out (by kernel_rfl)) (fun _ _ _ h => h) (Or.inl ⟨by rfl, ?_⟩) hHeld ?_ ?_
 rotate_left
 ·rintro w' ⟨s0, s1, s2, s3, s4, s5, s6, s7, s8⟩
  go_simp
  with_reducible rfl
 rotate_left
 ·simp only [Act.put, List.setIfInBounds_toArray, List.set_cons_zero, List.set_cons_succ, i64_w, i32_w]
  rfl
 refine take_ (i := 3) (N := some 13) (v := ?_) (a' := ?_) #[true, true, true, true, true, false, true, true, true, false, true, true, false, true, false, false, false, false, false, false, false, false] rfl rfl (take_ofW HT_.out HW_.out (by kernel_rfl)) (fun _ _ _ h => h) (Or.inl ⟨by rfl, ?_⟩) hHeld ?_ ?_
 rotate_left
 ·rintro w' ⟨s0, s1, s2, s3, s4, s5, s6, s7, s8⟩
  go_simp
  with_reducible rfl
 rotate_left
 ·simp only [Act.put, List.setIfInBounds_toArray, List.set_cons_zero, List.set_cons_succ, i64_w, i32_w]
  rfl
 refine take_ (i := 5) (N := some 15) (v := ?_) (a' := ?_) #[true, true, true, true, true, true, true, true, true, false, true, true, false, true, false, false, false, false, false, false, false, false] rfl rfl (take_ofW HT_.out HW_.out (by kernel_rfl)) (fun _ _ _ h => h) (Or.inl ⟨by rfl, ?_⟩) hHeld ?_ ?_
 rotate_left
 ·rintro w' ⟨s0, s1, s2, s3, s4, s5, s6, s7, s8⟩
  go_simp
  with_reducible rfl
 rotate_left
 ·simp only [Act.put, List.setIfInBounds_toArray, List.set_cons_zero, List.set_cons_succ, i64_w, i32_w]
  rfl
 refine take_ (i := 9) (N := some 19) (v := ?_) (a' := ?_) #[true, true, true, true, true, true, true, true, true, true, true, true, false, true, false, false, false, false, false, false, false, false] rfl rfl (take_ofW HT_.out HW_.out (by kernel_rfl)) (fun _ _ _ h => h) (Or.inl ⟨by rfl, ?_⟩) hHeld ?_ ?_
 rotate_left
 ·rintro w' ⟨s0, s1, s2, s3, s4, s5, s6, s7, s8⟩
  go_simp
  with_reducible rfl
 rotate_left
 ·simp only [Act.put, List.setIfInBounds_toArray, List.set_cons_zero, List.set_cons_succ, i64_w, i32_w]
  rfl
 refine take_ (i := 12) (N := some 22) (v := ?_) (a' := ?_) #[true, true, true, true, true, true, true, true, true, true, true, true, true, true, false, false, false, false, false, false, false, false] rfl rfl (take_ofW HT_.out HW_.out (by kernel_rfl)) (fun _ _ _ h => h) (Or.inl ⟨by rfl, ?_⟩) hHeld ?_ ?_
 rotate_left
 ·rintro w' ⟨s0, s1, s2, s3, s4, s5, s6, s7, s8⟩
  go_simp
  with_reducible rfl
 rotate_left
 ·simp only [Act.put, List.setIfInBounds_toArray, List.set_cons_zero, List.set_cons_succ, i64_w, i32_w]
  rfl
 refine take_ (i := 14) (N := some 24) (v := ?_) (a' := ?_) #[true, true, true, true, true, true, true, true, true, true, true, true, true, true, true, false, false, false, false, false, false, false] rfl rfl (take_ofW HT_.out HW_.out (by kernel_rfl)) (fun _ _ _ h => h) (Or.inl ⟨by rfl, ?_⟩) hHeld ?_ ?_
 rotate_left
 ·rintro w' ⟨s0, s1, s2, s3, s4, s5, s6, s7, s8⟩
  go_simp
  with_reducible rfl
 rotate_left
 ·simp only [Act.put, List.setIfInBounds_toArray, List.set_cons_zero, List.set_cons_succ, i64_w, i32_w]
  rfl
 refine pure_ (i := 15) (N := some 25) (v := ?_) (a' := ?_) #[true, true, true, true, true, true, true, true, true, true, true, true, true, true, true, true, false, false, false, false, false, false] rfl rfl (any_of HT_.out (by kernel_rfl)) (fun _ _ _ h => h) (Or.inl ⟨by rfl, ?_⟩) ?_ ?_
 rotate_left
 ·intro w'
  go_simp
  with_reducible rfl
 rotate_left
 ·simp only [Act.put, List.setIfInBounds_toArray, List.set_cons_zero, List.set_cons_succ, i64_w, i32_w]
  rfl
 refine pure_ (i := 16) (N := some 26) (v := ?_) (a' := ?_) #[true, true, true, true, true, true, true, true, true, true, true, true, true, true, true, true, true, false, false, false, false, false] rfl rfl (any_of HT_.out (by kernel_rfl)) (fun _ _ _ h => h) (Or.inl ⟨by rfl, ?_⟩) ?_ ?_
 rotate_left
 ·intro w'
  go_simp
  with_reducible rfl
 rotate_left
 ·simp only [Act.put, List.setIfInBounds_toArray, List.set_cons_zero, List.set_cons_succ, i64_w, i32_w]
  rfl
 refine join_ (σ := Nat) 1 #[true, true, true, true, true, true, true, true, true, true, true, true, true, true, true, true, true, true, true, true, true, false] (fun s_ => [(27, .int .i64 t233), (9, .pointer (some ⟨s_, 0, none⟩)), (28, .int .i64 (wrap64 (a0_4 + t233))), (29, .agg #[.string a0_0, .string a0_1, .string a1, .string a2, .int .i64 (wrap64 (a0_4 + t233)), .bool a0_6])]) (fun s_ w' => (w'.cell? ⟨gb231, 0, none⟩ = some (.string a0_0) ∧ w'.cell? ⟨gb231, 1, none⟩ = some (.string a0_1) ∧ w'.cell? ⟨gb231, 2, none⟩ = some (.string a0_2) ∧ w'.cell? ⟨gb231, 3, none⟩ = some (.string a0_3) ∧ w'.cell? ⟨gb231, 4, none⟩ = some (.int .i64 a0_4) ∧ w'.cell? ⟨gb231, 5, none⟩ = some (.int .i64 a0_5) ∧ w'.cell? ⟨gb231, 6, none⟩ = some (.bool a0_6) ∧ w'.cell? ⟨gb231, 7, none⟩ = some (.int .i64 a0_7) ∧ w'.cell? ⟨gb231, 8, none⟩ = some (.bool a0_8)) ∧ (w'.heap[gb231]? = some (.cells #[.string a0_0, .string a0_1, .string a0_2, .string a0_3, .int .i64 a0_4, .int .i64 a0_5, .bool a0_6, .int .i64 a0_7, .bool a0_8] 23 (0, 0))) ∧ (w'.heap[gb232]? = some (.cells #[.string (⟨#[]⟩ : ByteArray), .string (⟨#[]⟩ : ByteArray), .string (⟨#[]⟩ : ByteArray), .string (⟨#[]⟩ : ByteArray), .int .i64 0, .bool false] 37 (0, 0))) ∧ (w'.heap[s_]? = some (.cells #[.string (⟨#[]⟩ : ByteArray), .string (⟨#[]⟩ : ByteArray), .string (⟨#[]⟩ : ByteArray), .string (⟨#[]⟩ : ByteArray), .int .i64 0, .bool false] 37 (0, 0))) ∧ (w.heap.size ≤ s_) ∧ (w.heap.size ≤ s_) ∧ (gb231 ≠ s_) ∧ (s_ ≠ gb231) ∧ (gb232 ≠ s_) ∧ (s_ ≠ gb232) ∧ (Below w.heap.size w w')) ?_ ?_
 rotate_left
 ·intro hCont
  refine two_ (i := 17) (j := 20) (Ni := some 27) (Nj := some 9) #[true, true, true, true, true, true, true, true, true, true, true, true, true, true, true, true, true, true, false, false, false, false] #[true, true, true, true, true, true, true, true, true, true, true, true, true, true, true, true, true, false, false, false, true, false] rfl rfl rfl rfl (two_of HT_.out (by kernel_rfl)) (by decide) (by decide) (fun K hK => ?_) (fun K hK => ?_)
  ·skip
   refine goes_ Tryd.func40 (by kernel_rfl) rfl #[.int .i64 a3, .int .i64 (wrap64 ((wrap64 (a0_5 - a0_4)) + 1))] (by rfl) rfl rfl Z45 ?_
   with_reducible refine (interchangeref8_Below.calls a3 (wrap64 ((wrap64 (a0_5 - a0_4)) + 1)) t233 _ A5.out).mono ?_
   rintro e w' ⟨rfl, ⟨nd, rfl⟩⟩
   refine ⟨_, rfl, ?_⟩
   refine hK.out _ _ ⟨(blk_cell BK231.out 0).trans rfl, (blk_cell BK231.out 1).trans rfl, (blk_cell BK231.out 2).trans rfl, (blk_cell BK231.out 3).trans rfl, (blk_cell BK231.out 4).trans rfl, (blk_cell BK231.out 5).trans rfl, (blk_cell BK231.out 6).trans rfl, (blk_cell BK231.out 7).trans rfl, (blk_cell BK231.out 8).trans rfl⟩ (fun hHeld => ?_)
   clear hK K
   refine norm_ (a' := ?_) ?_ ?_
   rotate_left
   ·show Act.put _ (some 27) _ = _
    simp only [Act.put, List.setIfInBounds_toArray, List.set_cons_zero, List.set_cons_succ, i64_w, i32_w]
    rfl
   refine pure_ (i := 18) (N := some 28) (v := ?_) (a' := ?_) #[true, true, true, true, true, true, true, true, true, true, true, true, true, true, true, true, true, true, true, false, false, false] rfl rfl (any_of HT_.out (by kernel_rfl)) (fun _ _ _ h => h) (Or.inl ⟨by rfl, ?_⟩) ?_ ?_
   rotate_left
   ·intro w'
    go_simp
    with_reducible rfl
   rotate_left
   ·simp only [Act.put, List.setIfInBounds_toArray, List.set_cons_zero, List.set_cons_succ, i64_w, i32_w]
    rfl
   refine pure_ (i := 19) (N := some 29) (v := ?_) (a' := ?_) #[true, true, true, true, true, true, true, true, true, true, true, true, true, true, true, true, true, true, true, true, false, false] rfl rfl (any_of HT_.out (by kernel_rfl)) (fun _ _ _ h => h) (Or.inl ⟨by rfl, ?_⟩) ?_ ?_
   rotate_left
   ·intro w'
    go_simp
    with_reducible rfl
   rotate_left
   ·simp only [Act.put, List.setIfInBounds_toArray, List.set_cons_zero, List.set_cons_succ, i64_w, i32_w]
    rfl
   refine one_ (i := 20) (N := some 9) #[true, true, true, true, true, true, true, true, true, true, true, true, true, true, true, true, true, true, true, true, true, false] rfl rfl (one_of HT_.out (by kernel_rfl)) (by decide) (fun K hK => ?_)
   refine box_step ?hg (N := 9) ?hd (cs := #[.string (⟨#[]⟩ : ByteArray), .string (⟨#[]⟩ : ByteArray), .string (⟨#[]⟩ : ByteArray), .string (⟨#[]⟩ : ByteArray), .int .i64 0, .bool false]) (t := 37) ?hr ?_; (case hd => rfl); (case hg => rfl); (case hr => exact Z103)
   intro gb234 hg w11 hbox hb
   have n0_ := Aside0.mk (blk_below (g := gb231) (o := .cells #[.string a0_0, .string a0_1, .string a0_2, .string a0_3, .int .i64 a0_4, .int .i64 a0_5, .bool a0_6, .int .i64 a0_7, .bool a0_8] 23 (0, 0)) Z90 hb)
   have n1_ := Aside0.mk (blk_below (g := gb232) (o := .cells #[.string (⟨#[]⟩ : ByteArray), .string (⟨#[]⟩ : ByteArray), .string (⟨#[]⟩ : ByteArray), .string (⟨#[]⟩ : ByteArray), .int .i64 0, .bool false] 37 (0, 0)) Z91 hb)
   have n2_ := Aside0.mk (below_step (by repeat (first | (with_reducible first | exact HB.out | apply below_alloc | apply pw_below_drewN | apply below_drew1 | refine below_set ?_ GE231.out | refine below_set ?_ GE232.out) | exact HB.out)) hb)
   have n3_ := Aside0.mk (hbox)
   have n4_ := Aside0.mk ((Z31 : w.heap.size ≤ gb234))
   have n5_ := Aside0.mk ((Z31 : w.heap.size ≤ gb234))
   have n6_ := Aside0.mk ((Z25 : gb231 ≠ gb234))
   have n7_ := Aside0.mk ((Z26 : gb234 ≠ gb231))
   have n8_ := Aside0.mk ((Z19 : gb232 ≠ gb234))
   have n9_ := Aside0.mk ((Z20 : gb234 ≠ gb232))
   clear BK231
   clear BK232
   clear HB
   have BK231 := n0_
   have BK232 := n1_
   have HB := n2_
   have BK234 := n3_
   have GW234 := n4_
   have GE234 := n5_
   have NB231_234 := n6_
   have NB234_231 := n7_
   have NB232_234 := n8_
   have NB234_232 := n9_
   clear n0_ n1_ n2_ n3_ n4_ n5_ n6_ n7_ n8_ n9_
   clear hb hbox hg
   refine hK.out _ _ ⟨(blk_cell BK231.out 0).trans rfl, (blk_cell BK231.out 1).trans rfl, (blk_cell BK231.out 2).trans rfl, (blk_cell BK231.out 3).trans rfl, (blk_cell BK231.out 4).trans rfl, (blk_cell BK231.out 5).trans rfl, (blk_cell BK231.out 6).trans rfl, (blk_cell BK231.out 7).trans rfl, (blk_cell BK231.out 8).trans rfl⟩ (fun hHeld => ?_)
   clear hK K
   refine norm_ (a' := ?_) ?_ ?_
   rotate_left
   ·show Act.put _ (some 9) _ = _
    simp only [Act.put, List.setIfInBounds_toArray, List.set_cons_zero, List.set_cons_succ, i64_w, i32_w]
    rfl
   exact norm_ (by simp only [putAll, Act.put, List.setIfInBounds_toArray, List.set_cons_zero, List.set_cons_succ]) (hCont (gb234) _ ⟨hHeld, Z90, Z91, (by (with_reducible repeat (first | refine blk_drewN ?_ _ | refine blk_drew ?_ | refine blk_alloc ?_ _)); exact BK234.out), GW234.out, GE234.out, NB231_234.out, NB234_231.out, NB232_234.out, NB234_232.out, Z32⟩)
  ·skip
   refine box_step ?hg (N := 9) ?hd (cs := #[.string (⟨#[]⟩ : ByteArray), .string (⟨#[]⟩ : ByteArray), .string (⟨#[]⟩ : ByteArray), .string (⟨#[]⟩ : ByteArray), .int .i64 0, .bool false]) (t := 37) ?hr ?_; (case hd => rfl); (case hg => rfl); (case hr => exact Z103)
   intro gb234 hg w11 hbox hb
   have n0_ := Aside0.mk (blk_below (g := gb231) (o := .cells #[.string a0_0, .string a0_1, .string a0_2, .string a0_3, .int .i64 a0_4, .int .i64 a0_5, .bool a0_6, .int .i64 a0_7, .bool a0_8] 23 (0, 0)) Z90 hb)
   have n1_ := Aside0.mk (blk_below (g := gb232) (o := .cells #[.string (⟨#[]⟩ : ByteArray), .string (⟨#[]⟩ : ByteArray), .string (⟨#[]⟩ : ByteArray), .string (⟨#[]⟩ : ByteArray), .int .i64 0, .bool false] 37 (0, 0)) Z91 hb)
   have n2_ := Aside0.mk (below_step (by repeat (first | (with_reducible first | exact HB.out | apply below_alloc | apply pw_below_drewN | apply below_drew1 | refine below_set ?_ GE231.out | refine below_set ?_ GE232.out) | exact HB.out)) hb)
   have n3_ := Aside0.mk (hbox)
   have n4_ := Aside0.mk ((Z31 : w.heap.size ≤ gb234))
   have n5_ := Aside0.mk ((Z31 : w.heap.size ≤ gb234))
   have n6_ := Aside0.mk ((Z25 : gb231 ≠ gb234))
   have n7_ := Aside0.mk ((Z26 : gb234 ≠ gb231))
   have n8_ := Aside0.mk ((Z19 : gb232 ≠ gb234))
   have n9_ := Aside0.mk ((Z20 : gb234 ≠ gb232))
   clear BK231
   clear BK232
   clear HB
   have BK231 := n0_
   have BK232 := n1_
   have HB := n2_
   have BK234 := n3_
   have GW234 := n4_
   have GE234 := n5_
   have NB231_234 := n6_
   have NB234_231 := n7_
   have NB232_234 := n8_
   have NB234_232 := n9_
   clear n0_ n1_ n2_ n3_ n4_ n5_ n6_ n7_ n8_ n9_
   clear hb hbox hg
   refine hK.out _ _ ⟨(blk_cell BK231.out 0).trans rfl, (blk_cell BK231.out 1).trans rfl, (blk_cell BK231.out 2).trans rfl, (blk_cell BK231.out 3).trans rfl, (blk_cell BK231.out 4).trans rfl, (blk_cell BK231.out 5).trans rfl, (blk_cell BK231.out 6).trans rfl, (blk_cell BK231.out 7).trans rfl, (blk_cell BK231.out 8).trans rfl⟩ (fun hHeld => ?_)
   clear hK K
   refine norm_ (a' := ?_) ?_ ?_
   rotate_left
   ·show Act.put _ (some 9) _ = _
    simp only [Act.put, List.setIfInBounds_toArray, List.set_cons_zero, List.set_cons_succ, i64_w, i32_w]
    rfl
   refine one_ (i := 17) (N := some 27) #[true, true, true, true, true, true, true, true, true, true, true, true, true, true, true, true, true, true, false, false, true, false] rfl rfl (one_of HT_.out (by kernel_rfl)) (by decide) (fun K hK => ?_)
   refine goes_ Tryd.func40 (by kernel_rfl) rfl #[.int .i64 a3, .int .i64 (wrap64 ((wrap64 (a0_5 - a0_4)) + 1))] (by rfl) rfl rfl Z45 ?_
   with_reducible refine (interchangeref8_Below.calls a3 (wrap64 ((wrap64 (a0_5 - a0_4)) + 1)) t233 _ A5.out).mono ?_
   rintro e w' ⟨rfl, ⟨nd, rfl⟩⟩
   refine ⟨_, rfl, ?_⟩
   refine hK.out _ _ ⟨(blk_cell BK231.out 0).trans rfl, (blk_cell BK231.out 1).trans rfl, (blk_cell BK231.out 2).trans rfl, (blk_cell BK231.out 3).trans rfl, (blk_cell BK231.out 4).trans rfl, (blk_cell BK231.out 5).trans rfl, (blk_cell BK231.out 6).trans rfl, (blk_cell BK231.out 7).trans rfl, (blk_cell BK231.out 8).trans rfl⟩ (fun hHeld => ?_)
   clear hK K
   refine norm_ (a' := ?_) ?_ ?_
   rotate_left
   ·show Act.put _ (some 27) _ = _
    simp only [Act.put, List.setIfInBounds_toArray, List.set_cons_zero, List.set_cons_succ, i64_w, i32_w]
    rfl
   refine pure_ (i := 18) (N := some 28) (v := ?_) (a' := ?_) #[true, true, true, true, true, true, true, true, true, true, true, true, true, true, true, true, true, true, true, false, true, false] rfl rfl (any_of HT_.out (by kernel_rfl)) (fun _ _ _ h => h) (Or.inl ⟨by rfl, ?_⟩) ?_ ?_
   rotate_left
   ·intro w'
    go_simp
    with_reducible rfl
   rotate_left
   ·simp only [Act.put, List.setIfInBounds_toArray, List.set_cons_zero, List.set_cons_succ, i64_w, i32_w]
    rfl
   refine pure_ (i := 19) (N := some 29) (v := ?_) (a' := ?_) #[true, true, true, true, true, true, true, true, true, true, true, true, true, true, true, true, true, true, true, true, true, false] rfl rfl (any_of HT_.out (by kernel_rfl)) (fun _ _ _ h => h) (Or.inl ⟨by rfl, ?_⟩) ?_ ?_
   rotate_left
   ·intro w'
    go_simp
    with_reducible rfl
   rotate_left
   ·simp only [Act.put, List.setIfInBounds_toArray, List.set_cons_zero, List.set_cons_succ, i64_w, i32_w]
    rfl
   exact norm_ (by simp only [putAll, Act.put, List.setIfInBounds_toArray, List.set_cons_zero, List.set_cons_succ]) (hCont (gb234) _ ⟨hHeld, Z90, Z91, (by (with_reducible repeat (first | refine blk_drewN ?_ _ | refine blk_drew ?_ | refine blk_alloc ?_ _)); exact BK234.out), GW234.out, GE234.out, NB231_234.out, NB234_231.out, NB232_234.out, NB234_232.out, Z32⟩)
 rintro gb234 w12 ⟨hS_, h0_, h1_, h2_, h3_, h4_, h5_, h6_, h7_, h8_, h9_⟩
 have n0_ : Aside0 (w12.heap[gb231]? = some (.cells #[.string a0_0, .string a0_1, .string a0_2, .string a0_3, .int .i64 a0_4, .int .i64 a0_5, .bool a0_6, .int .i64 a0_7, .bool a0_8] 23 (0, 0))) := ⟨h0_⟩
 have n1_ : Aside0 (w12.heap[gb232]? = some (.cells #[.string (⟨#[]⟩ : ByteArray), .string (⟨#[]⟩ : ByteArray), .string (⟨#[]⟩ : ByteArray), .string (⟨#[]⟩ : ByteArray), .int .i64 0, .bool false] 37 (0, 0))) := ⟨h1_⟩
 have n2_ : Aside0 (w12.heap[gb234]? = some (.cells #[.string (⟨#[]⟩ : ByteArray), .string (⟨#[]⟩ : ByteArray), .string (⟨#[]⟩ : ByteArray), .string (⟨#[]⟩ : ByteArray), .int .i64 0, .bool false] 37 (0, 0))) := ⟨h2_⟩
 have n3_ : Aside0 (w.heap.size ≤ gb234) := ⟨h3_⟩
 have n4_ : Aside0 (w.heap.size ≤ gb234) := ⟨h4_⟩
 have n5_ : Aside0 (gb231 ≠ gb234) := ⟨h5_⟩
 have n6_ : Aside0 (gb234 ≠ gb231) := ⟨h6_⟩
 have n7_ : Aside0 (gb232 ≠ gb234) := ⟨h7_⟩
 have n8_ : Aside0 (gb234 ≠ gb232) := ⟨h8_⟩
 have n9_ : Aside0 (Below w.heap.size w w12) := ⟨h9_⟩
 clear BK231
 clear BK232
 clear HB
 clear h0_ h1_ h2_ h3_ h4_ h5_ h6_ h7_ h8_ h9_
 have BK231 := n0_
 have BK232 := n1_
 have BK234 := n2_
 have GW234 := n3_
 have GE234 := n4_
 have NB231_234 := n5_
 have NB234_231 := n6_
 have NB232_234 := n7_
 have NB234_232 := n8_
 have HB := n9_
 clear n0_ n1_ n2_ n3_ n4_ n5_ n6_ n7_ n8_ n9_
 have hHeld : w12.cell? ⟨gb231, 0, none⟩ = some (.string a0_0) ∧ w12.cell? ⟨gb231, 1, none⟩ = some (.string a0_1) ∧ w12.cell? ⟨gb231, 2, none⟩ = some (.string a0_2) ∧ w12.cell? ⟨gb231, 3, none⟩ = some (.string a0_3) ∧ w12.cell? ⟨gb231, 4, none⟩ = some (.int .i64 a0_4) ∧ w12.cell? ⟨gb231, 5, none⟩ = some (.int .i64 a0_5) ∧ w12.cell? ⟨gb231, 6, none⟩ = some (.bool a0_6) ∧ w12.cell? ⟨gb231, 7, none⟩ = some (.int .i64 a0_7) ∧ w12.cell? ⟨gb231, 8, none⟩ = some (.bool a0_8) := hS_
 refine norm_ (a' := ?_) ?_ ?_
 rotate_left
 ·simp only [putAll, Act.put, List.setIfInBounds_toArray, List.set_cons_zero, List.set_cons_succ]
  rfl
 refine one_ (i := 21) (N := none) #[true, true, true, true, true, true, true, true, true, true, true, true, true, true, true, true, true, true, true, true, true, true] rfl rfl (one_of HT_.out (by kernel_rfl)) (by decide) (fun K hK => ?_)
 have hs13 : w12.cell? ⟨gb234, 0, none⟩ = some (.string (⟨#[]⟩ : ByteArray)) := (blk_cell BK234.out 0).trans rfl
 have hfs13 := blk_frozen BK234.out 0
 have hns13_0 := NB231_234.out
 have hns13_1 := NB232_234.out
 have hms13_0 := NB234_231.out
 have hms13_1 := NB234_232.out
 have hs14 : w12.cell? ⟨gb234, 1, none⟩ = some (.string (⟨#[]⟩ : ByteArray)) := (blk_cell BK234.out 1).trans rfl
 have hfs14 := blk_frozen BK234.out 1
 have hns14_0 := NB231_234.out
 have hns14_1 := NB232_234.out
 have hms14_0 := NB234_231.out
 have hms14_1 := NB234_232.out
 have hs15 : w12.cell? ⟨gb234, 2, none⟩ = some (.string (⟨#[]⟩ : ByteArray)) := (blk_cell BK234.out 2).trans rfl
 have hfs15 := blk_frozen BK234.out 2
 have hns15_0 := NB231_234.out
 have hns15_1 := NB232_234.out
 have hms15_0 := NB234_231.out
 have hms15_1 := NB234_232.out
 have hs16 : w12.cell? ⟨gb234, 3, none⟩ = some (.string (⟨#[]⟩ : ByteArray)) := (blk_cell BK234.out 3).trans rfl
 have hfs16 := blk_frozen BK234.out 3
 have hns16_0 := NB231_234.out
 have hns16_1 := NB232_234.out
 have hms16_0 := NB234_231.out
 have hms16_1 := NB234_232.out
 have hs17 : w12.cell? ⟨gb234, 4, none⟩ = some (.int .i64 0) := (blk_cell BK234.out 4).trans rfl
 have hfs17 := blk_frozen BK234.out 4
 have hns17_0 := NB231_234.out
 have hns17_1 := NB232_234.out
 have hms17_0 := NB234_231.out
 have hms17_1 := NB234_232.out
 have hs18 : w12.cell? ⟨gb234, 5, none⟩ = some (.bool false) := (blk_cell BK234.out 5).trans rfl
 have hfs18 := blk_frozen BK234.out 5
 have hns18_0 := NB231_234.out
 have hns18_1 := NB232_234.out
 have hms18_0 := NB234_231.out
 have hms18_1 := NB234_232.out
 refine skip_ (w1 := ?_) (by rfl) rfl ?_ ?_
 rotate_left
 ·go_simp
  rfl
 refine hK.out _ _ ⟨((cell_far (p := ⟨gb234, _, none⟩) NB231_234.out _).trans (((cell_far (p := ⟨gb234, _, none⟩) NB231_234.out _).trans (((cell_far (p := ⟨gb234, _, none⟩) NB231_234.out _).trans (((cell_far (p := ⟨gb234, _, none⟩) NB231_234.out _).trans (((cell_far (p := ⟨gb234, _, none⟩) NB231_234.out _).trans (((cell_far (p := ⟨gb234, _, none⟩) NB231_234.out _).trans (hHeld.1)))))))))))), ((cell_far (p := ⟨gb234, _, none⟩) NB231_234.out _).trans (((cell_far (p := ⟨gb234, _, none⟩) NB231_234.out _).trans (((cell_far (p := ⟨gb234, _, none⟩) NB231_234.out _).trans (((cell_far (p := ⟨gb234, _, none⟩) NB231_234.out _).trans (((cell_far (p := ⟨gb234, _, none⟩) NB231_234.out _).trans (((cell_far (p := ⟨gb234, _, none⟩) NB231_234.out _).trans (hHeld.2.1)))))))))))), ((cell_far (p := ⟨gb234, _, none⟩) NB231_234.out _).trans (((cell_far (p := ⟨gb234, _, none⟩) NB231_234.out _).trans (((cell_far (p := ⟨gb234, _, none⟩) NB231_234.out _).trans (((cell_far (p := ⟨gb234, _, none⟩) NB231_234.out _).trans (((cell_far (p := ⟨gb234, _, none⟩) NB231_234.out _).trans (((cell_far (p := ⟨gb234, _, none⟩) NB231_234.out _).trans (hHeld.2.2.1)))))))))))), ((cell_far (p := ⟨gb234, _, none⟩) NB231_234.out _).trans (((cell_far (p := ⟨gb234, _, none⟩) NB231_234.out _).trans (((cell_far (p := ⟨gb234, _, none⟩) NB231_234.out _).trans (((cell_far (p := ⟨gb234, _, none⟩) NB231_234.out _).trans (((cell_far (p := ⟨gb234, _, none⟩) NB231_234.out _).trans (((cell_far (p := ⟨gb234, _, none⟩) NB231_234.out _).trans (hHeld.2.2.2.1)))))))))))), ((cell_far (p := ⟨gb234, _, none⟩) NB231_234.out _).trans (((cell_far (p := ⟨gb234, _, none⟩) NB231_234.out _).trans (((cell_far (p := ⟨gb234, _, none⟩) NB231_234.out _).trans (((cell_far (p := ⟨gb234, _, none⟩) NB231_234.out _).trans (((cell_far (p := ⟨gb234, _, none⟩) NB231_234.out _).trans (((cell_far (p := ⟨gb234, _, none⟩) NB231_234.out _).trans (hHeld.2.2.2.2.1)))))))))))), ((cell_far (p := ⟨gb234, _, none⟩) NB231_234.out _).trans (((cell_far (p := ⟨gb234, _, none⟩) NB231_234.out _).trans (((cell_far (p := ⟨gb234, _, none⟩) NB231_234.out _).trans (((cell_far (p := ⟨gb234, _, none⟩) NB231_234.out _).trans (((cell_far (p := ⟨gb234, _, none⟩) NB231_234.out _).trans (((cell_far (p := ⟨gb234, _, none⟩) NB231_234.out _).trans (hHeld.2.2.2.2.2.1)))))))))))), ((cell_far (p := ⟨gb234, _, none⟩) NB231_234.out _).trans (((cell_far (p := ⟨gb234, _, none⟩) NB231_234.out _).trans (((cell_far (p := ⟨gb234, _, none⟩) NB231_234.out _).trans (((cell_far (p := ⟨gb234, _, none⟩) NB231_234.out _).trans (((cell_far (p := ⟨gb234, _, none⟩) NB231_234.out _).trans (((cell_far (p := ⟨gb234, _, none⟩) NB231_234.out _).trans (hHeld.2.2.2.2.2.2.1)))))))))))), ((cell_far (p := ⟨gb234, _, none⟩) NB231_234.out _).trans (((cell_far (p := ⟨gb234, _, none⟩) NB231_234.out _).trans (((cell_far (p := ⟨gb234, _, none⟩) NB231_234.out _).trans (((cell_far (p := ⟨gb234, _, none⟩) NB231_234.out _).trans (((cell_far (p := ⟨gb234, _, none⟩) NB231_234.out _).trans (((cell_far (p := ⟨gb234, _, none⟩) NB231_234.out _).trans (hHeld.2.2.2.2.2.2.2.1)))))))))))), ((cell_far (p := ⟨gb234, _, none⟩) NB231_234.out _).trans (((cell_far (p := ⟨gb234, _, none⟩) NB231_234.out _).trans (((cell_far (p := ⟨gb234, _, none⟩) NB231_234.out _).trans (((cell_far (p := ⟨gb234, _, none⟩) NB231_234.out _).trans (((cell_far (p := ⟨gb234, _, none⟩) NB231_234.out _).trans (((cell_far (p := ⟨gb234, _, none⟩) NB231_234.out _).trans (hHeld.2.2.2.2.2.2.2.2))))))))))))⟩ (fun hHeld => ?_)
 clear hK K
 refine done_ (done_of HT_.out (by kernel_rfl)) ?_
 have hnb19 := NB231_232.out
 have hnc19 := NB232_231.out
 have hnb20 := NB231_234.out
 have hnc20 := NB234_231.out
 obtain ⟨hcz21_0, hcz21_1, hcz21_2, hcz21_3, hcz21_4, hcz21_5, hcz21_6, hcz21_7, hcz21_8, hfz21_0, hfz21_1, hfz21_2, hfz21_3, hfz21_4, hfz21_5, hfz21_6, hfz21_7, hfz21_8⟩ := bf9 BK231.out
 have hnb22 := NB234_232.out
 have hnc22 := NB232_234.out
 obtain ⟨hcz23_0, hcz23_1, hcz23_2, hcz23_3, hcz23_4, hcz23_5, hfz23_0, hfz23_1, hfz23_2, hfz23_3, hfz23_4, hfz23_5⟩ := bf6 BK234.out
 obtain ⟨hcz24_0, hcz24_1, hcz24_2, hcz24_3, hcz24_4, hcz24_5, hfz24_0, hfz24_1, hfz24_2, hfz24_3, hfz24_4, hfz24_5⟩ := bf6 BK232.out
 refine abs_world_ (fun ww hww => ?_)
 have F234 := Aside0.mk (show ww.heap[gb234]? = some (.cells #[.string a0_0, .string a0_1, .string a1, .string a2, .int .i64 (wrap64 (a0_4 + t233)), .bool a0_6] 37 (0, 0)) by rw [hww]; refine blk_put (cs := #[.string a0_0, .string a0_1, .string a1, .string a2, .int .i64 (wrap64 (a0_4 + t233)), .bool false]) ?_ 5 _ rfl; refine blk_put (cs := #[.string a0_0, .string a0_1, .string a1, .string a2, .int .i64 0, .bool false]) ?_ 4 _ rfl; refine blk_put (cs := #[.string a0_0, .string a0_1, .string a1, .string (⟨#[]⟩ : ByteArray), .int .i64 0, .bool false]) ?_ 3 _ rfl; refine blk_put (cs := #[.string a0_0, .string a0_1, .string (⟨#[]⟩ : ByteArray), .string (⟨#[]⟩ : ByteArray), .int .i64 0, .bool false]) ?_ 2 _ rfl; refine blk_put (cs := #[.string a0_0, .string (⟨#[]⟩ : ByteArray), .string (⟨#[]⟩ : ByteArray), .string (⟨#[]⟩ : ByteArray), .int .i64 0, .bool false]) ?_ 1 _ rfl; refine blk_put (cs := #[.string (⟨#[]⟩ : ByteArray), .string (⟨#[]⟩ : ByteArray), .string (⟨#[]⟩ : ByteArray), .string (⟨#[]⟩ : ByteArray), .int .i64 0, .bool false]) ?_ 0 _ rfl; exact BK234.out)
 have F232 := Aside0.mk (show ww.heap[gb232]? = some (.cells #[.string (⟨#[]⟩ : ByteArray), .string (⟨#[]⟩ : ByteArray), .string (⟨#[]⟩ : ByteArray), .string (⟨#[]⟩ : ByteArray), .int .i64 0, .bool false] 37 (0, 0)) by rw [hww]; refine blk_far ?_ NB232_234.out _; refine blk_far ?_ NB232_234.out _; refine blk_far ?_ NB232_234.out _; refine blk_far ?_ NB232_234.out _; refine blk_far ?_ NB232_234.out _; refine blk_far ?_ NB232_234.out _; exact BK232.out)
 have F231 := Aside0.mk (show ww.heap[gb231]? = some (.cells #[.string a0_0, .string a0_1, .string a0_2, .string a0_3, .int .i64 a0_4, .int .i64 a0_5, .bool a0_6, .int .i64 a0_7, .bool a0_8] 23 (0, 0)) by rw [hww]; refine blk_far ?_ NB231_234.out _; refine blk_far ?_ NB231_234.out _; refine blk_far ?_ NB231_234.out _; refine blk_far ?_ NB231_234.out _; refine blk_far ?_ NB231_234.out _; refine blk_far ?_ NB231_234.out _; exact BK231.out)
 have HW := Aside0.mk (show Below w.heap.size w ww by rw [hww]; refine below_set ?_ GE234.out; refine below_set ?_ GE234.out; refine below_set ?_ GE234.out; refine below_set ?_ GE234.out; refine below_set ?_ GE234.out; refine below_set ?_ GE234.out; exact HB.out)
 have hne := NB231_232.out
 have hen := NB232_231.out
 have hnx := NB232_234.out
 have hxn := NB234_232.out
 clear hww
 try clear hcz21_0
 try clear hcz21_1
 try clear hcz21_2
 try clear hcz21_3
 try clear hcz21_4
 try clear hcz21_5
 try clear hcz21_6
 try clear hcz21_7
 try clear hcz21_8
 try clear hcz23_0
 try clear hcz23_1
 try clear hcz23_2
 try clear hcz23_3
 try clear hcz23_4
 try clear hcz23_5
 try clear hcz24_0
 try clear hcz24_1
 try clear hcz24_2
 try clear hcz24_3
 try clear hcz24_4
 try clear hcz24_5
 try clear hfs13
 try clear hfs14
 try clear hfs15
 try clear hfs16
 try clear hfs17
 try clear hfs18
 try clear hfz21_0
 try clear hfz21_1
 try clear hfz21_2
 try clear hfz21_3
 try clear hfz21_4
 try clear hfz21_5
 try clear hfz21_6
 try clear hfz21_7
 try clear hfz21_8
 try clear hfz23_0
 try clear hfz23_1
 try clear hfz23_2
 try clear hfz23_3
 try clear hfz23_4
 try clear hfz23_5
 try clear hfz24_0
 try clear hfz24_1
 try clear hfz24_2
 try clear hfz24_3
 try clear hfz24_4
 try clear hfz24_5
 try clear hms13_0
 try clear hms13_1
 try clear hms14_0
 try clear hms14_1
 try clear hms15_0
 try clear hms15_1
 try clear hms16_0
 try clear hms16_1
 try clear hms17_0
 try clear hms17_1
 try clear hms18_0
 try clear hms18_1
 try clear hnb19
 try clear hnb20
 try clear hnb22
 try clear hnc19
 try clear hnc20
 try clear hnc22
 try clear hns13_0
 try clear hns13_1
 try clear hns14_0
 try clear hns14_1
 try clear hns15_0
 try clear hns15_1
 try clear hns16_0
 try clear hns16_1
 try clear hns17_0
 try clear hns17_1
 try clear hns18_0
 try clear hns18_1
 try clear hs13
 try clear hs14
 try clear hs15
 try clear hs16
 try clear hs17
 try clear hs18
 try clear BK231 BK232 BK234
 try clear HB
 have hcm : ww.cell? ⟨gb231, 2, none⟩ = some (.string a0_2) := (blk_cell F231.out 2).trans rfl
 have hcv : ww.cell? ⟨gb231, 3, none⟩ = some (.string a0_3) := (blk_cell F231.out 3).trans rfl
 have hx0 : ww.cell? ⟨gb234, 0, none⟩ = some (.string a0_0) := (blk_cell F234.out 0).trans rfl
 have hy0 : ww.cell? ⟨gb232, 0, none⟩ = some (.string (⟨#[]⟩ : ByteArray)) := (blk_cell F232.out 0).trans rfl
 have hz0 := blk_frozen F232.out 0
 have hv0 := blk_frozen F234.out 0
 have hx1 : ww.cell? ⟨gb234, 1, none⟩ = some (.string a0_1) := (blk_cell F234.out 1).trans rfl
 have hy1 : ww.cell? ⟨gb232, 1, none⟩ = some (.string (⟨#[]⟩ : ByteArray)) := (blk_cell F232.out 1).trans rfl
 have hz1 := blk_frozen F232.out 1
 have hv1 := blk_frozen F234.out 1
 have hx2 : ww.cell? ⟨gb234, 2, none⟩ = some (.string a1) := (blk_cell F234.out 2).trans rfl
 have hy2 : ww.cell? ⟨gb232, 2, none⟩ = some (.string (⟨#[]⟩ : ByteArray)) := (blk_cell F232.out 2).trans rfl
 have hz2 := blk_frozen F232.out 2
 have hv2 := blk_frozen F234.out 2
 have hx3 : ww.cell? ⟨gb234, 3, none⟩ = some (.string a2) := (blk_cell F234.out 3).trans rfl
 have hy3 : ww.cell? ⟨gb232, 3, none⟩ = some (.string (⟨#[]⟩ : ByteArray)) := (blk_cell F232.out 3).trans rfl
 have hz3 := blk_frozen F232.out 3
 have hv3 := blk_frozen F234.out 3
 have hx4 : ww.cell? ⟨gb234, 4, none⟩ = some (.int .i64 (wrap64 (a0_4 + t233))) := (blk_cell F234.out 4).trans rfl
 have hy4 : ww.cell? ⟨gb232, 4, none⟩ = some (.int .i64 0) := (blk_cell F232.out 4).trans rfl
 have hz4 := blk_frozen F232.out 4
 have hv4 := blk_frozen F234.out 4
 have hx5 : ww.cell? ⟨gb234, 5, none⟩ = some (.bool a0_6) := (blk_cell F234.out 5).trans rfl
 have hy5 : ww.cell? ⟨gb232, 5, none⟩ = some (.bool false) := (blk_cell F232.out 5).trans rfl
 have hz5 := blk_frozen F232.out 5
 have hv5 := blk_frozen F234.out 5
 have H := HX.out
 clear HX
 by_cases c6 : a0_2.toList = ([] : List UInt8)
 ·rw [if_pos c6] at H
  have c6b0 : (a0_2.toList == ([] : List UInt8)) = true := beq_iff_eq.mpr c6
  have c6b1 : (a0_2.toList != ([] : List UInt8)) = false := bne_eq_false_iff_eq.mpr c6
  clear c6
  by_cases c7 : a0_3.toList = ([] : List UInt8)
  ·rw [if_pos c7] at H
   have c7b0 : (a0_3.toList == ([] : List UInt8)) = true := beq_iff_eq.mpr c7
   have c7b1 : (a0_3.toList != ([] : List UInt8)) = false := bne_eq_false_iff_eq.mpr c7
   clear c7
   simp only [Option.some.injEq, Prod.mk.injEq] at H
   obtain ⟨rfl, rfl, rfl, rfl, rfl, rfl⟩ := H
   go_wp2
   refine bodyPost_ret (results_cell_row rfl _ _ gb232 37 #[.string a0_0, .string a0_1, .string a1, .string a2, .int .i64 (wrap64 (a0_4 + t233)), .bool a0_6] (0, 0) _ rfl (blk_put (cs' := #[.string a0_0, .string a0_1, .string a1, .string a2, .int .i64 (wrap64 (a0_4 + t233)), .bool a0_6]) (blk_put (cs' := #[.string a0_0, .string a0_1, .string a1, .string a2, .int .i64 (wrap64 (a0_4 + t233)), .bool false]) (blk_put (cs' := #[.string a0_0, .string a0_1, .string a1, .string a2, .int .i64 0, .bool false]) (blk_put (cs' := #[.string a0_0, .string a0_1, .string a1, .string (⟨#[]⟩ : ByteArray), .int .i64 0, .bool false]) (blk_put (cs' := #[.string a0_0, .string a0_1, .string (⟨#[]⟩ : ByteArray), .string (⟨#[]⟩ : ByteArray), .int .i64 0, .bool false]) (blk_put (cs' := #[.string a0_0, .string (⟨#[]⟩ : ByteArray), .string (⟨#[]⟩ : ByteArray), .string (⟨#[]⟩ : ByteArray), .int .i64 0, .bool false]) (F232.out) 0 _ rfl) 1 _ rfl) 2 _ rfl) 3 _ rfl) 4 _ rfl) 5 _ rfl) Tryd.underlying37 rfl (by kernel_rfl)) rfl ?_
   exact ⟨rfl, below_set (below_set (below_set (below_set (below_set (below_set (HW.out) GE232.out) GE232.out) GE232.out) GE232.out) GE232.out) GE232.out⟩
  ·rw [if_neg c7] at H
   have c7b0 : (a0_3.toList == ([] : List UInt8)) = false := beq_eq_false_iff_ne.mpr c7
   have c7b1 : (a0_3.toList != ([] : List UInt8)) = true := bne_iff_ne.mpr c7
   clear c7
   simp only [Option.some.injEq, Prod.mk.injEq] at H
   obtain ⟨rfl, rfl, rfl, rfl, rfl, rfl⟩ := H
   go_wp2
   refine bodyPost_ret (results_cell_row rfl _ _ gb232 37 #[.string a0_0, .string a0_1, .string a1, .string a0_3, .int .i64 (wrap64 (a0_4 + t233)), .bool a0_6] (0, 0) _ rfl (blk_put (cs' := #[.string a0_0, .string a0_1, .string a1, .string a0_3, .int .i64 (wrap64 (a0_4 + t233)), .bool a0_6]) (blk_put (cs' := #[.string a0_0, .string a0_1, .string a1, .string a0_3, .int .i64 (wrap64 (a0_4 + t233)), .bool false]) (blk_put (cs' := #[.string a0_0, .string a0_1, .string a1, .string a0_3, .int .i64 0, .bool false]) (blk_put (cs' := #[.string a0_0, .string a0_1, .string a1, .string (⟨#[]⟩ : ByteArray), .int .i64 0, .bool false]) (blk_put (cs' := #[.string a0_0, .string a0_1, .string (⟨#[]⟩ : ByteArray), .string (⟨#[]⟩ : ByteArray), .int .i64 0, .bool false]) (blk_put (cs' := #[.string a0_0, .string (⟨#[]⟩ : ByteArray), .string (⟨#[]⟩ : ByteArray), .string (⟨#[]⟩ : ByteArray), .int .i64 0, .bool false]) (blk_far (F232.out) NB232_234.out _) 0 _ rfl) 1 _ rfl) 2 _ rfl) 3 _ rfl) 4 _ rfl) 5 _ rfl) Tryd.underlying37 rfl (by kernel_rfl)) rfl ?_
   exact ⟨rfl, below_set (below_set (below_set (below_set (below_set (below_set (below_set (HW.out) GE234.out) GE232.out) GE232.out) GE232.out) GE232.out) GE232.out) GE232.out⟩
 ·rw [if_neg c6] at H
  have c6b0 : (a0_2.toList == ([] : List UInt8)) = false := beq_eq_false_iff_ne.mpr c6
  have c6b1 : (a0_2.toList != ([] : List UInt8)) = true := bne_iff_ne.mpr c6
  clear c6
  by_cases c7 : a0_3.toList = ([] : List UInt8)
  ·rw [if_pos c7] at H
   have c7b0 : (a0_3.toList == ([] : List UInt8)) = true := beq_iff_eq.mpr c7
   have c7b1 : (a0_3.toList != ([] : List UInt8)) = false := bne_eq_false_iff_eq.mpr c7
   clear c7
   simp only [Option.some.injEq, Prod.mk.injEq] at H
   obtain ⟨rfl, rfl, rfl, rfl, rfl, rfl⟩ := H
   go_wp2
   refine bodyPost_ret (results_cell_row rfl _ _ gb232 37 #[.string a0_0, .string a0_1, .string a0_2, .string a2, .int .i64 (wrap64 (a0_4 + t233)), .bool a0_6] (0, 0) _ rfl (blk_put (cs' := #[.string a0_0, .string a0_1, .string a0_2, .string a2, .int .i64 (wrap64 (a0_4 + t233)), .bool a0_6]) (blk_put (cs' := #[.string a0_0, .string a0_1, .string a0_2, .string a2, .int .i64 (wrap64 (a0_4 + t233)), .bool false]) (blk_put (cs' := #[.string a0_0, .string a0_1, .string a0_2, .string a2, .int .i64 0, .bool false]) (blk_put (cs' := #[.string a0_0, .string a0_1, .string a0_2, .string (⟨#[]⟩ : ByteArray), .int .i64 0, .bool false]) (blk_put (cs' := #[.string a0_0, .string a0_1, .string (⟨#[]⟩ : ByteArray), .string (⟨#[]⟩ : ByteArray), .int .i64 0, .bool false]) (blk_put (cs' := #[.string a0_0, .string (⟨#[]⟩ : ByteArray), .string (⟨#[]⟩ : ByteArray), .string (⟨#[]⟩ : ByteArray), .int .i64 0, .bool false]) (blk_far (F232.out) NB232_234.out _) 0 _ rfl) 1 _ rfl) 2 _ rfl) 3 _ rfl) 4 _ rfl) 5 _ rfl) Tryd.underlying37 rfl (by kernel_rfl)) rfl ?_
   exact ⟨rfl, below_set (below_set (below_set (below_set (below_set (below_set (below_set (HW.out) GE234.out) GE232.out) GE232.out) GE232.out) GE232.out) GE232.out) GE232.out⟩
  ·rw [if_neg c7] at H
   have c7b0 : (a0_3.toList == ([] : List UInt8)) = false := beq_eq_false_iff_ne.mpr c7
   have c7b1 : (a0_3.toList != ([] : List UInt8)) = true := bne_iff_ne.mpr c7
   clear c7
   simp only [Option.some.injEq, Prod.mk.injEq] at H
   obtain ⟨rfl, rfl, rfl, rfl, rfl, rfl⟩ := H
   go_wp2
   refine bodyPost_ret (results_cell_row rfl _ _ gb232 37 #[.string a0_0, .string a0_1, .string a0_2, .string a0_3, .int .i64 (wrap64 (a0_4 + t233)), .bool a0_6] (0, 0) _ rfl (blk_put (cs' := #[.string a0_0, .string a0_1, .string a0_2, .string a0_3, .int .i64 (wrap64 (a0_4 + t233)), .bool a0_6]) (blk_put (cs' := #[.string a0_0, .string a0_1, .string a0_2, .string a0_3, .int .i64 (wrap64 (a0_4 + t233)), .bool false]) (blk_put (cs' := #[.string a0_0, .string a0_1, .string a0_2, .string a0_3, .int .i64 0, .bool false]) (blk_put (cs' := #[.string a0_0, .string a0_1, .string a0_2, .string (⟨#[]⟩ : ByteArray), .int .i64 0, .bool false]) (blk_put (cs' := #[.string a0_0, .string a0_1, .string (⟨#[]⟩ : ByteArray), .string (⟨#[]⟩ : ByteArray), .int .i64 0, .bool false]) (blk_put (cs' := #[.string a0_0, .string (⟨#[]⟩ : ByteArray), .string (⟨#[]⟩ : ByteArray), .string (⟨#[]⟩ : ByteArray), .int .i64 0, .bool false]) (blk_far (blk_far (F232.out) NB232_234.out _) NB232_234.out _) 0 _ rfl) 1 _ rfl) 2 _ rfl) 3 _ rfl) 4 _ rfl) 5 _ rfl) Tryd.underlying37 rfl (by kernel_rfl)) rfl ?_
   exact ⟨rfl, below_set (below_set (below_set (below_set (below_set (below_set (below_set (below_set (HW.out) GE234.out) GE234.out) GE232.out) GE232.out) GE232.out) GE232.out) GE232.out) GE232.out⟩

end Go.Proofs.YtdlgohhecicnoaaDoor.XPartnerNeverIsNever
