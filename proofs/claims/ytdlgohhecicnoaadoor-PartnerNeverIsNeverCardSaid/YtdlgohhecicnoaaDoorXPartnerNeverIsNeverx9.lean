-- Walks of PartnerNeverIsNever: written by xprint.py out of the translation (hand-proved functions among them). Lean checks it.
import Derived.Test.YtdlgohhecicnoaaDoorXPartnerNeverIsNeverx0
import Derived.Test.YtdlgohhecicnoaaDoorXPartnerNeverIsNeverx1
import Derived.Test.YtdlgohhecicnoaaDoorXPartnerNeverIsNeverx4
import Derived.Test.YtdlgohhecicnoaaDoorXPartnerNeverIsNeverx8
namespace Go.Proofs.YtdlgohhecicnoaaDoor.XPartnerNeverIsNever
open Go.RowKit Go.Proofs.YtdlgohhecicnoaaDoorW.PrintWords Go.Proofs.YtdlgohhecicnoaaDoorW.PrintLast Go.Proofs.YtdlgohhecicnoaaDoorW.PrintMore
attribute [local go_sem] max2_int min2_int max_two min_two max_three min_three max_four min_four   -- for this text's walks alone
set_option linter.unusedVariables false
set_option linter.unusedSimpArgs false

/-! ### partner_Never_1: function 82 -/
def partner_Never_1.f (a0_0 : ByteArray) (a0_1 : ByteArray) (a0_2 : ByteArray) (a0_3 : ByteArray) (a0_4 : Int) (a0_5 : Int) (a0_6 : Bool) (a0_7 : Int) (a0_8 : Bool) : Option (ByteArray) := some a0_2
set_option maxHeartbeats 8000000 in
set_option maxRecDepth 100000 in
theorem partner_Never_1.calls (a0_0 : ByteArray) (a0_1 : ByteArray) (a0_2 : ByteArray) (a0_3 : ByteArray) (a0_4 : Int) (a0_5 : Int) (a0_6 : Bool) (a0_7 : Int) (a0_8 : Bool) (r : ByteArray) (w : World) (h : partner_Never_1.f a0_0 a0_1 a0_2 a0_3 a0_4 a0_5 a0_6 a0_7 a0_8 = some r) :
  Calls Tryd.prog 82 #[.agg #[.string a0_0, .string a0_1, .string a0_2, .string a0_3, .int .i64 a0_4, .int .i64 a0_5, .bool a0_6, .int .i64 a0_7, .bool a0_8]] w fun e w' => e = .returned (.string r) ∧ Below w.heap.size w w' := by
 have hu23 := Tryd.underlying23
 have HB := Aside0.mk (Below.refl w.heap.size w)
 have H : (some a0_2) = some r := h
 clear h
 obtain rfl := Option.some.inj H
 go_enter Tryd.func82, Tryd.ntmps82
 go_wp2_with (first | ((with_reducible refine gate_dst (N := 1) rfl ?_); refine box_event ?hg (N := 1) ?hd (cs := #[.string a0_0, .string a0_1, .string a0_2, .string a0_3, .int .i64 a0_4, .int .i64 a0_5, .bool a0_6, .int .i64 a0_7, .bool a0_8]) (t := 23) ?hr ?_; (case hd => rfl); (case hg => rfl); (case hr => exact Z103); intro gb222 hg w2 hbox hb; have n0_ := Aside0.mk (below_step Z70 hb); have n1_ := Aside0.mk (hbox); have n2_ := Aside0.mk ((Z49 : w.heap.size ≤ gb222)); have n3_ := Aside0.mk ((Z49 : w.heap.size ≤ gb222)); clear HB; have HB := n0_; have BK222 := n1_; have GW222 := n2_; have GE222 := n3_; clear n0_ n1_ n2_ n3_; clear hb hbox hg; obtain ⟨hcz3_0, hcz3_1, hcz3_2, hcz3_3, hcz3_4, hcz3_5, hcz3_6, hcz3_7, hcz3_8, hfz3_0, hfz3_1, hfz3_2, hfz3_3, hfz3_4, hfz3_5, hfz3_6, hfz3_7, hfz3_8⟩ := bf9 BK222.out))
 go_ret
 exact ⟨Z66, by repeat (first | (with_reducible first | exact HB.out | apply below_alloc | apply pw_below_drewN | apply below_drew1 | refine below_set ?_ GE222.out) | exact HB.out)⟩

/-! ### fn_other_message: function 199 -/
def enc23 (x : S23) : List Value := [.string x.f0, .string x.f1, .string x.f2, .string x.f3, .int .i64 x.f4, .int .i64 x.f5, .bool x.f6, .int .i64 x.f7, .bool x.f8]
instance : Inhabited S23 := ⟨z23⟩
theorem cf_nil (A : Option Addr) (c : Nat) (f : Value) (w : World) : Calls Tryd.prog 111 #[.slice A 0 c, f] w fun e w' => e = .returned (.bool false) ∧ w' = w := by
 have h136 : Calls Tryd.prog 136 #[.slice A 0 c, f] w fun e w' => e = .returned (.int .i64 (-1)) ∧ w' = w := by
  go_enter Tryd.func136, Tryd.ntmps136
  go_wp2
  go_rounds 1
  go_ret
  exact ⟨rfl, rfl⟩
 go_enter Tryd.func111, Tryd.ntmps111
 go_wp2_with (go_at_call 136; refine h136.mono ?_; rintro e w' ⟨rfl, rfl⟩)
 go_ret
 exact ⟨rfl, rfl⟩
theorem k23_cells {w : World} {A : Option Addr} {l : List S23} (h : Kd.C k23 w A l.length l) (hpos : 0 < l.length) : ∃ b off, A = some ⟨b, off, none⟩ ∧ b < w.heap.size ∧ ∀ j, j < l.length → ∀ i v, (enc23 l[j]!)[i]? = some v → w.cell? ⟨b, off + j * 9 + i, none⟩ = some v := by
 obtain ⟨ad, rfl, hcell⟩ := h.2.2 hpos
 have hc : ∀ j, j < l.length → ∀ i v, (enc23 l[j]!)[i]? = some v → w.cell? (ad.add (j * 9 + i)) = some v := by
  intro j hj i v hv
  obtain ⟨c, hc1, hc2, hc3⟩ := hcell j l[j] (List.getElem?_eq_getElem hj)
  have e : c = enc23 l[j] := k23_open hc2
  rw [getElem!_pos l j hj, ← e] at hv
  exact hc3 i v hv
 obtain ⟨b, off, sp⟩ := ad
 have h0 := hc 0 hpos 0 _ rfl
 have hsp : sp = none := by
  cases sp with
  | none => rfl
  | some s =>
   simp only [Addr.add, World.cell?, if_true, Option.isSome_some] at h0
   split at h0 <;> cases h0
 subst hsp
 have hadd : ∀ m, (Addr.add ⟨b, off, none⟩ m : Addr) = ⟨b, off + m, none⟩ := fun m => by by_cases e : m = 0 <;> simp [Addr.add, e]
 refine ⟨b, off, rfl, ?_, fun j hj i v hv => ?_⟩
 ·rw [hadd] at h0
  exact World.block_lt_of_cell? w _ h0
 ·have := hc j hj i v hv
  rw [hadd, ← Nat.add_assoc] at this
  exact this
set_option maxHeartbeats 4000000 in
theorem fn_other_message.pred (s : ByteArray) (B1 B2 : Nat) (w : World) (h1 : B1 < w.heap.size) (h2 : B2 < w.heap.size) (c1 : w.cell? ⟨B1, 0, none⟩ = some (.func (.func 82) #[] #[])) (c2 : w.cell? ⟨B2, 0, none⟩ = some (.string s)) :
  PredBelow Tryd.prog 112 #[.pointer (some ⟨B1, 0, none⟩), .pointer (some ⟨B2, 0, none⟩)] (fun x => .agg (enc23 x).toArray) (fun x => decide (x.f2.toList = s.toList)) w := fun W x hb => by
 have d1 : W.cell? ⟨B1, 0, none⟩ = some (.func (.func 82) #[] #[]) := (hb.cell (p := ⟨B1, 0, none⟩) h1).trans c1
 have d2 : W.cell? ⟨B2, 0, none⟩ = some (.string s) := (hb.cell (p := ⟨B2, 0, none⟩) h2).trans c2
 have l1 : B1 < W.heap.size := Nat.lt_of_lt_of_le h1 hb.size
 have l2 : B2 < W.heap.size := Nat.lt_of_lt_of_le h2 hb.size
 have n1 : B1 ≠ W.heap.size := by omega
 have n2 : B2 ≠ W.heap.size := by omega
 show Calls Tryd.prog 112 #[.agg #[.string x.f0, .string x.f1, .string x.f2, .string x.f3, .int .i64 x.f4, .int .i64 x.f5, .bool x.f6, .int .i64 x.f7, .bool x.f8], .pointer (some ⟨B1, 0, none⟩), .pointer (some ⟨B2, 0, none⟩)] W _
 go_enter Tryd.func112, Tryd.ntmps112
 go_wp2
 have hk : ∀ W1 : World, Below W.heap.size W W1 → Calls Tryd.prog 82 #[.agg #[.string x.f0, .string x.f1, .string x.f2, .string x.f3, .int .i64 x.f4, .int .i64 x.f5, .bool x.f6, .int .i64 x.f7, .bool x.f8]] W1 fun e w' => e = .returned (.string x.f2) ∧ Below W.heap.size W w' :=
  fun W1 hb1 => (partner_Never_1.calls x.f0 x.f1 x.f2 x.f3 x.f4 x.f5 x.f6 x.f7 x.f8 x.f2 W1 rfl).mono fun e w' he => ⟨he.1, below_step hb1 he.2⟩
 have hB0 : Below W.heap.size W W := Below.refl _ _
 go_region_with (go_at_call 82; refine (hk _ (by repeat (first | exact hB0 | apply below_alloc | apply pw_below_drewN | apply below_drew1))).mono ?_; rintro e w' ⟨rfl, hb2⟩; have e1 := (hb2.cell (p := ⟨B1, 0, none⟩) l1).trans d1; have e2 := (hb2.cell (p := ⟨B2, 0, none⟩) l2).trans d2)
 all_goals (try simp only [List.getElem_toArray, List.getElem_cons_succ, List.getElem_cons_zero, Act.put, List.setIfInBounds_toArray, List.set_cons_zero, List.set_cons_succ])
 all_goals go_wp2
 all_goals go_ret
 all_goals exact ⟨by simp [Bool.beq_eq_decide_eq], below_step hb (by first | exact hb2 | exact pw_below_drewN hb2 _ | exact below_drew1 hb2)⟩
theorem fn_other_message.has (s : ByteArray) (A : Option Addr) (c : Nat) (l : List S23) (B1 B2 : Nat) (w : World) (hl : l.length ≤ 9223372036854775807) (h : Kd.C k23 w A l.length l) (h1 : B1 < w.heap.size) (h2 : B2 < w.heap.size) (c1 : w.cell? ⟨B1, 0, none⟩ = some (.func (.func 82) #[] #[])) (c2 : w.cell? ⟨B2, 0, none⟩ = some (.string s)) :
  Calls Tryd.prog 111 #[.slice A l.length c, .func (.func 112) #[] #[.pointer (some ⟨B1, 0, none⟩), .pointer (some ⟨B2, 0, none⟩)]] w fun e w' => e = .returned (.bool (l.any fun a => decide (a.f2.toList = s.toList))) ∧ Below w.heap.size w w' := by
 rcases Nat.eq_zero_or_pos l.length with hz | hpos
 ·obtain rfl := List.length_eq_zero_iff.1 hz
  exact (cf_nil A c _ w).mono fun e w' he => ⟨he.1, by rw [he.2]; exact Below.refl _ _⟩
 ·obtain ⟨b, off, rfl, hb, hcell⟩ := k23_cells h hpos
  have eg : ∀ args w, (callFunc 112 args).run Tryd.prog w = .ok (.enter 112 args) w := enters_of Tryd.func112 (by kernel_rfl) rfl
  have := AnyQ.slices_ContainsFunc Tryd.l111 9 Tryd.isAgg23 Tryd.sizeOf23 enc23 (fun _ => rfl) (fun x => decide (x.f2.toList = s.toList)) 112 #[.pointer (some ⟨B1, 0, none⟩), .pointer (some ⟨B2, 0, none⟩)] eg b off l.length c l w
   (fn_other_message.pred s B1 B2 w h1 h2 c1 c2) (Nat.le_refl _) hl hb hcell
  rw [List.take_length] at this
  exact this
def fn_other_message.l0 : Nat → List S23 → ByteArray → Option ByteArray
 | 0, _, _ => none
 | k + 1, l, s => if (l.any fun a => decide (a.f2.toList = s.toList)) = true then (if s.size < 4611686018427387904 then fn_other_message.l0 k l (s ++ ⟨#[122]⟩) else none) else some s
def fn_other_message.f (k : Nat) (l : List S23) : Option ByteArray := fn_other_message.l0 k l ⟨#[122]⟩
theorem fn_other_message.mono_l : ∀ k l s, LeO (fn_other_message.l0 k l s) (fn_other_message.l0 (k + 1) l s)
 | 0, l, s => fun r h => by simp [fn_other_message.l0] at h
 | k + 1, l, s => fun r h => by
  have ih := fn_other_message.mono_l k l (s ++ ⟨#[122]⟩)
  rw [fn_other_message.l0] at h ⊢
  split at h
  ·rename_i h1
   rw [if_pos h1]
   split at h
   ·rename_i h2
    rw [if_pos h2]
    exact ih r h
   ·cases h
  ·rename_i h1
   rw [if_neg h1]
   exact h
theorem fn_other_message.mono : ∀ l k, LeO (fn_other_message.f k l) (fn_other_message.f (k + 1) l) := fun l k => fn_other_message.mono_l k l _
theorem fn_other_message.calls (k : Nat) (A0 : Option Addr) (c0 : Nat) (l0 : List S23) (r : ByteArray) (w : World) (hr0 : Kd.C k23 w A0 l0.length l0) (hc0 : l0.length ≤ c0) (h : fn_other_message.f k l0 = some r) :
  Calls Tryd.prog 81 #[.slice A0 l0.length c0, .func (.func 82) #[] #[]] w fun e w' => e = .returned (.string r) ∧ Below w.heap.size w w' := by
 have HH := Aside0.mk (show fn_other_message.l0 k l0 ⟨#[122]⟩ = some r from h)
 have hl : l0.length ≤ 9223372036854775807 := hr0.2.1
 have HL := Aside0.mk hl
 have HR := Aside0.mk hr0
 clear hl hr0 h hc0
 go_enter Tryd.func81, Tryd.ntmps81
 go_wp2
 have b0 : Below w.heap.size w ((w.alloc (.cells #[.func (.func 82) #[] #[]] 116)).alloc (.cells #[.string ⟨#[122]⟩] 9)) := below_alloc (below_alloc (Below.refl _ _) _) _
 have b1 := blk_alloc (blk_new w (.cells #[.func (.func 82) #[] #[]] 116)) (.cells #[.string ⟨#[122]⟩] 9)
 have b2 := blk_new (w.alloc (.cells #[.func (.func 82) #[] #[]] 116)) (.cells #[.string ⟨#[122]⟩] 9)
 have hsz : (w.alloc (.cells #[.func (.func 82) #[] #[]] 116)).heap.size = w.heap.size + 1 := by simp
 rw [hsz] at b2
 have g1 : w.heap.size ≠ w.heap.size + 1 := by omega
 have gE : w.heap.size ≤ w.heap.size + 1 := by omega
 generalize ((w.alloc (.cells #[.func (.func 82) #[] #[]] 116)).alloc (.cells #[.string ⟨#[122]⟩] 9)) = W0 at *
 clear hsz
 generalize hB1 : w.heap.size = B1 at *
 generalize hB2 : B1 + 1 = B2 at *
 have HB := Aside0.mk b0
 have BK1 := Aside0.mk b1
 have BK2 := Aside0.mk b2
 clear b0 b1 b2
 go_loopg [8] k (fun kq v8 w' => ∃ s : ByteArray, Aside0 (fn_other_message.l0 kq l0 s = some r) ∧ Aside0 (w'.heap[B1]? = some (.cells #[.func (.func 82) #[] #[]] 116 (0, 0))) ∧ Aside0 (w'.heap[B2]? = some (.cells #[.string s] 9 (0, 0))) ∧ Aside0 (Below B1 w w'))
 case atStart => exact ⟨_, HH, BK1, BK2, HB⟩
 case round =>
  clear HB BK1 BK2 HH
  obtain ⟨s, HA, BK1, BK2, HB⟩ := hrel
  cases gk with
  | zero => exact absurd HA.out (by simp [fn_other_message.l0])
  | succ k1 =>
   have H := HA.out
   clear HA
   rw [fn_other_message.l0] at H
   have hb : Below w.heap.size w wr := by rw [hB1]; exact HB.out
   have hcon := fn_other_message.has s A0 c0 l0 B1 B2 wr HL.out (Kd.C_below HR.out hb) (blk_lt BK1.out) (blk_lt BK2.out) ((blk_cell BK1.out 0).trans rfl) ((blk_cell BK2.out 0).trans rfl)
   clear hb
   cases hany : (l0.any fun a => decide (a.f2.toList = s.toList)) with
   | true =>
    rw [hany] at hcon H
    rw [if_pos rfl] at H
    by_cases hs : s.size < 4611686018427387904
    ·rw [if_pos hs] at H
     have H' := Aside0.mk H
     clear H hany
     have hz : s.size + 1 ≤ 9223372036854775807 := by omega
     have hcat : ¬ (s.size + 1 > 9223372036854775807) := by omega
     have hcon' := Aside0.mk hcon
     clear hcon
     go_wp2_with (go_at_call 111; refine hcon'.out.mono ?_; rintro e w' ⟨rfl, hb'⟩; have K1 := Aside0.mk (blk_below BK1.out hb'); have K2 := Aside0.mk (blk_below BK2.out hb'); have z1 : w'.cell? ⟨B2, 0, none⟩ = some (.string s) := (blk_cell K2.out 0).trans rfl; have z2 := blk_frozen K2.out 0; have z3 := Aside0.mk (below_step (show Below w.heap.size w wr by rw [hB1]; exact HB.out) hb'); clear hb')
     go_roundg k1
     case measure => omega
     case rel => exact ⟨_, H', ⟨(Below.heap_setCell w' ⟨B2, 0, none⟩ _ B1 g1).trans K1.out⟩, ⟨blk_put K2.out 0 _ rfl⟩, ⟨by rw [← hB1]; exact below_set z3.out (by omega)⟩⟩
    ·rw [if_neg hs] at H; cases H
   | false =>
    rw [hany] at hcon H
    rw [if_neg (by simp)] at H
    obtain rfl := Option.some.inj H
    have hcon' := Aside0.mk hcon
    clear hcon H hany
    go_wp2_with (go_at_call 111; refine hcon'.out.mono ?_; rintro e w' ⟨rfl, hb'⟩; have K2 := Aside0.mk (blk_below BK2.out hb'); have z1 : w'.cell? ⟨B2, 0, none⟩ = some (.string s) := (blk_cell K2.out 0).trans rfl; have z3 := Aside0.mk (below_step (show Below w.heap.size w wr by rw [hB1]; exact HB.out) hb'); clear hb')
    go_ret
    exact ⟨rfl, z3.out⟩

/-! ### partner_Never_2: function 83 -/
def partner_Never_2.f (a0_0 : ByteArray) (a0_1 : ByteArray) (a0_2 : ByteArray) (a0_3 : ByteArray) (a0_4 : Int) (a0_5 : Int) (a0_6 : Bool) (a0_7 : Int) (a0_8 : Bool) : Option (ByteArray) := some a0_3
set_option maxHeartbeats 8000000 in
set_option maxRecDepth 100000 in
theorem partner_Never_2.calls (a0_0 : ByteArray) (a0_1 : ByteArray) (a0_2 : ByteArray) (a0_3 : ByteArray) (a0_4 : Int) (a0_5 : Int) (a0_6 : Bool) (a0_7 : Int) (a0_8 : Bool) (r : ByteArray) (w : World) (h : partner_Never_2.f a0_0 a0_1 a0_2 a0_3 a0_4 a0_5 a0_6 a0_7 a0_8 = some r) :
  Calls Tryd.prog 83 #[.agg #[.string a0_0, .string a0_1, .string a0_2, .string a0_3, .int .i64 a0_4, .int .i64 a0_5, .bool a0_6, .int .i64 a0_7, .bool a0_8]] w fun e w' => e = .returned (.string r) ∧ Below w.heap.size w w' := by
 have hu23 := Tryd.underlying23
 have HB := Aside0.mk (Below.refl w.heap.size w)
 have H : (some a0_3) = some r := h
 clear h
 obtain rfl := Option.some.inj H
 go_enter Tryd.func83, Tryd.ntmps83
 go_wp2_with (first | ((with_reducible refine gate_dst (N := 1) rfl ?_); refine box_event ?hg (N := 1) ?hd (cs := #[.string a0_0, .string a0_1, .string a0_2, .string a0_3, .int .i64 a0_4, .int .i64 a0_5, .bool a0_6, .int .i64 a0_7, .bool a0_8]) (t := 23) ?hr ?_; (case hd => rfl); (case hg => rfl); (case hr => exact Z103); intro gb223 hg w2 hbox hb; have n0_ := Aside0.mk (below_step Z70 hb); have n1_ := Aside0.mk (hbox); have n2_ := Aside0.mk ((Z49 : w.heap.size ≤ gb223)); have n3_ := Aside0.mk ((Z49 : w.heap.size ≤ gb223)); clear HB; have HB := n0_; have BK223 := n1_; have GW223 := n2_; have GE223 := n3_; clear n0_ n1_ n2_ n3_; clear hb hbox hg; obtain ⟨hcz3_0, hcz3_1, hcz3_2, hcz3_3, hcz3_4, hcz3_5, hcz3_6, hcz3_7, hcz3_8, hfz3_0, hfz3_1, hfz3_2, hfz3_3, hfz3_4, hfz3_5, hfz3_6, hfz3_7, hfz3_8⟩ := bf9 BK223.out))
 go_ret
 exact ⟨Z66, by repeat (first | (with_reducible first | exact HB.out | apply below_alloc | apply pw_below_drewN | apply below_drew1 | refine below_set ?_ GE223.out) | exact HB.out)⟩

/-! ### fn_other_version: function 200 -/
set_option maxHeartbeats 4000000 in
theorem fn_other_version.pred (s : ByteArray) (B1 B2 : Nat) (w : World) (h1 : B1 < w.heap.size) (h2 : B2 < w.heap.size) (c1 : w.cell? ⟨B1, 0, none⟩ = some (.func (.func 83) #[] #[])) (c2 : w.cell? ⟨B2, 0, none⟩ = some (.string s)) :
  PredBelow Tryd.prog 112 #[.pointer (some ⟨B1, 0, none⟩), .pointer (some ⟨B2, 0, none⟩)] (fun x => .agg (enc23 x).toArray) (fun x => decide (x.f3.toList = s.toList)) w := fun W x hb => by
 have d1 : W.cell? ⟨B1, 0, none⟩ = some (.func (.func 83) #[] #[]) := (hb.cell (p := ⟨B1, 0, none⟩) h1).trans c1
 have d2 : W.cell? ⟨B2, 0, none⟩ = some (.string s) := (hb.cell (p := ⟨B2, 0, none⟩) h2).trans c2
 have l1 : B1 < W.heap.size := Nat.lt_of_lt_of_le h1 hb.size
 have l2 : B2 < W.heap.size := Nat.lt_of_lt_of_le h2 hb.size
 have n1 : B1 ≠ W.heap.size := by omega
 have n2 : B2 ≠ W.heap.size := by omega
 show Calls Tryd.prog 112 #[.agg #[.string x.f0, .string x.f1, .string x.f2, .string x.f3, .int .i64 x.f4, .int .i64 x.f5, .bool x.f6, .int .i64 x.f7, .bool x.f8], .pointer (some ⟨B1, 0, none⟩), .pointer (some ⟨B2, 0, none⟩)] W _
 go_enter Tryd.func112, Tryd.ntmps112
 go_wp2
 have hk : ∀ W1 : World, Below W.heap.size W W1 → Calls Tryd.prog 83 #[.agg #[.string x.f0, .string x.f1, .string x.f2, .string x.f3, .int .i64 x.f4, .int .i64 x.f5, .bool x.f6, .int .i64 x.f7, .bool x.f8]] W1 fun e w' => e = .returned (.string x.f3) ∧ Below W.heap.size W w' :=
  fun W1 hb1 => (partner_Never_2.calls x.f0 x.f1 x.f2 x.f3 x.f4 x.f5 x.f6 x.f7 x.f8 x.f3 W1 rfl).mono fun e w' he => ⟨he.1, below_step hb1 he.2⟩
 have hB0 : Below W.heap.size W W := Below.refl _ _
 go_region_with (go_at_call 83; refine (hk _ (by repeat (first | exact hB0 | apply below_alloc | apply pw_below_drewN | apply below_drew1))).mono ?_; rintro e w' ⟨rfl, hb2⟩; have e1 := (hb2.cell (p := ⟨B1, 0, none⟩) l1).trans d1; have e2 := (hb2.cell (p := ⟨B2, 0, none⟩) l2).trans d2)
 all_goals (try simp only [List.getElem_toArray, List.getElem_cons_succ, List.getElem_cons_zero, Act.put, List.setIfInBounds_toArray, List.set_cons_zero, List.set_cons_succ])
 all_goals go_wp2
 all_goals go_ret
 all_goals exact ⟨by simp [Bool.beq_eq_decide_eq], below_step hb (by first | exact hb2 | exact pw_below_drewN hb2 _ | exact below_drew1 hb2)⟩
theorem fn_other_version.has (s : ByteArray) (A : Option Addr) (c : Nat) (l : List S23) (B1 B2 : Nat) (w : World) (hl : l.length ≤ 9223372036854775807) (h : Kd.C k23 w A l.length l) (h1 : B1 < w.heap.size) (h2 : B2 < w.heap.size) (c1 : w.cell? ⟨B1, 0, none⟩ = some (.func (.func 83) #[] #[])) (c2 : w.cell? ⟨B2, 0, none⟩ = some (.string s)) :
  Calls Tryd.prog 111 #[.slice A l.length c, .func (.func 112) #[] #[.pointer (some ⟨B1, 0, none⟩), .pointer (some ⟨B2, 0, none⟩)]] w fun e w' => e = .returned (.bool (l.any fun a => decide (a.f3.toList = s.toList))) ∧ Below w.heap.size w w' := by
 rcases Nat.eq_zero_or_pos l.length with hz | hpos
 ·obtain rfl := List.length_eq_zero_iff.1 hz
  exact (cf_nil A c _ w).mono fun e w' he => ⟨he.1, by rw [he.2]; exact Below.refl _ _⟩
 ·obtain ⟨b, off, rfl, hb, hcell⟩ := k23_cells h hpos
  have eg : ∀ args w, (callFunc 112 args).run Tryd.prog w = .ok (.enter 112 args) w := enters_of Tryd.func112 (by kernel_rfl) rfl
  have := AnyQ.slices_ContainsFunc Tryd.l111 9 Tryd.isAgg23 Tryd.sizeOf23 enc23 (fun _ => rfl) (fun x => decide (x.f3.toList = s.toList)) 112 #[.pointer (some ⟨B1, 0, none⟩), .pointer (some ⟨B2, 0, none⟩)] eg b off l.length c l w
   (fn_other_version.pred s B1 B2 w h1 h2 c1 c2) (Nat.le_refl _) hl hb hcell
  rw [List.take_length] at this
  exact this
def fn_other_version.l0 : Nat → List S23 → ByteArray → Option ByteArray
 | 0, _, _ => none
 | k + 1, l, s => if (l.any fun a => decide (a.f3.toList = s.toList)) = true then (if s.size < 4611686018427387904 then fn_other_version.l0 k l (s ++ ⟨#[122]⟩) else none) else some s
def fn_other_version.f (k : Nat) (l : List S23) : Option ByteArray := fn_other_version.l0 k l ⟨#[122]⟩
theorem fn_other_version.mono_l : ∀ k l s, LeO (fn_other_version.l0 k l s) (fn_other_version.l0 (k + 1) l s)
 | 0, l, s => fun r h => by simp [fn_other_version.l0] at h
 | k + 1, l, s => fun r h => by
  have ih := fn_other_version.mono_l k l (s ++ ⟨#[122]⟩)
  rw [fn_other_version.l0] at h ⊢
  split at h
  ·rename_i h1
   rw [if_pos h1]
   split at h
   ·rename_i h2
    rw [if_pos h2]
    exact ih r h
   ·cases h
  ·rename_i h1
   rw [if_neg h1]
   exact h
theorem fn_other_version.mono : ∀ l k, LeO (fn_other_version.f k l) (fn_other_version.f (k + 1) l) := fun l k => fn_other_version.mono_l k l _
theorem fn_other_version.calls (k : Nat) (A0 : Option Addr) (c0 : Nat) (l0 : List S23) (r : ByteArray) (w : World) (hr0 : Kd.C k23 w A0 l0.length l0) (hc0 : l0.length ≤ c0) (h : fn_other_version.f k l0 = some r) :
  Calls Tryd.prog 81 #[.slice A0 l0.length c0, .func (.func 83) #[] #[]] w fun e w' => e = .returned (.string r) ∧ Below w.heap.size w w' := by
 have HH := Aside0.mk (show fn_other_version.l0 k l0 ⟨#[122]⟩ = some r from h)
 have hl : l0.length ≤ 9223372036854775807 := hr0.2.1
 have HL := Aside0.mk hl
 have HR := Aside0.mk hr0
 clear hl hr0 h hc0
 go_enter Tryd.func81, Tryd.ntmps81
 go_wp2
 have b0 : Below w.heap.size w ((w.alloc (.cells #[.func (.func 83) #[] #[]] 116)).alloc (.cells #[.string ⟨#[122]⟩] 9)) := below_alloc (below_alloc (Below.refl _ _) _) _
 have b1 := blk_alloc (blk_new w (.cells #[.func (.func 83) #[] #[]] 116)) (.cells #[.string ⟨#[122]⟩] 9)
 have b2 := blk_new (w.alloc (.cells #[.func (.func 83) #[] #[]] 116)) (.cells #[.string ⟨#[122]⟩] 9)
 have hsz : (w.alloc (.cells #[.func (.func 83) #[] #[]] 116)).heap.size = w.heap.size + 1 := by simp
 rw [hsz] at b2
 have g1 : w.heap.size ≠ w.heap.size + 1 := by omega
 have gE : w.heap.size ≤ w.heap.size + 1 := by omega
 generalize ((w.alloc (.cells #[.func (.func 83) #[] #[]] 116)).alloc (.cells #[.string ⟨#[122]⟩] 9)) = W0 at *
 clear hsz
 generalize hB1 : w.heap.size = B1 at *
 generalize hB2 : B1 + 1 = B2 at *
 have HB := Aside0.mk b0
 have BK1 := Aside0.mk b1
 have BK2 := Aside0.mk b2
 clear b0 b1 b2
 go_loopg [8] k (fun kq v8 w' => ∃ s : ByteArray, Aside0 (fn_other_version.l0 kq l0 s = some r) ∧ Aside0 (w'.heap[B1]? = some (.cells #[.func (.func 83) #[] #[]] 116 (0, 0))) ∧ Aside0 (w'.heap[B2]? = some (.cells #[.string s] 9 (0, 0))) ∧ Aside0 (Below B1 w w'))
 case atStart => exact ⟨_, HH, BK1, BK2, HB⟩
 case round =>
  clear HB BK1 BK2 HH
  obtain ⟨s, HA, BK1, BK2, HB⟩ := hrel
  cases gk with
  | zero => exact absurd HA.out (by simp [fn_other_version.l0])
  | succ k1 =>
   have H := HA.out
   clear HA
   rw [fn_other_version.l0] at H
   have hb : Below w.heap.size w wr := by rw [hB1]; exact HB.out
   have hcon := fn_other_version.has s A0 c0 l0 B1 B2 wr HL.out (Kd.C_below HR.out hb) (blk_lt BK1.out) (blk_lt BK2.out) ((blk_cell BK1.out 0).trans rfl) ((blk_cell BK2.out 0).trans rfl)
   clear hb
   cases hany : (l0.any fun a => decide (a.f3.toList = s.toList)) with
   | true =>
    rw [hany] at hcon H
    rw [if_pos rfl] at H
    by_cases hs : s.size < 4611686018427387904
    ·rw [if_pos hs] at H
     have H' := Aside0.mk H
     clear H hany
     have hz : s.size + 1 ≤ 9223372036854775807 := by omega
     have hcat : ¬ (s.size + 1 > 9223372036854775807) := by omega
     have hcon' := Aside0.mk hcon
     clear hcon
     go_wp2_with (go_at_call 111; refine hcon'.out.mono ?_; rintro e w' ⟨rfl, hb'⟩; have K1 := Aside0.mk (blk_below BK1.out hb'); have K2 := Aside0.mk (blk_below BK2.out hb'); have z1 : w'.cell? ⟨B2, 0, none⟩ = some (.string s) := (blk_cell K2.out 0).trans rfl; have z2 := blk_frozen K2.out 0; have z3 := Aside0.mk (below_step (show Below w.heap.size w wr by rw [hB1]; exact HB.out) hb'); clear hb')
     go_roundg k1
     case measure => omega
     case rel => exact ⟨_, H', ⟨(Below.heap_setCell w' ⟨B2, 0, none⟩ _ B1 g1).trans K1.out⟩, ⟨blk_put K2.out 0 _ rfl⟩, ⟨by rw [← hB1]; exact below_set z3.out (by omega)⟩⟩
    ·rw [if_neg hs] at H; cases H
   | false =>
    rw [hany] at hcon H
    rw [if_neg (by simp)] at H
    obtain rfl := Option.some.inj H
    have hcon' := Aside0.mk hcon
    clear hcon H hany
    go_wp2_with (go_at_call 111; refine hcon'.out.mono ?_; rintro e w' ⟨rfl, hb'⟩; have K2 := Aside0.mk (blk_below BK2.out hb'); have z1 : w'.cell? ⟨B2, 0, none⟩ = some (.string s) := (blk_cell K2.out 0).trans rfl; have z3 := Aside0.mk (below_step (show Below w.heap.size w wr by rw [hB1]; exact HB.out) hb'); clear hb')
    go_ret
    exact ⟨rfl, z3.out⟩

/-! ### partner_Never: function 41 -/
def partner_Never.l0 : Nat → List (S23) → List Int → ByteArray → ByteArray → Int → Int → Option (List Int × Int)
 | 0, _, _, _, _, _, _ => none
 | k + 1, x1, x7, x8, x9, x22, x23 => if x23 < x22 then ((partner_hides.f k x1 x23 x8 x9).bind fun t227 => (if t227 = true then (if x7.length < 17592186044416 then (partner_Never.l0 k x1 (x7 ++ [x23]) x8 x9 x22 (wrap64 (x23 + 1))) else (none)) else (partner_Never.l0 k x1 x7 x8 x9 x22 (wrap64 (x23 + 1))))) else (some (x7, 0))
def partner_Never.f (k : Nat) (l0 : List (S86)) (l1 : List (S23)) : Option (List Int × Int) := (partner_CheckAgreements.f k l0 l1).bind fun t224 => (if t224 = 0 then ((fn_other_message.f k l1).bind fun t225 => ((fn_other_version.f k l1).bind fun t226 => (partner_Never.l0 k l1 ([] : List Int) t225 t226 (l1.length : Int) 0))) else (some (([] : List Int), t224)))
theorem partner_Never.mono_l : ∀ k, (∀ y0 y1 y2 y3 y4 y5, LeO (partner_Never.l0 k y0 y1 y2 y3 y4 y5) (partner_Never.l0 (k + 1) y0 y1 y2 y3 y4 y5))
 | 0 => fun _ _ _ _ _ _ r h => by simp [partner_Never.l0] at h
 | k + 1 => by
  have ih0 := partner_Never.mono_l k
  ·intro y0 y1 y2 y3 y4 y5
   unfold partner_Never.l0
   repeat' first
   | (with_reducible exact ih0 _ _ _ _ _ _)
   | (with_reducible exact fn_other_message.mono _ _)
   | (with_reducible exact fn_other_version.mono _ _)
   | (with_reducible exact partner_CheckAgreements.mono _ _ _)
   | (with_reducible exact partner_hides.mono _ _ _ _ _)
   | (with_reducible exact LeO.refl _)
   | (with_reducible exact LeO.none _)
   | (with_reducible refine LeO.ite ?_ ?_)
   | (with_reducible refine LeO.bind ?_ (fun _ => ?_))
   | exact ih0 _ _ _ _ _ _
   | exact fn_other_message.mono _ _
   | exact fn_other_version.mono _ _
   | exact partner_CheckAgreements.mono _ _ _
   | exact partner_hides.mono _ _ _ _ _
   | exact LeO.none _
   | refine LeO.ite ?_ ?_
   | refine LeO.bind ?_ (fun _ => ?_)
theorem partner_Never.mono : ∀ a0 a1 k, LeO (partner_Never.f k a0 a1) (partner_Never.f (k + 1) a0 a1) := by
 intro a0 a1 k
 have ih0 := partner_Never.mono_l k
 unfold partner_Never.f
 repeat' first
   | (with_reducible exact ih0 _ _ _ _ _ _)
   | (with_reducible exact fn_other_message.mono _ _)
   | (with_reducible exact fn_other_version.mono _ _)
   | (with_reducible exact partner_CheckAgreements.mono _ _ _)
   | (with_reducible exact partner_hides.mono _ _ _ _ _)
   | (with_reducible exact LeO.refl _)
   | (with_reducible exact LeO.none _)
   | (with_reducible refine LeO.ite ?_ ?_)
   | (with_reducible refine LeO.bind ?_ (fun _ => ?_))
   | exact ih0 _ _ _ _ _ _
   | exact fn_other_message.mono _ _
   | exact fn_other_version.mono _ _
   | exact partner_CheckAgreements.mono _ _ _
   | exact partner_hides.mono _ _ _ _ _
   | exact LeO.none _
   | refine LeO.ite ?_ ?_
   | refine LeO.bind ?_ (fun _ => ?_)
set_option maxHeartbeats 8000000 in
set_option maxRecDepth 100000 in
theorem partner_Never.calls (k : Nat) (A0 : Option Addr) (c0 : Nat) (l0 : List (S86)) (A1 : Option Addr) (c1 : Nat) (l1 : List (S23)) (r1 : List Int) (r2 : Int) (w : World) (hr0 : Kd.C k86 w A0 l0.length l0) (hc0 : l0.length ≤ c0) (hr1 : Kd.C k23 w A1 l1.length l1) (hc1 : l1.length ≤ c1) (h : partner_Never.f k l0 l1 = some (r1, r2)) :
  Calls Tryd.prog 41 #[.slice A0 l0.length c0, .slice A1 l1.length c1] w fun e w' => ∃ v0_ : Value, e = .returned (.tuple #[v0_, .int .i64 r2]) ∧ Kd.R (Kd.int .i64) 3 w' w.heap.size (fun _ => True) v0_ r1 ∧ Below w.heap.size w w' := by
 have HR0 := Aside0.mk hr0
 have HC0 := Aside0.mk hc0
 clear hr0 hc0
 have HR1 := Aside0.mk hr1
 have HC1 := Aside0.mk hc1
 clear hr1 hc1
 have HB := Aside0.mk (Below.refl w.heap.size w)
 have H : ((partner_CheckAgreements.f k l0 l1).bind fun t224 => (if t224 = 0 then ((fn_other_message.f k l1).bind fun t225 => ((fn_other_version.f k l1).bind fun t226 => (partner_Never.l0 k l1 ([] : List Int) t225 t226 (l1.length : Int) 0))) else (some (([] : List Int), t224)))) = some (r1, r2) := h
 clear h
 replace H := Option.bind_eq_some_iff.mp H
 obtain ⟨t224, A30, H⟩ := H
 replace H : (if t224 = 0 then ((fn_other_message.f k l1).bind fun t225 => ((fn_other_version.f k l1).bind fun t226 => (partner_Never.l0 k l1 ([] : List Int) t225 t226 (l1.length : Int) 0))) else (some (([] : List Int), t224))) = some (r1, r2) := H
 have A3 := Aside0.mk A30
 clear A30
 by_cases c4 : t224 = 0
 ·rw [if_pos c4] at H
  have c4b0 : (t224 == 0) = true := beq_iff_eq.mpr c4
  have c4b1 : (t224 != 0) = false := bne_eq_false_iff_eq.mpr c4
  clear c4
  replace H := Option.bind_eq_some_iff.mp H
  obtain ⟨t225, A50, H⟩ := H
  replace H : ((fn_other_version.f k l1).bind fun t226 => (partner_Never.l0 k l1 ([] : List Int) t225 t226 (l1.length : Int) 0)) = some (r1, r2) := H
  have A5 := Aside0.mk A50
  clear A50
  replace H := Option.bind_eq_some_iff.mp H
  obtain ⟨t226, A60, H⟩ := H
  replace H : (partner_Never.l0 k l1 ([] : List Int) t225 t226 (l1.length : Int) 0) = some (r1, r2) := H
  have A6 := Aside0.mk A60
  clear A60
  have H' := Aside0.mk H
  clear H
  go_enter Tryd.func41, Tryd.ntmps41
  go_wp2_with (first | ((with_reducible refine gate_callee (f := 36) rfl ?_); refine goesL_ (some 13) rfl rfl Tryd.func36 (by kernel_rfl) rfl #[.slice A0 l0.length c0, .slice A1 l1.length c1] rfl Z45 ?_; (with_reducible refine (partner_CheckAgreements.calls k _ _ l0 _ _ l1 t224 _ ?side1 ?side2 ?side3 ?side4 A3.out).mono ?_); (case side1 => exact Z67); (case side2 => exact Z106); (case side3 => exact Z68); (case side4 => exact HC1.out); rintro e w7 ⟨rfl, hb⟩; refine ⟨_, rfl, ?_⟩; have n0_ := Aside0.mk (below_step Z70 hb); clear HB; have HB := n0_; clear n0_; (try clear hb); (try clear hb2); (try clear hk); (try clear hi)) | ((with_reducible refine gate_callee (f := 81) rfl ?_); refine goesL_ (some 18) rfl rfl Tryd.func81 (by kernel_rfl) rfl #[.slice A1 l1.length c1, .func (.func 82) #[] #[]] rfl Z45 ?_; (with_reducible refine (fn_other_message.calls k _ _ l1 t225 _ ?side1 ?side2 A5.out).mono ?_); (case side1 => exact Z47); (case side2 => exact HC1.out); rintro e w8 ⟨rfl, hb⟩; refine ⟨_, rfl, ?_⟩; have n0_ := Aside0.mk (below_step Z70 hb); clear HB; have HB := n0_; clear n0_; (try clear hb); (try clear hb2); (try clear hk); (try clear hi)) | ((with_reducible refine gate_callee (f := 81) rfl ?_); refine goesL_ (some 20) rfl rfl Tryd.func81 (by kernel_rfl) rfl #[.slice A1 l1.length c1, .func (.func 83) #[] #[]] rfl Z45 ?_; (with_reducible refine (fn_other_version.calls k _ _ l1 t226 _ ?side1 ?side2 A6.out).mono ?_); (case side1 => exact Z47); (case side2 => exact HC1.out); rintro e w9 ⟨rfl, hb⟩; refine ⟨_, rfl, ?_⟩; have n0_ := Aside0.mk (below_step Z70 hb); clear HB; have HB := n0_; clear n0_; (try clear hb); (try clear hb2); (try clear hk); (try clear hi)))
  go_loopg [7, 23] k (fun kq v7 v23 w' => ∃ (x7_1 : List Int) (x23_1 : Int), v23 = .int .i64 x23_1 ∧ Aside0 (partner_Never.l0 kq l1 x7_1 t225 t226 (l1.length : Int) x23_1 = some (r1, r2)) ∧ Aside0 (kq ≤ k) ∧ Aside0 (Kd.R (Kd.int .i64) 3 w' w.heap.size (fun _ => True) v7 x7_1) ∧ Aside0 (Below w.heap.size w w'))
  case atStart => exact ⟨(([] : List Int)), (0), Z98, H', ⟨Nat.le_refl _⟩, ⟨Z69⟩, ⟨Z70⟩⟩
  case round =>
   clear H'
   try clear c1
   try clear c2
   try clear p2
   try clear c3
   try clear c4
   try clear c4b0
   try clear c4b1
   obtain ⟨x7_1, x23_1, rfl, HA, HK1, HO_7, HB⟩ := hrel
   cases gk with
   | zero => exact absurd HA.out (by simp [partner_Never.l0])
   | succ k1 =>
    have H := HA.out
    clear HA
    simp only [partner_Never.l0] at H
    by_cases c10 : x23_1 < (l1.length : Int)
    ·rw [if_pos c10] at H
     have c10b0 : decide (x23_1 < (l1.length : Int)) = true := decide_eq_true c10
     clear c10
     replace H := Option.bind_eq_some_iff.mp H
     obtain ⟨t227, A110, H⟩ := H
     replace H : (if t227 = true then (if x7_1.length < 17592186044416 then (partner_Never.l0 k1 l1 (x7_1 ++ [x23_1]) t225 t226 (l1.length : Int) (wrap64 (x23_1 + 1))) else (none)) else (partner_Never.l0 k1 l1 x7_1 t225 t226 (l1.length : Int) (wrap64 (x23_1 + 1)))) = some (r1, r2) := H
     have A11 := Aside0.mk A110
     clear A110
     by_cases c12 : t227 = true
     ·subst c12
      have H1 : (if x7_1.length < 17592186044416 then (partner_Never.l0 k1 l1 (x7_1 ++ [x23_1]) t225 t226 (l1.length : Int) (wrap64 (x23_1 + 1))) else (none)) = some (r1, r2) := by rw [if_pos rfl] at H; exact H
      clear H
      have H := H1
      clear H1
      by_cases c13 : x7_1.length < 17592186044416
      ·rw [if_pos c13] at H
       have LMc13 := Aside0.mk c13
       clear c13
       obtain ⟨y228, hy228⟩ : ∃ y_ : List Int, y_ = (x7_1 ++ [x23_1]) := ⟨_, rfl⟩
       replace H : (partner_Never.l0 k1 l1 y228 t225 t226 (l1.length : Int) (wrap64 (x23_1 + 1))) = some (r1, r2) := by first | (rw [hy228]; with_reducible exact H) | (have H2_ := (Option.bind_some _ _).symm.trans H; rw [hy228]; with_reducible exact H2_) | (have H2_ := (Option.bind_some _ _).symm.trans H; with_reducible exact H2_) | with_reducible exact H | (rw [hy228]; exact H) | exact H
       have Ny228 := Aside0.mk hy228
       clear hy228
       have H' := Aside0.mk H
       clear H
       go_wp2_with (first | ((with_reducible refine gate_callee (f := 84) rfl ?_); refine goesL_ (some 30) rfl rfl Tryd.func84 (by kernel_rfl) rfl #[.slice A1 l1.length c1, .int .i64 x23_1, .string t225, .string t226] rfl Z45 ?_; (with_reducible refine (partner_hides.calls k1 _ _ l1 x23_1 t225 t226 true _ ?side1 ?side2 A11.out).mono ?_); (case side1 => exact Z47); (case side2 => exact HC1.out); rintro e w14 ⟨rfl, hb⟩; refine ⟨_, rfl, ?_⟩; have n0_ := Aside0.mk (Kd.R_below Z97 hb); have n1_ := Aside0.mk (below_step Z70 hb); clear HO_7; clear HB; have HO_7 := n0_; have HB := n1_; clear n0_ n1_; (try clear hb); (try clear hb2); (try clear hk); (try clear hi)) | ((with_reducible refine gate_builtin (b := .append) (xs := #[.tmp 31, .tmp 33]) rfl ?_); at_builtin; refine Kd.R_append (Kd.int .i64) (w0 := w) w.heap.size rfl (.tmp 31) (.tmp 33) 51 3 (.int .i64 0) 8 rfl Tryd.underlying51 info3 rfl (by decide) (by omega) u7 x7_1 x23_1 [.int .i64 x23_1] (fun _ => True) (fun _ => False) rfl rfl ?aP (fun _ hk => hk.elim) ?aF ?aO ?aB ?aS ?aL ?_; (case aP => exact rfl); (case aB => exact Z70); (case aF => exact (fun _ _ => trivial)); (case aO => exact Z97); (case aS => exact (below_size Z70)); (case aL => have := LMc13.out; omega); intro v229 w15 ho hb hg hat; rw [← Ny228.out] at ho; have n0_ := Aside0.mk (hb); have n1_ := Aside0.mk (ho); clear HB; clear HO_7; have HB := n0_; have HO230 := n1_; clear n0_ n1_; clear ho hb hg hat))
       go_roundg k1
       case measure => have := HK1.out; omega
       case rel => exact ⟨(y228), (wrap64 (x23_1 + 1)), Z98, H', ⟨by have := HK1.out; omega⟩, ⟨by (with_reducible repeat (first | apply Kd.R_alloc | apply Kd.R_drewN | apply Kd.R_drew)); exact HO230.out⟩, ⟨Z70⟩⟩
      ·rw [if_neg c13] at H
       exact absurd H (by simp)
     ·replace c12 := Bool.eq_false_iff.mpr c12
      subst c12
      have H1 : (partner_Never.l0 k1 l1 x7_1 t225 t226 (l1.length : Int) (wrap64 (x23_1 + 1))) = some (r1, r2) := by rw [if_neg (show ¬ (false = true) by decide)] at H; exact H
      clear H
      have H := H1
      clear H1
      have H' := Aside0.mk H
      clear H
      go_wp2_with (first | ((with_reducible refine gate_callee (f := 84) rfl ?_); refine goesL_ (some 30) rfl rfl Tryd.func84 (by kernel_rfl) rfl #[.slice A1 l1.length c1, .int .i64 x23_1, .string t225, .string t226] rfl Z45 ?_; (with_reducible refine (partner_hides.calls k1 _ _ l1 x23_1 t225 t226 false _ ?side1 ?side2 A11.out).mono ?_); (case side1 => exact Z47); (case side2 => exact HC1.out); rintro e w16 ⟨rfl, hb⟩; refine ⟨_, rfl, ?_⟩; have n0_ := Aside0.mk (Kd.R_below Z97 hb); have n1_ := Aside0.mk (below_step Z70 hb); clear HO_7; clear HB; have HO_7 := n0_; have HB := n1_; clear n0_ n1_; (try clear hb); (try clear hb2); (try clear hk); (try clear hi)))
      go_roundg k1
      case measure => have := HK1.out; omega
      case rel => exact ⟨(x7_1), (wrap64 (x23_1 + 1)), Z98, H', ⟨by have := HK1.out; omega⟩, ⟨Z97⟩, ⟨Z70⟩⟩
    ·rw [if_neg c10] at H
     have c10b0 : decide (x23_1 < (l1.length : Int)) = false := decide_eq_false c10
     clear c10
     simp only [Option.some.injEq, Prod.mk.injEq] at H
     obtain ⟨rfl, rfl⟩ := H
     go_wp2
     go_ret2
     exact ⟨_, Z66, Z97, Z70⟩
 ·rw [if_neg c4] at H
  have c4b0 : (t224 == 0) = false := beq_eq_false_iff_ne.mpr c4
  have c4b1 : (t224 != 0) = true := bne_iff_ne.mpr c4
  simp only [Option.some.injEq, Prod.mk.injEq] at H
  obtain ⟨rfl, rfl⟩ := H
  go_enter Tryd.func41, Tryd.ntmps41
  go_wp2_with (first | ((with_reducible refine gate_callee (f := 36) rfl ?_); refine goesL_ (some 13) rfl rfl Tryd.func36 (by kernel_rfl) rfl #[.slice A0 l0.length c0, .slice A1 l1.length c1] rfl Z45 ?_; (with_reducible refine (partner_CheckAgreements.calls k _ _ l0 _ _ l1 t224 _ ?side1 ?side2 ?side3 ?side4 A3.out).mono ?_); (case side1 => exact Z67); (case side2 => exact Z106); (case side3 => exact Z68); (case side4 => exact HC1.out); rintro e w17 ⟨rfl, hb⟩; refine ⟨_, rfl, ?_⟩; have n0_ := Aside0.mk (below_step Z70 hb); clear HB; have HB := n0_; clear n0_; (try clear hb); (try clear hb2); (try clear hk); (try clear hi)))
  go_ret2
  exact ⟨_, Z66, Z69, Z70⟩

/-! ### interchangeref8_Below: function 40 -/
def interchangeref8_Below.f (a0 : Int) (a1 : Int) : Option (Int) := if a1 = 0 then (none) else (if (Int.tmod a0 a1) < 0 then (some (wrap64 ((Int.tmod a0 a1) + a1))) else (some (Int.tmod a0 a1)))
set_option maxHeartbeats 8000000 in
set_option maxRecDepth 100000 in
theorem interchangeref8_Below.calls (a0 : Int) (a1 : Int) (r : Int) (w : World) (h : interchangeref8_Below.f a0 a1 = some r) :
  Calls Tryd.prog 40 #[.int .i64 a0, .int .i64 a1] w fun e w' => e = .returned (.int .i64 r) ∧ Drawn0 w w' := by
 have H : (if a1 = 0 then (none) else (if (Int.tmod a0 a1) < 0 then (some (wrap64 ((Int.tmod a0 a1) + a1))) else (some (Int.tmod a0 a1)))) = some r := h
 clear h
 by_cases c3 : a1 = 0
 ·rw [if_pos c3] at H
  exact absurd H (by simp)
 ·rw [if_neg c3] at H
  have c3b0 : (a1 == 0) = false := beq_eq_false_iff_ne.mpr c3
  have c3b1 : (a1 != 0) = true := bne_iff_ne.mpr c3
  by_cases c4 : (Int.tmod a0 a1) < 0
  ·rw [if_pos c4] at H
   have c4b0 : decide ((Int.tmod a0 a1) < 0) = true := decide_eq_true c4
   clear c4
   obtain rfl := Option.some.inj H
   go_enter Tryd.func40, Tryd.ntmps40
   go_wp2
   go_ret
   exact ⟨Z102, Z99⟩
  ·rw [if_neg c4] at H
   have c4b0 : decide ((Int.tmod a0 a1) < 0) = false := decide_eq_false c4
   clear c4
   obtain rfl := Option.some.inj H
   go_enter Tryd.func40, Tryd.ntmps40
   go_wp2
   go_ret
   exact ⟨Z102, Z99⟩

end Go.Proofs.YtdlgohhecicnoaaDoor.XPartnerNeverIsNever
