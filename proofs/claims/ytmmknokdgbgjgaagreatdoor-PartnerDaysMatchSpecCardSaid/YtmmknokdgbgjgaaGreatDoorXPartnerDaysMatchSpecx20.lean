-- Walks of PartnerDaysMatchSpec: written by xprint.py out of the translation (hand-proved functions among them). Lean checks it.
import Derived.Test.YtmmknokdgbgjgaaGreatDoorXPartnerDaysMatchSpecx0
import Derived.Test.YtmmknokdgbgjgaaGreatDoorXPartnerDaysMatchSpecx2
import Derived.Test.YtmmknokdgbgjgaaGreatDoorXPartnerDaysMatchSpecx11
import Derived.Test.YtmmknokdgbgjgaaGreatDoorXPartnerDaysMatchSpecx13
import Derived.Test.YtmmknokdgbgjgaaGreatDoorXPartnerDaysMatchSpecx19
namespace Go.Proofs.YtmmknokdgbgjgaaGreatDoor.XPartnerDaysMatchSpec
open Go.RowKit Go.Proofs.YtmmknokdgbgjgaaGreatDoorW.PrintWords Go.Proofs.YtmmknokdgbgjgaaGreatDoorW.PrintLast Go.Proofs.YtmmknokdgbgjgaaGreatDoorW.PrintMore
attribute [local go_sem] max2_int min2_int max_two min_two max_three min_three max_four min_four   -- for this text's walks alone
set_option linter.unusedVariables false
set_option linter.unusedSimpArgs false

/-! ### partner_Never_1: function 29 -/
def partner_Never_1.f (a0_0 : ByteArray) (a0_1 : ByteArray) (a0_2 : ByteArray) (a0_3 : ByteArray) (a0_4 : Int) (a0_5 : Int) (a0_6 : Bool) (a0_7 : Int) (a0_8 : Bool) : Option (ByteArray) := some a0_2
set_option maxHeartbeats 8000000 in
set_option maxRecDepth 100000 in
theorem partner_Never_1.calls (a0_0 : ByteArray) (a0_1 : ByteArray) (a0_2 : ByteArray) (a0_3 : ByteArray) (a0_4 : Int) (a0_5 : Int) (a0_6 : Bool) (a0_7 : Int) (a0_8 : Bool) (r : ByteArray) (w : World) (h : partner_Never_1.f a0_0 a0_1 a0_2 a0_3 a0_4 a0_5 a0_6 a0_7 a0_8 = some r) :
  Calls Tryz.prog 29 #[.agg #[.string a0_0, .string a0_1, .string a0_2, .string a0_3, .int .i64 a0_4, .int .i64 a0_5, .bool a0_6, .int .i64 a0_7, .bool a0_8]] w fun e w' => e = .returned (.string r) ∧ Below w.heap.size w w' := by
 have hu53 := Tryz.underlying53
 have HB := qb.mk (Below.refl w.heap.size w)
 have H : (some a0_2) = some r := h
 clear h
 obtain rfl := Option.some.inj H
 go_enter Tryz.func29, Tryz.ntmps29
 go_wp2_with (first | ((with_reducible refine qi (N := 1) rfl ?_); refine qh ?hg (N := 1) ?hd (cs := #[.string a0_0, .string a0_1, .string a0_2, .string a0_3, .int .i64 a0_4, .int .i64 a0_5, .bool a0_6, .int .i64 a0_7, .bool a0_8]) (t := 53) ?hr ?_; (case hd => rfl); (case hg => rfl); (case hr => exact qC); intro gb361 hg w2 hbox hb; have n0_ := qb.mk (qd qz hb); have n1_ := qb.mk (hbox); have n2_ := qb.mk ((Z66 : w.heap.size ≤ gb361)); have n3_ := n2_; clear HB; have HB := n0_; have BK361 := n1_; have GW361 := n2_; have GE361 := n3_; clear n0_ n1_ n2_ n3_; clear hb hbox hg; obtain ⟨yc3_0, yc3_1, yc3_2, yc3_3, yc3_4, yc3_5, yc3_6, yc3_7, yc3_8, yf3_0, yf3_1, yf3_2, yf3_3, yf3_4, yf3_5, yf3_6, yf3_7, yf3_8⟩ := bf9 BK361.out))
 go_ret
 exact ⟨Z97, by repeat (first | (with_reducible first | exact HB.out | apply qp | apply qj | apply qo | refine qq ?_ GE361.out) | exact HB.out)⟩

/-! ### fn_other_message: function 222 -/
def enc53 (x : S53) : List Value := [.string x.f0, .string x.f1, .string x.f2, .string x.f3, .int .i64 x.f4, .int .i64 x.f5, .bool x.f6, .int .i64 x.f7, .bool x.f8]
instance : Inhabited S53 := ⟨z53⟩
theorem cf_nil (A : Option Addr) (c : Nat) (f : Value) (w : World) : Calls Tryz.prog 63 #[.slice A 0 c, f] w fun e w' => e = .returned (.bool false) ∧ w' = w := by
 have h136 : Calls Tryz.prog 102 #[.slice A 0 c, f] w fun e w' => e = .returned (.int .i64 (-1)) ∧ w' = w := by
  go_enter Tryz.func102, Tryz.ntmps102
  go_wp2
  go_rounds 1
  go_ret
  exact ⟨rfl, rfl⟩
 go_enter Tryz.func63, Tryz.ntmps63
 go_wp2_with (go_at_call 102; refine h136.mono ?_; rintro e w' ⟨rfl, rfl⟩)
 go_ret
 exact ⟨rfl, rfl⟩
theorem k53_cells {w : World} {A : Option Addr} {l : List S53} (h : Kd.C k53 w A l.length l) (hpos : 0 < l.length) : ∃ b off, A = some ⟨b, off, none⟩ ∧ b < w.heap.size ∧ ∀ j, j < l.length → ∀ i v, (enc53 l[j]!)[i]? = some v → w.cell? ⟨b, off + j * 9 + i, none⟩ = some v := by
 obtain ⟨ad, rfl, hcell⟩ := h.2.2 hpos
 have hc : ∀ j, j < l.length → ∀ i v, (enc53 l[j]!)[i]? = some v → w.cell? (ad.add (j * 9 + i)) = some v := by
  intro j hj i v hv
  obtain ⟨c, hc1, hc2, hc3⟩ := hcell j l[j] (List.getElem?_eq_getElem hj)
  have e : c = enc53 l[j] := k53_open hc2
  rw [getElem!_pos l j hj, ← e] at hv
  exact hc3 i v hv
 obtain ⟨b, off, sp⟩ := ad
 have h0 := hc 0 hpos 0 _ rfl
 have hsp : sp = none := by
  cases sp with
  | none => rfl
  | some s =>
   simp only [Addr.add, World.cell?, if_true, Option.isSome_some] at h0
   split at h0 <;> cases h0
 subst hsp
 have hadd : ∀ m, (Addr.add ⟨b, off, none⟩ m : Addr) = ⟨b, off + m, none⟩ := fun m => by by_cases e : m = 0 <;> simp [Addr.add, e]
 refine ⟨b, off, rfl, ?_, fun j hj i v hv => ?_⟩
 ·rw [hadd] at h0
  exact World.block_lt_of_cell? w _ h0
 ·have := hc j hj i v hv
  rw [hadd, ← Nat.add_assoc] at this
  exact this
set_option maxHeartbeats 4000000 in
theorem fn_other_message.pred (s : ByteArray) (B1 B2 : Nat) (w : World) (h1 : B1 < w.heap.size) (h2 : B2 < w.heap.size) (c1 : w.cell? ⟨B1, 0, none⟩ = some (.func (.func 29) #[] #[])) (c2 : w.cell? ⟨B2, 0, none⟩ = some (.string s)) :
  PredBelow Tryz.prog 64 #[.pointer (some ⟨B1, 0, none⟩), .pointer (some ⟨B2, 0, none⟩)] (fun x => .agg (enc53 x).toArray) (fun x => decide (x.f2.toList = s.toList)) w := fun W x hb => by
 have d1 : W.cell? ⟨B1, 0, none⟩ = some (.func (.func 29) #[] #[]) := (hb.cell (p := ⟨B1, 0, none⟩) h1).trans c1
 have d2 : W.cell? ⟨B2, 0, none⟩ = some (.string s) := (hb.cell (p := ⟨B2, 0, none⟩) h2).trans c2
 have l1 : B1 < W.heap.size := Nat.lt_of_lt_of_le h1 hb.size
 have l2 : B2 < W.heap.size := Nat.lt_of_lt_of_le h2 hb.size
 have n1 : B1 ≠ W.heap.size := by omega
 have n2 : B2 ≠ W.heap.size := by omega
 show Calls Tryz.prog 64 #[.agg #[.string x.f0, .string x.f1, .string x.f2, .string x.f3, .int .i64 x.f4, .int .i64 x.f5, .bool x.f6, .int .i64 x.f7, .bool x.f8], .pointer (some ⟨B1, 0, none⟩), .pointer (some ⟨B2, 0, none⟩)] W _
 go_enter Tryz.func64, Tryz.ntmps64
 go_wp2
 have hk : ∀ W1 : World, Below W.heap.size W W1 → Calls Tryz.prog 29 #[.agg #[.string x.f0, .string x.f1, .string x.f2, .string x.f3, .int .i64 x.f4, .int .i64 x.f5, .bool x.f6, .int .i64 x.f7, .bool x.f8]] W1 fun e w' => e = .returned (.string x.f2) ∧ Below W.heap.size W w' :=
  fun W1 hb1 => (partner_Never_1.calls x.f0 x.f1 x.f2 x.f3 x.f4 x.f5 x.f6 x.f7 x.f8 x.f2 W1 rfl).mono fun e w' he => ⟨he.1, qd hb1 he.2⟩
 have hB0 : Below W.heap.size W W := Below.refl _ _
 go_region_with (go_at_call 29; refine (hk _ (by repeat (first | exact hB0 | apply qp | apply qj | apply qo))).mono ?_; rintro e w' ⟨rfl, hb2⟩; have e1 := (hb2.cell (p := ⟨B1, 0, none⟩) l1).trans d1; have e2 := (hb2.cell (p := ⟨B2, 0, none⟩) l2).trans d2)
 all_goals (try simp only [List.getElem_toArray, List.getElem_cons_succ, List.getElem_cons_zero, Act.put, sT, s0, s1])
 all_goals go_wp2
 all_goals go_ret
 all_goals exact ⟨by simp [Bool.beq_eq_decide_eq], qd hb (by first | exact hb2 | exact qj hb2 _ | exact qo hb2)⟩
theorem fn_other_message.has (s : ByteArray) (A : Option Addr) (c : Nat) (l : List S53) (B1 B2 : Nat) (w : World) (hl : l.length ≤ 9223372036854775807) (h : Kd.C k53 w A l.length l) (h1 : B1 < w.heap.size) (h2 : B2 < w.heap.size) (c1 : w.cell? ⟨B1, 0, none⟩ = some (.func (.func 29) #[] #[])) (c2 : w.cell? ⟨B2, 0, none⟩ = some (.string s)) :
  Calls Tryz.prog 63 #[.slice A l.length c, .func (.func 64) #[] #[.pointer (some ⟨B1, 0, none⟩), .pointer (some ⟨B2, 0, none⟩)]] w fun e w' => e = .returned (.bool (l.any fun a => decide (a.f2.toList = s.toList))) ∧ Below w.heap.size w w' := by
 rcases Nat.eq_zero_or_pos l.length with hz | hpos
 ·obtain rfl := List.length_eq_zero_iff.1 hz
  exact (cf_nil A c _ w).mono fun e w' he => ⟨he.1, by rw [he.2]; exact Below.refl _ _⟩
 ·obtain ⟨b, off, rfl, hb, hcell⟩ := k53_cells h hpos
  have eg : ∀ args w, (callFunc 64 args).run Tryz.prog w = .ok (.enter 64 args) w := enters_of Tryz.func64 (by kernel_rfl) rfl
  have := AnyQ.slices_ContainsFunc Tryz.l111 9 Tryz.isAgg53 Tryz.sizeOf53 enc53 (fun _ => rfl) (fun x => decide (x.f2.toList = s.toList)) 64 #[.pointer (some ⟨B1, 0, none⟩), .pointer (some ⟨B2, 0, none⟩)] eg b off l.length c l w
   (fn_other_message.pred s B1 B2 w h1 h2 c1 c2) (Nat.le_refl _) hl hb hcell
  rw [List.take_length] at this
  exact this
def fn_other_message.l0 : Nat → List S53 → ByteArray → Option ByteArray
 | 0, _, _ => none
 | k + 1, l, s => if (l.any fun a => decide (a.f2.toList = s.toList)) = true then (if s.size < 4611686018427387904 then fn_other_message.l0 k l (s ++ ⟨#[122]⟩) else none) else some s
def fn_other_message.f (k : Nat) (l : List S53) : Option ByteArray := fn_other_message.l0 k l ⟨#[122]⟩
theorem fn_other_message.mono_l : ∀ k l s, qv (fn_other_message.l0 k l s) (fn_other_message.l0 (k + 1) l s)
 | 0, l, s => fun r h => by simp [fn_other_message.l0] at h
 | k + 1, l, s => fun r h => by
  have ih := fn_other_message.mono_l k l (s ++ ⟨#[122]⟩)
  rw [fn_other_message.l0] at h ⊢
  split at h
  ·rename_i h1
   rw [if_pos h1]
   split at h
   ·rename_i h2
    rw [if_pos h2]
    exact ih r h
   ·cases h
  ·rename_i h1
   rw [if_neg h1]
   exact h
theorem fn_other_message.mono : ∀ l k, qv (fn_other_message.f k l) (fn_other_message.f (k + 1) l) := fun l k => fn_other_message.mono_l k l _
theorem fn_other_message.calls (k : Nat) (A0 : Option Addr) (c0 : Nat) (l0 : List S53) (r : ByteArray) (w : World) (hr0 : Kd.C k53 w A0 l0.length l0) (hc0 : l0.length ≤ c0) (h : fn_other_message.f k l0 = some r) :
  Calls Tryz.prog 28 #[.slice A0 l0.length c0, .func (.func 29) #[] #[]] w fun e w' => e = .returned (.string r) ∧ Below w.heap.size w w' := by
 have HH := qb.mk (show fn_other_message.l0 k l0 ⟨#[122]⟩ = some r from h)
 have hl : l0.length ≤ 9223372036854775807 := hr0.2.1
 have HL := qb.mk hl
 have HR := qb.mk hr0
 clear hl hr0 h hc0
 go_enter Tryz.func28, Tryz.ntmps28
 go_wp2
 have b0 : Below w.heap.size w ((w.alloc (.cells #[.func (.func 29) #[] #[]] 54)).alloc (.cells #[.string ⟨#[122]⟩] 9)) := qp (qp (Below.refl _ _) _) _
 have b1 := ql (blk_new w (.cells #[.func (.func 29) #[] #[]] 54)) (.cells #[.string ⟨#[122]⟩] 9)
 have b2 := blk_new (w.alloc (.cells #[.func (.func 29) #[] #[]] 54)) (.cells #[.string ⟨#[122]⟩] 9)
 have hsz : (w.alloc (.cells #[.func (.func 29) #[] #[]] 54)).heap.size = w.heap.size + 1 := by simp
 rw [hsz] at b2
 have g1 : w.heap.size ≠ w.heap.size + 1 := by omega
 have gE : w.heap.size ≤ w.heap.size + 1 := by omega
 generalize ((w.alloc (.cells #[.func (.func 29) #[] #[]] 54)).alloc (.cells #[.string ⟨#[122]⟩] 9)) = W0 at *
 clear hsz
 generalize hB1 : w.heap.size = B1 at *
 generalize hB2 : B1 + 1 = B2 at *
 have HB := qb.mk b0
 have BK1 := qb.mk b1
 have BK2 := qb.mk b2
 clear b0 b1 b2
 go_loopg [8] k (fun kq v8 w' => ∃ s : ByteArray, qb (fn_other_message.l0 kq l0 s = some r) ∧ qb (w'.heap[B1]? = some (.cells #[.func (.func 29) #[] #[]] 54 (0, 0))) ∧ qb (w'.heap[B2]? = some (.cells #[.string s] 9 (0, 0))) ∧ qb (Below B1 w w'))
 case atStart => exact ⟨_, HH, BK1, BK2, HB⟩
 case round =>
  clear HB BK1 BK2 HH
  obtain ⟨s, HA, BK1, BK2, HB⟩ := hrel
  cases gk with
  | zero => exact absurd HA.out (by simp [fn_other_message.l0])
  | succ k1 =>
   have H := HA.out
   clear HA
   rw [fn_other_message.l0] at H
   have hb : Below w.heap.size w wr := by rw [hB1]; exact HB.out
   have hcon := fn_other_message.has s A0 c0 l0 B1 B2 wr HL.out (Kd.C_below HR.out hb) (blk_lt BK1.out) (blk_lt BK2.out) ((qc BK1.out 0).trans rfl) ((qc BK2.out 0).trans rfl)
   clear hb
   cases hany : (l0.any fun a => decide (a.f2.toList = s.toList)) with
   | true =>
    rw [hany] at hcon H
    rw [if_pos rfl] at H
    by_cases hs : s.size < 4611686018427387904
    case neg =>
     rw [if_neg hs] at H; cases H
    rw [if_pos hs] at H
    have H' := qb.mk H
    clear H hany
    have hz : s.size + 1 ≤ 9223372036854775807 := by omega
    have hcat : ¬ (s.size + 1 > 9223372036854775807) := by omega
    have hcon' := qb.mk hcon
    clear hcon
    go_wp2_with (go_at_call 63; refine hcon'.out.mono ?_; rintro e w' ⟨rfl, hb'⟩; have K1 := qb.mk (qw BK1.out hb'); have K2 := qb.mk (qw BK2.out hb'); have z1 : w'.cell? ⟨B2, 0, none⟩ = some (.string s) := (qc K2.out 0).trans rfl; have z2 := qe K2.out 0; have z3 := qb.mk (qd (show Below w.heap.size w wr by rw [hB1]; exact HB.out) hb'); clear hb')
    go_roundg k1
    case measure => omega
    case rel => exact ⟨_, H', ⟨(Below.heap_setCell w' ⟨B2, 0, none⟩ _ B1 g1).trans K1.out⟩, ⟨blk_put K2.out 0 _ rfl⟩, ⟨by rw [← hB1]; exact qq z3.out (by omega)⟩⟩
   | false =>
    rw [hany] at hcon H
    rw [if_neg (by simp)] at H
    obtain rfl := Option.some.inj H
    have hcon' := qb.mk hcon
    clear hcon H hany
    go_wp2_with (go_at_call 63; refine hcon'.out.mono ?_; rintro e w' ⟨rfl, hb'⟩; have K2 := qb.mk (qw BK2.out hb'); have z1 : w'.cell? ⟨B2, 0, none⟩ = some (.string s) := (qc K2.out 0).trans rfl; have z3 := qb.mk (qd (show Below w.heap.size w wr by rw [hB1]; exact HB.out) hb'); clear hb')
    go_ret
    exact ⟨rfl, z3.out⟩

/-! ### partner_Never_2: function 30 -/
def partner_Never_2.f (a0_0 : ByteArray) (a0_1 : ByteArray) (a0_2 : ByteArray) (a0_3 : ByteArray) (a0_4 : Int) (a0_5 : Int) (a0_6 : Bool) (a0_7 : Int) (a0_8 : Bool) : Option (ByteArray) := some a0_3
set_option maxHeartbeats 8000000 in
set_option maxRecDepth 100000 in
theorem partner_Never_2.calls (a0_0 : ByteArray) (a0_1 : ByteArray) (a0_2 : ByteArray) (a0_3 : ByteArray) (a0_4 : Int) (a0_5 : Int) (a0_6 : Bool) (a0_7 : Int) (a0_8 : Bool) (r : ByteArray) (w : World) (h : partner_Never_2.f a0_0 a0_1 a0_2 a0_3 a0_4 a0_5 a0_6 a0_7 a0_8 = some r) :
  Calls Tryz.prog 30 #[.agg #[.string a0_0, .string a0_1, .string a0_2, .string a0_3, .int .i64 a0_4, .int .i64 a0_5, .bool a0_6, .int .i64 a0_7, .bool a0_8]] w fun e w' => e = .returned (.string r) ∧ Below w.heap.size w w' := by
 have hu53 := Tryz.underlying53
 have HB := qb.mk (Below.refl w.heap.size w)
 have H : (some a0_3) = some r := h
 clear h
 obtain rfl := Option.some.inj H
 go_enter Tryz.func30, Tryz.ntmps30
 go_wp2_with (first | ((with_reducible refine qi (N := 1) rfl ?_); refine qh ?hg (N := 1) ?hd (cs := #[.string a0_0, .string a0_1, .string a0_2, .string a0_3, .int .i64 a0_4, .int .i64 a0_5, .bool a0_6, .int .i64 a0_7, .bool a0_8]) (t := 53) ?hr ?_; (case hd => rfl); (case hg => rfl); (case hr => exact qC); intro gb362 hg w2 hbox hb; have n0_ := qb.mk (qd qz hb); have n1_ := qb.mk (hbox); have n2_ := qb.mk ((Z66 : w.heap.size ≤ gb362)); have n3_ := n2_; clear HB; have HB := n0_; have BK362 := n1_; have GW362 := n2_; have GE362 := n3_; clear n0_ n1_ n2_ n3_; clear hb hbox hg; obtain ⟨yc3_0, yc3_1, yc3_2, yc3_3, yc3_4, yc3_5, yc3_6, yc3_7, yc3_8, yf3_0, yf3_1, yf3_2, yf3_3, yf3_4, yf3_5, yf3_6, yf3_7, yf3_8⟩ := bf9 BK362.out))
 go_ret
 exact ⟨Z97, by repeat (first | (with_reducible first | exact HB.out | apply qp | apply qj | apply qo | refine qq ?_ GE362.out) | exact HB.out)⟩

/-! ### fn_other_version: function 223 -/
set_option maxHeartbeats 4000000 in
theorem fn_other_version.pred (s : ByteArray) (B1 B2 : Nat) (w : World) (h1 : B1 < w.heap.size) (h2 : B2 < w.heap.size) (c1 : w.cell? ⟨B1, 0, none⟩ = some (.func (.func 30) #[] #[])) (c2 : w.cell? ⟨B2, 0, none⟩ = some (.string s)) :
  PredBelow Tryz.prog 64 #[.pointer (some ⟨B1, 0, none⟩), .pointer (some ⟨B2, 0, none⟩)] (fun x => .agg (enc53 x).toArray) (fun x => decide (x.f3.toList = s.toList)) w := fun W x hb => by
 have d1 : W.cell? ⟨B1, 0, none⟩ = some (.func (.func 30) #[] #[]) := (hb.cell (p := ⟨B1, 0, none⟩) h1).trans c1
 have d2 : W.cell? ⟨B2, 0, none⟩ = some (.string s) := (hb.cell (p := ⟨B2, 0, none⟩) h2).trans c2
 have l1 : B1 < W.heap.size := Nat.lt_of_lt_of_le h1 hb.size
 have l2 : B2 < W.heap.size := Nat.lt_of_lt_of_le h2 hb.size
 have n1 : B1 ≠ W.heap.size := by omega
 have n2 : B2 ≠ W.heap.size := by omega
 show Calls Tryz.prog 64 #[.agg #[.string x.f0, .string x.f1, .string x.f2, .string x.f3, .int .i64 x.f4, .int .i64 x.f5, .bool x.f6, .int .i64 x.f7, .bool x.f8], .pointer (some ⟨B1, 0, none⟩), .pointer (some ⟨B2, 0, none⟩)] W _
 go_enter Tryz.func64, Tryz.ntmps64
 go_wp2
 have hk : ∀ W1 : World, Below W.heap.size W W1 → Calls Tryz.prog 30 #[.agg #[.string x.f0, .string x.f1, .string x.f2, .string x.f3, .int .i64 x.f4, .int .i64 x.f5, .bool x.f6, .int .i64 x.f7, .bool x.f8]] W1 fun e w' => e = .returned (.string x.f3) ∧ Below W.heap.size W w' :=
  fun W1 hb1 => (partner_Never_2.calls x.f0 x.f1 x.f2 x.f3 x.f4 x.f5 x.f6 x.f7 x.f8 x.f3 W1 rfl).mono fun e w' he => ⟨he.1, qd hb1 he.2⟩
 have hB0 : Below W.heap.size W W := Below.refl _ _
 go_region_with (go_at_call 30; refine (hk _ (by repeat (first | exact hB0 | apply qp | apply qj | apply qo))).mono ?_; rintro e w' ⟨rfl, hb2⟩; have e1 := (hb2.cell (p := ⟨B1, 0, none⟩) l1).trans d1; have e2 := (hb2.cell (p := ⟨B2, 0, none⟩) l2).trans d2)
 all_goals (try simp only [List.getElem_toArray, List.getElem_cons_succ, List.getElem_cons_zero, Act.put, sT, s0, s1])
 all_goals go_wp2
 all_goals go_ret
 all_goals exact ⟨by simp [Bool.beq_eq_decide_eq], qd hb (by first | exact hb2 | exact qj hb2 _ | exact qo hb2)⟩
theorem fn_other_version.has (s : ByteArray) (A : Option Addr) (c : Nat) (l : List S53) (B1 B2 : Nat) (w : World) (hl : l.length ≤ 9223372036854775807) (h : Kd.C k53 w A l.length l) (h1 : B1 < w.heap.size) (h2 : B2 < w.heap.size) (c1 : w.cell? ⟨B1, 0, none⟩ = some (.func (.func 30) #[] #[])) (c2 : w.cell? ⟨B2, 0, none⟩ = some (.string s)) :
  Calls Tryz.prog 63 #[.slice A l.length c, .func (.func 64) #[] #[.pointer (some ⟨B1, 0, none⟩), .pointer (some ⟨B2, 0, none⟩)]] w fun e w' => e = .returned (.bool (l.any fun a => decide (a.f3.toList = s.toList))) ∧ Below w.heap.size w w' := by
 rcases Nat.eq_zero_or_pos l.length with hz | hpos
 ·obtain rfl := List.length_eq_zero_iff.1 hz
  exact (cf_nil A c _ w).mono fun e w' he => ⟨he.1, by rw [he.2]; exact Below.refl _ _⟩
 ·obtain ⟨b, off, rfl, hb, hcell⟩ := k53_cells h hpos
  have eg : ∀ args w, (callFunc 64 args).run Tryz.prog w = .ok (.enter 64 args) w := enters_of Tryz.func64 (by kernel_rfl) rfl
  have := AnyQ.slices_ContainsFunc Tryz.l111 9 Tryz.isAgg53 Tryz.sizeOf53 enc53 (fun _ => rfl) (fun x => decide (x.f3.toList = s.toList)) 64 #[.pointer (some ⟨B1, 0, none⟩), .pointer (some ⟨B2, 0, none⟩)] eg b off l.length c l w
   (fn_other_version.pred s B1 B2 w h1 h2 c1 c2) (Nat.le_refl _) hl hb hcell
  rw [List.take_length] at this
  exact this
def fn_other_version.l0 : Nat → List S53 → ByteArray → Option ByteArray
 | 0, _, _ => none
 | k + 1, l, s => if (l.any fun a => decide (a.f3.toList = s.toList)) = true then (if s.size < 4611686018427387904 then fn_other_version.l0 k l (s ++ ⟨#[122]⟩) else none) else some s
def fn_other_version.f (k : Nat) (l : List S53) : Option ByteArray := fn_other_version.l0 k l ⟨#[122]⟩
theorem fn_other_version.mono_l : ∀ k l s, qv (fn_other_version.l0 k l s) (fn_other_version.l0 (k + 1) l s)
 | 0, l, s => fun r h => by simp [fn_other_version.l0] at h
 | k + 1, l, s => fun r h => by
  have ih := fn_other_version.mono_l k l (s ++ ⟨#[122]⟩)
  rw [fn_other_version.l0] at h ⊢
  split at h
  ·rename_i h1
   rw [if_pos h1]
   split at h
   ·rename_i h2
    rw [if_pos h2]
    exact ih r h
   ·cases h
  ·rename_i h1
   rw [if_neg h1]
   exact h
theorem fn_other_version.mono : ∀ l k, qv (fn_other_version.f k l) (fn_other_version.f (k + 1) l) := fun l k => fn_other_version.mono_l k l _
theorem fn_other_version.calls (k : Nat) (A0 : Option Addr) (c0 : Nat) (l0 : List S53) (r : ByteArray) (w : World) (hr0 : Kd.C k53 w A0 l0.length l0) (hc0 : l0.length ≤ c0) (h : fn_other_version.f k l0 = some r) :
  Calls Tryz.prog 28 #[.slice A0 l0.length c0, .func (.func 30) #[] #[]] w fun e w' => e = .returned (.string r) ∧ Below w.heap.size w w' := by
 have HH := qb.mk (show fn_other_version.l0 k l0 ⟨#[122]⟩ = some r from h)
 have hl : l0.length ≤ 9223372036854775807 := hr0.2.1
 have HL := qb.mk hl
 have HR := qb.mk hr0
 clear hl hr0 h hc0
 go_enter Tryz.func28, Tryz.ntmps28
 go_wp2
 have b0 : Below w.heap.size w ((w.alloc (.cells #[.func (.func 30) #[] #[]] 54)).alloc (.cells #[.string ⟨#[122]⟩] 9)) := qp (qp (Below.refl _ _) _) _
 have b1 := ql (blk_new w (.cells #[.func (.func 30) #[] #[]] 54)) (.cells #[.string ⟨#[122]⟩] 9)
 have b2 := blk_new (w.alloc (.cells #[.func (.func 30) #[] #[]] 54)) (.cells #[.string ⟨#[122]⟩] 9)
 have hsz : (w.alloc (.cells #[.func (.func 30) #[] #[]] 54)).heap.size = w.heap.size + 1 := by simp
 rw [hsz] at b2
 have g1 : w.heap.size ≠ w.heap.size + 1 := by omega
 have gE : w.heap.size ≤ w.heap.size + 1 := by omega
 generalize ((w.alloc (.cells #[.func (.func 30) #[] #[]] 54)).alloc (.cells #[.string ⟨#[122]⟩] 9)) = W0 at *
 clear hsz
 generalize hB1 : w.heap.size = B1 at *
 generalize hB2 : B1 + 1 = B2 at *
 have HB := qb.mk b0
 have BK1 := qb.mk b1
 have BK2 := qb.mk b2
 clear b0 b1 b2
 go_loopg [8] k (fun kq v8 w' => ∃ s : ByteArray, qb (fn_other_version.l0 kq l0 s = some r) ∧ qb (w'.heap[B1]? = some (.cells #[.func (.func 30) #[] #[]] 54 (0, 0))) ∧ qb (w'.heap[B2]? = some (.cells #[.string s] 9 (0, 0))) ∧ qb (Below B1 w w'))
 case atStart => exact ⟨_, HH, BK1, BK2, HB⟩
 case round =>
  clear HB BK1 BK2 HH
  obtain ⟨s, HA, BK1, BK2, HB⟩ := hrel
  cases gk with
  | zero => exact absurd HA.out (by simp [fn_other_version.l0])
  | succ k1 =>
   have H := HA.out
   clear HA
   rw [fn_other_version.l0] at H
   have hb : Below w.heap.size w wr := by rw [hB1]; exact HB.out
   have hcon := fn_other_version.has s A0 c0 l0 B1 B2 wr HL.out (Kd.C_below HR.out hb) (blk_lt BK1.out) (blk_lt BK2.out) ((qc BK1.out 0).trans rfl) ((qc BK2.out 0).trans rfl)
   clear hb
   cases hany : (l0.any fun a => decide (a.f3.toList = s.toList)) with
   | true =>
    rw [hany] at hcon H
    rw [if_pos rfl] at H
    by_cases hs : s.size < 4611686018427387904
    case neg =>
     rw [if_neg hs] at H; cases H
    rw [if_pos hs] at H
    have H' := qb.mk H
    clear H hany
    have hz : s.size + 1 ≤ 9223372036854775807 := by omega
    have hcat : ¬ (s.size + 1 > 9223372036854775807) := by omega
    have hcon' := qb.mk hcon
    clear hcon
    go_wp2_with (go_at_call 63; refine hcon'.out.mono ?_; rintro e w' ⟨rfl, hb'⟩; have K1 := qb.mk (qw BK1.out hb'); have K2 := qb.mk (qw BK2.out hb'); have z1 : w'.cell? ⟨B2, 0, none⟩ = some (.string s) := (qc K2.out 0).trans rfl; have z2 := qe K2.out 0; have z3 := qb.mk (qd (show Below w.heap.size w wr by rw [hB1]; exact HB.out) hb'); clear hb')
    go_roundg k1
    case measure => omega
    case rel => exact ⟨_, H', ⟨(Below.heap_setCell w' ⟨B2, 0, none⟩ _ B1 g1).trans K1.out⟩, ⟨blk_put K2.out 0 _ rfl⟩, ⟨by rw [← hB1]; exact qq z3.out (by omega)⟩⟩
   | false =>
    rw [hany] at hcon H
    rw [if_neg (by simp)] at H
    obtain rfl := Option.some.inj H
    have hcon' := qb.mk hcon
    clear hcon H hany
    go_wp2_with (go_at_call 63; refine hcon'.out.mono ?_; rintro e w' ⟨rfl, hb'⟩; have K2 := qb.mk (qw BK2.out hb'); have z1 : w'.cell? ⟨B2, 0, none⟩ = some (.string s) := (qc K2.out 0).trans rfl; have z3 := qb.mk (qd (show Below w.heap.size w wr by rw [hB1]; exact HB.out) hb'); clear hb')
    go_ret
    exact ⟨rfl, z3.out⟩

/-! ### partner_Never: function 8 -/
def partner_Never.l0 : Nat → List (S53) → List Int → ByteArray → ByteArray → Int → Int → Option (List Int × Int)
 | 0, _, _, _, _, _, _ => none
 | k + 1, x1, x7, x8, x9, x22, x23 => if x23 < x22 then ((partner_hides.f k x1 x23 x8 x9).bind fun t366 => (if t366 = true then (if x7.length < 17592186044416 then (partner_Never.l0 k x1 (x7 ++ [x23]) x8 x9 x22 (wrap64 (x23 + 1))) else (none)) else (partner_Never.l0 k x1 x7 x8 x9 x22 (wrap64 (x23 + 1))))) else (some (x7, 0))
def partner_Never.f (k : Nat) (l0 : List (S110)) (l1 : List (S53)) : Option (List Int × Int) := (partner_CheckAgreements.f k l0 l1).bind fun t363 => (if t363 = 0 then ((fn_other_message.f k l1).bind fun t364 => ((fn_other_version.f k l1).bind fun t365 => (partner_Never.l0 k l1 ([] : List Int) t364 t365 (l1.length : Int) 0))) else (some (([] : List Int), t363)))
theorem partner_Never.mono_l : ∀ k, (∀ y0 y1 y2 y3 y4 y5, qv (partner_Never.l0 k y0 y1 y2 y3 y4 y5) (partner_Never.l0 (k + 1) y0 y1 y2 y3 y4 y5))
 | 0 => fun _ _ _ _ _ _ r h => by simp [partner_Never.l0] at h
 | k + 1 => by
  have ih0 := partner_Never.mono_l k
  ·intro y0 y1 y2 y3 y4 y5
   unfold partner_Never.l0
   repeat' first
   | (with_reducible apply ih0)
   | (with_reducible apply fn_other_message.mono)
   | (with_reducible apply fn_other_version.mono)
   | (with_reducible apply partner_CheckAgreements.mono)
   | (with_reducible apply partner_hides.mono)
   | (with_reducible exact qv.refl _)
   | (with_reducible exact qv.none _)
   | (with_reducible refine qv.ite ?_ ?_)
   | (with_reducible refine qv.bind ?_ (fun _ => ?_))
   | apply ih0
   | apply fn_other_message.mono
   | apply fn_other_version.mono
   | apply partner_CheckAgreements.mono
   | apply partner_hides.mono
   | exact qv.none _
   | refine qv.ite ?_ ?_
   | refine qv.bind ?_ (fun _ => ?_)
theorem partner_Never.mono : ∀ a0 a1 k, qv (partner_Never.f k a0 a1) (partner_Never.f (k + 1) a0 a1) := by
 intro a0 a1 k
 have ih0 := partner_Never.mono_l k
 unfold partner_Never.f
 repeat' first
   | (with_reducible apply ih0)
   | (with_reducible apply fn_other_message.mono)
   | (with_reducible apply fn_other_version.mono)
   | (with_reducible apply partner_CheckAgreements.mono)
   | (with_reducible apply partner_hides.mono)
   | (with_reducible exact qv.refl _)
   | (with_reducible exact qv.none _)
   | (with_reducible refine qv.ite ?_ ?_)
   | (with_reducible refine qv.bind ?_ (fun _ => ?_))
   | apply ih0
   | apply fn_other_message.mono
   | apply fn_other_version.mono
   | apply partner_CheckAgreements.mono
   | apply partner_hides.mono
   | exact qv.none _
   | refine qv.ite ?_ ?_
   | refine qv.bind ?_ (fun _ => ?_)
set_option maxHeartbeats 8000000 in
set_option maxRecDepth 100000 in
theorem partner_Never.calls (k : Nat) (A0 : Option Addr) (c0 : Nat) (l0 : List (S110)) (A1 : Option Addr) (c1 : Nat) (l1 : List (S53)) (r1 : List Int) (r2 : Int) (w : World) (hr0 : Kd.C k110 w A0 l0.length l0) (hc0 : l0.length ≤ c0) (hr1 : Kd.C k53 w A1 l1.length l1) (hc1 : l1.length ≤ c1) (h : partner_Never.f k l0 l1 = some (r1, r2)) :
  Calls Tryz.prog 8 #[.slice A0 l0.length c0, .slice A1 l1.length c1] w fun e w' => ∃ v0_ : Value, e = .returned (.tuple #[v0_, .int .i64 r2]) ∧ Kd.R (Kd.int .i64) 3 w' w.heap.size (fun _ => True) v0_ r1 ∧ Below w.heap.size w w' := by
 have HR0 := qb.mk hr0
 have HC0 := qb.mk hc0
 clear hr0 hc0
 have HR1 := qb.mk hr1
 have HC1 := qb.mk hc1
 clear hr1 hc1
 have HB := qb.mk (Below.refl w.heap.size w)
 have H : ((partner_CheckAgreements.f k l0 l1).bind fun t363 => (if t363 = 0 then ((fn_other_message.f k l1).bind fun t364 => ((fn_other_version.f k l1).bind fun t365 => (partner_Never.l0 k l1 ([] : List Int) t364 t365 (l1.length : Int) 0))) else (some (([] : List Int), t363)))) = some (r1, r2) := h
 clear h
 replace H := Option.bind_eq_some_iff.mp H
 obtain ⟨t363, A30, H⟩ := H
 replace H : (if t363 = 0 then ((fn_other_message.f k l1).bind fun t364 => ((fn_other_version.f k l1).bind fun t365 => (partner_Never.l0 k l1 ([] : List Int) t364 t365 (l1.length : Int) 0))) else (some (([] : List Int), t363))) = some (r1, r2) := H
 have A3 := qb.mk A30
 clear A30
 by_cases c4 : t363 = 0
 case neg =>
  rw [if_neg c4] at H
  have c4b0 : (t363 == 0) = false := beq_eq_false_iff_ne.mpr c4
  have c4b1 : (t363 != 0) = true := bne_iff_ne.mpr c4
  simp only [Option.some.injEq, Prod.mk.injEq] at H
  obtain ⟨rfl, rfl⟩ := H
  go_enter Tryz.func8, Tryz.ntmps8
  go_wp2_with (first | ((with_reducible refine qg (f := 27) rfl ?_); refine goesL_ (some 13) rfl rfl Tryz.func27 (by kernel_rfl) rfl #[.slice A0 l0.length c0, .slice A1 l1.length c1] rfl Z61 ?_; (with_reducible refine (partner_CheckAgreements.calls k _ _ l0 _ _ l1 t363 _ ?side1 ?side2 ?side3 ?side4 A3.out).mono ?_); (case side1 => exact Z98); (case side2 => exact Z158); (case side3 => exact Z99); (case side4 => exact Z159); rintro e w17 ⟨rfl, hb⟩; refine ⟨_, rfl, ?_⟩; have n0_ := qb.mk (qd qz hb); clear HB; have HB := n0_; clear n0_; (try clear hb); (try clear hb2); (try clear hk); (try clear hi)))
  go_ret2
  exact ⟨_, Z97, Z102, qz⟩

 rw [if_pos c4] at H
 have c4b0 : (t363 == 0) = true := beq_iff_eq.mpr c4
 have c4b1 : (t363 != 0) = false := bne_eq_false_iff_eq.mpr c4
 clear c4
 replace H := Option.bind_eq_some_iff.mp H
 obtain ⟨t364, A50, H⟩ := H
 replace H : ((fn_other_version.f k l1).bind fun t365 => (partner_Never.l0 k l1 ([] : List Int) t364 t365 (l1.length : Int) 0)) = some (r1, r2) := H
 have A5 := qb.mk A50
 clear A50
 replace H := Option.bind_eq_some_iff.mp H
 obtain ⟨t365, A60, H⟩ := H
 replace H : (partner_Never.l0 k l1 ([] : List Int) t364 t365 (l1.length : Int) 0) = some (r1, r2) := H
 have A6 := qb.mk A60
 clear A60
 have H' := qb.mk H
 clear H
 go_enter Tryz.func8, Tryz.ntmps8
 go_wp2_with (first | ((with_reducible refine qg (f := 27) rfl ?_); refine goesL_ (some 13) rfl rfl Tryz.func27 (by kernel_rfl) rfl #[.slice A0 l0.length c0, .slice A1 l1.length c1] rfl Z61 ?_; (with_reducible refine (partner_CheckAgreements.calls k _ _ l0 _ _ l1 t363 _ ?side1 ?side2 ?side3 ?side4 A3.out).mono ?_); (case side1 => exact Z98); (case side2 => exact Z158); (case side3 => exact Z99); (case side4 => exact Z159); rintro e w7 ⟨rfl, hb⟩; refine ⟨_, rfl, ?_⟩; have n0_ := qb.mk (qd qz hb); clear HB; have HB := n0_; clear n0_; (try clear hb); (try clear hb2); (try clear hk); (try clear hi)) | ((with_reducible refine qg (f := 28) rfl ?_); refine goesL_ (some 18) rfl rfl Tryz.func28 (by kernel_rfl) rfl #[.slice A1 l1.length c1, .func (.func 29) #[] #[]] rfl Z61 ?_; (with_reducible refine (fn_other_message.calls k _ _ l1 t364 _ ?side1 ?side2 A5.out).mono ?_); (case side1 => exact Z63); (case side2 => exact Z159); rintro e w8 ⟨rfl, hb⟩; refine ⟨_, rfl, ?_⟩; have n0_ := qb.mk (qd qz hb); clear HB; have HB := n0_; clear n0_; (try clear hb); (try clear hb2); (try clear hk); (try clear hi)) | ((with_reducible refine qg (f := 28) rfl ?_); refine goesL_ (some 20) rfl rfl Tryz.func28 (by kernel_rfl) rfl #[.slice A1 l1.length c1, .func (.func 30) #[] #[]] rfl Z61 ?_; (with_reducible refine (fn_other_version.calls k _ _ l1 t365 _ ?side1 ?side2 A6.out).mono ?_); (case side1 => exact Z63); (case side2 => exact Z159); rintro e w9 ⟨rfl, hb⟩; refine ⟨_, rfl, ?_⟩; have n0_ := qb.mk (qd qz hb); clear HB; have HB := n0_; clear n0_; (try clear hb); (try clear hb2); (try clear hk); (try clear hi)))
 go_loopg [7, 23] k (fun kq v7 v23 w' => ∃ (x7_1 : List Int) (x23_1 : Int), v23 = .int .i64 x23_1 ∧ qb (partner_Never.l0 kq l1 x7_1 t364 t365 (l1.length : Int) x23_1 = some (r1, r2)) ∧ qb (kq ≤ k) ∧ qb (Kd.R (Kd.int .i64) 3 w' w.heap.size (fun _ => True) v7 x7_1) ∧ qb (Below w.heap.size w w'))
 case atStart => exact ⟨(([] : List Int)), (0), qD, H', ⟨Nat.le_refl _⟩, ⟨Z102⟩, ⟨qz⟩⟩
 case round =>
  clear H'
  try clear c1; try clear c2; try clear p2; try clear c4; try clear c4b0; try clear c4b1; try clear c8
  obtain ⟨x7_1, x23_1, rfl, HA, HK1, HO_7, HB⟩ := hrel
  cases gk with
  | zero => exact absurd HA.out (by simp [partner_Never.l0])
  | succ k1 =>
   have H := HA.out
   clear HA
   simp only [partner_Never.l0] at H
   by_cases c10 : x23_1 < (l1.length : Int)
   case neg =>
    rw [if_neg c10] at H
    have c10b0 : decide (x23_1 < (l1.length : Int)) = false := decide_eq_false c10
    clear c10
    simp only [Option.some.injEq, Prod.mk.injEq] at H
    obtain ⟨rfl, rfl⟩ := H
    go_wp2
    go_ret2
    exact ⟨_, Z97, Z134, qz⟩
   rw [if_pos c10] at H
   have c10b0 : decide (x23_1 < (l1.length : Int)) = true := decide_eq_true c10
   clear c10
   replace H := Option.bind_eq_some_iff.mp H
   obtain ⟨t366, A110, H⟩ := H
   replace H : (if t366 = true then (if x7_1.length < 17592186044416 then (partner_Never.l0 k1 l1 (x7_1 ++ [x23_1]) t364 t365 (l1.length : Int) (wrap64 (x23_1 + 1))) else (none)) else (partner_Never.l0 k1 l1 x7_1 t364 t365 (l1.length : Int) (wrap64 (x23_1 + 1)))) = some (r1, r2) := H
   have A11 := qb.mk A110
   clear A110
   by_cases c12 : t366 = true
   case neg =>
    replace c12 := Bool.eq_false_iff.mpr c12
    subst c12
    have H1 : (partner_Never.l0 k1 l1 x7_1 t364 t365 (l1.length : Int) (wrap64 (x23_1 + 1))) = some (r1, r2) := by rw [if_neg (show ¬ (false = true) by decide)] at H; exact H
    clear H
    have H := H1
    clear H1
    have H' := qb.mk H
    clear H
    go_wp2_with (first | ((with_reducible refine qg (f := 31) rfl ?_); refine goesL_ (some 30) rfl rfl Tryz.func31 (by kernel_rfl) rfl #[.slice A1 l1.length c1, .int .i64 x23_1, .string t364, .string t365] rfl Z61 ?_; (with_reducible refine (partner_hides.calls k1 _ _ l1 x23_1 t364 t365 false _ ?side1 ?side2 A11.out).mono ?_); (case side1 => exact Z63); (case side2 => exact Z159); rintro e w16 ⟨rfl, hb⟩; refine ⟨_, rfl, ?_⟩; have n0_ := qb.mk (Kd.R_below Z134 hb); have n1_ := qb.mk (qd qz hb); clear HO_7 HB; have HO_7 := n0_; have HB := n1_; clear n0_ n1_; (try clear hb); (try clear hb2); (try clear hk); (try clear hi)))
    go_roundg k1
    case measure => have := HK1.out; omega
    case rel => exact ⟨(x7_1), (wrap64 (x23_1 + 1)), qD, H', ⟨Z157⟩, ⟨Z134⟩, ⟨qz⟩⟩
   subst c12
   have H1 : (if x7_1.length < 17592186044416 then (partner_Never.l0 k1 l1 (x7_1 ++ [x23_1]) t364 t365 (l1.length : Int) (wrap64 (x23_1 + 1))) else (none)) = some (r1, r2) := by rw [if_pos rfl] at H; exact H
   clear H
   have H := H1
   clear H1
   by_cases c13 : x7_1.length < 17592186044416
   case neg =>
    rw [if_neg c13] at H
    exact absurd H (by simp)
   rw [if_pos c13] at H
   have LMc13 := qb.mk c13
   clear c13
   obtain ⟨y367, hy367⟩ : ∃ y_ : List Int, y_ = (x7_1 ++ [x23_1]) := ⟨_, rfl⟩
   replace H : (partner_Never.l0 k1 l1 y367 t364 t365 (l1.length : Int) (wrap64 (x23_1 + 1))) = some (r1, r2) := by first | (rw [hy367]; with_reducible exact H) | (have H2_ := (Option.bind_some _ _).symm.trans H; rw [hy367]; with_reducible exact H2_) | (have H2_ := (Option.bind_some _ _).symm.trans H; with_reducible exact H2_) | with_reducible exact H | (rw [hy367]; exact H) | exact H
   have Ny367 := qb.mk hy367
   clear hy367
   have H' := qb.mk H
   clear H
   go_wp2_with (first | ((with_reducible refine qg (f := 31) rfl ?_); refine goesL_ (some 30) rfl rfl Tryz.func31 (by kernel_rfl) rfl #[.slice A1 l1.length c1, .int .i64 x23_1, .string t364, .string t365] rfl Z61 ?_; (with_reducible refine (partner_hides.calls k1 _ _ l1 x23_1 t364 t365 true _ ?side1 ?side2 A11.out).mono ?_); (case side1 => exact Z63); (case side2 => exact Z159); rintro e w14 ⟨rfl, hb⟩; refine ⟨_, rfl, ?_⟩; have n0_ := qb.mk (Kd.R_below Z134 hb); have n1_ := qb.mk (qd qz hb); clear HO_7 HB; have HO_7 := n0_; have HB := n1_; clear n0_ n1_; (try clear hb); (try clear hb2); (try clear hk); (try clear hi)) | ((with_reducible refine gate_builtin (b := .append) (xs := #[.tmp 31, .tmp 33]) rfl ?_); at_builtin; refine Kd.R_append (Kd.int .i64) (w0 := w) w.heap.size rfl (.tmp 31) (.tmp 33) 29 3 (.int .i64 0) 8 rfl Tryz.underlying29 info3 rfl (by decide) (by omega) u7 x7_1 x23_1 [.int .i64 x23_1] (fun _ => True) (fun _ => False) rfl rfl ?aP (fun _ hk => hk.elim) ?aF ?aO ?aB ?aS ?aL ?_; (case aP => exact rfl); (case aB => exact qz); (case aF => exact (fun _ _ => trivial)); (case aO => exact Z134); (case aS => exact (qx qz)); (case aL => have := LMc13.out; omega); intro v368 w15 ho hb hg hat; rw [← Ny367.out] at ho; have n0_ := qb.mk (hb); have n1_ := qb.mk (ho); clear HB HO_7; have HB := n0_; have HO369 := n1_; clear n0_ n1_; clear ho hb hg hat))
   go_roundg k1
   case measure => have := HK1.out; omega
   case rel => exact ⟨(y367), (wrap64 (x23_1 + 1)), qD, H', ⟨Z157⟩, ⟨by (with_reducible repeat (first | apply Kd.R_alloc | apply Kd.R_drewN | apply Kd.R_drew)); exact HO369.out⟩, ⟨qz⟩⟩
/-! ### slices_Equal_int_int: function 9 -/
def slices_Equal_int_int.l0 : Nat → List Int → List Int → Int → Int → Option (Bool)
 | 0, _, _, _, _ => none
 | k + 1, x0, x1, x12, x13 => if x13 < x12 then (if 0 ≤ x13 then (if x13 < (x0.length : Int) then (if x13 < (x1.length : Int) then (if (rd x0 x13) = (rd x1 x13) then (slices_Equal_int_int.l0 k x0 x1 x12 (wrap64 (x13 + 1))) else (some false)) else (none)) else (none)) else (none)) else (some true)
def slices_Equal_int_int.f (k : Nat) (l0 : List Int) (l1 : List Int) : Option (Bool) := if (l0.length : Int) = (l1.length : Int) then (slices_Equal_int_int.l0 k l0 l1 (l0.length : Int) 0) else (some false)
theorem slices_Equal_int_int.mono_l : ∀ k, (∀ y0 y1 y2 y3, qv (slices_Equal_int_int.l0 k y0 y1 y2 y3) (slices_Equal_int_int.l0 (k + 1) y0 y1 y2 y3))
 | 0 => fun _ _ _ _ r h => by simp [slices_Equal_int_int.l0] at h
 | k + 1 => by
  have ih0 := slices_Equal_int_int.mono_l k
  ·intro y0 y1 y2 y3
   unfold slices_Equal_int_int.l0
   repeat' first
   | (with_reducible apply ih0)
   | (with_reducible exact qv.refl _)
   | (with_reducible exact qv.none _)
   | (with_reducible refine qv.ite ?_ ?_)
   | (with_reducible refine qv.bind ?_ (fun _ => ?_))
   | apply ih0
   | exact qv.none _
   | refine qv.ite ?_ ?_
   | refine qv.bind ?_ (fun _ => ?_)
theorem slices_Equal_int_int.mono : ∀ a0 a1 k, qv (slices_Equal_int_int.f k a0 a1) (slices_Equal_int_int.f (k + 1) a0 a1) := by
 intro a0 a1 k
 have ih0 := slices_Equal_int_int.mono_l k
 unfold slices_Equal_int_int.f
 repeat' first
   | (with_reducible apply ih0)
   | (with_reducible exact qv.refl _)
   | (with_reducible exact qv.none _)
   | (with_reducible refine qv.ite ?_ ?_)
   | (with_reducible refine qv.bind ?_ (fun _ => ?_))
   | apply ih0
   | exact qv.none _
   | refine qv.ite ?_ ?_
   | refine qv.bind ?_ (fun _ => ?_)
set_option maxHeartbeats 8000000 in
set_option maxRecDepth 100000 in
theorem slices_Equal_int_int.calls (k : Nat) (A0 : Option Addr) (c0 : Nat) (l0 : List Int) (A1 : Option Addr) (c1 : Nat) (l1 : List Int) (r : Bool) (w : World) (hr0 : Kd.C (Kd.int .i64) w A0 l0.length l0) (hc0 : l0.length ≤ c0) (hr1 : Kd.C (Kd.int .i64) w A1 l1.length l1) (hc1 : l1.length ≤ c1) (h : slices_Equal_int_int.f k l0 l1 = some r) :
  Calls Tryz.prog 9 #[.slice A0 l0.length c0, .slice A1 l1.length c1] w fun e w' => e = .returned (.bool r) ∧ Drawn0 w w' := by
 have HR0 := qb.mk hr0
 have HC0 := qb.mk hc0
 clear hr0 hc0
 have HR1 := qb.mk hr1
 have HC1 := qb.mk hc1
 clear hr1 hc1
 have H : (if (l0.length : Int) = (l1.length : Int) then (slices_Equal_int_int.l0 k l0 l1 (l0.length : Int) 0) else (some false)) = some r := h
 clear h
 by_cases c3 : (l0.length : Int) = (l1.length : Int)
 case neg =>
  rw [if_neg c3] at H
  have c3b0 : ((l0.length : Int) == (l1.length : Int)) = false := beq_eq_false_iff_ne.mpr c3
  have c3b1 : ((l0.length : Int) != (l1.length : Int)) = true := bne_iff_ne.mpr c3
  have c3b2 : (l0.length == l1.length) = false := by first | simpa using c3 | (simp at c3 ⊢; omega)
  obtain rfl := Option.some.inj H
  go_enter Tryz.func9, Tryz.ntmps9
  go_wp2
  repeat (go_quiet (fail); try go_wp2)
  go_ret
  exact ⟨Z141, Z138⟩

 rw [if_pos c3] at H
 have c3b0 : ((l0.length : Int) == (l1.length : Int)) = true := beq_iff_eq.mpr c3
 have c3b1 : ((l0.length : Int) != (l1.length : Int)) = false := bne_eq_false_iff_eq.mpr c3
 have c3b2 : (l0.length == l1.length) = true := by first | simpa using c3 | (simp at c3 ⊢; omega)
 clear c3
 have H' := qb.mk H
 clear H
 go_enter Tryz.func9, Tryz.ntmps9
 go_wp2
 repeat (go_quiet (fail); try go_wp2)
 go_loopg [13] k (fun kq v13 w' => ∃ (x13_1 : Int), v13 = .int .i64 x13_1 ∧ qb (slices_Equal_int_int.l0 kq l0 l1 (l0.length : Int) x13_1 = some r) ∧ qb (kq ≤ k) ∧ Drawn0 w w')
 case atStart => exact ⟨(0), qD, H', ⟨Nat.le_refl _⟩, Z138⟩
 case round =>
  clear H'
  try clear c1; try clear p2; try clear c3; try clear c3b0; try clear c3b1; try clear c3b2
  obtain ⟨x13_1, rfl, HA, HK1, ⟨m1, rfl⟩⟩ := hrel
  cases gk with
  | zero => exact absurd HA.out (by simp [slices_Equal_int_int.l0])
  | succ k1 =>
   have H := HA.out
   clear HA
   simp only [slices_Equal_int_int.l0] at H
   by_cases c4 : x13_1 < (l0.length : Int)
   case neg =>
    rw [if_neg c4] at H
    have c4b0 : decide (x13_1 < (l0.length : Int)) = false := decide_eq_false c4
    clear c4
    obtain rfl := Option.some.inj H
    go_wp2
    repeat (go_quiet (fail); try go_wp2)
    go_ret
    exact ⟨Z141, Z138⟩
   rw [if_pos c4] at H
   have c4b0 : decide (x13_1 < (l0.length : Int)) = true := decide_eq_true c4
   clear c4
   by_cases c5 : 0 ≤ x13_1
   case neg =>
    rw [if_neg c5] at H
    exact absurd H (by simp)
   rw [if_pos c5] at H
   have c5b0 : decide (0 ≤ x13_1) = true := decide_eq_true c5
   clear c5
   by_cases c6 : x13_1 < (l0.length : Int)
   case neg =>
    rw [if_neg c6] at H
    exact absurd H (by simp)
   rw [if_pos c6] at H
   have c6b0 : decide (x13_1 < (l0.length : Int)) = true := decide_eq_true c6
   clear c6
   by_cases c7 : x13_1 < (l1.length : Int)
   case neg =>
    rw [if_neg c7] at H
    exact absurd H (by simp)
   rw [if_pos c7] at H
   have c7b0 : decide (x13_1 < (l1.length : Int)) = true := decide_eq_true c7
   clear c7
   by_cases c8 : (rd l0 x13_1) = (rd l1 x13_1)
   case neg =>
    rw [if_neg c8] at H
    have c8b0 : ((rd l0 x13_1) == (rd l1 x13_1)) = false := beq_eq_false_iff_ne.mpr c8
    have c8b1 : ((rd l0 x13_1) != (rd l1 x13_1)) = true := bne_iff_ne.mpr c8
    obtain rfl := Option.some.inj H
    have p370 : 0 ≤ (x13_1 : Int) := of_decide_eq_true qB
    have q370 : x13_1 < (l0.length : Int) := of_decide_eq_true qB
    obtain ⟨ad370, e370, hx370_0⟩ := Kd.at_int HR0.out x13_1 p370 q370
    cases e370
    replace p370 := eq_true p370
    replace q370 := eq_true q370
    have p371 : 0 ≤ (x13_1 : Int) := of_decide_eq_true qB
    have q371 : x13_1 < (l1.length : Int) := of_decide_eq_true qB
    obtain ⟨ad371, e371, hx371_0⟩ := Kd.at_int HR1.out x13_1 p371 q371
    cases e371
    replace p371 := eq_true p371
    replace q371 := eq_true q371
    go_wp2
    repeat (go_quiet (fail); try go_wp2)
    go_ret
    exact ⟨Z141, Z138⟩
   rw [if_pos c8] at H
   have c8b0 : ((rd l0 x13_1) == (rd l1 x13_1)) = true := beq_iff_eq.mpr c8
   have c8b1 : ((rd l0 x13_1) != (rd l1 x13_1)) = false := bne_eq_false_iff_eq.mpr c8
   clear c8
   have H' := qb.mk H
   clear H
   have p370 : 0 ≤ (x13_1 : Int) := of_decide_eq_true qB
   have q370 : x13_1 < (l0.length : Int) := of_decide_eq_true qB
   obtain ⟨ad370, e370, hx370_0⟩ := Kd.at_int HR0.out x13_1 p370 q370
   cases e370
   replace p370 := eq_true p370
   replace q370 := eq_true q370
   have p371 : 0 ≤ (x13_1 : Int) := of_decide_eq_true qB
   have q371 : x13_1 < (l1.length : Int) := of_decide_eq_true qB
   obtain ⟨ad371, e371, hx371_0⟩ := Kd.at_int HR1.out x13_1 p371 q371
   cases e371
   replace p371 := eq_true p371
   replace q371 := eq_true q371
   go_wp2
   repeat (go_quiet (fail); try go_wp2)
   go_roundg k1
   case measure => have := HK1.out; omega
   case rel => exact ⟨(wrap64 (x13_1 + 1)), qD, H', ⟨Z157⟩, Z138⟩
/-! ### partner_CheckSeries: function 66 -/
def partner_CheckSeries.f (a0_0 : Int) (a0_1 : Int) : Option (Int) := (kit_Outside.f a0_0 0 999999999999999).bind fun t373 => (if t373 = true then (some 1) else ((kit_Outside.f a0_1 (wrap64 (a0_0 + 1)) 999999999999999).bind fun t374 => (if t374 = true then (some 1) else (some 0))))
set_option maxHeartbeats 8000000 in
set_option maxRecDepth 100000 in
theorem partner_CheckSeries.calls (a0_0 : Int) (a0_1 : Int) (r : Int) (w : World) (h : partner_CheckSeries.f a0_0 a0_1 = some r) :
  Calls Tryz.prog 66 #[.agg #[.int .i64 a0_0, .int .i64 a0_1]] w fun e w' => e = .returned (.int .i64 r) ∧ Below w.heap.size w w' := by
 have hu58 := Tryz.underlying58
 have HB := qb.mk (Below.refl w.heap.size w)
 have H : ((kit_Outside.f a0_0 0 999999999999999).bind fun t373 => (if t373 = true then (some 1) else ((kit_Outside.f a0_1 (wrap64 (a0_0 + 1)) 999999999999999).bind fun t374 => (if t374 = true then (some 1) else (some 0))))) = some r := h
 clear h
 replace H := Option.bind_eq_some_iff.mp H
 obtain ⟨t373, A20, H⟩ := H
 replace H : (if t373 = true then (some 1) else ((kit_Outside.f a0_1 (wrap64 (a0_0 + 1)) 999999999999999).bind fun t374 => (if t374 = true then (some 1) else (some 0)))) = some r := H
 have A2 := qb.mk A20
 clear A20
 by_cases c3 : t373 = true
 case pos =>
  subst c3
  have H1 : (some 1) = some r := by rw [if_pos rfl] at H; exact H
  clear H
  have H := H1
  clear H1
  obtain rfl := Option.some.inj H
  go_enter Tryz.func66, Tryz.ntmps66
  go_wp2_with (first | ((with_reducible refine qi (N := 1) rfl ?_); refine qh ?hg (N := 1) ?hd (cs := #[.int .i64 a0_0, .int .i64 a0_1]) (t := 58) ?hr ?_; (case hd => rfl); (case hg => rfl); (case hr => exact qC); intro gb372 hg w4 hbox hb; have n0_ := qb.mk (qd qz hb); have n1_ := qb.mk (hbox); have n2_ := qb.mk ((Z66 : w.heap.size ≤ gb372)); have n3_ := n2_; clear HB; have HB := n0_; have BK372 := n1_; have GW372 := n2_; have GE372 := n3_; clear n0_ n1_ n2_ n3_; clear hb hbox hg; obtain ⟨yc5_0, yc5_1, yf5_0, yf5_1⟩ := bf2 BK372.out) | ((with_reducible refine qg (f := 75) rfl ?_); refine goesL_ (some 5) rfl rfl Tryz.func75 (by kernel_rfl) rfl #[.int .i64 a0_0, .int .i64 0, .int .i64 999999999999999] rfl Z61 ?_; (with_reducible refine (kit_Outside.calls a0_0 0 999999999999999 true _ A2.out).mono ?_); rintro e w' ⟨rfl, ⟨nd, rfl⟩⟩; refine ⟨_, rfl, ?_⟩))
  go_ret
  exact ⟨Z97, Z94⟩
 replace c3 := Bool.eq_false_iff.mpr c3
 subst c3
 have H1 : ((kit_Outside.f a0_1 (wrap64 (a0_0 + 1)) 999999999999999).bind fun t374 => (if t374 = true then (some 1) else (some 0))) = some r := by rw [if_neg (show ¬ (false = true) by decide)] at H; exact H
 clear H
 have H := H1
 clear H1
 replace H := Option.bind_eq_some_iff.mp H
 obtain ⟨t374, A60, H⟩ := H
 replace H : (if t374 = true then (some 1) else (some 0)) = some r := H
 have A6 := qb.mk A60
 clear A60
 by_cases c7 : t374 = true
 case pos =>
  subst c7
  have H1 : (some 1) = some r := by rw [if_pos rfl] at H; exact H
  clear H
  have H := H1
  clear H1
  obtain rfl := Option.some.inj H
  go_enter Tryz.func66, Tryz.ntmps66
  go_wp2_with (first | ((with_reducible refine qi (N := 1) rfl ?_); refine qh ?hg (N := 1) ?hd (cs := #[.int .i64 a0_0, .int .i64 a0_1]) (t := 58) ?hr ?_; (case hd => rfl); (case hg => rfl); (case hr => exact qC); intro gb372 hg w8 hbox hb; have n0_ := qb.mk (qd qz hb); have n1_ := qb.mk (hbox); have n2_ := qb.mk ((Z66 : w.heap.size ≤ gb372)); have n3_ := n2_; clear HB; have HB := n0_; have BK372 := n1_; have GW372 := n2_; have GE372 := n3_; clear n0_ n1_ n2_ n3_; clear hb hbox hg; obtain ⟨yc9_0, yc9_1, yf9_0, yf9_1⟩ := bf2 BK372.out) | ((with_reducible refine qg (f := 75) rfl ?_); refine goesL_ (some 5) rfl rfl Tryz.func75 (by kernel_rfl) rfl #[.int .i64 a0_0, .int .i64 0, .int .i64 999999999999999] rfl Z61 ?_; (with_reducible refine (kit_Outside.calls a0_0 0 999999999999999 false _ A2.out).mono ?_); rintro e w' ⟨rfl, ⟨nd, rfl⟩⟩; refine ⟨_, rfl, ?_⟩) | (go_at_call 75; (with_reducible refine (kit_Outside.calls a0_1 (wrap64 (a0_0 + 1)) 999999999999999 true _ A6.out).mono ?_); rintro e w' ⟨rfl, ⟨nd, rfl⟩⟩))
  go_ret
  exact ⟨Z97, Z94⟩
 replace c7 := Bool.eq_false_iff.mpr c7
 subst c7
 have H1 : (some 0) = some r := by rw [if_neg (show ¬ (false = true) by decide)] at H; exact H
 clear H
 have H := H1
 clear H1
 obtain rfl := Option.some.inj H
 go_enter Tryz.func66, Tryz.ntmps66
 go_wp2_with (first | ((with_reducible refine qi (N := 1) rfl ?_); refine qh ?hg (N := 1) ?hd (cs := #[.int .i64 a0_0, .int .i64 a0_1]) (t := 58) ?hr ?_; (case hd => rfl); (case hg => rfl); (case hr => exact qC); intro gb372 hg w10 hbox hb; have n0_ := qb.mk (qd qz hb); have n1_ := qb.mk (hbox); have n2_ := qb.mk ((Z66 : w.heap.size ≤ gb372)); have n3_ := n2_; clear HB; have HB := n0_; have BK372 := n1_; have GW372 := n2_; have GE372 := n3_; clear n0_ n1_ n2_ n3_; clear hb hbox hg; obtain ⟨yc11_0, yc11_1, yf11_0, yf11_1⟩ := bf2 BK372.out) | ((with_reducible refine qg (f := 75) rfl ?_); refine goesL_ (some 5) rfl rfl Tryz.func75 (by kernel_rfl) rfl #[.int .i64 a0_0, .int .i64 0, .int .i64 999999999999999] rfl Z61 ?_; (with_reducible refine (kit_Outside.calls a0_0 0 999999999999999 false _ A2.out).mono ?_); rintro e w' ⟨rfl, ⟨nd, rfl⟩⟩; refine ⟨_, rfl, ?_⟩) | (go_at_call 75; (with_reducible refine (kit_Outside.calls a0_1 (wrap64 (a0_0 + 1)) 999999999999999 false _ A6.out).mono ?_); rintro e w' ⟨rfl, ⟨nd, rfl⟩⟩))
 go_ret
 exact ⟨Z97, Z94⟩

/-! ### partner_isOf: function 67 -/
def partner_isOf.f (a0_0 : Int) (a0_1 : Int) (a1 : Int) : Option (Bool) := (kit_Outside.f a1 a0_0 a0_1).bind fun t376 => (some (!t376))
set_option maxHeartbeats 8000000 in
set_option maxRecDepth 100000 in
theorem partner_isOf.calls (a0_0 : Int) (a0_1 : Int) (a1 : Int) (r : Bool) (w : World) (h : partner_isOf.f a0_0 a0_1 a1 = some r) :
  Calls Tryz.prog 67 #[.agg #[.int .i64 a0_0, .int .i64 a0_1], .int .i64 a1] w fun e w' => e = .returned (.bool r) ∧ Below w.heap.size w w' := by
 have hu58 := Tryz.underlying58
 have HB := qb.mk (Below.refl w.heap.size w)
 have H : ((kit_Outside.f a1 a0_0 a0_1).bind fun t376 => (some (!t376))) = some r := h
 clear h
 replace H := Option.bind_eq_some_iff.mp H
 obtain ⟨t376, A30, H⟩ := H
 replace H : (some (!t376)) = some r := H
 have A3 := qb.mk A30
 clear A30
 obtain rfl := Option.some.inj H
 go_enter Tryz.func67, Tryz.ntmps67
 go_wp2_with (first | ((with_reducible refine qi (N := 2) rfl ?_); refine qh ?hg (N := 2) ?hd (cs := #[.int .i64 a0_0, .int .i64 a0_1]) (t := 58) ?hr ?_; (case hd => rfl); (case hg => rfl); (case hr => exact qC); intro gb375 hg w4 hbox hb; have n0_ := qb.mk (qd qz hb); have n1_ := qb.mk (hbox); have n2_ := qb.mk ((Z66 : w.heap.size ≤ gb375)); have n3_ := n2_; clear HB; have HB := n0_; have BK375 := n1_; have GW375 := n2_; have GE375 := n3_; clear n0_ n1_ n2_ n3_; clear hb hbox hg; obtain ⟨yc5_0, yc5_1, yf5_0, yf5_1⟩ := bf2 BK375.out) | ((with_reducible refine qg (f := 75) rfl ?_); refine goesL_ (some 10) rfl rfl Tryz.func75 (by kernel_rfl) rfl #[.int .i64 a1, .int .i64 a0_0, .int .i64 a0_1] rfl Z61 ?_; (with_reducible refine (kit_Outside.calls a1 a0_0 a0_1 t376 _ A3.out).mono ?_); rintro e w' ⟨rfl, ⟨nd, rfl⟩⟩; refine ⟨_, rfl, ?_⟩))
 go_ret
 exact ⟨Z97, by repeat (first | (with_reducible first | exact HB.out | apply qp | apply qj | apply qo | refine qq ?_ GE375.out) | exact HB.out)⟩

/-! ### partner_NextNumber: function 32 -/
def partner_NextNumber.f (a0_0 : Int) (a0_1 : Int) (a1 : Int) : Option (Int × Int) := (partner_CheckSeries.f a0_0 a0_1).bind fun t378 => (if t378 = 0 then ((partner_isOf.f a0_0 a0_1 a1).bind fun t379 => (if t379 = true then (if a1 = a0_1 then (some (a0_0, 0)) else (some (wrap64 (a1 + 1), 0))) else (some (0, 1)))) else (some (0, t378)))
set_option maxHeartbeats 8000000 in
set_option maxRecDepth 100000 in
theorem partner_NextNumber.calls (a0_0 : Int) (a0_1 : Int) (a1 : Int) (r1 : Int) (r2 : Int) (w : World) (h : partner_NextNumber.f a0_0 a0_1 a1 = some (r1, r2)) :
  Calls Tryz.prog 32 #[.agg #[.int .i64 a0_0, .int .i64 a0_1], .int .i64 a1] w fun e w' => e = .returned (.tuple #[.int .i64 r1, .int .i64 r2]) ∧ Below w.heap.size w w' := by
 have hu58 := Tryz.underlying58
 have HB := qb.mk (Below.refl w.heap.size w)
 have H : ((partner_CheckSeries.f a0_0 a0_1).bind fun t378 => (if t378 = 0 then ((partner_isOf.f a0_0 a0_1 a1).bind fun t379 => (if t379 = true then (if a1 = a0_1 then (some (a0_0, 0)) else (some (wrap64 (a1 + 1), 0))) else (some (0, 1)))) else (some (0, t378)))) = some (r1, r2) := h
 clear h
 replace H := Option.bind_eq_some_iff.mp H
 obtain ⟨t378, A30, H⟩ := H
 replace H : (if t378 = 0 then ((partner_isOf.f a0_0 a0_1 a1).bind fun t379 => (if t379 = true then (if a1 = a0_1 then (some (a0_0, 0)) else (some (wrap64 (a1 + 1), 0))) else (some (0, 1)))) else (some (0, t378))) = some (r1, r2) := H
 have A3 := qb.mk A30
 clear A30
 by_cases c4 : t378 = 0
 case neg =>
  rw [if_neg c4] at H
  have c4b0 : (t378 == 0) = false := beq_eq_false_iff_ne.mpr c4
  have c4b1 : (t378 != 0) = true := bne_iff_ne.mpr c4
  simp only [Option.some.injEq, Prod.mk.injEq] at H
  obtain ⟨rfl, rfl⟩ := H
  go_enter Tryz.func32, Tryz.ntmps32
  go_wp2_with (first | ((with_reducible refine qi (N := 2) rfl ?_); refine qh ?hg (N := 2) ?hd (cs := #[.int .i64 a0_0, .int .i64 a0_1]) (t := 58) ?hr ?_; (case hd => rfl); (case hg => rfl); (case hr => exact qC); intro gb377 hg w25 hbox hb; have n0_ := qb.mk (qd qz hb); have n1_ := qb.mk (hbox); have n2_ := qb.mk ((Z66 : w.heap.size ≤ gb377)); have n3_ := n2_; clear HB; have HB := n0_; have BK377 := n1_; have GW377 := n2_; have GE377 := n3_; clear n0_ n1_ n2_ n3_; clear hb hbox hg; obtain ⟨yc26_0, yc26_1, yf26_0, yf26_1⟩ := bf2 BK377.out) | ((with_reducible refine qg (f := 66) rfl ?_); refine goesL_ (some 8) rfl rfl Tryz.func66 (by kernel_rfl) rfl #[.agg #[.int .i64 a0_0, .int .i64 a0_1]] rfl Z61 ?_; (with_reducible refine (partner_CheckSeries.calls a0_0 a0_1 t378 _ A3.out).mono ?_); rintro e w27 ⟨rfl, hb⟩; refine ⟨_, rfl, ?_⟩; have n0_ := bb BK377 hb; have n1_ := qb.mk (qd Z95 hb); clear BK377 HB; have BK377 := n0_; have HB := n1_; clear n0_ n1_; (try clear hb); (try clear hb2); (try clear hk); (try clear hi)))
  go_ret2
  exact ⟨Z97, Z95⟩

 rw [if_pos c4] at H
 have c4b0 : (t378 == 0) = true := beq_iff_eq.mpr c4
 have c4b1 : (t378 != 0) = false := bne_eq_false_iff_eq.mpr c4
 clear c4
 replace H := Option.bind_eq_some_iff.mp H
 obtain ⟨t379, A50, H⟩ := H
 replace H : (if t379 = true then (if a1 = a0_1 then (some (a0_0, 0)) else (some (wrap64 (a1 + 1), 0))) else (some (0, 1))) = some (r1, r2) := H
 have A5 := qb.mk A50
 clear A50
 by_cases c6 : t379 = true
 case neg =>
  replace c6 := Bool.eq_false_iff.mpr c6
  subst c6
  have H1 : (some (0, 1)) = some (r1, r2) := by rw [if_neg (show ¬ (false = true) by decide)] at H; exact H
  clear H
  have H := H1
  clear H1
  simp only [Option.some.injEq, Prod.mk.injEq] at H
  obtain ⟨rfl, rfl⟩ := H
  go_enter Tryz.func32, Tryz.ntmps32
  go_wp2_with (first | ((with_reducible refine qi (N := 2) rfl ?_); refine qh ?hg (N := 2) ?hd (cs := #[.int .i64 a0_0, .int .i64 a0_1]) (t := 58) ?hr ?_; (case hd => rfl); (case hg => rfl); (case hr => exact qC); intro gb377 hg w20 hbox hb; have n0_ := qb.mk (qd qz hb); have n1_ := qb.mk (hbox); have n2_ := qb.mk ((Z66 : w.heap.size ≤ gb377)); have n3_ := n2_; clear HB; have HB := n0_; have BK377 := n1_; have GW377 := n2_; have GE377 := n3_; clear n0_ n1_ n2_ n3_; clear hb hbox hg; obtain ⟨yc21_0, yc21_1, yf21_0, yf21_1⟩ := bf2 BK377.out) | ((with_reducible refine qg (f := 66) rfl ?_); refine goesL_ (some 8) rfl rfl Tryz.func66 (by kernel_rfl) rfl #[.agg #[.int .i64 a0_0, .int .i64 a0_1]] rfl Z61 ?_; (with_reducible refine (partner_CheckSeries.calls a0_0 a0_1 t378 _ A3.out).mono ?_); rintro e w22 ⟨rfl, hb⟩; refine ⟨_, rfl, ?_⟩; have n0_ := bb BK377 hb; have n1_ := qb.mk (qd Z95 hb); clear BK377 HB; have BK377 := n0_; have HB := n1_; clear n0_ n1_; (try clear hb); (try clear hb2); (try clear hk); (try clear hi); obtain ⟨yc23_0, yc23_1, yf23_0, yf23_1⟩ := bf2 BK377.out) | ((with_reducible refine qg (f := 67) rfl ?_); refine goesL_ (some 14) rfl rfl Tryz.func67 (by kernel_rfl) rfl #[.agg #[.int .i64 a0_0, .int .i64 a0_1], .int .i64 a1] rfl Z61 ?_; (with_reducible refine (partner_isOf.calls a0_0 a0_1 a1 false _ A5.out).mono ?_); rintro e w24 ⟨rfl, hb⟩; refine ⟨_, rfl, ?_⟩; have n0_ := bb BK377 hb; have n1_ := qb.mk (qd Z95 hb); clear BK377 HB; have BK377 := n0_; have HB := n1_; clear n0_ n1_; (try clear hb); (try clear hb2); (try clear hk); (try clear hi)))
  go_ret2
  exact ⟨Z97, Z95⟩
 subst c6
 have H1 : (if a1 = a0_1 then (some (a0_0, 0)) else (some (wrap64 (a1 + 1), 0))) = some (r1, r2) := by rw [if_pos rfl] at H; exact H
 clear H
 have H := H1
 clear H1
 by_cases c7 : a1 = a0_1
 case neg =>
  rw [if_neg c7] at H
  have c7b0 : (a1 == a0_1) = false := beq_eq_false_iff_ne.mpr c7
  have c7b1 : (a1 != a0_1) = true := bne_iff_ne.mpr c7
  simp only [Option.some.injEq, Prod.mk.injEq] at H
  obtain ⟨rfl, rfl⟩ := H
  go_enter Tryz.func32, Tryz.ntmps32
  go_wp2_with (first | ((with_reducible refine qi (N := 2) rfl ?_); refine qh ?hg (N := 2) ?hd (cs := #[.int .i64 a0_0, .int .i64 a0_1]) (t := 58) ?hr ?_; (case hd => rfl); (case hg => rfl); (case hr => exact qC); intro gb377 hg w14 hbox hb; have n0_ := qb.mk (qd qz hb); have n1_ := qb.mk (hbox); have n2_ := qb.mk ((Z66 : w.heap.size ≤ gb377)); have n3_ := n2_; clear HB; have HB := n0_; have BK377 := n1_; have GW377 := n2_; have GE377 := n3_; clear n0_ n1_ n2_ n3_; clear hb hbox hg; obtain ⟨yc15_0, yc15_1, yf15_0, yf15_1⟩ := bf2 BK377.out) | ((with_reducible refine qg (f := 66) rfl ?_); refine goesL_ (some 8) rfl rfl Tryz.func66 (by kernel_rfl) rfl #[.agg #[.int .i64 a0_0, .int .i64 a0_1]] rfl Z61 ?_; (with_reducible refine (partner_CheckSeries.calls a0_0 a0_1 t378 _ A3.out).mono ?_); rintro e w16 ⟨rfl, hb⟩; refine ⟨_, rfl, ?_⟩; have n0_ := bb BK377 hb; have n1_ := qb.mk (qd Z95 hb); clear BK377 HB; have BK377 := n0_; have HB := n1_; clear n0_ n1_; (try clear hb); (try clear hb2); (try clear hk); (try clear hi); obtain ⟨yc17_0, yc17_1, yf17_0, yf17_1⟩ := bf2 BK377.out) | ((with_reducible refine qg (f := 67) rfl ?_); refine goesL_ (some 14) rfl rfl Tryz.func67 (by kernel_rfl) rfl #[.agg #[.int .i64 a0_0, .int .i64 a0_1], .int .i64 a1] rfl Z61 ?_; (with_reducible refine (partner_isOf.calls a0_0 a0_1 a1 true _ A5.out).mono ?_); rintro e w18 ⟨rfl, hb⟩; refine ⟨_, rfl, ?_⟩; have n0_ := bb BK377 hb; have n1_ := qb.mk (qd Z95 hb); clear BK377 HB; have BK377 := n0_; have HB := n1_; clear n0_ n1_; (try clear hb); (try clear hb2); (try clear hk); (try clear hi); obtain ⟨yc19_0, yc19_1, yf19_0, yf19_1⟩ := bf2 BK377.out))
  go_ret2
  exact ⟨Z97, Z95⟩
 rw [if_pos c7] at H
 have c7b0 : (a1 == a0_1) = true := beq_iff_eq.mpr c7
 have c7b1 : (a1 != a0_1) = false := bne_eq_false_iff_eq.mpr c7
 clear c7
 simp only [Option.some.injEq, Prod.mk.injEq] at H
 obtain ⟨rfl, rfl⟩ := H
 go_enter Tryz.func32, Tryz.ntmps32
 go_wp2_with (first | ((with_reducible refine qi (N := 2) rfl ?_); refine qh ?hg (N := 2) ?hd (cs := #[.int .i64 a0_0, .int .i64 a0_1]) (t := 58) ?hr ?_; (case hd => rfl); (case hg => rfl); (case hr => exact qC); intro gb377 hg w8 hbox hb; have n0_ := qb.mk (qd qz hb); have n1_ := qb.mk (hbox); have n2_ := qb.mk ((Z66 : w.heap.size ≤ gb377)); have n3_ := n2_; clear HB; have HB := n0_; have BK377 := n1_; have GW377 := n2_; have GE377 := n3_; clear n0_ n1_ n2_ n3_; clear hb hbox hg; obtain ⟨yc9_0, yc9_1, yf9_0, yf9_1⟩ := bf2 BK377.out) | ((with_reducible refine qg (f := 66) rfl ?_); refine goesL_ (some 8) rfl rfl Tryz.func66 (by kernel_rfl) rfl #[.agg #[.int .i64 a0_0, .int .i64 a0_1]] rfl Z61 ?_; (with_reducible refine (partner_CheckSeries.calls a0_0 a0_1 t378 _ A3.out).mono ?_); rintro e w10 ⟨rfl, hb⟩; refine ⟨_, rfl, ?_⟩; have n0_ := bb BK377 hb; have n1_ := qb.mk (qd Z95 hb); clear BK377 HB; have BK377 := n0_; have HB := n1_; clear n0_ n1_; (try clear hb); (try clear hb2); (try clear hk); (try clear hi); obtain ⟨yc11_0, yc11_1, yf11_0, yf11_1⟩ := bf2 BK377.out) | ((with_reducible refine qg (f := 67) rfl ?_); refine goesL_ (some 14) rfl rfl Tryz.func67 (by kernel_rfl) rfl #[.agg #[.int .i64 a0_0, .int .i64 a0_1], .int .i64 a1] rfl Z61 ?_; (with_reducible refine (partner_isOf.calls a0_0 a0_1 a1 true _ A5.out).mono ?_); rintro e w12 ⟨rfl, hb⟩; refine ⟨_, rfl, ?_⟩; have n0_ := bb BK377 hb; have n1_ := qb.mk (qd Z95 hb); clear BK377 HB; have BK377 := n0_; have HB := n1_; clear n0_ n1_; (try clear hb); (try clear hb2); (try clear hk); (try clear hi); obtain ⟨yc13_0, yc13_1, yf13_0, yf13_1⟩ := bf2 BK377.out))
 go_ret2
 exact ⟨Z97, Z95⟩
/-! ### l8awake: function 10 -/
def l8awake.f  : Option (Bool) := (partner_NextNumber.f 1 9 9).bind fun bt380 => (if bt380.2 = 0 then (some (bt380.1 == 1)) else (some false))
set_option maxHeartbeats 8000000 in
set_option maxRecDepth 100000 in
theorem l8awake.calls  (r : Bool) (w : World) (h : l8awake.f  = some r) :
  Calls Tryz.prog 10 #[] w fun e w' => e = .returned (.bool r) ∧ Below w.heap.size w w' := by
 have hu58 := Tryz.underlying58
 have HB := qb.mk (Below.refl w.heap.size w)
 have H : ((partner_NextNumber.f 1 9 9).bind fun bt380 => (if bt380.2 = 0 then (some (bt380.1 == 1)) else (some false))) = some r := h
 clear h
 replace H := Option.bind_eq_some_iff.mp H
 obtain ⟨⟨t380, t381⟩, A10, H⟩ := H
 replace H : (if t381 = 0 then (some (t380 == 1)) else (some false)) = some r := H
 have A1 := qb.mk A10
 clear A10
 by_cases c2 : t381 = 0
 case neg =>
  rw [if_neg c2] at H
  have c2b0 : (t381 == 0) = false := beq_eq_false_iff_ne.mpr c2
  have c2b1 : (t381 != 0) = true := bne_iff_ne.mpr c2
  obtain rfl := Option.some.inj H
  go_enter Tryz.func10, Tryz.ntmps10
  go_wp2_with (first | ((with_reducible refine qg (f := 32) rfl ?_); refine goesL_ (some 5) rfl rfl Tryz.func32 (by kernel_rfl) rfl #[.agg #[.int .i64 1, .int .i64 9], .int .i64 9] rfl Z61 ?_; (with_reducible refine (partner_NextNumber.calls 1 9 9 t380 t381 _ A1.out).mono ?_); rintro e w4 ⟨rfl, hb⟩; refine ⟨_, rfl, ?_⟩; have n0_ := qb.mk (qd qz hb); clear HB; have HB := n0_; clear n0_; (try clear hb); (try clear hb2); (try clear hk); (try clear hi)))
  go_ret
  exact ⟨Z97, qz⟩

 rw [if_pos c2] at H
 have c2b0 : (t381 == 0) = true := beq_iff_eq.mpr c2
 have c2b1 : (t381 != 0) = false := bne_eq_false_iff_eq.mpr c2
 clear c2
 obtain rfl := Option.some.inj H
 go_enter Tryz.func10, Tryz.ntmps10
 go_wp2_with (first | ((with_reducible refine qg (f := 32) rfl ?_); refine goesL_ (some 5) rfl rfl Tryz.func32 (by kernel_rfl) rfl #[.agg #[.int .i64 1, .int .i64 9], .int .i64 9] rfl Z61 ?_; (with_reducible refine (partner_NextNumber.calls 1 9 9 t380 t381 _ A1.out).mono ?_); rintro e w3 ⟨rfl, hb⟩; refine ⟨_, rfl, ?_⟩; have n0_ := qb.mk (qd qz hb); clear HB; have HB := n0_; clear n0_; (try clear hb); (try clear hb2); (try clear hk); (try clear hi)))
 go_ret
 exact ⟨Z97, qz⟩
end Go.Proofs.YtmmknokdgbgjgaaGreatDoor.XPartnerDaysMatchSpec
