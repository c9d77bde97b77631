-- Walks of PartnerDaysMatchSpec: written by xprint.py out of the translation (hand-proved functions among them). Lean checks it.
import Derived.Test.YtmmknokdgbgjgaaGreatDoorXPartnerDaysMatchSpecx0
namespace Go.Proofs.YtmmknokdgbgjgaaGreatDoor.XPartnerDaysMatchSpec
open Go.RowKit Go.Proofs.YtmmknokdgbgjgaaGreatDoorW.PrintWords Go.Proofs.YtmmknokdgbgjgaaGreatDoorW.PrintLast Go.Proofs.YtmmknokdgbgjgaaGreatDoorW.PrintMore
attribute [local go_sem] max2_int min2_int max_two min_two max_three min_three max_four min_four   -- for this text's walks alone
set_option linter.unusedVariables false
set_option linter.unusedSimpArgs false

theorem xne_empty (l : List UInt8) : (l != ([] : List UInt8)) = !l.isEmpty := by cases l <;> rfl
theorem xeq_empty (l : List UInt8) : (l == ([] : List UInt8)) = l.isEmpty := by cases l <;> rfl
theorem xless_or : ∀ (a b : List UInt8), (Op.bytesLess a b || a == b) = !(Op.bytesLess b a)
  | [], [] => rfl
  | [], _ :: _ => rfl
  | _ :: _, [] => rfl
  | a :: x, b :: y => by
    have ih := xless_or x y
    simp only [Op.bytesLess]
    by_cases h : a = b
    case pos =>
      subst h
      have hl : ¬ (a < a) := by simp
      have he : (a :: x == a :: y) = (x == y) := by simp
      rw [he]
      simp only [hl, decide_false, Bool.false_or, beq_self_eq_true, Bool.true_and]
      exact ih
    have he : (a :: x == b :: y) = false := by simp [h]
    have h1 : (a == b) = false := by simpa using h
    have h2 : (b == a) = false := by simpa using fun e => h e.symm
    rw [he, h1, h2]
    simp only [Bool.false_and, Bool.or_false]
    by_cases hl : a < b
    case pos =>
      have : ¬ (b < a) := by have := UInt8.lt_asymm hl; exact this
      simp [hl, this]
    have : b < a := by have h3 := UInt8.not_lt.mp hl; exact UInt8.lt_of_le_of_ne h3 (fun e => h e.symm)
    simp [hl, this]
@[go_sem] theorem xbinop_leq (t : TypeId) (a b : ByteArray) : binOp .leq t (.string a) (.string b) = pure (.bool !(Op.bytesLess b.toList a.toList)) := by rw [← xless_or]; simp [binOp, Op.stringOp]
@[go_sem] theorem xbinop_gtr (t : TypeId) (a b : ByteArray) : binOp .gtr t (.string a) (.string b) = pure (.bool (Op.bytesLess b.toList a.toList)) := by
  have h := xless_or a.toList b.toList
  have h2 : Op.bytesLess b.toList a.toList = !(Op.bytesLess a.toList b.toList || a.toList == b.toList) := by rw [h]; simp
  rw [h2]; simp [binOp, Op.stringOp]
@[go_sem] theorem xbinop_geq (t : TypeId) (a b : ByteArray) : binOp .geq t (.string a) (.string b) = pure (.bool !(Op.bytesLess a.toList b.toList)) := by simp [binOp, Op.stringOp]


theorem R_strs {e : Nat} {w : World} {base : Nat} {ok : Nat → Prop} {v : Value} {xs : List ByteArray} : Kd.R Kd.string e w base ok v xs ↔ (∀ k, v.ownBlock = some k → ok k) ∧ w.ownsRow base e 1 v xs.length (xs.map Value.string) := by
  constructor
  · rintro ⟨h0, inner, ho, hr⟩
    refine ⟨h0, ?_⟩
    have hi : inner = xs.map Value.string := by
      have hl : inner.length = xs.length := by rw [hr.1]; exact Nat.mul_one _
      refine List.ext_getElem? fun j => ?_
      by_cases hj : j < xs.length
      case neg =>
        rw [List.getElem?_eq_none (by omega), List.getElem?_eq_none (by simp; omega)]
      have := hr.2 j xs[j] (List.getElem?_eq_getElem hj)
      have e1 : (inner.drop (j * 1)).take 1 = [inner[j]'(by omega)] := by rw [Nat.mul_one, List.drop_eq_getElem_cons (by omega)]; rfl
      have e2 : (inner.drop (j * 1)).take 1 = [Value.string xs[j]] := this
      rw [e1] at e2
      rw [List.getElem?_eq_getElem (by omega), List.getElem?_map, List.getElem?_eq_getElem hj]
      simpa using e2
    rw [← hi]
    exact ho
  · rintro ⟨h0, ho⟩
    refine ⟨h0, _, ho, by simp [Kd.string, Kd.scalar], fun j p hj => ?_⟩
    show (((xs.map Value.string).drop (j * 1)).take 1) = [Value.string p]
    have hj' : j < xs.length := (List.getElem?_eq_some_iff.1 hj).1
    have hp : xs[j] = p := (List.getElem?_eq_some_iff.1 hj).2
    rw [Nat.mul_one, List.drop_eq_getElem_cons (by simpa using hj')]
    simp [hp]
theorem C_strs {w : World} {A : Option Addr} {l : List ByteArray} (h : Kd.C Kd.string w A l.length l) (hpos : 0 < l.length) : ∃ b off, A = some ⟨b, off, none⟩ ∧ ∀ j, j < l.length → w.cell? (if j = 0 then ⟨b, off, none⟩ else ⟨b, off + j, none⟩) = some (.string (l.getD j ByteArray.empty)) := by
  obtain ⟨ad, rfl, hcell⟩ := h.2.2 hpos
  have hcells : ∀ j, j < l.length → w.cell? (ad.add j) = some (.string (l.getD j ByteArray.empty)) := by
    intro j hj
    obtain ⟨c, hc1, hc2, hc3⟩ := hcell j l[j] (List.getElem?_eq_getElem hj)
    have hc2' : c = [Value.string l[j]] := hc2
    have := hc3 0 (.string l[j]) (by rw [hc2']; rfl)
    have e1 : (j * Kd.string.sz + 0) = j := by simp [Kd.string, Kd.scalar]
    rw [e1] at this
    rw [this]
    simp [List.getD, List.getElem?_eq_getElem hj]
  obtain ⟨b, off, sp⟩ := ad
  have hsp : sp = none := by
    have := hcells 0 hpos
    cases sp with
    | none => rfl
    | some s =>
      simp only [Addr.add, World.cell?, if_true, Option.isSome_some] at this
      split at this <;> cases this
  subst hsp
  refine ⟨b, off, rfl, fun j hj => ?_⟩
  have := hcells j hj
  by_cases h0 : j = 0
  case neg =>
    simpa [Addr.add, h0] using this

  subst h0; simpa [Addr.add] using this
/-! ### r8isPartner: function 49 -/
def r8isPartner.l0 : Nat → ByteArray → List (S110) → Int → Int → Option (Bool)
 | 0, _, _, _, _ => none
 | k + 1, x1, x7, x8, x9 => if x9 < x8 then (if 0 ≤ x9 then (if x9 < (x7.length : Int) then (if ((qf x7 x9).f0).toList = x1.toList then (some true) else (r8isPartner.l0 k x1 x7 x8 (wrap64 (x9 + 1)))) else (none)) else (none)) else (some false)
def r8isPartner.f (k : Nat) (l0 : List (S110)) (a1 : ByteArray) : Option (Bool) := r8isPartner.l0 k a1 l0 (l0.length : Int) 0
theorem r8isPartner.mono_l : ∀ k, (∀ y0 y1 y2 y3, qv (r8isPartner.l0 k y0 y1 y2 y3) (r8isPartner.l0 (k + 1) y0 y1 y2 y3))
 | 0 => fun _ _ _ _ r h => by simp [r8isPartner.l0] at h
 | k + 1 => by
  have ih0 := r8isPartner.mono_l k
  ·intro y0 y1 y2 y3
   unfold r8isPartner.l0
   repeat' first
   | (with_reducible apply ih0)
   | (with_reducible exact qv.refl _)
   | (with_reducible exact qv.none _)
   | (with_reducible refine qv.ite ?_ ?_)
   | (with_reducible refine qv.bind ?_ (fun _ => ?_))
   | apply ih0
   | exact qv.none _
   | refine qv.ite ?_ ?_
   | refine qv.bind ?_ (fun _ => ?_)
theorem r8isPartner.mono : ∀ a0 a1 k, qv (r8isPartner.f k a0 a1) (r8isPartner.f (k + 1) a0 a1) := by
 intro a0 a1 k
 have ih0 := r8isPartner.mono_l k
 unfold r8isPartner.f
 repeat' first
   | (with_reducible apply ih0)
   | (with_reducible exact qv.refl _)
   | (with_reducible exact qv.none _)
   | (with_reducible refine qv.ite ?_ ?_)
   | (with_reducible refine qv.bind ?_ (fun _ => ?_))
   | apply ih0
   | exact qv.none _
   | refine qv.ite ?_ ?_
   | refine qv.bind ?_ (fun _ => ?_)
set_option maxHeartbeats 8000000 in
set_option maxRecDepth 100000 in
theorem r8isPartner.calls (k : Nat) (A0 : Option Addr) (c0 : Nat) (l0 : List (S110)) (a1 : ByteArray) (r : Bool) (w : World) (hr0 : Kd.C k110 w A0 l0.length l0) (hc0 : l0.length ≤ c0) (h : r8isPartner.f k l0 a1 = some r) :
  Calls Tryz.prog 49 #[.slice A0 l0.length c0, .string a1] w fun e w' => e = .returned (.bool r) ∧ Below w.heap.size w w' := by
 have hu110 := Tryz.underlying110
 have HR0 := qb.mk hr0
 have HC0 := qb.mk hc0
 clear hr0 hc0
 have HB := qb.mk (Below.refl w.heap.size w)
 have H : (r8isPartner.l0 k a1 l0 (l0.length : Int) 0) = some r := h
 clear h
 have H' := qb.mk H
 clear H
 go_enter Tryz.func49, Tryz.ntmps49
 go_wp2
 go_loopg [9] k (fun kq v9 w' => ∃ (x9_1 : Int), v9 = .int .i64 x9_1 ∧ qb (r8isPartner.l0 kq a1 l0 (l0.length : Int) x9_1 = some r) ∧ qb (kq ≤ k) ∧ qb (Below w.heap.size w w'))
 case atStart => exact ⟨(0), qD, H', ⟨Nat.le_refl _⟩, ⟨qz⟩⟩
 case round =>
  clear H'
  try clear p2
  obtain ⟨x9_1, rfl, HA, HK1, HB⟩ := hrel
  cases gk with
  | zero => exact absurd HA.out (by simp [r8isPartner.l0])
  | succ k1 =>
   have H := HA.out
   clear HA
   simp only [r8isPartner.l0] at H
   by_cases c3 : x9_1 < (l0.length : Int)
   case neg =>
    rw [if_neg c3] at H
    have c3b0 : decide (x9_1 < (l0.length : Int)) = false := decide_eq_false c3
    clear c3
    obtain rfl := Option.some.inj H
    go_wp2
    go_ret
    exact ⟨Z97, qz⟩

   rw [if_pos c3] at H
   have c3b0 : decide (x9_1 < (l0.length : Int)) = true := decide_eq_true c3
   clear c3
   by_cases c4 : 0 ≤ x9_1
   case neg =>
    rw [if_neg c4] at H
    exact absurd H (by simp)
   rw [if_pos c4] at H
   have c4b0 : decide (0 ≤ x9_1) = true := decide_eq_true c4
   clear c4
   by_cases c5 : x9_1 < (l0.length : Int)
   case neg =>
    rw [if_neg c5] at H
    exact absurd H (by simp)
   rw [if_pos c5] at H
   have c5b0 : decide (x9_1 < (l0.length : Int)) = true := decide_eq_true c5
   clear c5
   by_cases c6 : ((qf l0 x9_1).f0).toList = a1.toList
   case pos =>
    rw [if_pos c6] at H
    have c6b0 : (((qf l0 x9_1).f0).toList == a1.toList) = true := beq_iff_eq.mpr c6
    have c6b1 : (((qf l0 x9_1).f0).toList != a1.toList) = false := bne_eq_false_iff_eq.mpr c6
    clear c6
    obtain rfl := Option.some.inj H
    have p101 : 0 ≤ (x9_1 : Int) := of_decide_eq_true qB
    have q101 : x9_1 < (l0.length : Int) := of_decide_eq_true qB
    obtain ⟨ad101, A101_1, c101_1, e101, hx101_0, hx101_1, hl101_1, hi101_1⟩ := at_T110 HR0.out x9_1 p101 q101
    cases e101
    replace hx101_0 := bx HB hx101_0
    replace hx101_1 := bx HB hx101_1
    have HR101_1 := qb.mk hi101_1
    have HC101_1 := qb.mk hl101_1
    clear hi101_1 hl101_1
    replace p101 := eq_true p101
    replace q101 := eq_true q101
    go_wp2_with (first | ((with_reducible refine qi (N := 6) rfl ?_); refine qh ?hg (N := 6) ?hd (cs := #[.string (⟨#[]⟩ : ByteArray), .slice none 0 0]) (t := 110) ?hr ?_; (case hd => rfl); (case hg => rfl); (case hr => exact qC); intro gb102 hg w7 hbox hb; have n0_ := qb.mk (qd qz hb); have n1_ := qb.mk (hbox); have n2_ := qb.mk ((Z66 : w.heap.size ≤ gb102)); have n3_ := n2_; clear HB; have HB := n0_; have BK102 := n1_; have GW102 := n2_; have GE102 := n3_; clear n0_ n1_ n2_ n3_; clear hb hbox hg; obtain ⟨yc8_0, yc8_1, yf8_0, yf8_1⟩ := bf2 BK102.out))
    go_ret
    exact ⟨Z97, by repeat (first | (with_reducible first | exact HB.out | apply qp | apply qj | apply qo | refine qq ?_ GE102.out) | exact HB.out)⟩
   rw [if_neg c6] at H
   have c6b0 : (((qf l0 x9_1).f0).toList == a1.toList) = false := beq_eq_false_iff_ne.mpr c6
   have c6b1 : (((qf l0 x9_1).f0).toList != a1.toList) = true := bne_iff_ne.mpr c6
   have H' := qb.mk H
   clear H
   have p101 : 0 ≤ (x9_1 : Int) := of_decide_eq_true qB
   have q101 : x9_1 < (l0.length : Int) := of_decide_eq_true qB
   obtain ⟨ad101, A101_1, c101_1, e101, hx101_0, hx101_1, hl101_1, hi101_1⟩ := at_T110 HR0.out x9_1 p101 q101
   cases e101
   replace hx101_0 := bx HB hx101_0
   replace hx101_1 := bx HB hx101_1
   have HR101_1 := qb.mk hi101_1
   have HC101_1 := qb.mk hl101_1
   clear hi101_1 hl101_1
   replace p101 := eq_true p101
   replace q101 := eq_true q101
   go_wp2_with (first | ((with_reducible refine qi (N := 6) rfl ?_); refine qh ?hg (N := 6) ?hd (cs := #[.string (⟨#[]⟩ : ByteArray), .slice none 0 0]) (t := 110) ?hr ?_; (case hd => rfl); (case hg => rfl); (case hr => exact qC); intro gb102 hg w9 hbox hb; have n0_ := qb.mk (qd qz hb); have n1_ := qb.mk (hbox); have n2_ := qb.mk ((Z66 : w.heap.size ≤ gb102)); have n3_ := n2_; clear HB; have HB := n0_; have BK102 := n1_; have GW102 := n2_; have GE102 := n3_; clear n0_ n1_ n2_ n3_; clear hb hbox hg; obtain ⟨yc10_0, yc10_1, yf10_0, yf10_1⟩ := bf2 BK102.out))
   go_roundg k1
   case measure => have := HK1.out; omega
   case rel => exact ⟨(wrap64 (x9_1 + 1)), qD, H', ⟨Z157⟩, ⟨by repeat (first | (with_reducible first | exact HB.out | apply qp | apply qj | apply qo | refine qq ?_ GE102.out) | exact HB.out)⟩⟩
/-! ### interchangeref1_isName: function 127 -/
mutual
def interchangeref1_isName.j0 : Nat → ByteArray → Bool → Option (Bool)
 | 0, _, _ => none
 | k + 1, x0, x21 => if x21 = true then (some false) else (interchangeref1_isName.l0 k x0 (x0.size : Int) 0)
def interchangeref1_isName.l0 : Nat → ByteArray → Int → Int → Option (Bool)
 | 0, _, _, _ => none
 | k + 1, x0, x23, x24 => if x24 < x23 then (if 0 ≤ x24 then (if x24 < (x0.size : Int) then (if (bt x0 x24) < 97 then (if (bt x0 x24) < 48 then (if (bt x0 x24) = 45 then (interchangeref1_isName.l0 k x0 x23 (wrap64 (x24 + 1))) else (some false)) else (if (bt x0 x24) > 57 then (if (bt x0 x24) = 45 then (interchangeref1_isName.l0 k x0 x23 (wrap64 (x24 + 1))) else (some false)) else (interchangeref1_isName.l0 k x0 x23 (wrap64 (x24 + 1))))) else (if (bt x0 x24) > 122 then (if (bt x0 x24) < 48 then (if (bt x0 x24) = 45 then (interchangeref1_isName.l0 k x0 x23 (wrap64 (x24 + 1))) else (some false)) else (if (bt x0 x24) > 57 then (if (bt x0 x24) = 45 then (interchangeref1_isName.l0 k x0 x23 (wrap64 (x24 + 1))) else (some false)) else (interchangeref1_isName.l0 k x0 x23 (wrap64 (x24 + 1))))) else (interchangeref1_isName.l0 k x0 x23 (wrap64 (x24 + 1))))) else (none)) else (none)) else (some true)
end
def interchangeref1_isName.f (k : Nat) (a0 : ByteArray) : Option (Bool) := if a0.toList = ([] : List UInt8) then (interchangeref1_isName.j0 k a0 true) else (if (a0.size : Int) > 40 then (interchangeref1_isName.j0 k a0 true) else (if 0 < (a0.size : Int) then (if (bt a0 0) < 97 then (interchangeref1_isName.j0 k a0 true) else (interchangeref1_isName.j0 k a0 (decide ((bt a0 0) > 122)))) else (none)))
theorem interchangeref1_isName.mono_l : ∀ k, (∀ y0 y1, qv (interchangeref1_isName.j0 k y0 y1) (interchangeref1_isName.j0 (k + 1) y0 y1)) ∧ (∀ y0 y1 y2, qv (interchangeref1_isName.l0 k y0 y1 y2) (interchangeref1_isName.l0 (k + 1) y0 y1 y2))
 | 0 => ⟨fun _ _ r h => by simp [interchangeref1_isName.j0] at h, fun _ _ _ r h => by simp [interchangeref1_isName.l0] at h⟩
 | k + 1 => by
  obtain ⟨ih0, ih1⟩ := interchangeref1_isName.mono_l k
  refine ⟨?_, ?_⟩
  all_goals
   intros
   first | unfold interchangeref1_isName.j0 | unfold interchangeref1_isName.l0
   repeat' first
   | (with_reducible apply ih0)
   | (with_reducible apply ih1)
   | (with_reducible exact qv.refl _)
   | (with_reducible exact qv.none _)
   | (with_reducible refine qv.ite ?_ ?_)
   | (with_reducible refine qv.bind ?_ (fun _ => ?_))
   | apply ih0
   | apply ih1
   | exact qv.none _
   | refine qv.ite ?_ ?_
   | refine qv.bind ?_ (fun _ => ?_)
theorem interchangeref1_isName.mono : ∀ a0 k, qv (interchangeref1_isName.f k a0) (interchangeref1_isName.f (k + 1) a0) := by
 intro a0 k
 obtain ⟨ih0, ih1⟩ := interchangeref1_isName.mono_l k
 unfold interchangeref1_isName.f
 repeat' first
   | (with_reducible apply ih0)
   | (with_reducible apply ih1)
   | (with_reducible exact qv.refl _)
   | (with_reducible exact qv.none _)
   | (with_reducible refine qv.ite ?_ ?_)
   | (with_reducible refine qv.bind ?_ (fun _ => ?_))
   | apply ih0
   | apply ih1
   | exact qv.none _
   | refine qv.ite ?_ ?_
   | refine qv.bind ?_ (fun _ => ?_)
set_option maxHeartbeats 8000000 in
set_option maxRecDepth 100000 in
theorem interchangeref1_isName.calls (k : Nat) (a0 : ByteArray) (r : Bool) (w : World) (h : interchangeref1_isName.f k a0 = some r) :
  Calls Tryz.prog 127 #[.string a0] w fun e w' => e = .returned (.bool r) ∧ Drawn0 w w' := by
 have H : (if a0.toList = ([] : List UInt8) then (interchangeref1_isName.j0 k a0 true) else (if (a0.size : Int) > 40 then (interchangeref1_isName.j0 k a0 true) else (if 0 < (a0.size : Int) then (if (bt a0 0) < 97 then (interchangeref1_isName.j0 k a0 true) else (interchangeref1_isName.j0 k a0 (decide ((bt a0 0) > 122)))) else (none)))) = some r := h
 clear h
 have HC2 := qb.mk H
 clear H
 go_enter Tryz.func127, Tryz.ntmps127
 go_upto_region 1 with (fail)
 go_cut [21] (fun v21 wc => ∃ (kq : Nat) (x21_1 : Bool), v21 = .bool x21_1 ∧ qb (interchangeref1_isName.j0 kq a0 x21_1 = some r) ∧ qb (kq ≤ k) ∧ Drawn0 w wc)
 case first =>
  have H := HC2.out
  clear HC2
  by_cases c3 : a0.toList = ([] : List UInt8)
  case pos =>
   rw [if_pos c3] at H
   have c3b0 : (a0.toList == ([] : List UInt8)) = true := beq_iff_eq.mpr c3
   have c3b1 : (a0.toList != ([] : List UInt8)) = false := bne_eq_false_iff_eq.mpr c3
   clear c3
   (first | rw [c3b0] | (simp only [qr, qt]; rw [c3b0]) | skip)
   have H' := qb.mk H
   clear H
   go_wp2
   go_meet
   case rel => exact ⟨_, (true), qD, H', ⟨Z154⟩, Z138⟩
  rw [if_neg c3] at H
  have c3b0 : (a0.toList == ([] : List UInt8)) = false := beq_eq_false_iff_ne.mpr c3
  have c3b1 : (a0.toList != ([] : List UInt8)) = true := bne_iff_ne.mpr c3
  (first | rw [c3b0] | (simp only [qr, qt]; rw [c3b0]) | skip)
  by_cases c4 : (a0.size : Int) > 40
  case pos =>
   rw [if_pos c4] at H
   have c4b0 : decide (40 < (a0.size : Int)) = true := decide_eq_true c4
   have c4b1 : decide (40 < a0.size) = true := decide_eq_true (by omega)
   clear c4
   have H' := qb.mk H
   clear H
   go_wp2
   go_meet
   case rel => exact ⟨_, (true), qD, H', ⟨Z154⟩, Z138⟩
  rw [if_neg c4] at H
  have c4b0 : decide (40 < (a0.size : Int)) = false := decide_eq_false c4
  have c4b1 : decide (40 < a0.size) = false := decide_eq_false (by omega)
  clear c4
  by_cases c5 : 0 < (a0.size : Int)
  case neg =>
   rw [if_neg c5] at H
   exact absurd H (by simp)
  rw [if_pos c5] at H
  have c5b0 : decide (0 < (a0.size : Int)) = true := decide_eq_true c5
  have c5b1 : decide (0 < a0.size) = true := decide_eq_true (by omega)
  clear c5
  by_cases c7 : (bt a0 0) < 97
  case pos =>
   rw [if_pos c7] at H
   have c7b0 : decide ((bt a0 0) < 97) = true := decide_eq_true c7
   clear c7
   have H' := qb.mk H
   clear H
   have p6 : 0 ≤ (0 : Int) := (by omega)
   have q6 : 0 < a0.size := (by have : (0 : Int) < (a0.size : Int) := of_decide_eq_true qB; omega)
   have hx6 : ∀ h : 0 < a0.size, ((a0[0]'h).toNat : Int) = bt a0 0 := bt_at a0 0
   clear p6
   have qi6 : (0 < (a0.size : Int)) = True := eq_true (of_decide_eq_true qB)
   replace q6 := eq_true q6
   go_wp2
   go_meet
   case rel => exact ⟨_, (true), qD, H', ⟨Z154⟩, Z138⟩
  rw [if_neg c7] at H
  have c7b0 : decide ((bt a0 0) < 97) = false := decide_eq_false c7
  clear c7
  have H' := qb.mk H
  clear H
  have p6 : 0 ≤ (0 : Int) := (by omega)
  have q6 : 0 < a0.size := (by have : (0 : Int) < (a0.size : Int) := of_decide_eq_true qB; omega)
  have hx6 : ∀ h : 0 < a0.size, ((a0[0]'h).toNat : Int) = bt a0 0 := bt_at a0 0
  clear p6
  have qi6 : (0 < (a0.size : Int)) = True := eq_true (of_decide_eq_true qB)
  replace q6 := eq_true q6
  have p8 : 0 ≤ (0 : Int) := (by omega)
  have q8 : 0 < a0.size := (by have : (0 : Int) < (a0.size : Int) := of_decide_eq_true qB; omega)
  have hx8 : ∀ h : 0 < a0.size, ((a0[0]'h).toNat : Int) = bt a0 0 := bt_at a0 0
  clear p8
  have qi8 : (0 < (a0.size : Int)) = True := eq_true (of_decide_eq_true qB)
  replace q8 := eq_true q8
  go_wp2
  go_meet
  case rel => exact ⟨_, (decide ((bt a0 0) > 122)), qD, H', ⟨Z154⟩, Z138⟩
 case rest =>
  clear HC2
  try clear c1; try clear p2; try clear c3; try clear c3b0; try clear c3b1; try clear c4; try clear c4b0; try clear c4b1; try clear c5; try clear c5b0; try clear c5b1; try clear p6 p6; try clear q6 q6; try clear hx6; try clear qi6; try clear c7; try clear c7b0; try clear p8 p8; try clear q8 q8; try clear hx8; try clear qi8
  obtain ⟨kq, x21_1, rfl, HA, HJ1, ⟨mc1, rfl⟩⟩ := hcut
  cases kq with
  | zero => exact absurd HA.out (by simp [interchangeref1_isName.j0])
  | succ kj1 =>
   have H := HA.out
   clear HA
   simp only [interchangeref1_isName.j0] at H
   by_cases c9 : x21_1 = true
   case pos =>
    subst c9
    have H1 : (some false) = some r := by rw [if_pos rfl] at H; exact H
    clear H
    have H := H1
    clear H1
    obtain rfl := Option.some.inj H
    go_wp2
    go_ret
    exact ⟨Z141, Z138⟩
   replace c9 := Bool.eq_false_iff.mpr c9
   subst c9
   have H1 : (interchangeref1_isName.l0 kj1 a0 (a0.size : Int) 0) = some r := by rw [if_neg (show ¬ (false = true) by decide)] at H; exact H
   clear H
   have H := H1
   clear H1
   have H' := qb.mk H
   clear H
   go_wp2
   go_loopg [24] kj1 (fun kq v24 w' => ∃ (x24_2 : Int), v24 = .int .i64 x24_2 ∧ qb (interchangeref1_isName.l0 kq a0 (a0.size : Int) x24_2 = some r) ∧ qb (kq ≤ kj1) ∧ Drawn0 w w')
   case atStart => exact ⟨(0), qD, H', ⟨Nat.le_refl _⟩, Z138⟩
   case round =>
    clear H'
    try clear c1; try clear p2 p2; try clear c3; try clear c3b0; try clear c3b1; try clear c4; try clear c4b0; try clear c4b1; try clear c5; try clear c5b0; try clear c5b1; try clear p6 p6; try clear q6 q6; try clear hx6; try clear qi6; try clear c7; try clear c7b0; try clear p8 p8; try clear q8 q8; try clear hx8; try clear qi8; try clear c9
    obtain ⟨x24_2, rfl, HA, HK2, ⟨m2, rfl⟩⟩ := hrel
    cases gk with
    | zero => exact absurd HA.out (by simp [interchangeref1_isName.l0])
    | succ k2 =>
     have H := HA.out
     clear HA
     simp only [interchangeref1_isName.l0] at H
     by_cases c10 : x24_2 < (a0.size : Int)
     case neg =>
      rw [if_neg c10] at H
      have c10b0 : decide (x24_2 < (a0.size : Int)) = false := decide_eq_false c10
      clear c10
      obtain rfl := Option.some.inj H
      go_wp2
      go_ret
      exact ⟨Z141, Z138⟩

     rw [if_pos c10] at H
     have c10b0 : decide (x24_2 < (a0.size : Int)) = true := decide_eq_true c10
     clear c10
     by_cases c11 : 0 ≤ x24_2
     case neg =>
      rw [if_neg c11] at H
      exact absurd H (by simp)
     rw [if_pos c11] at H
     have c11b0 : decide (0 ≤ x24_2) = true := decide_eq_true c11
     clear c11
     by_cases c12 : x24_2 < (a0.size : Int)
     case neg =>
      rw [if_neg c12] at H
      exact absurd H (by simp)
     rw [if_pos c12] at H
     have c12b0 : decide (x24_2 < (a0.size : Int)) = true := decide_eq_true c12
     clear c12
     by_cases c14 : (bt a0 x24_2) < 97
     case pos =>
      rw [if_pos c14] at H
      have c14b0 : decide ((bt a0 x24_2) < 97) = true := decide_eq_true c14
      clear c14
      by_cases c15 : (bt a0 x24_2) < 48
      case pos =>
       rw [if_pos c15] at H
       have c15b0 : decide ((bt a0 x24_2) < 48) = true := decide_eq_true c15
       clear c15
       by_cases c16 : (bt a0 x24_2) = 45
       case neg =>
        rw [if_neg c16] at H
        have c16b0 : ((bt a0 x24_2) == 45) = false := beq_eq_false_iff_ne.mpr c16
        have c16b1 : ((bt a0 x24_2) != 45) = true := bne_iff_ne.mpr c16
        obtain rfl := Option.some.inj H
        have p13 : 0 ≤ (x24_2 : Int) := of_decide_eq_true qB
        have q13 : x24_2 < (a0.size : Int) := of_decide_eq_true qB
        have hx13 := bt_at a0 x24_2
        replace p13 := eq_true p13
        replace q13 := eq_true q13
        go_wp2
        go_ret
        exact ⟨Z141, Z138⟩
       rw [if_pos c16] at H
       have c16b0 : ((bt a0 x24_2) == 45) = true := beq_iff_eq.mpr c16
       have c16b1 : ((bt a0 x24_2) != 45) = false := bne_eq_false_iff_eq.mpr c16
       clear c16
       have H' := qb.mk H
       clear H
       have p13 : 0 ≤ (x24_2 : Int) := of_decide_eq_true qB
       have q13 : x24_2 < (a0.size : Int) := of_decide_eq_true qB
       have hx13 := bt_at a0 x24_2
       replace p13 := eq_true p13
       replace q13 := eq_true q13
       go_wp2
       go_roundg k2
       case measure => have := HJ1.out; have := HK2.out; omega
       case rel => exact ⟨(wrap64 (x24_2 + 1)), qD, H', ⟨Z143⟩, Z138⟩
      rw [if_neg c15] at H
      have c15b0 : decide ((bt a0 x24_2) < 48) = false := decide_eq_false c15
      clear c15
      by_cases c17 : (bt a0 x24_2) > 57
      case neg =>
       rw [if_neg c17] at H
       have c17b0 : decide (57 < (bt a0 x24_2)) = false := decide_eq_false c17
       clear c17
       have H' := qb.mk H
       clear H
       have p13 : 0 ≤ (x24_2 : Int) := of_decide_eq_true qB
       have q13 : x24_2 < (a0.size : Int) := of_decide_eq_true qB
       have hx13 := bt_at a0 x24_2
       replace p13 := eq_true p13
       replace q13 := eq_true q13
       go_wp2
       go_roundg k2
       case measure => have := HJ1.out; have := HK2.out; omega
       case rel => exact ⟨(wrap64 (x24_2 + 1)), qD, H', ⟨Z143⟩, Z138⟩
      rw [if_pos c17] at H
      have c17b0 : decide (57 < (bt a0 x24_2)) = true := decide_eq_true c17
      clear c17
      by_cases c18 : (bt a0 x24_2) = 45
      case neg =>
       rw [if_neg c18] at H
       have c18b0 : ((bt a0 x24_2) == 45) = false := beq_eq_false_iff_ne.mpr c18
       have c18b1 : ((bt a0 x24_2) != 45) = true := bne_iff_ne.mpr c18
       obtain rfl := Option.some.inj H
       have p13 : 0 ≤ (x24_2 : Int) := of_decide_eq_true qB
       have q13 : x24_2 < (a0.size : Int) := of_decide_eq_true qB
       have hx13 := bt_at a0 x24_2
       replace p13 := eq_true p13
       replace q13 := eq_true q13
       go_wp2
       go_ret
       exact ⟨Z141, Z138⟩
      rw [if_pos c18] at H
      have c18b0 : ((bt a0 x24_2) == 45) = true := beq_iff_eq.mpr c18
      have c18b1 : ((bt a0 x24_2) != 45) = false := bne_eq_false_iff_eq.mpr c18
      clear c18
      have H' := qb.mk H
      clear H
      have p13 : 0 ≤ (x24_2 : Int) := of_decide_eq_true qB
      have q13 : x24_2 < (a0.size : Int) := of_decide_eq_true qB
      have hx13 := bt_at a0 x24_2
      replace p13 := eq_true p13
      replace q13 := eq_true q13
      go_wp2
      go_roundg k2
      case measure => have := HJ1.out; have := HK2.out; omega
      case rel => exact ⟨(wrap64 (x24_2 + 1)), qD, H', ⟨Z143⟩, Z138⟩
     rw [if_neg c14] at H
     have c14b0 : decide ((bt a0 x24_2) < 97) = false := decide_eq_false c14
     clear c14
     by_cases c19 : (bt a0 x24_2) > 122
     case neg =>
      rw [if_neg c19] at H
      have c19b0 : decide (122 < (bt a0 x24_2)) = false := decide_eq_false c19
      clear c19
      have H' := qb.mk H
      clear H
      have p13 : 0 ≤ (x24_2 : Int) := of_decide_eq_true qB
      have q13 : x24_2 < (a0.size : Int) := of_decide_eq_true qB
      have hx13 := bt_at a0 x24_2
      replace p13 := eq_true p13
      replace q13 := eq_true q13
      go_wp2
      go_roundg k2
      case measure => have := HJ1.out; have := HK2.out; omega
      case rel => exact ⟨(wrap64 (x24_2 + 1)), qD, H', ⟨Z143⟩, Z138⟩
     rw [if_pos c19] at H
     have c19b0 : decide (122 < (bt a0 x24_2)) = true := decide_eq_true c19
     clear c19
     by_cases c20 : (bt a0 x24_2) < 48
     case pos =>
      rw [if_pos c20] at H
      have c20b0 : decide ((bt a0 x24_2) < 48) = true := decide_eq_true c20
      clear c20
      by_cases c21 : (bt a0 x24_2) = 45
      case neg =>
       rw [if_neg c21] at H
       have c21b0 : ((bt a0 x24_2) == 45) = false := beq_eq_false_iff_ne.mpr c21
       have c21b1 : ((bt a0 x24_2) != 45) = true := bne_iff_ne.mpr c21
       obtain rfl := Option.some.inj H
       have p13 : 0 ≤ (x24_2 : Int) := of_decide_eq_true qB
       have q13 : x24_2 < (a0.size : Int) := of_decide_eq_true qB
       have hx13 := bt_at a0 x24_2
       replace p13 := eq_true p13
       replace q13 := eq_true q13
       go_wp2
       go_ret
       exact ⟨Z141, Z138⟩
      rw [if_pos c21] at H
      have c21b0 : ((bt a0 x24_2) == 45) = true := beq_iff_eq.mpr c21
      have c21b1 : ((bt a0 x24_2) != 45) = false := bne_eq_false_iff_eq.mpr c21
      clear c21
      have H' := qb.mk H
      clear H
      have p13 : 0 ≤ (x24_2 : Int) := of_decide_eq_true qB
      have q13 : x24_2 < (a0.size : Int) := of_decide_eq_true qB
      have hx13 := bt_at a0 x24_2
      replace p13 := eq_true p13
      replace q13 := eq_true q13
      go_wp2
      go_roundg k2
      case measure => have := HJ1.out; have := HK2.out; omega
      case rel => exact ⟨(wrap64 (x24_2 + 1)), qD, H', ⟨Z143⟩, Z138⟩
     rw [if_neg c20] at H
     have c20b0 : decide ((bt a0 x24_2) < 48) = false := decide_eq_false c20
     clear c20
     by_cases c22 : (bt a0 x24_2) > 57
     case neg =>
      rw [if_neg c22] at H
      have c22b0 : decide (57 < (bt a0 x24_2)) = false := decide_eq_false c22
      clear c22
      have H' := qb.mk H
      clear H
      have p13 : 0 ≤ (x24_2 : Int) := of_decide_eq_true qB
      have q13 : x24_2 < (a0.size : Int) := of_decide_eq_true qB
      have hx13 := bt_at a0 x24_2
      replace p13 := eq_true p13
      replace q13 := eq_true q13
      go_wp2
      go_roundg k2
      case measure => have := HJ1.out; have := HK2.out; omega
      case rel => exact ⟨(wrap64 (x24_2 + 1)), qD, H', ⟨Z143⟩, Z138⟩
     rw [if_pos c22] at H
     have c22b0 : decide (57 < (bt a0 x24_2)) = true := decide_eq_true c22
     clear c22
     by_cases c23 : (bt a0 x24_2) = 45
     case neg =>
      rw [if_neg c23] at H
      have c23b0 : ((bt a0 x24_2) == 45) = false := beq_eq_false_iff_ne.mpr c23
      have c23b1 : ((bt a0 x24_2) != 45) = true := bne_iff_ne.mpr c23
      obtain rfl := Option.some.inj H
      have p13 : 0 ≤ (x24_2 : Int) := of_decide_eq_true qB
      have q13 : x24_2 < (a0.size : Int) := of_decide_eq_true qB
      have hx13 := bt_at a0 x24_2
      replace p13 := eq_true p13
      replace q13 := eq_true q13
      go_wp2
      go_ret
      exact ⟨Z141, Z138⟩
     rw [if_pos c23] at H
     have c23b0 : ((bt a0 x24_2) == 45) = true := beq_iff_eq.mpr c23
     have c23b1 : ((bt a0 x24_2) != 45) = false := bne_eq_false_iff_eq.mpr c23
     clear c23
     have H' := qb.mk H
     clear H
     have p13 : 0 ≤ (x24_2 : Int) := of_decide_eq_true qB
     have q13 : x24_2 < (a0.size : Int) := of_decide_eq_true qB
     have hx13 := bt_at a0 x24_2
     replace p13 := eq_true p13
     replace q13 := eq_true q13
     go_wp2
     go_roundg k2
     case measure => have := HJ1.out; have := HK2.out; omega
     case rel => exact ⟨(wrap64 (x24_2 + 1)), qD, H', ⟨Z143⟩, Z138⟩
/-! ### interchangeref1_IsName: function 83 -/
def interchangeref1_IsName.f (k : Nat) (a0 : ByteArray) : Option (Bool) := (interchangeref1_isName.f k a0).bind fun t103 => (some t103)
theorem interchangeref1_IsName.mono : ∀ a0 k, qv (interchangeref1_IsName.f k a0) (interchangeref1_IsName.f (k + 1) a0) := by
 intro a0 k
 unfold interchangeref1_IsName.f
 repeat' first
   | (with_reducible apply interchangeref1_isName.mono)
   | (with_reducible exact qv.refl _)
   | (with_reducible exact qv.none _)
   | (with_reducible refine qv.ite ?_ ?_)
   | (with_reducible refine qv.bind ?_ (fun _ => ?_))
   | apply interchangeref1_isName.mono
   | exact qv.none _
   | refine qv.ite ?_ ?_
   | refine qv.bind ?_ (fun _ => ?_)
set_option maxHeartbeats 8000000 in
set_option maxRecDepth 100000 in
theorem interchangeref1_IsName.calls (k : Nat) (a0 : ByteArray) (r : Bool) (w : World) (h : interchangeref1_IsName.f k a0 = some r) :
  Calls Tryz.prog 83 #[.string a0] w fun e w' => e = .returned (.bool r) ∧ Drawn0 w w' := by
 have H : ((interchangeref1_isName.f k a0).bind fun t103 => (some t103)) = some r := h
 clear h
 replace H := Option.bind_eq_some_iff.mp H
 obtain ⟨t103, A20, H⟩ := H
 replace H : (some t103) = some r := H
 have A2 := qb.mk A20
 clear A20
 obtain rfl := Option.some.inj H
 go_enter Tryz.func83, Tryz.ntmps83
 go_wp2_with (first | ((with_reducible refine qg (f := 127) rfl ?_); refine goesL_ (some 4) rfl rfl Tryz.func127 (by kernel_rfl) rfl #[.string a0] rfl Z61 ?_; (with_reducible refine (interchangeref1_isName.calls k a0 t103 _ A2.out).mono ?_); rintro e w' ⟨rfl, ⟨nd, rfl⟩⟩; refine ⟨_, rfl, ?_⟩))
 go_ret
 exact ⟨Z141, Z138⟩

/-! ### r8within: function 35 -/
def r8within.f (a0 : Int) (a1 : Int) (a2 : Int) : Option (Bool) := if a1 ≤ a0 then (some (decide (a0 ≤ a2))) else (some false)
set_option maxHeartbeats 8000000 in
set_option maxRecDepth 100000 in
theorem r8within.calls (a0 : Int) (a1 : Int) (a2 : Int) (r : Bool) (w : World) (h : r8within.f a0 a1 a2 = some r) :
  Calls Tryz.prog 35 #[.int .i64 a0, .int .i64 a1, .int .i64 a2] w fun e w' => e = .returned (.bool r) ∧ Drawn0 w w' := by
 have H : (if a1 ≤ a0 then (some (decide (a0 ≤ a2))) else (some false)) = some r := h
 clear h
 by_cases c4 : a1 ≤ a0
 case pos =>
  rw [if_pos c4] at H
  have c4b0 : decide (a1 ≤ a0) = true := decide_eq_true c4
  clear c4
  obtain rfl := Option.some.inj H
  go_enter Tryz.func35, Tryz.ntmps35
  go_wp2
  go_ret
  exact ⟨Z141, Z138⟩
 rw [if_neg c4] at H
 have c4b0 : decide (a1 ≤ a0) = false := decide_eq_false c4
 clear c4
 obtain rfl := Option.some.inj H
 go_enter Tryz.func35, Tryz.ntmps35
 go_wp2
 go_ret
 exact ⟨Z141, Z138⟩

end Go.Proofs.YtmmknokdgbgjgaaGreatDoor.XPartnerDaysMatchSpec
