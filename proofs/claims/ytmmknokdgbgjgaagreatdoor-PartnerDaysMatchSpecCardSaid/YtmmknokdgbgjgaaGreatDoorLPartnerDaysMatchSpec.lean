/- PartnerDaysMatchSpec (interchange/interchangelaw8.PartnerDaysMatchSpec): for every input the law returns true, and each argument reads afterwards as it read before. Condition: what the card of this row names: two tables of Go's library read as the program's text lays them (tied). -/
import Derived.Test.YtmmknokdgbgjgaaGreatDoorRows
import Derived.Test.YtmmknokdgbgjgaaGreatDoorPPartnerDaysMatchSpec
import Derived.Test.YtmmknokdgbgjgaaGreatDoorQPartnerDaysMatchSpec
import Derived.Test.YtmmknokdgbgjgaaGreatDoorVPartnerDaysMatchSpecXOpen
import Derived.Test.YtmmknokdgbgjgaaGreatDoorTie
import Derived.Test.YtmmknokdgbgjgaaGreatDoorCards
import Derived.WalkKit
import Derived.ProofKit
import Derived.OpenShut
import Derived.ShutString
import Derived.ChangeOld
import Derived.Below
import Derived.SizedLaws
import Derived.Handed
import Derived.Carry
import Derived.Lay
import Derived.LaidOnce
import Derived.SevenTiedAt
namespace Go.Proofs.YtmmknokdgbgjgaaGreatDoor.partnerDaysMatchSpec
open Go.ChangeShapes Go.WideShapes Go.ChangeAt Go.RowKit Go.Proofs.YtmmknokdgbgjgaaGreatDoor.XOpen Go.Proofs.YtmmknokdgbgjgaaGreatDoor.XPartnerDaysMatchSpec Go.Proofs.YtmmknokdgbgjgaaGreatDoorW.PrintWords
open Go.ChangeMaps (open_string shut_string)
set_option linter.unusedVariables false
theorem own : ownKnob Tryz.prog.godebug = none := by kernel_rfl
theorem laidOut : laidOutB Tryz.prog = true := by kernel_rfl
theorem op119 : Opens Tryz.prog 119 k119 ok119 :=
  opens_iso (opens_struct Tryz.underlying119 (by kernel_rfl) (fs_cons rfl (opens_string (Tryz.underlying9) (by kernel_rfl)) (fs_one rfl (opens_string (Tryz.underlying9) (by kernel_rfl))))) (fun x : S119 => (x.f0, x.f1)) (fun p => ⟨p.1, p.2⟩) (fun _ => rfl)
theorem op110 : Opens Tryz.prog 110 k110 ok110 :=
  opens_iso (opens_struct Tryz.underlying110 (by kernel_rfl) (fs_cons rfl (opens_string (Tryz.underlying9) (by kernel_rfl)) (fs_one rfl (opens_slice (B := 32) (Tryz.underlying108) (by kernel_rfl) (by kernel_rfl) op119 119)))) (fun x : S110 => (x.f0, x.f1)) (fun p => ⟨p.1, p.2⟩) (fun _ => rfl)
theorem op53 : Opens Tryz.prog 53 k53 ok53 :=
  opens_iso (opens_struct Tryz.underlying53 (by kernel_rfl) (fs_cons rfl (opens_string (Tryz.underlying9) (by kernel_rfl)) (fs_cons rfl (opens_string (Tryz.underlying9) (by kernel_rfl)) (fs_cons rfl (opens_string (Tryz.underlying9) (by kernel_rfl)) (fs_cons rfl (opens_string (Tryz.underlying9) (by kernel_rfl)) (fs_cons rfl (opens_int (Tryz.underlying3) (by kernel_rfl)) (fs_cons rfl (opens_int (Tryz.underlying3) (by kernel_rfl)) (fs_cons rfl (opens_bool (Tryz.underlying4) (by kernel_rfl)) (fs_cons rfl (opens_int (Tryz.underlying3) (by kernel_rfl)) (fs_one rfl (opens_bool (Tryz.underlying4) (by kernel_rfl)))))))))))) (fun x : S53 => (x.f0, x.f1, x.f2, x.f3, x.f4, x.f5, x.f6, x.f7, x.f8)) (fun p => ⟨p.1, p.2.1, p.2.2.1, p.2.2.2.1, p.2.2.2.2.1, p.2.2.2.2.2.1, p.2.2.2.2.2.2.1, p.2.2.2.2.2.2.2.1, p.2.2.2.2.2.2.2.2⟩) (fun _ => rfl)
theorem op25 : Opens Tryz.prog 25 k25 ok25 :=
  opens_iso (opens_struct Tryz.underlying25 (by kernel_rfl) (fs_cons rfl (opens_string (Tryz.underlying9) (by kernel_rfl)) (fs_cons rfl (opens_string (Tryz.underlying9) (by kernel_rfl)) (fs_cons rfl (opens_string (Tryz.underlying9) (by kernel_rfl)) (fs_cons rfl (opens_string (Tryz.underlying9) (by kernel_rfl)) (fs_cons rfl (opens_int (Tryz.underlying3) (by kernel_rfl)) (fs_one rfl (opens_bool (Tryz.underlying4) (by kernel_rfl))))))))) (fun x : S25 => (x.f0, x.f1, x.f2, x.f3, x.f4, x.f5)) (fun p => ⟨p.1, p.2.1, p.2.2.1, p.2.2.2.1, p.2.2.2.2.1, p.2.2.2.2.2⟩) (fun _ => rfl)
def laid : List (String × DataW Unit) := [("unicode/utf8.acceptRanges", Rows.laid_unicode_utf8_acceptRanges), ("unicode/utf8.first", Rows.laid_unicode_utf8_first)]
set_option maxRecDepth 100000 in
theorem lifted (os : Os) (started : os.Started) (H : Type) (enc : TypeId × Value → H) :
    ReturnsInHanded {} Tryz.checked os 3 .any (fun w args => (Rows.partnerDaysMatchSpecSpec.pre enc Tryz.prog Tryz.f3 [] false w args ∧ laidMetH Tryz.prog laid w) ∧ sizedMet enc Tryz.prog Tryz.f3 (OpenSpec.ofChange Rows.partnerDaysMatchSpecSpec) false w args)
      (Rows.partnerDaysMatchSpecSpec.post enc Tryz.prog Tryz.f3 false true false false) := by
  refine returnsInHanded_of_change_and (C := Tryz.checked) (X := fun w _ => laidMetH Tryz.prog laid w) (fun _ _ _ hh h => h.of_heap hh) own started (by kernel_rfl) Tryz.func3
    (ChangeSpec.witness_shaped (enc := enc) (C := Tryz.checked) (os := os) (X := fun w _ => laidMetH Tryz.prog laid w) false (World.laidAll Tryz.prog os laid) #[.slice none 0 0, .slice none 0 0, .agg #[.string ByteArray.empty, .string ByteArray.empty, .string ByteArray.empty, .string ByteArray.empty, .int .i64 0, .bool false]] 8 (World.laidAll_os _ _ _)
      (World.shaped_of_ZipB (by kernel_rfl) (by kernel_rfl)) (by kernel_rfl) (by kernel_rfl) (by kernel_rfl)
      (by rw [MakeChecks.laidMetH_plain _ _ _ (by kernel_rfl)]; exact laidMet_laidAll _ (by kernel_rfl) (by kernel_rfl))) ?_
  intro W base args ds gs before hval0 hW _ hsz0 _ _
  have hsz : (DataW.weightsEach Tryz.prog (Tryz.f3.params.toList ++ Rows.partnerDaysMatchSpecSpec.plain.varTypes Tryz.prog) (ds ++ gs)).all (· ≤ reachBytes) = true := hsz0
  have hval : ∀ (j : Nat) t v, Tryz.f3.params[j]? = some t → args[j]? = some v → Value.okWide Tryz.prog W .any base t v := hval0
  have hW' := hW
  obtain ⟨p, q, hA0, hV, rfl, hfz, hnd⟩ := hW
  have hA : DataW.TrodAll enc Tryz.prog W 0 (fun _ => true) true Tryz.f3.params.toList args.toList ds p := hA0
  rw [Tryz.params3] at hA hval hsz
  obtain ⟨v0, vs0, d0, ds0, p0, q0, hargs, rfl, rfl, h0, r0⟩ := trodAll_cons hA
  obtain ⟨v1, vs1, d1, ds1, p1, q1, rfl, rfl, rfl, h1, r1⟩ := trodAll_cons r0
  obtain ⟨v2, vs2, d2, ds2, p2, q2, rfl, rfl, rfl, h2, r2⟩ := trodAll_cons r1
  obtain ⟨rfl, rfl, rfl⟩ := trodAll_nil r2
  obtain rfl : args = #[v0, v1, v2] := by cases args; simp_all
  obtain ⟨rfl, rfl⟩ := trodVars_none hV
  have k0 := h0
  have lt0 : ∀ x ∈ p0, x.block < W.heap.size := by obtain ⟨m, hm⟩ := k0; exact DataW.trod_lt m _ _ _ hm
  obtain ⟨l0, ⟨A0, c0, e0, hc0, hr0⟩, y0⟩ := ((opens_slice (B := 40) (Tryz.underlying22) (by kernel_rfl) (by kernel_rfl) op110 110) : Opens _ _ _ _).arg hsz (j := 0) rfl rfl h0
  obtain ⟨a0, len0, cap0, rfl⟩ := okWide_slice Tryz.underlying22 (hval 0 22 v0 rfl rfl)
  simp only [Value.cells, List.cons.injEq, Value.slice.injEq, and_true] at e0
  obtain ⟨rfl, rfl, rfl⟩ := e0
  have k1 := h1
  have lt1 : ∀ x ∈ p1, x.block < W.heap.size := by obtain ⟨m, hm⟩ := k1; exact DataW.trod_lt m _ _ _ hm
  obtain ⟨l1, ⟨A1, c1, e1, hc1, hr1⟩, y1⟩ := ((opens_slice (B := 104) (Tryz.underlying23) (by kernel_rfl) (by kernel_rfl) op53 53) : Opens _ _ _ _).arg hsz (j := 1) rfl rfl h1
  obtain ⟨a1, len1, cap1, rfl⟩ := okWide_slice Tryz.underlying23 (hval 1 23 v1 rfl rfl)
  simp only [Value.cells, List.cons.injEq, Value.slice.injEq, and_true] at e1
  obtain ⟨rfl, rfl, rfl⟩ := e1
  have k2 := h2
  have lt2 : ∀ x ∈ p2, x.block < W.heap.size := by obtain ⟨m, hm⟩ := k2; exact DataW.trod_lt m _ _ _ hm
  obtain ⟨x2, e2, y2⟩ := op25.arg hsz (j := 2) rfl rfl h2
  replace e2 := k25_open e2
  obtain ⟨cs2, rfl, _⟩ := okWide_struct Tryz.underlying25 (hval 2 25 v2 rfl rfl)
  obtain rfl : cs2 = #[.string x2.f0, .string x2.f1, .string x2.f2, .string x2.f3, .int .i64 x2.f4, .bool x2.f5] := Array.toList_inj.1 e2
  clear hA0 hval0 hsz0 hsz
  obtain ⟨k, h⟩ := Go.Proofs.YtmmknokdgbgjgaaGreatDoor.XPartnerDaysMatchSpec.Q.PartnerDaysMatchSpec l0 l1 x2 y0 y1 y2
  refine (l8PartnerDaysMatchSpec.calls k _ _ l0 _ _ l1 x2.f0 x2.f1 x2.f2 x2.f3 x2.f4 x2.f5 true W hr0 hc0 hr1 hc1 h).mono fun e W' ⟨he, bel0⟩ => ?_
  have bel : Below W.heap.size W W' := bel0
  subst he
  exact ⟨_, rfl, _, _, _, [], _, [], hW', trodAll_mk1 (shut_bool Tryz.underlying4 _), (trodAll_cons_mk (Below.trod laidOut (by kernel_rfl) (of_decide_eq_true (by kernel_rfl)) k0 bel lt0) (trodAll_cons_mk (Below.trod laidOut (by kernel_rfl) (of_decide_eq_true (by kernel_rfl)) k1 bel lt1) (trodAll_cons_mk (Below.trod laidOut (by kernel_rfl) (of_decide_eq_true (by kernel_rfl)) k2 bel lt2) trodAll_mk0))), rfl, bel.frame _, fun h => by cases h⟩
theorem over : Rows.partnerDaysMatchSpecRow.holds Tryz.pinned (OpenSpec.ofChange Rows.partnerDaysMatchSpecSpec) :=
  OpenClaim.holds_of_wide 3 Tryz.f3 rfl rfl rfl rfl rfl rfl rfl ⟨rfl, rfl, rfl, rfl, rfl⟩ rfl rfl rfl rfl rfl (by kernel_rfl) Tryz.func3 (by kernel_rfl)
    (of_decide_eq_true (by kernel_rfl)) (by unfold Func.isWrapper; first | (rw [if_pos (by decide +kernel)]; kernel_rfl) | (rw [if_neg (by decide +kernel)]; exact ⟨rfl, rfl⟩))
    (fun os started H enc _ => lifted os started H enc)
theorem proved : Rows.PartnerDaysMatchSpecCardSaid :=
  Claim7.holds_tied_plain_at .later [] [.data, .pinned] true (true, "72ad2850855cc8e517471737eb7bb9152b2d9072bb21fc7c81bf1ddc42a89744") true over (fun _ h => by cases h) (by kernel_rfl) (fun _ h => by cases h) partnerDaysMatchSpec_row_tie rfl ⟨rfl, rfl⟩ (by kernel_rfl) rfl
    (fun f fn hf hfn => by
      obtain rfl : f = 3 := Option.some.inj ((show Tryz.prog.funcNamed "interchange/interchangelaw8.PartnerDaysMatchSpec" = some 3 by kernel_rfl).symm.trans hf) |>.symm
      obtain rfl : fn = Tryz.f3 := (Option.some.inj (Tryz.func3.symm.trans hfn)).symm
      exact ⟨by kernel_rfl, fun j t ht => by
        rw [Tryz.params3] at ht
        have hm : t ∈ [22, 23, 25] := by simpa using Array.mem_of_getElem? ht
        have hall : ([22, 23, 25].all fun u => !Tryz.prog.wantsStandIn u) = true := by kernel_rfl
        exact (show Tryz.prog.wantsStandIn t = false by simpa using List.all_eq_true.1 hall t hm)⟩)
    (by kernel_rfl)
#print axioms proved
end Go.Proofs.YtmmknokdgbgjgaaGreatDoor.partnerDaysMatchSpec
namespace Go.Proofs.YtmmknokdgbgjgaaGreatDoor
/-- The statement, under a short name, for the claim. -/
theorem partnerDaysMatchSpec_holds : Rows.PartnerDaysMatchSpecCardSaid := partnerDaysMatchSpec.proved
end Go.Proofs.YtmmknokdgbgjgaaGreatDoor
