/- PartnerGapsAreMissing (interchange/interchangelaw8.PartnerGapsAreMissing): for every input the law returns true, and each argument reads afterwards as it read before. -/
import Derived.Test.YtdlgohhecicnoaaRows
import Derived.Test.YtdlgohhecicnoaaPPartnerGapsAreMissing
import Derived.Test.YtdlgohhecicnoaaQPartnerGapsAreMissing
import Derived.Test.YtdlgohhecicnoaaXOpen
import Derived.WalkKit
import Derived.ProofKit
import Derived.OpenShut
import Derived.ShutString
import Derived.ChangeOld
import Derived.Below
import Derived.SizedLaws
import Derived.Handed
import Derived.Carry
namespace Go.Proofs.Ytdlgohhecicnoaa.partnerGapsAreMissing
open Go.ChangeShapes Go.WideShapes Go.ChangeAt Go.RowKit Go.Proofs.Ytdlgohhecicnoaa.XOpen Go.Proofs.Ytdlgohhecicnoaa.XPartnerGapsAreMissing Go.Proofs.YtdlgohhecicnoaaW.PrintWords
open Go.ChangeMaps (open_string shut_string)
set_option linter.unusedVariables false
theorem own : ownKnob Try.prog.godebug = none := by kernel_rfl
theorem laidOut : laidOutB Try.prog = true := by kernel_rfl
theorem op23 : Opens Try.prog 23 k23 ok23 :=
  opens_iso (opens_struct Try.underlying23 (by kernel_rfl) (fs_cons rfl (opens_int (Try.underlying3) (by kernel_rfl)) (fs_one rfl (opens_int (Try.underlying3) (by kernel_rfl))))) (fun x : S23 => (x.f0, x.f1)) (fun p => ⟨p.1, p.2⟩) (fun _ => rfl)
set_option maxRecDepth 100000 in
theorem lifted (os : Os) (started : os.Started) (H : Type) (enc : TypeId × Value → H) :
    ReturnsInHanded {} Try.checked os 3 .any (Rows.partnerGapsAreMissingSpec.pre6 enc Try.prog Try.f3 Rows.partnerGapsAreMissingRow.domain false)
      (Rows.partnerGapsAreMissingSpec.post enc Try.prog Try.f3 false true false false) := by
  refine returnsInHanded_of_change_sized (C := Try.checked) own started (by kernel_rfl) Try.func3
    (ChangeSpec.witness6 (enc := enc) (C := Try.checked) false ⟨#[], #[.agg #[.int .i64 0, .int .i64 0], .slice none 0 0], []⟩ 8 (by kernel_rfl) (by kernel_rfl) (by kernel_rfl) (by kernel_rfl)) ?_
  intro W base args ds gs before hval0 hW hcnd hsz0 _
  have hsz : (DataW.weightsEach Try.prog (Try.f3.params.toList ++ Rows.partnerGapsAreMissingSpec.plain.varTypes Try.prog) (ds ++ gs)).all (· ≤ reachBytes) = true := hsz0
  have hval : ∀ (j : Nat) t v, Try.f3.params[j]? = some t → args[j]? = some v → Value.okWide Try.prog W .any base t v := hval0
  have hW' := hW
  obtain ⟨p, q, hA0, hV, rfl, hfz, hnd⟩ := hW
  have hA : DataW.TrodAll enc Try.prog W 0 (fun _ => true) true Try.f3.params.toList args.toList ds p := hA0
  rw [Try.params3] at hA hval hsz
  obtain ⟨v0, vs0, d0, ds0, p0, q0, hargs, rfl, rfl, h0, r0⟩ := trodAll_cons hA
  obtain ⟨v1, vs1, d1, ds1, p1, q1, rfl, rfl, rfl, h1, r1⟩ := trodAll_cons r0
  obtain ⟨rfl, rfl, rfl⟩ := trodAll_nil r1
  obtain rfl : args = #[v0, v1] := by cases args; simp_all
  obtain ⟨rfl, rfl⟩ := trodVars_none hV
  have k0 := h0
  have lt0 : ∀ x ∈ p0, x.block < W.heap.size := by obtain ⟨m, hm⟩ := k0; exact DataW.trod_lt m _ _ _ hm
  obtain ⟨x0, e0, y0⟩ := op23.arg hsz (j := 0) rfl rfl h0
  replace e0 := k23_open e0
  obtain ⟨cs0, rfl, _⟩ := okWide_struct Try.underlying23 (hval 0 23 v0 rfl rfl)
  obtain rfl : cs0 = #[.int .i64 x0.f0, .int .i64 x0.f1] := Array.toList_inj.1 e0
  have k1 := h1
  have lt1 : ∀ x ∈ p1, x.block < W.heap.size := by obtain ⟨m, hm⟩ := k1; exact DataW.trod_lt m _ _ _ hm
  obtain ⟨l1, ⟨A1, c1, e1, hc1, hr1⟩, y1⟩ := ((opens_slice (B := 8) (Try.underlying24) (by kernel_rfl) (by kernel_rfl) (opens_int (Try.underlying3) (by kernel_rfl)) 3) : Opens _ _ _ _).arg hsz (j := 1) rfl rfl h1
  obtain ⟨a1, len1, cap1, rfl⟩ := okWide_slice Try.underlying24 (hval 1 24 v1 rfl rfl)
  simp only [Value.cells, List.cons.injEq, Value.slice.injEq, and_true] at e1
  obtain ⟨rfl, rfl, rfl⟩ := e1
  clear hA0 hval0 hsz0 hsz
  obtain ⟨k, h⟩ := Go.Proofs.Ytdlgohhecicnoaa.XPartnerGapsAreMissing.Q.PartnerGapsAreMissing x0 l1 y0 y1
  refine (interchangelaw8_PartnerGapsAreMissing.calls k x0.f0 x0.f1 _ _ l1 true W hr1 hc1 h).mono fun e W' ⟨he, bel0⟩ => ?_
  have bel : Below W.heap.size W W' := bel0
  subst he
  exact ⟨_, rfl, _, _, _, [], _, [], hW', trodAll_mk1 (shut_bool Try.underlying4 _), (trodAll_cons_mk (Below.trod laidOut (by kernel_rfl) (of_decide_eq_true (by kernel_rfl)) k0 bel lt0) (trodAll_cons_mk (Below.trod laidOut (by kernel_rfl) (of_decide_eq_true (by kernel_rfl)) k1 bel lt1) trodAll_mk0)), rfl, bel.frame _, fun h => by cases h⟩
theorem over : Rows.partnerGapsAreMissingRow.holds Try.pinned (OpenSpec.ofChange Rows.partnerGapsAreMissingSpec) :=
  OpenClaim.holds_of_wide 3 Try.f3 rfl rfl rfl rfl rfl rfl rfl ⟨rfl, rfl, rfl, rfl, rfl⟩ rfl rfl rfl rfl rfl (by kernel_rfl) Try.func3 (by kernel_rfl)
    (of_decide_eq_true (by kernel_rfl)) (by unfold Func.isWrapper; first | (rw [if_pos (by decide +kernel)]; kernel_rfl) | (rw [if_neg (by decide +kernel)]; exact ⟨rfl, rfl⟩))
    (fun os started H enc _ => lifted os started H enc)
theorem proved : Rows.PartnerGapsAreMissingSaid := over
#print axioms proved
end Go.Proofs.Ytdlgohhecicnoaa.partnerGapsAreMissing
namespace Go.Proofs.Ytdlgohhecicnoaa
/-- The statement, under a short name, for the claim. -/
theorem partnerGapsAreMissing_holds : Rows.PartnerGapsAreMissingSaid := partnerGapsAreMissing.proved
end Go.Proofs.Ytdlgohhecicnoaa
