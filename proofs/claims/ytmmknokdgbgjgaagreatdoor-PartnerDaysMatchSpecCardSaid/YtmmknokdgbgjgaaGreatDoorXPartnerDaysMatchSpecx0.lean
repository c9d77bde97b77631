-- Walks of PartnerDaysMatchSpec: written by xprint.py out of the translation (hand-proved functions among them). Lean checks it.
import Derived.Test.YtmmknokdgbgjgaaGreatDoorProg
import Derived.Below
import Derived.Deep.Draws
import Derived.Deep.AppendLies
import Derived.Maps.AppendAt
import Derived.OwnWalk
import Derived.Laws.BytesArg
import Derived.Laws.MakeOwn
import Derived.Laws.OwnMore
import Derived.Deep.OwnRows
import Derived.Tactics
import Derived.Lib.ConvBytes
import Derived.Laws.Slices
import Derived.WalkKit
import Derived.KernelRfl
import Derived.RowKit3
import Derived.Deep.LoopGhost
import Derived.Deep.QuietTactic
import Derived.BigQuiet
import Derived.WideLaws
import Derived.Deep.DeepCutAuto
import Derived.Deep.CutBlock
import Derived.Deep.RegionHeld3
import Derived.Laws.Rows
import Derived.Lib.AppendStr
import Derived.ArgAppend
import Derived.Laws.IdiomCopy
import Derived.OrdersHeld
import Derived.Laws.BitsLemmas
import Derived.RowKit
import Derived.Shelf.Strings.SlTrimAscii
import Derived.Test.YtmmknokdgbgjgaaGreatDoorShTrim
import Derived.Test.YtmmknokdgbgjgaaGreatDoorVPartnerDaysMatchSpecXMap
import Derived.Lib.Strings
import Derived.DeepKeys4
import Derived.Test.YtmmknokdgbgjgaaGreatDoorShCompare
import Derived.Sort.OwnSorted
import Derived.Test.YtmmknokdgbgjgaaGreatDoorShSort
import Derived.Test.YtmmknokdgbgjgaaGreatDoorShOther
import Derived.Shelf.SlicesQ.IndexFunc
import Derived.Deep.RegionWith
import Derived.Handy
import Derived.Test.YtmmknokdgbgjgaaGreatDoorShCloneS
import Derived.Test.YtmmknokdgbgjgaaGreatDoorVPartnerDaysMatchSpecWords
import Derived.Test.YtmmknokdgbgjgaaGreatDoorVPartnerDaysMatchSpecLast
import Derived.Test.YtmmknokdgbgjgaaGreatDoorVPartnerDaysMatchSpecTab
import Derived.Test.YtmmknokdgbgjgaaGreatDoorVPartnerDaysMatchSpecFour
import Derived.Test.YtmmknokdgbgjgaaGreatDoorVPartnerDaysMatchSpecQPut
import Derived.Test.YtmmknokdgbgjgaaGreatDoorVPartnerDaysMatchSpecApart
import Derived.Test.YtmmknokdgbgjgaaGreatDoorVPartnerDaysMatchSpecArr
import Derived.Test.YtmmknokdgbgjgaaGreatDoorVPartnerDaysMatchSpecZeros
import Derived.Test.YtmmknokdgbgjgaaGreatDoorVPartnerDaysMatchSpecFoot
import Derived.Test.YtmmknokdgbgjgaaGreatDoorVPartnerDaysMatchSpecKept
import Derived.Test.YtmmknokdgbgjgaaGreatDoorVPartnerDaysMatchSpecShare
import Derived.Test.YtmmknokdgbgjgaaGreatDoorVPartnerDaysMatchSpecN
import Derived.Test.YtmmknokdgbgjgaaGreatDoorVPartnerDaysMatchSpecFootNe
import Derived.Test.YtmmknokdgbgjgaaGreatDoorVPartnerDaysMatchSpecAt
import Derived.Test.YtmmknokdgbgjgaaGreatDoorVPartnerDaysMatchSpecEqStruct
import Derived.Test.YtmmknokdgbgjgaaGreatDoorVPartnerDaysMatchSpecRepsOne
import Derived.Test.YtmmknokdgbgjgaaGreatDoorVPartnerDaysMatchSpecInv
import Derived.Test.YtmmknokdgbgjgaaGreatDoorVPartnerDaysMatchSpecInvWords
import Derived.Test.YtmmknokdgbgjgaaGreatDoorVPartnerDaysMatchSpecGuard
import Derived.Test.YtmmknokdgbgjgaaGreatDoorVPartnerDaysMatchSpecNEv
import Derived.Test.YtmmknokdgbgjgaaGreatDoorVPartnerDaysMatchSpecMore
namespace Go.Proofs.YtmmknokdgbgjgaaGreatDoor.XPartnerDaysMatchSpec
open Go.RowKit Go.Proofs.YtmmknokdgbgjgaaGreatDoorW.PrintWords Go.Proofs.YtmmknokdgbgjgaaGreatDoorW.PrintLast Go.Proofs.YtmmknokdgbgjgaaGreatDoorW.PrintMore
attribute [local go_sem] max2_int min2_int max_two min_two max_three min_three max_four min_four   -- for this text's walks alone
set_option linter.unusedVariables false
set_option linter.unusedSimpArgs false



theorem bf2 {w : World} {g t : Nat} {v0 v1 : Value} (h : w.heap[g]? = some (.cells #[v0, v1] t (0, 0))) : w.cell? ⟨g, 0, none⟩ = some v0 ∧ w.cell? ⟨g, 1, none⟩ = some v1 ∧ w.frozen? ⟨g, 0, none⟩ = false ∧ w.frozen? ⟨g, 1, none⟩ = false := by
  refine ⟨(qc h 0).trans rfl, (qc h 1).trans rfl, qe h 0, qe h 1⟩
theorem bf6 {w : World} {g t : Nat} {v0 v1 v2 v3 v4 v5 : Value} (h : w.heap[g]? = some (.cells #[v0, v1, v2, v3, v4, v5] t (0, 0))) : w.cell? ⟨g, 0, none⟩ = some v0 ∧ w.cell? ⟨g, 1, none⟩ = some v1 ∧ w.cell? ⟨g, 2, none⟩ = some v2 ∧ w.cell? ⟨g, 3, none⟩ = some v3 ∧ w.cell? ⟨g, 4, none⟩ = some v4 ∧ w.cell? ⟨g, 5, none⟩ = some v5 ∧ w.frozen? ⟨g, 0, none⟩ = false ∧ w.frozen? ⟨g, 1, none⟩ = false ∧ w.frozen? ⟨g, 2, none⟩ = false ∧ w.frozen? ⟨g, 3, none⟩ = false ∧ w.frozen? ⟨g, 4, none⟩ = false ∧ w.frozen? ⟨g, 5, none⟩ = false := by
  refine ⟨(qc h 0).trans rfl, (qc h 1).trans rfl, (qc h 2).trans rfl, (qc h 3).trans rfl, (qc h 4).trans rfl, (qc h 5).trans rfl, qe h 0, qe h 1, qe h 2, qe h 3, qe h 4, qe h 5⟩
theorem bf9 {w : World} {g t : Nat} {v0 v1 v2 v3 v4 v5 v6 v7 v8 : Value} (h : w.heap[g]? = some (.cells #[v0, v1, v2, v3, v4, v5, v6, v7, v8] t (0, 0))) : w.cell? ⟨g, 0, none⟩ = some v0 ∧ w.cell? ⟨g, 1, none⟩ = some v1 ∧ w.cell? ⟨g, 2, none⟩ = some v2 ∧ w.cell? ⟨g, 3, none⟩ = some v3 ∧ w.cell? ⟨g, 4, none⟩ = some v4 ∧ w.cell? ⟨g, 5, none⟩ = some v5 ∧ w.cell? ⟨g, 6, none⟩ = some v6 ∧ w.cell? ⟨g, 7, none⟩ = some v7 ∧ w.cell? ⟨g, 8, none⟩ = some v8 ∧ w.frozen? ⟨g, 0, none⟩ = false ∧ w.frozen? ⟨g, 1, none⟩ = false ∧ w.frozen? ⟨g, 2, none⟩ = false ∧ w.frozen? ⟨g, 3, none⟩ = false ∧ w.frozen? ⟨g, 4, none⟩ = false ∧ w.frozen? ⟨g, 5, none⟩ = false ∧ w.frozen? ⟨g, 6, none⟩ = false ∧ w.frozen? ⟨g, 7, none⟩ = false ∧ w.frozen? ⟨g, 8, none⟩ = false := by
  refine ⟨(qc h 0).trans rfl, (qc h 1).trans rfl, (qc h 2).trans rfl, (qc h 3).trans rfl, (qc h 4).trans rfl, (qc h 5).trans rfl, (qc h 6).trans rfl, (qc h 7).trans rfl, (qc h 8).trans rfl, qe h 0, qe h 1, qe h 2, qe h 3, qe h 4, qe h 5, qe h 6, qe h 7, qe h 8⟩
theorem Z0 {p : Prop} (h : p := by (with_reducible repeat (first | refine qn ?_ _ | refine qm ?_ | refine ql ?_ _)); refine blk_put (cs := #[.string ((qk ((qf l0 x14_1).f1) x46_3).f0), .string (⟨#[]⟩ : ByteArray)]) ?_ 1 _ rfl; (with_reducible repeat (first | refine qn ?_ _ | refine qm ?_ | refine ql ?_ _)); refine blk_put (cs := #[.string (⟨#[]⟩ : ByteArray), .string (⟨#[]⟩ : ByteArray)]) ?_ 0 _ rfl; (with_reducible repeat (first | refine qn ?_ _ | refine qm ?_ | refine ql ?_ _)); exact BK116.out) : p := h
theorem Z1 {p : Prop} (h : p := by (with_reducible repeat (first | refine qn ?_ _ | refine qm ?_ | refine ql ?_ _)); refine blk_put (cs := #[.string ((qk ((qf l0 x15_1).f1) x47_3).f0), .string (⟨#[]⟩ : ByteArray)]) ?_ 1 _ rfl; (with_reducible repeat (first | refine qn ?_ _ | refine qm ?_ | refine ql ?_ _)); refine blk_put (cs := #[.string (⟨#[]⟩ : ByteArray), .string (⟨#[]⟩ : ByteArray)]) ?_ 0 _ rfl; (with_reducible repeat (first | refine qn ?_ _ | refine qm ?_ | refine ql ?_ _)); exact BK212.out) : p := h
theorem Z2 {p : Prop} (h : p := by (with_reducible repeat (first | refine qn ?_ _ | refine qm ?_ | refine ql ?_ _)); refine blk_put (cs := #[.string ((qf l0 x14_1).f0), .slice none 0 0]) ?_ 1 _ rfl; (with_reducible repeat (first | refine qn ?_ _ | refine qm ?_ | refine ql ?_ _)); refine blk_put (cs := #[.string (⟨#[]⟩ : ByteArray), .slice none 0 0]) ?_ 0 _ rfl; (with_reducible repeat (first | refine qn ?_ _ | refine qm ?_ | refine ql ?_ _)); exact BK112.out) : p := h
theorem Z3 {p : Prop} (h : p := by (with_reducible repeat (first | refine qn ?_ _ | refine qm ?_ | refine ql ?_ _)); refine blk_put (cs := #[.string ((qf l0 x15_1).f0), .slice none 0 0]) ?_ 1 _ rfl; (with_reducible repeat (first | refine qn ?_ _ | refine qm ?_ | refine ql ?_ _)); refine blk_put (cs := #[.string (⟨#[]⟩ : ByteArray), .slice none 0 0]) ?_ 0 _ rfl; (with_reducible repeat (first | refine qn ?_ _ | refine qm ?_ | refine ql ?_ _)); exact BK208.out) : p := h
theorem Z4 {p : Prop} (h : p := by (with_reducible repeat (first | refine qn ?_ _ | refine qm ?_ | refine ql ?_ _)); refine blk_put (cs := #[.string a2_0, .string a2_1, .string a2_2, .string a2_3, .int .i64 a2_4, .bool a2_5]) ?_ 4 _ rfl; (with_reducible repeat (first | refine qn ?_ _ | refine qm ?_ | refine ql ?_ _)); apply put6; (with_reducible repeat (first | refine qn ?_ _ | refine qm ?_ | refine ql ?_ _)); exact BK190.out) : p := h
theorem Z5 {p : Prop} (h : p := by (with_reducible repeat (first | apply XMap.R_alloc | apply XMap.R_drewN | apply XMap.R_drew)); exact (XMap.R_mono (XMap.R_far (p := ⟨gb212, 1, none⟩) (XMap.R_far (p := ⟨gb212, 0, none⟩) (XMap.R_mono HO_3.out (fun k_ hk => (⟨hk, hk.2⟩ : _ ∧ k_ ≠ gb212))) (fun _ hk => hk.2) (.string ((qk ((qf l0 x15_1).f1) x47_3).f0))) (fun _ hk => hk.2) (.string ((qk ((qf l0 x15_1).f1) x47_3).f1))) (fun _ h_ => h_.1))) : p := h
theorem Z6 {p : Prop} (h : p := by (with_reducible repeat (first | apply Kd.R_alloc | apply Kd.R_drewN | apply Kd.R_drew)); exact (Kd.R_mono (Kd.R_far (p := ⟨gb116, 1, none⟩) (Kd.R_far (p := ⟨gb116, 0, none⟩) (Kd.R_mono HO_3.out (fun k_ hk => (⟨hk, hk.2⟩ : _ ∧ k_ ≠ gb116))) (fun _ hk => hk.2) (.string ((qk ((qf l0 x14_1).f1) x46_3).f0))) (fun _ hk => hk.2) (.string ((qk ((qf l0 x14_1).f1) x46_3).f1))) (fun _ h_ => h_.1))) : p := h
theorem Z7 {p : Prop} (h : p := by (with_reducible repeat (first | refine qn ?_ _ | refine qm ?_ | refine ql ?_ _)); refine blk_far ?_ NB112_116.out _; (with_reducible repeat (first | refine qn ?_ _ | refine qm ?_ | refine ql ?_ _)); refine blk_far ?_ NB112_116.out _; (with_reducible repeat (first | refine qn ?_ _ | refine qm ?_ | refine ql ?_ _)); exact BK112.out) : p := h
theorem Z8 {p : Prop} (h : p := by (with_reducible repeat (first | refine qn ?_ _ | refine qm ?_ | refine ql ?_ _)); refine blk_far ?_ NB208_212.out _; (with_reducible repeat (first | refine qn ?_ _ | refine qm ?_ | refine ql ?_ _)); refine blk_far ?_ NB208_212.out _; (with_reducible repeat (first | refine qn ?_ _ | refine qm ?_ | refine ql ?_ _)); exact BK208.out) : p := h
theorem Z9 {p : Prop} (h : p := by (with_reducible repeat (first | refine qn ?_ _ | refine qm ?_ | refine ql ?_ _)); refine blk_far ?_ NB183_190.out _; (with_reducible repeat (first | refine qn ?_ _ | refine qm ?_ | refine ql ?_ _)); refine far6 ?_ NB183_190.out; (with_reducible repeat (first | refine qn ?_ _ | refine qm ?_ | refine ql ?_ _)); exact BK183.out) : p := h
theorem Z10 {p : Prop} (h : p := by (with_reducible repeat (first | apply XMap.R_alloc | apply XMap.R_drewN | apply XMap.R_drew)); exact (XMap.R_mono (XMap.R_far (p := ⟨gb208, 1, none⟩) (XMap.R_far (p := ⟨gb208, 0, none⟩) (XMap.R_types HO_3.out BK208.out (by decide)) (fun _ hk => hk.2) (.string ((qf l0 x15_1).f0))) (fun _ hk => hk.2) (.slice A207_1 ((qf l0 x15_1).f1).length c207_1)) (fun _ h_ => h_.1))) : p := h
theorem Z11 {p : Prop} (h : p := by (with_reducible repeat (first | apply Kd.R_alloc | apply Kd.R_drewN | apply Kd.R_drew)); exact Kd.R_mono (Kd.R_far (p := ⟨gb112, 1, none⟩) (Kd.R_far (p := ⟨gb112, 0, none⟩) (Kd.R_types HO_3.out BK112.out (by decide)) (fun _ hk => hk.2) (.string ((qf l0 x14_1).f0))) (fun _ hk => hk.2) (.slice A111_1 ((qf l0 x14_1).f1).length c111_1)) (fun _ hk => trivial)) : p := h
theorem Z12 {p : Prop} (h : p := by (with_reducible repeat (first | refine qn ?_ _ | refine qm ?_ | refine ql ?_ _)); refine blk_put (cs := #[.string a2_0, .string a2_1, .string a2_2, .string a2_3, .int .i64 x283004_1, .bool a2_5]) ?_ 4 _ rfl; (with_reducible repeat (first | refine qn ?_ _ | refine qm ?_ | refine ql ?_ _)); exact BK282.out) : p := h
theorem Z13 {p : Prop} (h : p := by refine (Kd.R_reads' (e := 53) (base := w.heap.size) (ok := fun k_ => k_ ≠ gb344) (n := x10_1.length) (c := co42) ?_).2.2; exact (by (with_reducible repeat (first | apply Kd.R_alloc | apply Kd.R_drewN | apply Kd.R_drew)); exact (Kd.R_mono (R_f6 (g := gb359) (Kd.R_types HO_10.out BK359.out (by decide)) (fun _ hk => hk.2)) (fun _ h_ => h_.1)))) : p := h
theorem Z14 {p : Prop} (h : p := by (with_reducible repeat (first | apply Kd.R_alloc | apply Kd.R_drewN | apply Kd.R_drew)); exact (Kd.R_mono (Kd.R_far (p := ⟨gb190, 4, none⟩) (R_f6 (g := gb190) (Kd.R_types HO_26.out BK190.out (by decide)) (fun _ hk => hk.2)) (fun _ hk => hk.2) (.int .i64 (rd t186 x28_1))) (fun _ h_ => h_.1))) : p := h
theorem Z15 {p : Prop} (h : p := by (with_reducible repeat (first | apply Kd.Q_alloc | apply Kd.Q_drewN | apply Kd.Q_drew)); exact (Kd.Q_mono (Kd.Q_far (p := ⟨gb282, 4, none⟩) (Kd.Q_types HO_28.out BK282.out (by decide)) (fun _ hk => hk.2) (.int .i64 (rd y288 x30_1))) (fun _ h_ => h_.1))) : p := h
theorem Z16 {p : Prop} (h : p := by (with_reducible repeat (first | refine qn ?_ _ | refine qm ?_ | refine ql ?_ _)); refine far6 ?_ NB303_336.out; (with_reducible repeat (first | refine qn ?_ _ | refine qm ?_ | refine ql ?_ _)); exact BK303.out) : p := h
theorem Z17 {p : Prop} (h : p := by (with_reducible repeat (first | refine qn ?_ _ | refine qm ?_ | refine ql ?_ _)); refine far9 ?_ NB344_348.out; (with_reducible repeat (first | refine qn ?_ _ | refine qm ?_ | refine ql ?_ _)); exact BK344.out) : p := h
theorem Z18 {p : Prop} (h : p := by (with_reducible repeat (first | refine qn ?_ _ | refine qm ?_ | refine ql ?_ _)); refine far6 ?_ NB344_359.out; (with_reducible repeat (first | refine qn ?_ _ | refine qm ?_ | refine ql ?_ _)); exact BK344.out) : p := h
theorem Z19 {p : Prop} (h : p := by (with_reducible repeat (first | apply Kd.R_alloc | apply Kd.R_drewN | apply Kd.R_drew)); exact Kd.R_mono (R_f9 (g := gb348) (Kd.R_mono HO_10.out (fun k_ hk => (⟨hk, hk.2⟩ : _ ∧ k_ ≠ gb348))) (fun _ hk => hk.2)) (fun _ hk => ⟨hk.1.1, hk.1.2⟩)) : p := h
theorem Z20 {p : Prop} (h : p := by (with_reducible repeat (first | refine qn ?_ _ | refine qm ?_ | refine ql ?_ _)); apply put9; (with_reducible repeat (first | refine qn ?_ _ | refine qm ?_ | refine ql ?_ _)); exact BK133.out) : p := h
theorem Z21 {p : Prop} (h : p := by (with_reducible repeat (first | refine qn ?_ _ | refine qm ?_ | refine ql ?_ _)); apply put9; (with_reducible repeat (first | refine qn ?_ _ | refine qm ?_ | refine ql ?_ _)); exact BK226.out) : p := h
theorem Z22 {p : Prop} (h : p := by (with_reducible repeat (first | refine qn ?_ _ | refine qm ?_ | refine ql ?_ _)); apply put6; (with_reducible repeat (first | refine qn ?_ _ | refine qm ?_ | refine ql ?_ _)); exact BK336.out) : p := h
theorem Z23 {p : Prop} (h : p := by (with_reducible repeat (first | refine qn ?_ _ | refine qm ?_ | refine ql ?_ _)); apply put9; (with_reducible repeat (first | refine qn ?_ _ | refine qm ?_ | refine ql ?_ _)); exact BK348.out) : p := h
theorem Z24 {p : Prop} (h : p := by (with_reducible repeat (first | refine qn ?_ _ | refine qm ?_ | refine ql ?_ _)); apply put6; (with_reducible repeat (first | refine qn ?_ _ | refine qm ?_ | refine ql ?_ _)); exact BK359.out) : p := h
theorem Z25 {p : Prop} (h : p := by exact Kd.C_below HR1.out (by repeat (first | (with_reducible first | exact HB.out | apply qp | apply qj | apply qo | refine qq ?_ GE183.out | refine qq ?_ GE190.out) | exact HB.out))) : p := h
theorem Z26 {p : Prop} (h : p := by exact Kd.C_below HR0.out (by repeat (first | (with_reducible first | exact HB.out | apply qp | apply qj | apply qo | refine qq ?_ GE303.out | refine qq ?_ GE336.out) | exact HB.out))) : p := h
theorem Z27 {p : Prop} (h : p := by (with_reducible repeat (first | apply Kd.R_alloc | apply Kd.R_drewN | apply Kd.R_drew)); exact Kd.R_mono (R_f6 (g := gb336) (Kd.R_types HO_41.out BK336.out (by decide)) (fun _ hk => hk.2)) (fun _ hk => ⟨hk.1.1, hk.1.2⟩)) : p := h
theorem Z28 {p : Prop} (h : p := by (with_reducible repeat (first | apply Kd.R_alloc | apply Kd.R_drewN | apply Kd.R_drew)); exact Kd.R_mono (R_f6 (g := gb336) (Kd.R_types HO_50.out BK336.out (by decide)) (fun _ hk => hk.2)) (fun _ hk => ⟨hk.1.1, hk.1.2⟩)) : p := h
theorem Z29 {p : Prop} (h : p := by (with_reducible repeat (first | apply Kd.R_alloc | apply Kd.R_drewN | apply Kd.R_drew)); exact Kd.R_mono (R_f6 (g := gb336) (Kd.R_types HO_7.out BK336.out (by decide)) (fun _ hk => hk.2)) (fun _ hk => ⟨hk.1.1, hk.1.2⟩)) : p := h
theorem Z30 {p : Prop} (h : p := by (with_reducible repeat (first | apply Kd.R_alloc | apply Kd.R_drewN | apply Kd.R_drew)); exact Kd.R_mono (R_f6 (g := gb336) (Kd.R_types HO_61.out BK336.out (by decide)) (fun _ hk => hk.2)) (fun _ hk => trivial)) : p := h
theorem Z31 {p : Prop} (h : p := by (with_reducible repeat (first | apply Kd.R_alloc | apply Kd.R_drewN | apply Kd.R_drew)); exact (Kd.R_mono (R_f6 (g := gb336) (Kd.R_types HO_41.out BK336.out (by decide)) (fun _ hk => hk.2)) (fun _ h_ => h_.1))) : p := h
theorem Z32 {p : Prop} (h : p := by (with_reducible repeat (first | apply Kd.R_alloc | apply Kd.R_drewN | apply Kd.R_drew)); exact (Kd.R_mono (R_f6 (g := gb336) (Kd.R_types HO_50.out BK336.out (by decide)) (fun _ hk => hk.2)) (fun _ h_ => h_.1))) : p := h
theorem Z33 {p : Prop} (h : p := by (with_reducible repeat (first | apply Kd.R_alloc | apply Kd.R_drewN | apply Kd.R_drew)); exact (Kd.R_mono (R_f6 (g := gb336) (Kd.R_types HO_61.out BK336.out (by decide)) (fun _ hk => hk.2)) (fun _ h_ => h_.1))) : p := h
theorem Z34 {p : Prop} (h : p := by (with_reducible repeat (first | apply Kd.R_alloc | apply Kd.R_drewN | apply Kd.R_drew)); exact (Kd.R_mono (R_f6 (g := gb359) (Kd.R_types HO_10.out BK359.out (by decide)) (fun _ hk => hk.2)) (fun _ h_ => h_.1))) : p := h
theorem Z35 {p : Prop} (h : p := by (with_reducible repeat (first | apply Kd.R_alloc | apply Kd.R_drewN | apply Kd.R_drew)); exact (Kd.R_mono (R_f6 (g := gb359) (Kd.R_types HO_68.out BK359.out (by decide)) (fun _ hk => hk.2)) (fun _ h_ => h_.1))) : p := h
theorem Z36 {p : Prop} (h : p := by (with_reducible repeat (first | apply Kd.R_alloc | apply Kd.R_drewN | apply Kd.R_drew)); exact (Kd.R_mono (R_f9 (g := gb172) (Kd.R_types HO_3.out BK172.out (by decide)) (fun _ hk => hk.2)) (fun _ h_ => h_.1))) : p := h
theorem Z37 {p : Prop} (h : p := by (with_reducible repeat (first | apply Kd.R_alloc | apply Kd.R_drewN | apply Kd.R_drew)); exact (Kd.R_mono (R_f9 (g := gb274) (Kd.R_types HO_5.out BK274.out (by decide)) (fun _ hk => hk.2)) (fun _ h_ => h_.1))) : p := h
theorem Z38 {p : Prop} (h : p := by (with_reducible repeat (first | apply Kd.R_alloc | apply Kd.R_drewN | apply Kd.R_drew)); exact (Kd.R_mono (R_f6 (g := gb336) (Kd.R_types HO_7.out BK336.out (by decide)) (fun _ hk => hk.2)) (fun _ h_ => h_.1))) : p := h
theorem Z39 {p : Prop} (h : p := by rw [hg]; exact (qx (by repeat (first | (with_reducible first | exact HB.out | apply qp | apply qj | apply qo | refine qq ?_ GE112.out) | exact HB.out)))) : p := h
theorem Z40 {p : Prop} (h : p := by rw [hg]; exact (qx (by repeat (first | (with_reducible first | exact HB.out | apply qp | apply qj | apply qo | refine qq ?_ GE150.out) | exact HB.out)))) : p := h
theorem Z41 {p : Prop} (h : p := by rw [hg]; exact (qx (by repeat (first | (with_reducible first | exact HB.out | apply qp | apply qj | apply qo | refine qq ?_ GE165.out) | exact HB.out)))) : p := h
theorem Z42 {p : Prop} (h : p := by rw [hg]; exact (qx (by repeat (first | (with_reducible first | exact HB.out | apply qp | apply qj | apply qo | refine qq ?_ GE208.out) | exact HB.out)))) : p := h
theorem Z43 {p : Prop} (h : p := by rw [hg]; exact (qx (by repeat (first | (with_reducible first | exact HB.out | apply qp | apply qj | apply qo | refine qq ?_ GE244.out) | exact HB.out)))) : p := h
theorem Z44 {p : Prop} (h : p := by rw [hg]; exact (qx (by repeat (first | (with_reducible first | exact HB.out | apply qp | apply qj | apply qo | refine qq ?_ GE260.out) | exact HB.out)))) : p := h
theorem Z45 {p : Prop} (h : p := by rw [hg]; exact (qx (by repeat (first | (with_reducible first | exact HB.out | apply qp | apply qj | apply qo | refine qq ?_ GE303.out) | exact HB.out)))) : p := h
theorem Z46 {p : Prop} (h : p := by rw [hg]; exact (qx (by repeat (first | (with_reducible first | exact HB.out | apply qp | apply qj | apply qo | refine qq ?_ GE344.out) | exact HB.out)))) : p := h
theorem Z47 {p : Prop} (h : p := by repeat (first | (with_reducible first | exact HB.out | apply qp | apply qj | apply qo | refine qq ?_ GE112.out | refine qq ?_ GE116.out) | exact HB.out)) : p := h
theorem Z48 {p : Prop} (h : p := by repeat (first | (with_reducible first | exact HB.out | apply qp | apply qj | apply qo | refine qq ?_ GE150.out | refine qq ?_ GE151.out) | exact HB.out)) : p := h
theorem Z49 {p : Prop} (h : p := by repeat (first | (with_reducible first | exact HB.out | apply qp | apply qj | apply qo | refine qq ?_ GE157.out | refine qq ?_ GE158.out) | exact HB.out)) : p := h
theorem Z50 {p : Prop} (h : p := by repeat (first | (with_reducible first | exact HB.out | apply qp | apply qj | apply qo | refine qq ?_ GE165.out | refine qq ?_ GE167.out) | exact HB.out)) : p := h
theorem Z51 {p : Prop} (h : p := by repeat (first | (with_reducible first | exact HB.out | apply qp | apply qj | apply qo | refine qq ?_ GE183.out | refine qq ?_ GE190.out) | exact HB.out)) : p := h
theorem Z52 {p : Prop} (h : p := by repeat (first | (with_reducible first | exact HB.out | apply qp | apply qj | apply qo | refine qq ?_ GE208.out | refine qq ?_ GE212.out) | exact HB.out)) : p := h
theorem Z53 {p : Prop} (h : p := by repeat (first | (with_reducible first | exact HB.out | apply qp | apply qj | apply qo | refine qq ?_ GE244.out | refine qq ?_ GE245.out) | exact HB.out)) : p := h
theorem Z54 {p : Prop} (h : p := by repeat (first | (with_reducible first | exact HB.out | apply qp | apply qj | apply qo | refine qq ?_ GE246.out | refine qq ?_ GE247.out) | exact HB.out)) : p := h
theorem Z55 {p : Prop} (h : p := by repeat (first | (with_reducible first | exact HB.out | apply qp | apply qj | apply qo | refine qq ?_ GE250.out | refine qq ?_ GE251.out) | exact HB.out)) : p := h
theorem Z56 {p : Prop} (h : p := by repeat (first | (with_reducible first | exact HB.out | apply qp | apply qj | apply qo | refine qq ?_ GE260.out | refine qq ?_ GE262.out) | exact HB.out)) : p := h
theorem Z57 {p : Prop} (h : p := by repeat (first | (with_reducible first | exact HB.out | apply qp | apply qj | apply qo | refine qq ?_ GE303.out | refine qq ?_ GE305.out) | exact HB.out)) : p := h
theorem Z58 {p : Prop} (h : p := by repeat (first | (with_reducible first | exact HB.out | apply qp | apply qj | apply qo | refine qq ?_ GE303.out | refine qq ?_ GE336.out) | exact HB.out)) : p := h
theorem Z59 {p : Prop} (h : p := by repeat (first | (with_reducible first | exact HB.out | apply qp | apply qj | apply qo | refine qq ?_ GE344.out | refine qq ?_ GE348.out) | exact HB.out)) : p := h
theorem Z60 {p : Prop} (h : p := by repeat (first | (with_reducible first | exact HB.out | apply qp | apply qj | apply qo | refine qq ?_ GE344.out | refine qq ?_ GE359.out) | exact HB.out)) : p := h
theorem Z61 {p : Prop} (h : p := by (try simp only [List.map_toArray, List.map_cons, List.map_nil]); first | done | rfl | (simp only [List.length_drop, List.length_take]; rfl) | (simp only [xne_empty, xeq_empty]; rfl)) : p := h
theorem Z62 {p : Prop} (h : p := by repeat (first | exact (Kd.C_below HR0.out HB.out) | (with_reducible refine Kd.C_alloc ?_ _) | (with_reducible refine Kd.C_drewN ?_ _) | (with_reducible refine Kd.C_drew ?_))) : p := h
theorem Z63 {p : Prop} (h : p := by repeat (first | exact (Kd.C_below HR1.out HB.out) | (with_reducible refine Kd.C_alloc ?_ _) | (with_reducible refine Kd.C_drewN ?_ _) | (with_reducible refine Kd.C_drew ?_))) : p := h
theorem Z64 {p : Prop} (h : p := by repeat (first | exact (Kd.R_reads' HO_10.out).2.2 | (with_reducible refine Kd.C_alloc ?_ _) | (with_reducible refine Kd.C_drewN ?_ _) | (with_reducible refine Kd.C_drew ?_))) : p := h
theorem Z65 {p : Prop} (h : p := by repeat (first | exact (Kd.R_reads' HO_3.out).2.2 | (with_reducible refine Kd.C_alloc ?_ _) | (with_reducible refine Kd.C_drewN ?_ _) | (with_reducible refine Kd.C_drew ?_))) : p := h
theorem Z66 {p : Prop} (h : p := by rw [hg]; exact (qx (by repeat (first | (with_reducible first | exact HB.out | apply qp | apply qj | apply qo) | exact HB.out)))) : p := h
theorem Z67 {p : Prop} (h : p := by repeat (first | (with_reducible first | exact HB.out | apply qp | apply qj | apply qo | refine qq ?_ GE104.out) | exact HB.out)) : p := h
theorem Z68 {p : Prop} (h : p := by repeat (first | (with_reducible first | exact HB.out | apply qp | apply qj | apply qo | refine qq ?_ GE107.out) | exact HB.out)) : p := h
theorem Z69 {p : Prop} (h : p := by repeat (first | (with_reducible first | exact HB.out | apply qp | apply qj | apply qo | refine qq ?_ GE112.out) | exact HB.out)) : p := h
theorem Z70 {p : Prop} (h : p := by repeat (first | (with_reducible first | exact HB.out | apply qp | apply qj | apply qo | refine qq ?_ GE125.out) | exact HB.out)) : p := h
theorem Z71 {p : Prop} (h : p := by repeat (first | (with_reducible first | exact HB.out | apply qp | apply qj | apply qo | refine qq ?_ GE133.out) | exact HB.out)) : p := h
theorem Z72 {p : Prop} (h : p := by repeat (first | (with_reducible first | exact HB.out | apply qp | apply qj | apply qo | refine qq ?_ GE137.out) | exact HB.out)) : p := h
theorem Z73 {p : Prop} (h : p := by repeat (first | (with_reducible first | exact HB.out | apply qp | apply qj | apply qo | refine qq ?_ GE141.out) | exact HB.out)) : p := h
theorem Z74 {p : Prop} (h : p := by repeat (first | (with_reducible first | exact HB.out | apply qp | apply qj | apply qo | refine qq ?_ GE145.out) | exact HB.out)) : p := h
theorem Z75 {p : Prop} (h : p := by repeat (first | (with_reducible first | exact HB.out | apply qp | apply qj | apply qo | refine qq ?_ GE150.out) | exact HB.out)) : p := h
theorem Z76 {p : Prop} (h : p := by repeat (first | (with_reducible first | exact HB.out | apply qp | apply qj | apply qo | refine qq ?_ GE156.out) | exact HB.out)) : p := h
theorem Z77 {p : Prop} (h : p := by repeat (first | (with_reducible first | exact HB.out | apply qp | apply qj | apply qo | refine qq ?_ GE165.out) | exact HB.out)) : p := h
theorem Z78 {p : Prop} (h : p := by repeat (first | (with_reducible first | exact HB.out | apply qp | apply qj | apply qo | refine qq ?_ GE172.out) | exact HB.out)) : p := h
theorem Z79 {p : Prop} (h : p := by repeat (first | (with_reducible first | exact HB.out | apply qp | apply qj | apply qo | refine qq ?_ GE183.out) | exact HB.out)) : p := h
theorem Z80 {p : Prop} (h : p := by repeat (first | (with_reducible first | exact HB.out | apply qp | apply qj | apply qo | refine qq ?_ GE201.out) | exact HB.out)) : p := h
theorem Z81 {p : Prop} (h : p := by repeat (first | (with_reducible first | exact HB.out | apply qp | apply qj | apply qo | refine qq ?_ GE208.out) | exact HB.out)) : p := h
theorem Z82 {p : Prop} (h : p := by repeat (first | (with_reducible first | exact HB.out | apply qp | apply qj | apply qo | refine qq ?_ GE218.out) | exact HB.out)) : p := h
theorem Z83 {p : Prop} (h : p := by repeat (first | (with_reducible first | exact HB.out | apply qp | apply qj | apply qo | refine qq ?_ GE226.out) | exact HB.out)) : p := h
theorem Z84 {p : Prop} (h : p := by repeat (first | (with_reducible first | exact HB.out | apply qp | apply qj | apply qo | refine qq ?_ GE231.out) | exact HB.out)) : p := h
theorem Z85 {p : Prop} (h : p := by repeat (first | (with_reducible first | exact HB.out | apply qp | apply qj | apply qo | refine qq ?_ GE235.out) | exact HB.out)) : p := h
theorem Z86 {p : Prop} (h : p := by repeat (first | (with_reducible first | exact HB.out | apply qp | apply qj | apply qo | refine qq ?_ GE239.out) | exact HB.out)) : p := h
theorem Z87 {p : Prop} (h : p := by repeat (first | (with_reducible first | exact HB.out | apply qp | apply qj | apply qo | refine qq ?_ GE244.out) | exact HB.out)) : p := h
theorem Z88 {p : Prop} (h : p := by repeat (first | (with_reducible first | exact HB.out | apply qp | apply qj | apply qo | refine qq ?_ GE246.out) | exact HB.out)) : p := h
theorem Z89 {p : Prop} (h : p := by repeat (first | (with_reducible first | exact HB.out | apply qp | apply qj | apply qo | refine qq ?_ GE260.out) | exact HB.out)) : p := h
theorem Z90 {p : Prop} (h : p := by repeat (first | (with_reducible first | exact HB.out | apply qp | apply qj | apply qo | refine qq ?_ GE274.out) | exact HB.out)) : p := h
theorem Z91 {p : Prop} (h : p := by repeat (first | (with_reducible first | exact HB.out | apply qp | apply qj | apply qo | refine qq ?_ GE282.out) | exact HB.out)) : p := h
theorem Z92 {p : Prop} (h : p := by repeat (first | (with_reducible first | exact HB.out | apply qp | apply qj | apply qo | refine qq ?_ GE303.out) | exact HB.out)) : p := h
theorem Z93 {p : Prop} (h : p := by repeat (first | (with_reducible first | exact HB.out | apply qp | apply qj | apply qo | refine qq ?_ GE344.out) | exact HB.out)) : p := h
theorem Z94 {p : Prop} (h : p := by repeat (first | (with_reducible first | exact HB.out | apply qp | apply qj | apply qo | refine qq ?_ GE372.out) | exact HB.out)) : p := h
theorem Z95 {p : Prop} (h : p := by repeat (first | (with_reducible first | exact HB.out | apply qp | apply qj | apply qo | refine qq ?_ GE377.out) | exact HB.out)) : p := h
theorem Z96 {p : Prop} (h : p := by repeat (first | (with_reducible first | exact HB.out | apply qp | apply qj | apply qo | refine qq ?_ GE382.out) | exact HB.out)) : p := h
theorem Z97 {p : Prop} (h : p := by first | rfl | (simp [errW_none, errW_some] <;> rfl) | (simp [errW_none, errW_some, xne_empty, xeq_empty] <;> rfl) | (simp [*, errW_none, errW_some] <;> rfl)) : p := h
theorem Z98 {p : Prop} (h : p := by repeat (first | exact HR0.out | (with_reducible refine Kd.C_alloc ?_ _) | (with_reducible refine Kd.C_drewN ?_ _) | (with_reducible refine Kd.C_drew ?_))) : p := h
theorem Z99 {p : Prop} (h : p := by repeat (first | exact HR1.out | (with_reducible refine Kd.C_alloc ?_ _) | (with_reducible refine Kd.C_drewN ?_ _) | (with_reducible refine Kd.C_drew ?_))) : p := h
theorem Z100 {p : Prop} (h : p := by (with_reducible repeat (first | apply Kd.R_alloc | apply Kd.R_drewN | apply Kd.R_drew)); exact Kd.R_mono HO_41.out (fun _ hk => ⟨hk.2, hk.1⟩)) : p := h
theorem Z101 {p : Prop} (h : p := by (with_reducible repeat (first | apply Kd.R_alloc | apply Kd.R_drewN | apply Kd.R_drew)); exact Kd.R_mono HO_50.out (fun _ hk => ⟨hk.2, hk.1⟩)) : p := h
theorem Z102 {p : Prop} (h : p := by first | exact Kd.R_nil _ _ _ _ _ | exact Kd.N_nil _ _ _ _ _ | exact Kd.V_nil _ _ _ _ _ | exact Kd.Q_nil _ _ _ _ _ | exact Kd.S_nil _ _ _ _ _) : p := h
theorem qz {p : Prop} (h : p := by repeat (first | (with_reducible first | exact HB.out | apply qp | apply qj | apply qo) | exact HB.out)) : p := h
theorem Z104 {p : Prop} (h : p := by (with_reducible repeat (first | apply Kd.R_alloc | apply Kd.R_drewN | apply Kd.R_drew)); exact Kd.R_mono HO_3.out (fun _ hk => hk.2)) : p := h
theorem Z105 {p : Prop} (h : p := by exact (Reps.one (show Kd.M Kd.string _ _ _ ((qa l0 x23_1).f3) [.string ((qa l0 x23_1).f3)] from rfl) (Reps.none _ _))) : p := h
theorem Z106 {p : Prop} (h : p := by (with_reducible repeat (first | refine qn ?_ _ | refine qm ?_ | refine ql ?_ _)); exact BK112.out) : p := h
theorem Z107 {p : Prop} (h : p := by (with_reducible repeat (first | refine qn ?_ _ | refine qm ?_ | refine ql ?_ _)); exact BK116.out) : p := h
theorem Z108 {p : Prop} (h : p := by (with_reducible repeat (first | refine qn ?_ _ | refine qm ?_ | refine ql ?_ _)); exact BK125.out) : p := h
theorem Z109 {p : Prop} (h : p := by (with_reducible repeat (first | refine qn ?_ _ | refine qm ?_ | refine ql ?_ _)); exact BK165.out) : p := h
theorem Z110 {p : Prop} (h : p := by (with_reducible repeat (first | refine qn ?_ _ | refine qm ?_ | refine ql ?_ _)); exact BK183.out) : p := h
theorem Z111 {p : Prop} (h : p := by (with_reducible repeat (first | refine qn ?_ _ | refine qm ?_ | refine ql ?_ _)); exact BK208.out) : p := h
theorem Z112 {p : Prop} (h : p := by (with_reducible repeat (first | refine qn ?_ _ | refine qm ?_ | refine ql ?_ _)); exact BK212.out) : p := h
theorem Z113 {p : Prop} (h : p := by (with_reducible repeat (first | refine qn ?_ _ | refine qm ?_ | refine ql ?_ _)); exact BK218.out) : p := h
theorem Z114 {p : Prop} (h : p := by (with_reducible repeat (first | refine qn ?_ _ | refine qm ?_ | refine ql ?_ _)); exact BK260.out) : p := h
theorem Z115 {p : Prop} (h : p := by (with_reducible repeat (first | refine qn ?_ _ | refine qm ?_ | refine ql ?_ _)); exact BK274.out) : p := h
theorem Z116 {p : Prop} (h : p := by (with_reducible repeat (first | refine qn ?_ _ | refine qm ?_ | refine ql ?_ _)); exact BK303.out) : p := h
theorem Z117 {p : Prop} (h : p := by (with_reducible repeat (first | refine qn ?_ _ | refine qm ?_ | refine ql ?_ _)); exact BK305.out) : p := h
theorem Z118 {p : Prop} (h : p := by (with_reducible repeat (first | refine qn ?_ _ | refine qm ?_ | refine ql ?_ _)); exact BK344.out) : p := h
theorem Z119 {p : Prop} (h : p := by (with_reducible repeat (first | refine qn ?_ _ | refine qm ?_ | refine ql ?_ _)); exact BK348.out) : p := h
theorem Z120 {p : Prop} (h : p := by (with_reducible repeat (first | apply XMap.R_alloc | apply XMap.R_drewN | apply XMap.R_drew)); exact HO_3.out) : p := h
theorem Z121 {p : Prop} (h : p := by (with_reducible repeat (first | apply Kd.R_alloc | apply Kd.R_drewN | apply Kd.R_drew)); exact HO_26.out) : p := h
theorem Z122 {p : Prop} (h : p := by (with_reducible repeat (first | apply Kd.R_alloc | apply Kd.R_drewN | apply Kd.R_drew)); exact HO308.out) : p := h
theorem Z123 {p : Prop} (h : p := by (with_reducible repeat (first | apply Kd.R_alloc | apply Kd.R_drewN | apply Kd.R_drew)); exact HO314.out) : p := h
theorem Z124 {p : Prop} (h : p := by (with_reducible repeat (first | apply Kd.R_alloc | apply Kd.R_drewN | apply Kd.R_drew)); exact HO_41.out) : p := h
theorem Z125 {p : Prop} (h : p := by (with_reducible repeat (first | apply Kd.R_alloc | apply Kd.R_drewN | apply Kd.R_drew)); exact HO_50.out) : p := h
theorem Z126 {p : Prop} (h : p := by (with_reducible repeat (first | apply Kd.R_alloc | apply Kd.R_drewN | apply Kd.R_drew)); exact HO328.out) : p := h
theorem Z127 {p : Prop} (h : p := by (with_reducible repeat (first | apply Kd.R_alloc | apply Kd.R_drewN | apply Kd.R_drew)); exact HO_61.out) : p := h
theorem Z128 {p : Prop} (h : p := by (with_reducible repeat (first | apply Kd.R_alloc | apply Kd.R_drewN | apply Kd.R_drew)); exact HO_10.out) : p := h
theorem Z129 {p : Prop} (h : p := by (with_reducible repeat (first | apply Kd.R_alloc | apply Kd.R_drewN | apply Kd.R_drew)); exact HO_68.out) : p := h
theorem Z130 {p : Prop} (h : p := by (with_reducible repeat (first | apply Kd.R_alloc | apply Kd.R_drewN | apply Kd.R_drew)); exact HO390.out) : p := h
theorem Z131 {p : Prop} (h : p := by (with_reducible repeat (first | apply Kd.R_alloc | apply Kd.R_drewN | apply Kd.R_drew)); exact HO_3.out) : p := h
theorem Z132 {p : Prop} (h : p := by (with_reducible repeat (first | apply Kd.R_alloc | apply Kd.R_drewN | apply Kd.R_drew)); exact HO_5.out) : p := h
theorem Z133 {p : Prop} (h : p := by (with_reducible repeat (first | apply Kd.R_alloc | apply Kd.R_drewN | apply Kd.R_drew)); exact HO_6.out) : p := h
theorem Z134 {p : Prop} (h : p := by (with_reducible repeat (first | apply Kd.R_alloc | apply Kd.R_drewN | apply Kd.R_drew)); exact HO_7.out) : p := h
theorem qD {p : Prop} (h : p := by first | rfl | (simp; done) | (simp [xne_empty, xeq_empty]; done) | (simp [*]; done)) : p := h
theorem Z136 {p : Prop} (h : p := by have := HK1.out; have := HK2.out; have := HK3.out; have := HK4.out; omega) : p := h
theorem Z137 {p : Prop} (h : p := by have hq := hc 0 _ rfl; rwa [Nat.mul_one, Nat.add_zero] at hq) : p := h
theorem Z138 {p : Prop} (h : p := by repeat (first | exact Drawn0.refl _ | apply Drawn0.step)) : p := h
theorem Z139 {p : Prop} (h : p := by have := HK1.out; first | omega | exact Nat.le_refl _) : p := h
theorem qB {p : Prop} (h : p := by first | (with_reducible assumption) | assumption) : p := h
theorem Z141 {p : Prop} (h : p := by first | rfl | (simp; done) | (simp [*]; done)) : p := h
theorem qC {p : Prop} (h : p := by first | (go_simp; done) | (go_simp; rfl)) : p := h
theorem Z143 {p : Prop} (h : p := by have := HJ1.out; have := HK2.out; omega) : p := h
theorem Z144 {p : Prop} (h : p := by rw [hg]; exact Nat.ne_of_lt (bt_ BK112)) : p := h
theorem Z145 {p : Prop} (h : p := by rw [hg]; exact Nat.ne_of_gt (bt_ BK112)) : p := h
theorem Z146 {p : Prop} (h : p := by rw [hg]; exact Nat.ne_of_lt (bt_ BK150)) : p := h
theorem Z147 {p : Prop} (h : p := by rw [hg]; exact Nat.ne_of_gt (bt_ BK150)) : p := h
theorem Z148 {p : Prop} (h : p := by rw [hg]; exact Nat.ne_of_lt (bt_ BK208)) : p := h
theorem Z149 {p : Prop} (h : p := by rw [hg]; exact Nat.ne_of_gt (bt_ BK208)) : p := h
theorem Z150 {p : Prop} (h : p := by rw [hg]; exact Nat.ne_of_lt (bt_ BK244)) : p := h
theorem Z151 {p : Prop} (h : p := by rw [hg]; exact Nat.ne_of_gt (bt_ BK244)) : p := h
theorem Z152 {p : Prop} (h : p := by rw [hg]; exact Nat.ne_of_lt (bt_ BK344)) : p := h
theorem Z153 {p : Prop} (h : p := by rw [hg]; exact Nat.ne_of_gt (bt_ BK344)) : p := h
theorem Z154 {p : Prop} (h : p := by first | omega | exact Nat.le_refl _) : p := h
theorem Z155 {p : Prop} (h : p := by exact (Kd.R_reads' HO_10.out).2.1) : p := h
theorem Z156 {p : Prop} (h : p := by exact XMap.R_tight rfl HO_3.out) : p := h
theorem Z157 {p : Prop} (h : p := by have := HK1.out; omega) : p := h
theorem Z158 {p : Prop} (h : p := by exact HC0.out) : p := h
theorem Z159 {p : Prop} (h : p := by exact HC1.out) : p := h
theorem sT {α : Type _} (l : List α) (i : Nat) (a : α) : l.toArray.setIfInBounds i a = (l.set i a).toArray := by simp
theorem s0 {α : Type _} {x : α} {xs : List α} {a : α} : (x :: xs).set 0 a = a :: xs := List.set_cons_zero
theorem s1 {α : Type _} {x : α} {xs : List α} {n : Nat} {a : α} : (x :: xs).set (n + 1) a = x :: xs.set n a := List.set_cons_succ
def Old (w w1 : World) : Prop := ∀ (g : Nat) (t : TypeId) (cs : Array Value), w.heap[g]? = some (.cells cs t (0, 0)) → w1.heap[g]? = some (.cells cs t (0, 0))
theorem Old.rf (w : World) : Old w w := fun _ _ _ h => h
theorem Old.dN {w w1 : World} (h : Old w w1) (n : Nat) : Old w (w1.drewN n) := fun g t cs e => qn (h g t cs e) n
theorem Old.d1 {w w1 : World} (h : Old w w1) : Old w w1.drew := fun g t cs e => qm (h g t cs e)
theorem Old.al {w w1 : World} (h : Old w w1) (o : Obj) : Old w (w1.alloc o) := fun g t cs e => ql (h g t cs e) o
theorem bb {w w1 w' : World} {g : Nat} {t : TypeId} {cs : Array Value} (B : qb (w.heap[g]? = some (.cells cs t (0, 0)))) (hb : Below w1.heap.size w1 w') (h : Old w w1 := by with_reducible repeat (first | exact Old.rf _ | apply Old.dN | apply Old.d1 | apply Old.al)) : qb (w'.heap[g]? = some (.cells cs t (0, 0))) := ⟨qw (h g t cs B.out) hb⟩
theorem bt_ {w w1 : World} {g : Nat} {t : TypeId} {cs : Array Value} (B : qb (w.heap[g]? = some (.cells cs t (0, 0)))) (h : Old w w1 := by with_reducible repeat (first | exact Old.rf _ | apply Old.dN | apply Old.d1 | apply Old.al)) : g < w1.heap.size := blk_lt (h g t cs B.out)
theorem bx {w w' : World} {p : Addr} {v : Value} (HB : qb (Below w.heap.size w w')) (h : w.cell? p = some v) : w'.cell? p = some v := (HB.out.cell (World.block_lt_of_cell? w _ h)).trans h
theorem bl6 {w : World} {g : Nat} {t : TypeId} {v0 v1 v2 v3 v4 v5 : Value} (h : w.heap[g]? = some (.cells #[v0, v1, v2, v3, v4, v5] t (0, 0))) : w.cell? ⟨g, 0, none⟩ = some v0 ∧ w.cell? ⟨g, 1, none⟩ = some v1 ∧ w.cell? ⟨g, 2, none⟩ = some v2 ∧ w.cell? ⟨g, 3, none⟩ = some v3 ∧ w.cell? ⟨g, 4, none⟩ = some v4 ∧ w.cell? ⟨g, 5, none⟩ = some v5 := ⟨(qc h 0).trans rfl, (qc h 1).trans rfl, (qc h 2).trans rfl, (qc h 3).trans rfl, (qc h 4).trans rfl, (qc h 5).trans rfl⟩
theorem bn6 {R : Prop} {w : World} {g : Nat} {t : TypeId} {v0 v1 v2 v3 v4 v5 : Value} (h : w.heap[g]? = some (.cells #[v0, v1, v2, v3, v4, v5] t (0, 0))) (r : R) : w.cell? ⟨g, 0, none⟩ = some v0 ∧ w.cell? ⟨g, 1, none⟩ = some v1 ∧ w.cell? ⟨g, 2, none⟩ = some v2 ∧ w.cell? ⟨g, 3, none⟩ = some v3 ∧ w.cell? ⟨g, 4, none⟩ = some v4 ∧ w.cell? ⟨g, 5, none⟩ = some v5 ∧ R := ⟨(qc h 0).trans rfl, (qc h 1).trans rfl, (qc h 2).trans rfl, (qc h 3).trans rfl, (qc h 4).trans rfl, (qc h 5).trans rfl, r⟩
theorem bl9 {w : World} {g : Nat} {t : TypeId} {v0 v1 v2 v3 v4 v5 v6 v7 v8 : Value} (h : w.heap[g]? = some (.cells #[v0, v1, v2, v3, v4, v5, v6, v7, v8] t (0, 0))) : w.cell? ⟨g, 0, none⟩ = some v0 ∧ w.cell? ⟨g, 1, none⟩ = some v1 ∧ w.cell? ⟨g, 2, none⟩ = some v2 ∧ w.cell? ⟨g, 3, none⟩ = some v3 ∧ w.cell? ⟨g, 4, none⟩ = some v4 ∧ w.cell? ⟨g, 5, none⟩ = some v5 ∧ w.cell? ⟨g, 6, none⟩ = some v6 ∧ w.cell? ⟨g, 7, none⟩ = some v7 ∧ w.cell? ⟨g, 8, none⟩ = some v8 := ⟨(qc h 0).trans rfl, (qc h 1).trans rfl, (qc h 2).trans rfl, (qc h 3).trans rfl, (qc h 4).trans rfl, (qc h 5).trans rfl, (qc h 6).trans rfl, (qc h 7).trans rfl, (qc h 8).trans rfl⟩
theorem bn9 {R : Prop} {w : World} {g : Nat} {t : TypeId} {v0 v1 v2 v3 v4 v5 v6 v7 v8 : Value} (h : w.heap[g]? = some (.cells #[v0, v1, v2, v3, v4, v5, v6, v7, v8] t (0, 0))) (r : R) : w.cell? ⟨g, 0, none⟩ = some v0 ∧ w.cell? ⟨g, 1, none⟩ = some v1 ∧ w.cell? ⟨g, 2, none⟩ = some v2 ∧ w.cell? ⟨g, 3, none⟩ = some v3 ∧ w.cell? ⟨g, 4, none⟩ = some v4 ∧ w.cell? ⟨g, 5, none⟩ = some v5 ∧ w.cell? ⟨g, 6, none⟩ = some v6 ∧ w.cell? ⟨g, 7, none⟩ = some v7 ∧ w.cell? ⟨g, 8, none⟩ = some v8 ∧ R := ⟨(qc h 0).trans rfl, (qc h 1).trans rfl, (qc h 2).trans rfl, (qc h 3).trans rfl, (qc h 4).trans rfl, (qc h 5).trans rfl, (qc h 6).trans rfl, (qc h 7).trans rfl, (qc h 8).trans rfl, r⟩
theorem put6 {w : World} {g : Nat} {t : TypeId} {z0 z1 z2 z3 z4 z5 v0 v1 v2 v3 v4 v5 : Value} (h : w.heap[g]? = some (.cells #[z0, z1, z2, z3, z4, z5] t (0, 0))) : ((((((w.setCell ⟨g, 0, none⟩ v0).setCell ⟨g, 1, none⟩ v1).setCell ⟨g, 2, none⟩ v2).setCell ⟨g, 3, none⟩ v3).setCell ⟨g, 4, none⟩ v4).setCell ⟨g, 5, none⟩ v5).heap[g]? = some (.cells #[v0, v1, v2, v3, v4, v5] t (0, 0)) := blk_put (cs' := #[v0, v1, v2, v3, v4, v5]) (blk_put (cs' := #[v0, v1, v2, v3, v4, z5]) (blk_put (cs' := #[v0, v1, v2, v3, z4, z5]) (blk_put (cs' := #[v0, v1, v2, z3, z4, z5]) (blk_put (cs' := #[v0, v1, z2, z3, z4, z5]) (blk_put (cs' := #[v0, z1, z2, z3, z4, z5]) (h) 0 v0 rfl) 1 v1 rfl) 2 v2 rfl) 3 v3 rfl) 4 v4 rfl) 5 v5 rfl
theorem put9 {w : World} {g : Nat} {t : TypeId} {z0 z1 z2 z3 z4 z5 z6 z7 z8 v0 v1 v2 v3 v4 v5 v6 v7 v8 : Value} (h : w.heap[g]? = some (.cells #[z0, z1, z2, z3, z4, z5, z6, z7, z8] t (0, 0))) : (((((((((w.setCell ⟨g, 0, none⟩ v0).setCell ⟨g, 1, none⟩ v1).setCell ⟨g, 2, none⟩ v2).setCell ⟨g, 3, none⟩ v3).setCell ⟨g, 4, none⟩ v4).setCell ⟨g, 5, none⟩ v5).setCell ⟨g, 6, none⟩ v6).setCell ⟨g, 7, none⟩ v7).setCell ⟨g, 8, none⟩ v8).heap[g]? = some (.cells #[v0, v1, v2, v3, v4, v5, v6, v7, v8] t (0, 0)) := blk_put (cs' := #[v0, v1, v2, v3, v4, v5, v6, v7, v8]) (blk_put (cs' := #[v0, v1, v2, v3, v4, v5, v6, v7, z8]) (blk_put (cs' := #[v0, v1, v2, v3, v4, v5, v6, z7, z8]) (blk_put (cs' := #[v0, v1, v2, v3, v4, v5, z6, z7, z8]) (blk_put (cs' := #[v0, v1, v2, v3, v4, z5, z6, z7, z8]) (blk_put (cs' := #[v0, v1, v2, v3, z4, z5, z6, z7, z8]) (blk_put (cs' := #[v0, v1, v2, z3, z4, z5, z6, z7, z8]) (blk_put (cs' := #[v0, v1, z2, z3, z4, z5, z6, z7, z8]) (blk_put (cs' := #[v0, z1, z2, z3, z4, z5, z6, z7, z8]) (h) 0 v0 rfl) 1 v1 rfl) 2 v2 rfl) 3 v3 rfl) 4 v4 rfl) 5 v5 rfl) 6 v6 rfl) 7 v7 rfl) 8 v8 rfl
theorem far6 {w : World} {g b : Nat} {t : TypeId} {cs : Array Value} {o0 o1 o2 o3 o4 o5 : Nat} {v0 v1 v2 v3 v4 v5 : Value} (h : w.heap[g]? = some (.cells cs t (0, 0))) (hp : g ≠ b) : ((((((w.setCell ⟨b, o0, none⟩ v0).setCell ⟨b, o1, none⟩ v1).setCell ⟨b, o2, none⟩ v2).setCell ⟨b, o3, none⟩ v3).setCell ⟨b, o4, none⟩ v4).setCell ⟨b, o5, none⟩ v5).heap[g]? = some (.cells cs t (0, 0)) := blk_far (blk_far (blk_far (blk_far (blk_far (blk_far (h) (p := ⟨b, _, none⟩) hp _) (p := ⟨b, _, none⟩) hp _) (p := ⟨b, _, none⟩) hp _) (p := ⟨b, _, none⟩) hp _) (p := ⟨b, _, none⟩) hp _) (p := ⟨b, _, none⟩) hp _
theorem far9 {w : World} {g b : Nat} {t : TypeId} {cs : Array Value} {o0 o1 o2 o3 o4 o5 o6 o7 o8 : Nat} {v0 v1 v2 v3 v4 v5 v6 v7 v8 : Value} (h : w.heap[g]? = some (.cells cs t (0, 0))) (hp : g ≠ b) : (((((((((w.setCell ⟨b, o0, none⟩ v0).setCell ⟨b, o1, none⟩ v1).setCell ⟨b, o2, none⟩ v2).setCell ⟨b, o3, none⟩ v3).setCell ⟨b, o4, none⟩ v4).setCell ⟨b, o5, none⟩ v5).setCell ⟨b, o6, none⟩ v6).setCell ⟨b, o7, none⟩ v7).setCell ⟨b, o8, none⟩ v8).heap[g]? = some (.cells cs t (0, 0)) := blk_far (blk_far (blk_far (blk_far (blk_far (blk_far (blk_far (blk_far (blk_far (h) (p := ⟨b, _, none⟩) hp _) (p := ⟨b, _, none⟩) hp _) (p := ⟨b, _, none⟩) hp _) (p := ⟨b, _, none⟩) hp _) (p := ⟨b, _, none⟩) hp _) (p := ⟨b, _, none⟩) hp _) (p := ⟨b, _, none⟩) hp _) (p := ⟨b, _, none⟩) hp _) (p := ⟨b, _, none⟩) hp _
theorem R_f6 {α : Type} {d : Kd α} {e : TypeId} {base : Nat} {ok : Nat → Prop} {v : Value} {xs : List α} {w : World} {g : Nat} {v0 v1 v2 v3 v4 v5 : Value} (h : d.R e w base ok v xs) (hk : ∀ k, ok k → k ≠ g) : d.R e ((((((w.setCell ⟨g, 0, none⟩ v0).setCell ⟨g, 1, none⟩ v1).setCell ⟨g, 2, none⟩ v2).setCell ⟨g, 3, none⟩ v3).setCell ⟨g, 4, none⟩ v4).setCell ⟨g, 5, none⟩ v5) base ok v xs := Kd.R_far (p := ⟨g, 5, none⟩) (Kd.R_far (p := ⟨g, 4, none⟩) (Kd.R_far (p := ⟨g, 3, none⟩) (Kd.R_far (p := ⟨g, 2, none⟩) (Kd.R_far (p := ⟨g, 1, none⟩) (Kd.R_far (p := ⟨g, 0, none⟩) (h) hk v0) hk v1) hk v2) hk v3) hk v4) hk v5
theorem R_f9 {α : Type} {d : Kd α} {e : TypeId} {base : Nat} {ok : Nat → Prop} {v : Value} {xs : List α} {w : World} {g : Nat} {v0 v1 v2 v3 v4 v5 v6 v7 v8 : Value} (h : d.R e w base ok v xs) (hk : ∀ k, ok k → k ≠ g) : d.R e (((((((((w.setCell ⟨g, 0, none⟩ v0).setCell ⟨g, 1, none⟩ v1).setCell ⟨g, 2, none⟩ v2).setCell ⟨g, 3, none⟩ v3).setCell ⟨g, 4, none⟩ v4).setCell ⟨g, 5, none⟩ v5).setCell ⟨g, 6, none⟩ v6).setCell ⟨g, 7, none⟩ v7).setCell ⟨g, 8, none⟩ v8) base ok v xs := Kd.R_far (p := ⟨g, 8, none⟩) (Kd.R_far (p := ⟨g, 7, none⟩) (Kd.R_far (p := ⟨g, 6, none⟩) (Kd.R_far (p := ⟨g, 5, none⟩) (Kd.R_far (p := ⟨g, 4, none⟩) (Kd.R_far (p := ⟨g, 3, none⟩) (Kd.R_far (p := ⟨g, 2, none⟩) (Kd.R_far (p := ⟨g, 1, none⟩) (Kd.R_far (p := ⟨g, 0, none⟩) (h) hk v0) hk v1) hk v2) hk v3) hk v4) hk v5) hk v6) hk v7) hk v8
def errW : Option Int → Value
  | none => .nilIface
  | some c => .iface 0 (.int .i64 c)
theorem errW_none : errW none = .nilIface := rfl
theorem errW_some (c : Int) : errW (some c) = .iface 0 (.int .i64 c) := rfl

theorem info3 : (Tryz.prog.info? 3).map (fun i => (i.zero, i.size, i.bytes)) = some (some (.int .i64 0), 1, 8) := by kernel_rfl
theorem info9 : (Tryz.prog.info? 9).map (fun i => (i.zero, i.size, i.bytes)) = some (some (.string ⟨#[]⟩), 1, 16) := by kernel_rfl
theorem info53 : (Tryz.prog.info? 53).map (fun i => (i.zero, i.size, i.bytes)) = some (some (.agg #[(.string ⟨#[]⟩), (.string ⟨#[]⟩), (.string ⟨#[]⟩), (.string ⟨#[]⟩), (.int .i64 0), (.int .i64 0), (.bool false), (.int .i64 0), (.bool false)]), 9, 104) := by kernel_rfl
theorem info119 : (Tryz.prog.info? 119).map (fun i => (i.zero, i.size, i.bytes)) = some (some (.agg #[(.string ⟨#[]⟩), (.string ⟨#[]⟩)]), 2, 32) := by kernel_rfl
-- the values' own types
/-! #### struct type 119 -/
structure S119 where
  f0 : ByteArray
  f1 : ByteArray
def z119 : S119 := ⟨(⟨#[]⟩ : ByteArray), (⟨#[]⟩ : ByteArray)⟩
def k119 : Kd S119 := Kd.iso (Kd.pair Kd.string Kd.string) (fun x : S119 => (x.f0, x.f1))
theorem k119_open {w : World} {x : S119} {cs : List Value} (h : k119.K w x cs) : cs = [.string x.f0, .string x.f1] := by
  obtain ⟨_, _, rfl, rfl, rfl⟩ := h
  exact rfl
theorem k119_openM {w : World} {base : Nat} {ok : Nat → Prop} {x : S119} {cs : List Value} (h : k119.M w base ok x cs) : cs = [.string x.f0, .string x.f1] := by
  obtain ⟨_, _, rfl, rfl, rfl⟩ := h
  exact rfl
theorem k119_mk (w : World) (x : S119)  : k119.K w x [.string x.f0, .string x.f1] := ⟨[.string x.f0], [.string x.f1], rfl, rfl, rfl⟩
theorem k119_mkM (w : World) (base : Nat) (ok : Nat → Prop) (x : S119)  : k119.M w base ok x [.string x.f0, .string x.f1] := ⟨[.string x.f0], [.string x.f1], rfl, rfl, rfl⟩
def qk (xs : List S119) (i : Int) : S119 := xs.getD i.toNat z119
theorem at_T119 {w : World} {A : Option Addr} {n : Nat} {xs : List S119} (h : Kd.C k119 w A n xs) (i : Int) (h0 : 0 ≤ i) (h1 : i < n) : ∃ ad , A = some ad ∧ w.cell? (ad.add (i.toNat * 2)) = some (.string (qk xs i).f0) ∧ w.cell? ⟨(ad.add (i.toNat * 2)).block, (ad.add (i.toNat * 2)).off + 1, none⟩ = some (.string (qk xs i).f1) := by
  obtain ⟨ad, c, e, _, hK, hc0⟩ := Kd.C_get h z119 i h0 h1
  have hc : ∀ j u, c[j]? = some u → w.cell? (ad.add (i.toNat * 2 + j)) = some u := hc0
  obtain rfl := k119_open hK
  exact ⟨ad, e, hc 0 _ rfl, by rw [← add_field _ _ 1 (by omega)]; exact hc 1 _ rfl⟩

def rd_L2 (xs : List (List S119)) (i : Int) : (List S119) := xs.getD i.toNat ([] : List S119)
theorem at_L2 {w : World} {A : Option Addr} {n : Nat} {xs : List (List S119)} (h : Kd.C (Kd.slice 119 k119) w A n xs) (i : Int) (h0 : 0 ≤ i) (h1 : i < n) : ∃ ad A0 c0, A = some ad ∧ w.cell? (ad.add i.toNat) = some (.slice A0 (rd_L2 xs i).length c0) ∧ (rd_L2 xs i).length ≤ c0 ∧ k119.C w A0 (rd_L2 xs i).length (rd_L2 xs i) := by
  obtain ⟨ad, c, e, _, hK, hc0⟩ := Kd.C_get h ([] : List S119) i h0 h1
  have hc : ∀ j u, c[j]? = some u → w.cell? (ad.add (i.toNat * 1 + j)) = some u := hc0
  obtain ⟨A0, c0, rfl, l0, g0⟩ := hK
  exact ⟨ad, A0, c0, e, Z137, l0, g0⟩

/-! #### struct type 110 -/
structure S110 where
  f0 : ByteArray
  f1 : (List S119)
def z110 : S110 := ⟨(⟨#[]⟩ : ByteArray), ([] : List S119)⟩
def k110 : Kd S110 := Kd.iso (Kd.pair Kd.string (Kd.slice 119 k119)) (fun x : S110 => (x.f0, x.f1))
theorem k110_open {w : World} {x : S110} {cs : List Value} (h : k110.K w x cs) : ∃ A1 c1, cs = [.string x.f0, .slice A1 x.f1.length c1] ∧ x.f1.length ≤ c1 ∧ k119.C w A1 x.f1.length x.f1 := by
  obtain ⟨_, _, rfl, rfl, ⟨A1, c1, rfl, l1, g1⟩⟩ := h
  exact ⟨A1, c1, rfl, l1, g1⟩
theorem k110_openM {w : World} {base : Nat} {ok : Nat → Prop} {x : S110} {cs : List Value} (h : k110.M w base ok x cs) : ∃ v1, cs = [.string x.f0, v1] ∧ k119.R 119 w base ok v1 x.f1 := by
  obtain ⟨_, _, rfl, rfl, ⟨v1, rfl, g1⟩⟩ := h
  exact ⟨v1, rfl, g1⟩
theorem k110_mk (w : World) (x : S110) {A1 : Option Addr} {c1 : Nat} (l1 : x.f1.length ≤ c1) (g1 : k119.C w A1 x.f1.length x.f1) : k110.K w x [.string x.f0, .slice A1 x.f1.length c1] := ⟨[.string x.f0], [.slice A1 x.f1.length c1], rfl, rfl, ⟨A1, c1, rfl, l1, g1⟩⟩
theorem k110_mkM (w : World) (base : Nat) (ok : Nat → Prop) (x : S110) {v1 : Value} (g1 : k119.R 119 w base ok v1 x.f1) : k110.M w base ok x [.string x.f0, v1] := ⟨[.string x.f0], [v1], rfl, rfl, ⟨v1, rfl, g1⟩⟩
def qf (xs : List S110) (i : Int) : S110 := xs.getD i.toNat z110
theorem at_T110 {w : World} {A : Option Addr} {n : Nat} {xs : List S110} (h : Kd.C k110 w A n xs) (i : Int) (h0 : 0 ≤ i) (h1 : i < n) : ∃ ad A1 c1, A = some ad ∧ w.cell? (ad.add (i.toNat * 2)) = some (.string (qf xs i).f0) ∧ w.cell? ⟨(ad.add (i.toNat * 2)).block, (ad.add (i.toNat * 2)).off + 1, none⟩ = some (.slice A1 (qf xs i).f1.length c1) ∧ (qf xs i).f1.length ≤ c1 ∧ k119.C w A1 (qf xs i).f1.length (qf xs i).f1 := by
  obtain ⟨ad, c, e, _, hK, hc0⟩ := Kd.C_get h z110 i h0 h1
  have hc : ∀ j u, c[j]? = some u → w.cell? (ad.add (i.toNat * 2 + j)) = some u := hc0
  obtain ⟨A1, c1, rfl, l1, g1⟩ := k110_open hK
  exact ⟨ad, A1, c1, e, hc 0 _ rfl, by rw [← add_field _ _ 1 (by omega)]; exact hc 1 _ rfl, l1, g1⟩

/-! #### struct type 53 -/
structure S53 where
  f0 : ByteArray
  f1 : ByteArray
  f2 : ByteArray
  f3 : ByteArray
  f4 : Int
  f5 : Int
  f6 : Bool
  f7 : Int
  f8 : Bool
def z53 : S53 := ⟨(⟨#[]⟩ : ByteArray), (⟨#[]⟩ : ByteArray), (⟨#[]⟩ : ByteArray), (⟨#[]⟩ : ByteArray), (0 : Int), (0 : Int), false, (0 : Int), false⟩
def k53 : Kd S53 := Kd.iso (Kd.pair Kd.string (Kd.pair Kd.string (Kd.pair Kd.string (Kd.pair Kd.string (Kd.pair (Kd.int .i64) (Kd.pair (Kd.int .i64) (Kd.pair Kd.bool (Kd.pair (Kd.int .i64) Kd.bool)))))))) (fun x : S53 => (x.f0, x.f1, x.f2, x.f3, x.f4, x.f5, x.f6, x.f7, x.f8))
theorem k53_open {w : World} {x : S53} {cs : List Value} (h : k53.K w x cs) : cs = [.string x.f0, .string x.f1, .string x.f2, .string x.f3, .int .i64 x.f4, .int .i64 x.f5, .bool x.f6, .int .i64 x.f7, .bool x.f8] := by
  obtain ⟨_, _, rfl, rfl, ⟨_, _, rfl, rfl, ⟨_, _, rfl, rfl, ⟨_, _, rfl, rfl, ⟨_, _, rfl, rfl, ⟨_, _, rfl, rfl, ⟨_, _, rfl, rfl, ⟨_, _, rfl, rfl, rfl⟩⟩⟩⟩⟩⟩⟩⟩ := h
  exact rfl
theorem k53_openM {w : World} {base : Nat} {ok : Nat → Prop} {x : S53} {cs : List Value} (h : k53.M w base ok x cs) : cs = [.string x.f0, .string x.f1, .string x.f2, .string x.f3, .int .i64 x.f4, .int .i64 x.f5, .bool x.f6, .int .i64 x.f7, .bool x.f8] := by
  obtain ⟨_, _, rfl, rfl, ⟨_, _, rfl, rfl, ⟨_, _, rfl, rfl, ⟨_, _, rfl, rfl, ⟨_, _, rfl, rfl, ⟨_, _, rfl, rfl, ⟨_, _, rfl, rfl, ⟨_, _, rfl, rfl, rfl⟩⟩⟩⟩⟩⟩⟩⟩ := h
  exact rfl
theorem k53_mk (w : World) (x : S53)  : k53.K w x [.string x.f0, .string x.f1, .string x.f2, .string x.f3, .int .i64 x.f4, .int .i64 x.f5, .bool x.f6, .int .i64 x.f7, .bool x.f8] := ⟨[.string x.f0], [.string x.f1, .string x.f2, .string x.f3, .int .i64 x.f4, .int .i64 x.f5, .bool x.f6, .int .i64 x.f7, .bool x.f8], rfl, rfl, ⟨[.string x.f1], [.string x.f2, .string x.f3, .int .i64 x.f4, .int .i64 x.f5, .bool x.f6, .int .i64 x.f7, .bool x.f8], rfl, rfl, ⟨[.string x.f2], [.string x.f3, .int .i64 x.f4, .int .i64 x.f5, .bool x.f6, .int .i64 x.f7, .bool x.f8], rfl, rfl, ⟨[.string x.f3], [.int .i64 x.f4, .int .i64 x.f5, .bool x.f6, .int .i64 x.f7, .bool x.f8], rfl, rfl, ⟨[.int .i64 x.f4], [.int .i64 x.f5, .bool x.f6, .int .i64 x.f7, .bool x.f8], rfl, rfl, ⟨[.int .i64 x.f5], [.bool x.f6, .int .i64 x.f7, .bool x.f8], rfl, rfl, ⟨[.bool x.f6], [.int .i64 x.f7, .bool x.f8], rfl, rfl, ⟨[.int .i64 x.f7], [.bool x.f8], rfl, rfl, rfl⟩⟩⟩⟩⟩⟩⟩⟩
theorem k53_mkM (w : World) (base : Nat) (ok : Nat → Prop) (x : S53)  : k53.M w base ok x [.string x.f0, .string x.f1, .string x.f2, .string x.f3, .int .i64 x.f4, .int .i64 x.f5, .bool x.f6, .int .i64 x.f7, .bool x.f8] := ⟨[.string x.f0], [.string x.f1, .string x.f2, .string x.f3, .int .i64 x.f4, .int .i64 x.f5, .bool x.f6, .int .i64 x.f7, .bool x.f8], rfl, rfl, ⟨[.string x.f1], [.string x.f2, .string x.f3, .int .i64 x.f4, .int .i64 x.f5, .bool x.f6, .int .i64 x.f7, .bool x.f8], rfl, rfl, ⟨[.string x.f2], [.string x.f3, .int .i64 x.f4, .int .i64 x.f5, .bool x.f6, .int .i64 x.f7, .bool x.f8], rfl, rfl, ⟨[.string x.f3], [.int .i64 x.f4, .int .i64 x.f5, .bool x.f6, .int .i64 x.f7, .bool x.f8], rfl, rfl, ⟨[.int .i64 x.f4], [.int .i64 x.f5, .bool x.f6, .int .i64 x.f7, .bool x.f8], rfl, rfl, ⟨[.int .i64 x.f5], [.bool x.f6, .int .i64 x.f7, .bool x.f8], rfl, rfl, ⟨[.bool x.f6], [.int .i64 x.f7, .bool x.f8], rfl, rfl, ⟨[.int .i64 x.f7], [.bool x.f8], rfl, rfl, rfl⟩⟩⟩⟩⟩⟩⟩⟩
def qa (xs : List S53) (i : Int) : S53 := xs.getD i.toNat z53
theorem at_T53 {w : World} {A : Option Addr} {n : Nat} {xs : List S53} (h : Kd.C k53 w A n xs) (i : Int) (h0 : 0 ≤ i) (h1 : i < n) : ∃ ad , A = some ad ∧ w.cell? (ad.add (i.toNat * 9)) = some (.string (qa xs i).f0) ∧ w.cell? ⟨(ad.add (i.toNat * 9)).block, (ad.add (i.toNat * 9)).off + 1, none⟩ = some (.string (qa xs i).f1) ∧ w.cell? ⟨(ad.add (i.toNat * 9)).block, (ad.add (i.toNat * 9)).off + 2, none⟩ = some (.string (qa xs i).f2) ∧ w.cell? ⟨(ad.add (i.toNat * 9)).block, (ad.add (i.toNat * 9)).off + 3, none⟩ = some (.string (qa xs i).f3) ∧ w.cell? ⟨(ad.add (i.toNat * 9)).block, (ad.add (i.toNat * 9)).off + 4, none⟩ = some (.int .i64 (qa xs i).f4) ∧ w.cell? ⟨(ad.add (i.toNat * 9)).block, (ad.add (i.toNat * 9)).off + 5, none⟩ = some (.int .i64 (qa xs i).f5) ∧ w.cell? ⟨(ad.add (i.toNat * 9)).block, (ad.add (i.toNat * 9)).off + 6, none⟩ = some (.bool (qa xs i).f6) ∧ w.cell? ⟨(ad.add (i.toNat * 9)).block, (ad.add (i.toNat * 9)).off + 7, none⟩ = some (.int .i64 (qa xs i).f7) ∧ w.cell? ⟨(ad.add (i.toNat * 9)).block, (ad.add (i.toNat * 9)).off + 8, none⟩ = some (.bool (qa xs i).f8) := by
  obtain ⟨ad, c, e, _, hK, hc0⟩ := Kd.C_get h z53 i h0 h1
  have hc : ∀ j u, c[j]? = some u → w.cell? (ad.add (i.toNat * 9 + j)) = some u := hc0
  obtain rfl := k53_open hK
  exact ⟨ad, e, hc 0 _ rfl, by rw [← add_field _ _ 1 (by omega)]; exact hc 1 _ rfl, by rw [← add_field _ _ 2 (by omega)]; exact hc 2 _ rfl, by rw [← add_field _ _ 3 (by omega)]; exact hc 3 _ rfl, by rw [← add_field _ _ 4 (by omega)]; exact hc 4 _ rfl, by rw [← add_field _ _ 5 (by omega)]; exact hc 5 _ rfl, by rw [← add_field _ _ 6 (by omega)]; exact hc 6 _ rfl, by rw [← add_field _ _ 7 (by omega)]; exact hc 7 _ rfl, by rw [← add_field _ _ 8 (by omega)]; exact hc 8 _ rfl⟩

def rd_L7 (xs : List (List Int)) (i : Int) : (List Int) := xs.getD i.toNat ([] : List Int)
theorem at_L7 {w : World} {A : Option Addr} {n : Nat} {xs : List (List Int)} (h : Kd.C (Kd.slice 3 (Kd.int .i64)) w A n xs) (i : Int) (h0 : 0 ≤ i) (h1 : i < n) : ∃ ad A0 c0, A = some ad ∧ w.cell? (ad.add i.toNat) = some (.slice A0 (rd_L7 xs i).length c0) ∧ (rd_L7 xs i).length ≤ c0 ∧ (Kd.int .i64).C w A0 (rd_L7 xs i).length (rd_L7 xs i) := by
  obtain ⟨ad, c, e, _, hK, hc0⟩ := Kd.C_get h ([] : List Int) i h0 h1
  have hc : ∀ j u, c[j]? = some u → w.cell? (ad.add (i.toNat * 1 + j)) = some u := hc0
  obtain ⟨A0, c0, rfl, l0, g0⟩ := hK
  exact ⟨ad, A0, c0, e, Z137, l0, g0⟩

def rd_L8 (xs : List (List ByteArray)) (i : Int) : (List ByteArray) := xs.getD i.toNat ([] : List ByteArray)
theorem at_L8 {w : World} {A : Option Addr} {n : Nat} {xs : List (List ByteArray)} (h : Kd.C (Kd.slice 9 Kd.string) w A n xs) (i : Int) (h0 : 0 ≤ i) (h1 : i < n) : ∃ ad A0 c0, A = some ad ∧ w.cell? (ad.add i.toNat) = some (.slice A0 (rd_L8 xs i).length c0) ∧ (rd_L8 xs i).length ≤ c0 ∧ Kd.string.C w A0 (rd_L8 xs i).length (rd_L8 xs i) := by
  obtain ⟨ad, c, e, _, hK, hc0⟩ := Kd.C_get h ([] : List ByteArray) i h0 h1
  have hc : ∀ j u, c[j]? = some u → w.cell? (ad.add (i.toNat * 1 + j)) = some u := hc0
  obtain ⟨A0, c0, rfl, l0, g0⟩ := hK
  exact ⟨ad, A0, c0, e, Z137, l0, g0⟩

def rd_L9 (xs : List (List S53)) (i : Int) : (List S53) := xs.getD i.toNat ([] : List S53)
theorem at_L9 {w : World} {A : Option Addr} {n : Nat} {xs : List (List S53)} (h : Kd.C (Kd.slice 53 k53) w A n xs) (i : Int) (h0 : 0 ≤ i) (h1 : i < n) : ∃ ad A0 c0, A = some ad ∧ w.cell? (ad.add i.toNat) = some (.slice A0 (rd_L9 xs i).length c0) ∧ (rd_L9 xs i).length ≤ c0 ∧ k53.C w A0 (rd_L9 xs i).length (rd_L9 xs i) := by
  obtain ⟨ad, c, e, _, hK, hc0⟩ := Kd.C_get h ([] : List S53) i h0 h1
  have hc : ∀ j u, c[j]? = some u → w.cell? (ad.add (i.toNat * 1 + j)) = some u := hc0
  obtain ⟨A0, c0, rfl, l0, g0⟩ := hK
  exact ⟨ad, A0, c0, e, Z137, l0, g0⟩

def rd_L10 (xs : List (List S110)) (i : Int) : (List S110) := xs.getD i.toNat ([] : List S110)
theorem at_L10 {w : World} {A : Option Addr} {n : Nat} {xs : List (List S110)} (h : Kd.C (Kd.slice 110 k110) w A n xs) (i : Int) (h0 : 0 ≤ i) (h1 : i < n) : ∃ ad A0 c0, A = some ad ∧ w.cell? (ad.add i.toNat) = some (.slice A0 (rd_L10 xs i).length c0) ∧ (rd_L10 xs i).length ≤ c0 ∧ k110.C w A0 (rd_L10 xs i).length (rd_L10 xs i) := by
  obtain ⟨ad, c, e, _, hK, hc0⟩ := Kd.C_get h ([] : List S110) i h0 h1
  have hc : ∀ j u, c[j]? = some u → w.cell? (ad.add (i.toNat * 1 + j)) = some u := hc0
  obtain ⟨A0, c0, rfl, l0, g0⟩ := hK
  exact ⟨ad, A0, c0, e, Z137, l0, g0⟩

/-! #### struct type 25 -/
structure S25 where
  f0 : ByteArray
  f1 : ByteArray
  f2 : ByteArray
  f3 : ByteArray
  f4 : Int
  f5 : Bool
def z25 : S25 := ⟨(⟨#[]⟩ : ByteArray), (⟨#[]⟩ : ByteArray), (⟨#[]⟩ : ByteArray), (⟨#[]⟩ : ByteArray), (0 : Int), false⟩
def k25 : Kd S25 := Kd.iso (Kd.pair Kd.string (Kd.pair Kd.string (Kd.pair Kd.string (Kd.pair Kd.string (Kd.pair (Kd.int .i64) Kd.bool))))) (fun x : S25 => (x.f0, x.f1, x.f2, x.f3, x.f4, x.f5))
theorem k25_open {w : World} {x : S25} {cs : List Value} (h : k25.K w x cs) : cs = [.string x.f0, .string x.f1, .string x.f2, .string x.f3, .int .i64 x.f4, .bool x.f5] := by
  obtain ⟨_, _, rfl, rfl, ⟨_, _, rfl, rfl, ⟨_, _, rfl, rfl, ⟨_, _, rfl, rfl, ⟨_, _, rfl, rfl, rfl⟩⟩⟩⟩⟩ := h
  exact rfl
theorem k25_openM {w : World} {base : Nat} {ok : Nat → Prop} {x : S25} {cs : List Value} (h : k25.M w base ok x cs) : cs = [.string x.f0, .string x.f1, .string x.f2, .string x.f3, .int .i64 x.f4, .bool x.f5] := by
  obtain ⟨_, _, rfl, rfl, ⟨_, _, rfl, rfl, ⟨_, _, rfl, rfl, ⟨_, _, rfl, rfl, ⟨_, _, rfl, rfl, rfl⟩⟩⟩⟩⟩ := h
  exact rfl
theorem k25_mk (w : World) (x : S25)  : k25.K w x [.string x.f0, .string x.f1, .string x.f2, .string x.f3, .int .i64 x.f4, .bool x.f5] := ⟨[.string x.f0], [.string x.f1, .string x.f2, .string x.f3, .int .i64 x.f4, .bool x.f5], rfl, rfl, ⟨[.string x.f1], [.string x.f2, .string x.f3, .int .i64 x.f4, .bool x.f5], rfl, rfl, ⟨[.string x.f2], [.string x.f3, .int .i64 x.f4, .bool x.f5], rfl, rfl, ⟨[.string x.f3], [.int .i64 x.f4, .bool x.f5], rfl, rfl, ⟨[.int .i64 x.f4], [.bool x.f5], rfl, rfl, rfl⟩⟩⟩⟩⟩
theorem k25_mkM (w : World) (base : Nat) (ok : Nat → Prop) (x : S25)  : k25.M w base ok x [.string x.f0, .string x.f1, .string x.f2, .string x.f3, .int .i64 x.f4, .bool x.f5] := ⟨[.string x.f0], [.string x.f1, .string x.f2, .string x.f3, .int .i64 x.f4, .bool x.f5], rfl, rfl, ⟨[.string x.f1], [.string x.f2, .string x.f3, .int .i64 x.f4, .bool x.f5], rfl, rfl, ⟨[.string x.f2], [.string x.f3, .int .i64 x.f4, .bool x.f5], rfl, rfl, ⟨[.string x.f3], [.int .i64 x.f4, .bool x.f5], rfl, rfl, ⟨[.int .i64 x.f4], [.bool x.f5], rfl, rfl, rfl⟩⟩⟩⟩⟩
def rd_T25 (xs : List S25) (i : Int) : S25 := xs.getD i.toNat z25
theorem at_T25 {w : World} {A : Option Addr} {n : Nat} {xs : List S25} (h : Kd.C k25 w A n xs) (i : Int) (h0 : 0 ≤ i) (h1 : i < n) : ∃ ad , A = some ad ∧ w.cell? (ad.add (i.toNat * 6)) = some (.string (rd_T25 xs i).f0) ∧ w.cell? ⟨(ad.add (i.toNat * 6)).block, (ad.add (i.toNat * 6)).off + 1, none⟩ = some (.string (rd_T25 xs i).f1) ∧ w.cell? ⟨(ad.add (i.toNat * 6)).block, (ad.add (i.toNat * 6)).off + 2, none⟩ = some (.string (rd_T25 xs i).f2) ∧ w.cell? ⟨(ad.add (i.toNat * 6)).block, (ad.add (i.toNat * 6)).off + 3, none⟩ = some (.string (rd_T25 xs i).f3) ∧ w.cell? ⟨(ad.add (i.toNat * 6)).block, (ad.add (i.toNat * 6)).off + 4, none⟩ = some (.int .i64 (rd_T25 xs i).f4) ∧ w.cell? ⟨(ad.add (i.toNat * 6)).block, (ad.add (i.toNat * 6)).off + 5, none⟩ = some (.bool (rd_T25 xs i).f5) := by
  obtain ⟨ad, c, e, _, hK, hc0⟩ := Kd.C_get h z25 i h0 h1
  have hc : ∀ j u, c[j]? = some u → w.cell? (ad.add (i.toNat * 6 + j)) = some u := hc0
  obtain rfl := k25_open hK
  exact ⟨ad, e, hc 0 _ rfl, by rw [← add_field _ _ 1 (by omega)]; exact hc 1 _ rfl, by rw [← add_field _ _ 2 (by omega)]; exact hc 2 _ rfl, by rw [← add_field _ _ 3 (by omega)]; exact hc 3 _ rfl, by rw [← add_field _ _ 4 (by omega)]; exact hc 4 _ rfl, by rw [← add_field _ _ 5 (by omega)]; exact hc 5 _ rfl⟩

end Go.Proofs.YtmmknokdgbgjgaaGreatDoor.XPartnerDaysMatchSpec
