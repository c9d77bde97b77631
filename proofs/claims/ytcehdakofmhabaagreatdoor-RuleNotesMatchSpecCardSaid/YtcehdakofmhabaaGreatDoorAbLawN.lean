/- The law of notes: both sides say the same. -/
import Derived.Test.YtcehdakofmhabaaGreatDoorAbRefNote
import Derived.Test.YtcehdakofmhabaaGreatDoorAbAwake
import Derived.Test.YtcehdakofmhabaaGreatDoorAbSame
namespace Go.Proofs.YtcehdakofmhabaaGreatDoor.Ab
open Go Go.Ab Go.RowKit
set_option linter.unusedVariables false
set_option linter.unusedSimpArgs false
set_option maxRecDepth 100000 in
theorem law_ret (tag : List UInt8) (k : Int) (els : List Int) (hk0 : 0 ≤ k) (hk1 : k < 256) : Ret Tryz.prog 4 [.str tag, .int .u8 k, .row 1 (els.map (.int .i64)) .no] [] (.bool true) [] := by
  have h1 := refOfNote_ret tag k els hk0 hk1
  have h2 := ofNote_ret tag k els
  have h3 := ref_same (noteR tag k els)
  generalize noteR tag k els = C at h1 h2 h3
  generalize noteF tag k els = F at h1 h2
  obtain ⟨kc, of, p, v, lo, hi⟩ := C
  refine ret_of (fn := Tryz.f4) Tryz.func4 rfl rfl (Nat.le_of_ble_eq_true rfl) rfl ?_
  refine sCall (ctx _) 200 rfl trivial (ret_frame _ h1 ⟨rfl, ⟨rfl, rfl⟩, ⟨trivial, .inr rfl, rfl⟩, trivial⟩) ?_
  refine sCall (ctx _) 200 rfl trivial (ret_frame _ h2 ⟨rfl, ⟨rfl, rfl⟩, ⟨trivial, .inr rfl, rfl⟩, trivial⟩) ?_
  refine sCall (ctx _) 200 rfl trivial (ret_frame _ h3 ⟨fits_enc 0 (.mk kc of p v lo hi), fits_enc 0 (.mk kc of p v lo hi), trivial⟩) ?_
  refine sGuard (ctx _) 200 rfl (by (repeat' (first | exact trivial | refine ⟨?_, ?_⟩ | intro _)) <;> (first | assumption | (rename_i hh; exact hh) | (rename_i hh; exact congrArg not hh) | (rename_i h1 h2; exact Bool.and_eq_true_iff.2 ⟨h1, h2⟩) | (rename_i h1 h2; exact Bool.and_eq_true_iff.2 ⟨h1, congrArg not h2⟩) | (rename_i hh; simp [gOf, hh]; done) | (simp_all [gOf]; done) | (simp_all [gOf]; omega))) (fun h => ?_) (fun h => ?_)
  · refine sCall (ctx _) 200 rfl trivial (ret_frame _ awake_ret ⟨⟩) ?_
    refine sRet (ctx _) 200 rfl (by (repeat' (first | exact trivial | refine ⟨?_, ?_⟩ | intro _)) <;> (first | assumption | (rename_i hh; exact hh) | (rename_i hh; exact congrArg not hh) | (rename_i h1 h2; exact Bool.and_eq_true_iff.2 ⟨h1, h2⟩) | (rename_i h1 h2; exact Bool.and_eq_true_iff.2 ⟨h1, congrArg not h2⟩) | (rename_i hh; simp [gOf, hh]; done) | (simp_all [gOf]; done) | (simp_all [gOf]; omega))) rfl ⟨?_, trivial⟩
    rfl
  · simp at h
end Go.Proofs.YtcehdakofmhabaaGreatDoor.Ab
