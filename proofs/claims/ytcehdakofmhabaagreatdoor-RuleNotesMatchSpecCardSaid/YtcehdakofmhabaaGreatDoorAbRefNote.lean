/- The reference's OfNote gives the same. -/
import Derived.Test.YtcehdakofmhabaaGreatDoorAbOfNote
import Derived.Test.YtcehdakofmhabaaGreatDoorAbTagEq
namespace Go.Proofs.YtcehdakofmhabaaGreatDoor.Ab
open Go Go.Ab Go.RowKit
set_option linter.unusedVariables false
set_option linter.unusedSimpArgs false
theorem digits_ret (n : Int) (h0 : -9223372036854775808 ≤ n) (h1 : n ≤ 9223372036854775807) : Ret Tryz.prog 19 [.int .i64 n] [] (.str (Lib.itoa n)) [] := by
  refine ret_of (fn := Tryz.f19) Tryz.func19 rfl rfl (Nat.le_of_ble_eq_true rfl) rfl ?_
  refine sCall (ctx _) 200 rfl trivial (ret_frame _ (itoa_ret n h0 h1) ⟨⟨rfl, rfl⟩, trivial⟩) ?_
  exact sRet (ctx _) 200 rfl trivial rfl ⟨rfl, trivial⟩
theorem zfits (C : Cond) (h : C = zeroC) : fits1 (keepN 0) (.agg zs25) (encC C) := by
  subst h
  exact ⟨⟨rfl, rfl⟩, ⟨trivial, .inl rfl, rfl⟩, rfl, ⟨trivial, .inl rfl, rfl⟩, ⟨rfl, rfl⟩, ⟨rfl, rfl⟩, trivial⟩
set_option maxRecDepth 100000 in
theorem refOfNote_ret (tag : List UInt8) (k : Int) (els : List Int) (hk0 : 0 ≤ k) (hk1 : k < 256) : Ret Tryz.prog 10 [.str tag, .int .u8 k, .row 1 (els.map (.int .i64)) .no] [] (.tuple [encC (noteR tag k els), .int .i64 (noteF tag k els)]) [] := by
  obtain ⟨F, hF⟩ : ∃ F, F = noteF tag k els := ⟨_, rfl⟩
  obtain ⟨C, hC⟩ : ∃ C, C = noteR tag k els := ⟨_, rfl⟩
  rw [← hF, ← hC]
  have hz : F ≠ 0 → C = zeroC := fun h => by rw [hC, noteR, if_neg (by rw [← hF]; exact h)]
  have hcz : ∀ D, D = zeroC → encC D = encC zeroC := fun D h => by rw [h]
  unfold noteF at hF
  refine ret_of (fn := Tryz.f10) Tryz.func10 rfl rfl (Nat.le_of_ble_eq_true rfl) rfl ?_
  refine sCall (ctx _) 200 rfl trivial (ret_frame _ (ref_isTag_ret tag) ⟨rfl, trivial⟩) ?_
  refine sSplit (ctx _) 200 rfl trivial (fun h => ?_) (fun h => ?_)
  · have h' : ruleTag tag = false := by
      have h0 : (!refTag tag) = true := h
      rw [← refTag_eq]; simpa using h0
    rw [if_pos h'] at hF
    have hCz := hz (by rw [hF]; decide)
    refine sRet (ctx _) 200 rfl trivial rfl ⟨⟨zfits C hCz, ⟨rfl, ?_⟩, trivial⟩, trivial⟩
    exact hF.symm
  have hT : ruleTag tag = true := by
    have h0 : (!refTag tag) = false := h
    rw [← refTag_eq]; simpa using h0
  have ntag := ruleTag_len hT
  clear h
  rw [if_neg (by rw [hT]; simp)] at hF
  refine sSplit (ctx _) 200 rfl ?_ (fun h => ?_) (fun h => ?_)
  · clear hF hz hC hcz hT hk0 hk1 ntag
    exact (by (repeat' (first | exact trivial | refine ⟨?_, ?_⟩ | intro _)) <;> (first | assumption | (rename_i hh; exact hh) | (rename_i hh; exact congrArg not hh) | (rename_i h1 h2; exact Bool.and_eq_true_iff.2 ⟨h1, h2⟩) | (rename_i h1 h2; exact Bool.and_eq_true_iff.2 ⟨h1, congrArg not h2⟩) | (rename_i hh; simp [gOf, hh]; done) | (simp_all [gOf]; done) | (simp_all [gOf]; omega)))
  · have h' : noteKind k = false := by
      rw [noteKind_eq k hk0 hk1]
      simp at h ⊢
      omega
    rw [if_pos h'] at hF
    have hCz := hz (by rw [hF]; decide)
    refine sRet (ctx _) 200 rfl trivial rfl ⟨⟨zfits C hCz, ⟨rfl, ?_⟩, trivial⟩, trivial⟩
    exact hF.symm
  have hN : noteKind k = true := by
    rw [noteKind_eq k hk0 hk1]
    simp at h ⊢
    omega
  clear h
  rw [if_neg (by rw [hN]; simp)] at hF
  refine sSplit (ctx _) 200 rfl trivial (fun h => ?_) (fun h => ?_)
  · have h' : els.length > 10 := by simp at h; omega
    rw [if_pos h'] at hF
    have hCz := hz (by rw [hF]; decide)
    refine sRet (ctx _) 200 rfl trivial rfl ⟨⟨zfits C hCz, ⟨rfl, ?_⟩, trivial⟩, trivial⟩
    exact hF.symm
  have n4 : ¬ els.length > 10 := by simp at h; omega
  clear h
  rw [if_neg n4] at hF
  refine sSplit (ctx _) 200 rfl trivial (fun h => ?_) (fun h => ?_)
  · have h' : els.length < 2 := by simp at h; omega
    rw [if_pos h'] at hF
    have hCz := hz (by rw [hF]; decide)
    refine sRet (ctx _) 200 rfl trivial rfl ⟨⟨zfits C hCz, ⟨rfl, ?_⟩, trivial⟩, trivial⟩
    exact hF.symm
  have n3 : ¬ els.length < 2 := by simp at h; omega
  clear h
  rw [if_neg n3] at hF
  have hF9 : F = 0 → C = noteC tag k els := fun h => by
    rw [hC, noteR, if_pos]
    unfold noteF
    rw [if_neg (by rw [hT]; simp), if_neg (by rw [hN]; simp), if_neg n4, if_neg n3, ← hF, h]
  clear hC hcz
  refine sLoop (ctx _) 200 rfl trivial ?_
  refine awp_tip 6 ?_
  refine awp_loop (α := Nat) (fun i => ⟨[(0, .str tag), (1, .int .u8 k), (2, .row 1 (els.map (.int .i64)) .no), (6, .ptr 0 0), (8, .ptr 1 0), (9, .row 6 (((els.take i).map (thereC tag)).map encC) (.own 2)), (10, .int .i64 (i : Int))],
      [.blk zs25, .blk zs25, .tip i 6]⟩) (fun i => i ≤ els.length ∧ noteL (els.take i) (els.drop i) = F) (fun i => els.length - i) 0
    ⟨Nat.zero_le _, hF.symm⟩ (fun _ _ => Nat.zero_le _) ⟨⟨rfl, ⟨rfl, rfl⟩, ⟨trivial, .inr rfl, rfl⟩, ⟨⟨rfl, Nat.le_of_ble_eq_true rfl⟩, rfl⟩, ⟨⟨rfl, Nat.le_of_ble_eq_true rfl⟩, rfl⟩, ⟨rfl, .inl rfl, rfl⟩, ⟨rfl, rfl⟩, trivial⟩,
      ⟨⟨rfl, rfl⟩, ⟨trivial, .inr rfl, rfl⟩, rfl, ⟨trivial, .inr rfl, rfl⟩, ⟨rfl, rfl⟩, ⟨rfl, rfl⟩, trivial⟩, ⟨⟨rfl, rfl⟩, ⟨trivial, .inr rfl, rfl⟩, rfl, ⟨trivial, .inr rfl, rfl⟩, ⟨rfl, rfl⟩, ⟨rfl, rfl⟩, trivial⟩, ⟨rfl, rfl⟩, trivial⟩ (fun i ⟨hi, hv⟩ IH => ?_)
  refine sSplit (ctx _) 200 rfl trivial (fun h => ?_) (fun h => ?_)
  · have h5 : i < els.length := by simp at h; omega
    clear h
    rw [List.drop_eq_getElem_cons h5, noteL] at hv
    obtain ⟨e, he⟩ : ∃ e, els[i] = e := ⟨_, rfl⟩
    have he2 : els[i]? = some e := by rw [List.getElem?_eq_getElem h5, he]
    have htk : els.take (i + 1) = els.take i ++ [e] := by rw [List.take_succ_eq_append_getElem h5, he]
    rw [he] at hv
    refine sElem (ctx _) 200 rfl (by (repeat' (first | exact trivial | refine ⟨?_, ?_⟩ | intro _)) <;> (first | assumption | (rename_i hh; exact hh) | (rename_i hh; exact congrArg not hh) | (rename_i h1 h2; exact Bool.and_eq_true_iff.2 ⟨h1, h2⟩) | (rename_i h1 h2; exact Bool.and_eq_true_iff.2 ⟨h1, congrArg not h2⟩) | (rename_i hh; simp [gOf, hh]; done) | (simp_all [gOf]; done) | (simp_all [gOf]; omega))) (Int.natCast_nonneg _) (.int .i64 e) (by simp [he2]) ?_
    refine sCall (ctx _) 200 rfl trivial (ret_frame _ (within_ret e 1 50) ⟨⟨rfl, rfl⟩, ⟨rfl, rfl⟩, ⟨rfl, rfl⟩, trivial⟩) ?_
    refine sSplit (ctx _) 200 rfl trivial (fun h => ?_) (fun h => ?_)
    · have h' : e < 1 ∨ e > 50 := by simp at h; omega
      rw [if_pos h'] at hv
      have hCz := hz (by rw [← hv]; decide)
      refine sRet (ctx _) 200 rfl trivial rfl ⟨⟨zfits C hCz, ⟨rfl, ?_⟩, trivial⟩, trivial⟩
      exact hv
    have hb : 1 ≤ e ∧ e ≤ 50 := by simp at h; omega
    clear h
    rw [if_neg (by omega)] at hv
    have hil := Lib.itoa_length_le e (by omega) (by omega)
    refine sLoop (ctx _) 200 rfl trivial ?_
    refine awp_loop (α := Nat) (fun j => ⟨[(0, .str tag), (1, .int .u8 k), (2, .row 1 (els.map (.int .i64)) .no), (6, .ptr 0 0), (8, .ptr 1 0), (9, .row 6 (((els.take i).map (thereC tag)).map encC) (.own 2)), (10, .int .i64 (i : Int)), (11, .int .i64 (j : Int))],
        [.blk zs25, .blk zs25, .tip i 6]⟩) (fun j => j ≤ i ∧ (els.take j).contains e = false) (fun j => i - j) 0
      ⟨Nat.zero_le _, rfl⟩ (fun _ _ => Nat.zero_le _) ⟨⟨rfl, ⟨rfl, rfl⟩, ⟨trivial, .inr rfl, rfl⟩, ⟨⟨rfl, Nat.le_of_ble_eq_true rfl⟩, rfl⟩, ⟨⟨rfl, Nat.le_of_ble_eq_true rfl⟩, rfl⟩, ⟨⟨rfl, Nat.le_of_ble_eq_true rfl⟩, .inr rfl, rfl⟩, ⟨rfl, rfl⟩, ⟨rfl, rfl⟩, trivial⟩,
        ⟨⟨rfl, rfl⟩, ⟨trivial, .inr rfl, rfl⟩, rfl, ⟨trivial, .inr rfl, rfl⟩, ⟨rfl, rfl⟩, ⟨rfl, rfl⟩, trivial⟩, ⟨⟨rfl, rfl⟩, ⟨trivial, .inr rfl, rfl⟩, rfl, ⟨trivial, .inr rfl, rfl⟩, ⟨rfl, rfl⟩, ⟨rfl, rfl⟩, trivial⟩, ⟨rfl, rfl⟩, trivial⟩ (fun j ⟨hj, hc⟩ IH2 => ?_)
    refine sSplit (ctx _) 200 rfl trivial (fun h => ?_) (fun h => ?_)
    · have h6 : j < i := by simp at h; omega
      clear h
      obtain ⟨g, hg⟩ : ∃ g, els[j]? = some g := ⟨_, List.getElem?_eq_getElem (by omega)⟩
      have htj : els.take (j + 1) = els.take j ++ [g] := by
        rw [List.take_succ_eq_append_getElem (by omega)]
        rw [List.getElem?_eq_getElem (by omega)] at hg
        rw [Option.some.inj hg]
      refine sDraws (ctx _) mix 100 rfl trivial (by decide) ?_
      refine dElem 100 rfl trivial (Int.natCast_nonneg _) (.int .i64 g) (by simp [hg]) ?_
      refine dElem 100 rfl trivial (Int.natCast_nonneg _) (.int .i64 e) (by simp [he2]) ?_
      refine dDone 100 rfl trivial ?_
      refine sSplit (ctx _) 200 rfl trivial (fun h => ?_) (fun h => ?_)
      · have hge : g = e := by simpa using h
        have hmem : e ∈ els.take i := by
          rw [← hge]
          exact List.mem_of_getElem? (i := j) (by rw [List.getElem?_take, if_pos h6]; exact hg)
        rw [if_pos (by simpa using hmem)] at hv
        have hCz := hz (by rw [← hv]; decide)
        refine sRet (ctx _) 200 rfl trivial rfl ⟨⟨zfits C hCz, ⟨rfl, ?_⟩, trivial⟩, trivial⟩
        exact hv
      have hge : ¬ g = e := by simpa using h
      clear h
      refine sBack (ctx _) 200 rfl trivial ?_
      refine IH2 (j + 1) _ ⟨by omega, ?_⟩ (by omega) ⟨⟨rfl, ⟨rfl, rfl⟩, ⟨trivial, .inr rfl, rfl⟩, ⟨⟨rfl, Nat.le_of_ble_eq_true rfl⟩, rfl⟩, ⟨⟨rfl, Nat.le_of_ble_eq_true rfl⟩, rfl⟩, ⟨⟨rfl, Nat.le_of_ble_eq_true rfl⟩, .inr rfl, rfl⟩, ⟨rfl, rfl⟩, ⟨rfl, ?_⟩, trivial⟩,
        ⟨⟨rfl, rfl⟩, ⟨trivial, .inr rfl, rfl⟩, rfl, ⟨trivial, .inr rfl, rfl⟩, ⟨rfl, rfl⟩, ⟨rfl, rfl⟩, trivial⟩, ⟨⟨rfl, rfl⟩, ⟨trivial, .inr rfl, rfl⟩, rfl, ⟨trivial, .inr rfl, rfl⟩, ⟨rfl, rfl⟩, ⟨rfl, rfl⟩, trivial⟩, ⟨rfl, rfl⟩, trivial⟩
      · rw [htj]
        simp only [List.contains_eq_mem, List.mem_append, List.mem_singleton, decide_eq_false_iff_not, not_or] at hc ⊢
        exact ⟨hc, fun h => hge h.symm⟩
      · exact wrap_id (by omega) (by omega)
    · have h6 : j = i := by simp at h; omega
      subst h6
      clear h IH2
      rw [hc, if_neg (by simp)] at hv
      refine sElem (ctx _) 200 rfl ⟨trivial, (show tag.length + 1 ≤ big by simp only [big]; omega)⟩ (Int.natCast_nonneg _) (.int .i64 e) (by simp [he2]) ?_
      refine sCall (ctx _) 200 rfl ?_ (ret_frame _ (digits_ret e (by omega) (by omega)) ⟨⟨rfl, rfl⟩, trivial⟩) ?_
      · exact trivial
      refine sHalt (ctx _) 2 rfl ?_ ?_
      · exact ⟨trivial, by show (tag ++ [46]).length + (Lib.itoa e).length ≤ big; simp only [big, List.length_append, List.length_singleton]; omega⟩
      have hl : (((els.take j).map (thereC tag)).map encC).length = j := by simp; omega
      refine awp_weaken (s := ⟨[(0, .str tag), (1, .int .u8 k), (2, .row 1 (els.map (.int .i64)) .no), (6, .ptr 0 0), (8, .ptr 1 0), (10, .int .i64 (j : Int)),
        (75, .row 6 (((els.take j).map (thereC tag)).map encC) (.own 2)), (84, encC (thereC tag e))], [.blk zs25, .blk zs25, .tip j 6]⟩)
        ⟨⟨rfl, ⟨rfl, rfl⟩, ⟨trivial, .inr rfl, rfl⟩, ⟨⟨rfl, Nat.le_of_ble_eq_true rfl⟩, rfl⟩, ⟨⟨rfl, Nat.le_of_ble_eq_true rfl⟩, rfl⟩, ⟨rfl, rfl⟩, ⟨⟨rfl, Nat.le_of_ble_eq_true rfl⟩, .inr rfl, rfl⟩, ⟨⟨rfl, rfl⟩, ⟨trivial, .inl rfl, rfl⟩, rfl, ⟨trivial, .inl rfl, rfl⟩, ⟨rfl, rfl⟩, ⟨rfl, rfl⟩, trivial⟩, trivial⟩,
          ⟨⟨rfl, rfl⟩, ⟨trivial, .inr rfl, rfl⟩, rfl, ⟨trivial, .inr rfl, rfl⟩, ⟨rfl, rfl⟩, ⟨rfl, rfl⟩, trivial⟩, ⟨⟨rfl, rfl⟩, ⟨trivial, .inr rfl, rfl⟩, rfl, ⟨trivial, .inr rfl, rfl⟩, ⟨rfl, rfl⟩, ⟨rfl, rfl⟩, trivial⟩, ⟨rfl, rfl⟩, trivial⟩ (Nat.zero_le _) ?_
      refine sBack (ctx _) 200 rfl ?_ ?_
      · rw [hl]; exact ⟨trivial, rfl, show (j + 1) * 88 ≤ 140737488355328 by omega⟩
      refine IH (j + 1) _ ⟨by omega, by rw [htk]; exact hv⟩ (by omega) ⟨⟨rfl, ⟨rfl, rfl⟩, ⟨trivial, .inr rfl, rfl⟩, ⟨⟨rfl, Nat.le_of_ble_eq_true rfl⟩, rfl⟩, ⟨⟨rfl, Nat.le_of_ble_eq_true rfl⟩, rfl⟩, ⟨⟨rfl, Nat.le_of_ble_eq_true rfl⟩, .inr rfl, ?_⟩, ⟨rfl, ?_⟩, trivial⟩,
          ⟨⟨rfl, rfl⟩, ⟨trivial, .inr rfl, rfl⟩, rfl, ⟨trivial, .inr rfl, rfl⟩, ⟨rfl, rfl⟩, ⟨rfl, rfl⟩, trivial⟩, ⟨⟨rfl, rfl⟩, ⟨trivial, .inr rfl, rfl⟩, rfl, ⟨trivial, .inr rfl, rfl⟩, ⟨rfl, rfl⟩, ⟨rfl, rfl⟩, trivial⟩, ⟨?_, rfl⟩, trivial⟩
      · rw [htk, List.map_append, List.map_append]
        rfl
      · exact wrap_id (by omega) (by omega)
      · rw [hl]; rfl
  · have h5 : i = els.length := by simp at h; omega
    subst h5
    clear IH h hi
    rw [List.drop_length, noteL] at hv
    have hF0 : F = 0 := hv.symm
    have hC' := hF9 hF0
    subst hF0
    have hL : (els.map (thereC tag)).length = els.length := by simp
    unfold noteC at hC'
    simp only at hC'
    generalize hLL : els.map (thereC tag) = L at hL hC' ⊢
    refine awp_weaken (s := ⟨[(1, .int .u8 k), (6, .ptr 0 0), (9, .row 6 (L.map encC) .no)], [.blk zs25]⟩) ⟨⟨⟨rfl, rfl⟩, ⟨⟨rfl, Nat.le_of_ble_eq_true rfl⟩, rfl⟩, ⟨trivial, .inr rfl, ?_⟩, trivial⟩, ⟨⟨rfl, rfl⟩, ⟨trivial, .inr rfl, rfl⟩, rfl, ⟨trivial, .inr rfl, rfl⟩, ⟨rfl, rfl⟩, ⟨rfl, rfl⟩, trivial⟩, trivial⟩ (Nat.zero_le _) ?_
    · rw [List.take_length, hLL]
    refine sSplit (ctx _) 200 rfl trivial (fun h => ?_) (fun h => ?_)
    · have hk : k = 80 := by simpa using h
      rw [if_pos hk] at hC'
      subst hC'
      refine sCall (ctx _) 200 rfl trivial (ret_frame _ (ref_all_ret L) ⟨⟨trivial, .inr rfl, rfl⟩, trivial⟩) ?_
      refine sCall (ctx _) 200 rfl trivial (ret_frame _ (ref_some_ret L) ⟨⟨trivial, .inr rfl, rfl⟩, trivial⟩) ?_
      refine sCall (ctx _) 200 rfl trivial (ret_frame _ (ref_not_ret (anyC L)) ⟨fits_enc 0 (anyC L), trivial⟩) ?_
      refine sCall (ctx _) 200 rfl trivial (ret_frame _ (ref_some_ret [allC L, notC (anyC L)]) ⟨⟨trivial, .inr rfl, rfl⟩, trivial⟩) ?_
      refine sRet (ctx _) 200 rfl trivial rfl ⟨⟨fits_enc1 _ (anyC [allC L, notC (anyC L)]), ⟨rfl, rfl⟩, trivial⟩, trivial⟩
    have hk80 : k ≠ 80 := by simpa using h
    rw [if_neg hk80] at hC'
    refine sSplit (ctx _) 200 rfl trivial (fun h2 => ?_) (fun h2 => ?_)
    · have hk : k = 82 := by simpa using h2
      rw [if_neg (by omega), if_neg (by omega), if_neg (by omega)] at hC'
      subst hC'
      refine sCall (ctx _) 200 rfl trivial (ret_frame _ (ref_some_ret L) ⟨⟨trivial, .inr rfl, rfl⟩, trivial⟩) ?_
      refine sRet (ctx _) 200 rfl trivial rfl ⟨⟨fits_enc1 _ (anyC L), ⟨rfl, rfl⟩, trivial⟩, trivial⟩
    have hk82 : k ≠ 82 := by simpa using h2
    have h0 : 0 < L.length := by omega
    refine sSplit (ctx _) 200 rfl trivial (fun h3 => ?_) (fun h3 => ?_)
    · have hk : k = 67 := by simpa using h3
      rw [if_neg (by omega), if_pos hk] at hC'
      have hx0 : L[0]? = some (L.getD 0 zeroC) := by simp [List.getD, h0]
      generalize L.getD 0 zeroC = c0 at hx0 hC'
      subst hC'
      refine sDraws (ctx _) mix 100 rfl trivial (by decide) ?_
      refine dElem 100 rfl trivial (by decide) (encC c0) (by simp [hx0]) ?_
      obtain ⟨k0, of0, p0, v0, lo0, hi0⟩ := c0
      refine dCall 100 rfl trivial (fun H => ret_frame H (ref_not_ret (.mk k0 of0 p0 v0 lo0 hi0)) ⟨fits_enc 0 (.mk k0 of0 p0 v0 lo0 hi0), trivial⟩) ?_
      refine dCall 100 rfl ?_ (fun H => ret_frame H (ref_all_ret (L.drop 1)) ⟨⟨trivial, .inr rfl, ?_⟩, trivial⟩) ?_
      · exact ⟨trivial, by decide, by simp; omega, Int.le_refl _⟩
      · show List.drop 1 (List.take ((L.map encC).length : Int).toNat (L.map encC)) = _
        rw [Int.toNat_natCast, List.take_length, List.map_drop]
      refine dCall 100 rfl trivial (fun H => ret_frame H (ref_some_ret [notC (.mk k0 of0 p0 v0 lo0 hi0), allC (L.drop 1)]) ⟨⟨trivial, .inr rfl, rfl⟩, trivial⟩) ?_
      refine dDone 100 rfl trivial ?_
      refine sRet (ctx _) 200 rfl trivial rfl ⟨⟨fits_enc1 _ (anyC [notC (.mk k0 of0 p0 v0 lo0 hi0), allC (L.drop 1)]), ⟨rfl, rfl⟩, trivial⟩, trivial⟩
    have hk67 : k ≠ 67 := by simpa using h3
    refine sSplit (ctx _) 200 rfl trivial (fun h4 => ?_) (fun h4 => ?_)
    · have hk : k = 76 := by simpa using h4
      rw [if_neg (by omega), if_neg (by omega), if_pos hk] at hC'
      have hx0 : L[0]? = some (L.getD 0 zeroC) := by simp [List.getD, h0]
      generalize L.getD 0 zeroC = c0 at hx0 hC'
      subst hC'
      refine sDraws (ctx _) mix 100 rfl trivial (by decide) ?_
      refine dElem 100 rfl trivial (by decide) (encC c0) (by simp [hx0]) ?_
      obtain ⟨k0, of0, p0, v0, lo0, hi0⟩ := c0
      refine dCall 100 rfl trivial (fun H => ret_frame H (ref_not_ret (.mk k0 of0 p0 v0 lo0 hi0)) ⟨fits_enc 0 (.mk k0 of0 p0 v0 lo0 hi0), trivial⟩) ?_
      refine dCall 100 rfl ?_ (fun H => ret_frame H (ref_some_ret (L.drop 1)) ⟨⟨trivial, .inr rfl, ?_⟩, trivial⟩) ?_
      · exact ⟨trivial, by decide, by simp; omega, Int.le_refl _⟩
      · show List.drop 1 (List.take ((L.map encC).length : Int).toNat (L.map encC)) = _
        rw [Int.toNat_natCast, List.take_length, List.map_drop]
      refine dCall 100 rfl trivial (fun H => ret_frame H (ref_some_ret [notC (.mk k0 of0 p0 v0 lo0 hi0), anyC (L.drop 1)]) ⟨⟨trivial, .inr rfl, rfl⟩, trivial⟩) ?_
      refine dDone 100 rfl trivial ?_
      refine sRet (ctx _) 200 rfl trivial rfl ⟨⟨fits_enc1 _ (anyC [notC (.mk k0 of0 p0 v0 lo0 hi0), anyC (L.drop 1)]), ⟨rfl, rfl⟩, trivial⟩, trivial⟩
    have hk76 : k ≠ 76 := by simpa using h4
    have hk : k = 69 := by
      rw [noteKind_eq k hk0 hk1] at hN
      simp only [Bool.or_eq_true, beq_iff_eq] at hN
      omega
    rw [if_pos hk] at hC'
    subst hC'
    refine awp_weaken (s := ⟨[(6, .ptr 0 0), (9, .row 6 (L.map encC) .no)], [.blk zs25]⟩) ⟨⟨⟨⟨rfl, Nat.le_of_ble_eq_true rfl⟩, rfl⟩, ⟨trivial, .inr rfl, rfl⟩, trivial⟩, ⟨⟨rfl, rfl⟩, ⟨trivial, .inr rfl, rfl⟩, rfl, ⟨trivial, .inr rfl, rfl⟩, ⟨rfl, rfl⟩, ⟨rfl, rfl⟩, trivial⟩, trivial⟩ (Nat.zero_le _) ?_
    refine sLoop (ctx _) 200 rfl trivial ?_
    refine awp_tip 6 ?_
    refine awp_loop (α := Nat) (fun i => ⟨[(6, .ptr 0 0), (9, .row 6 (L.map encC) .no), (12, .row 6 ((prs L i).map encC) (.own 1)), (13, .int .i64 (i : Int))],
        [.blk zs25, .tip (prs L i).length 6]⟩) (fun i => i ≤ L.length) (fun i => L.length - i) 0
      (Nat.zero_le _) (fun _ _ => Nat.zero_le _) ⟨⟨⟨⟨rfl, Nat.le_of_ble_eq_true rfl⟩, rfl⟩, ⟨trivial, .inr rfl, rfl⟩, ⟨rfl, .inl rfl, rfl⟩, ⟨rfl, rfl⟩, trivial⟩,
        ⟨⟨rfl, rfl⟩, ⟨trivial, .inr rfl, rfl⟩, rfl, ⟨trivial, .inr rfl, rfl⟩, ⟨rfl, rfl⟩, ⟨rfl, rfl⟩, trivial⟩, ⟨rfl, rfl⟩, trivial⟩ (fun i hi IH => ?_)
    refine sSplit (ctx _) 200 rfl trivial (fun h5 => ?_) (fun h5 => ?_)
    · have h6 : i < L.length := by simp at h5; omega
      clear h5
      have hpl := prs_len L i
      have hpl2 : i * L.length ≤ 10 * L.length := Nat.mul_le_mul_right _ (by omega)
      obtain ⟨a, ha⟩ : ∃ a, L[i]? = some a := ⟨_, List.getElem?_eq_getElem h6⟩
      have hag : L.getD i zeroC = a := by simp [List.getD, ha]
      have hw1 : IntKind.i64.wrap ((i : Int) + 1) = ((i + 1 : Nat) : Int) := wrap_id (by omega) (by omega)
      obtain ⟨f, hf⟩ : ∃ f, f = fun b => notC (allC [a, b]) := ⟨_, rfl⟩
      have hprs : prs L (i + 1) = prs L i ++ (L.drop (i + 1)).map f := by rw [prs, hag, hf]
      have hfa : ∀ b, notC (allC [a, b]) = f b := fun b => by rw [hf]
      refine sLoop (ctx _) 200 rfl trivial ?_
      refine awp_loop (α := Nat) (fun j => ⟨[(6, .ptr 0 0), (9, .row 6 (L.map encC) .no), (12, .row 6 ((prs L i ++ ((L.drop (i + 1)).take j).map f).map encC) (.own 1)), (13, .int .i64 (i : Int)), (14, .int .i64 ((i + 1 + j : Nat) : Int))],
          [.blk zs25, .tip ((prs L i).length + j) 6]⟩) (fun j => j ≤ (L.drop (i + 1)).length) (fun j => (L.drop (i + 1)).length - j) 0
        (Nat.zero_le _) (fun _ _ => Nat.zero_le _) ⟨⟨⟨⟨rfl, Nat.le_of_ble_eq_true rfl⟩, rfl⟩, ⟨trivial, .inr rfl, rfl⟩, ⟨⟨rfl, Nat.le_of_ble_eq_true rfl⟩, .inr rfl, ?_⟩, ⟨rfl, rfl⟩, ⟨rfl, hw1⟩, trivial⟩,
          ⟨⟨rfl, rfl⟩, ⟨trivial, .inr rfl, rfl⟩, rfl, ⟨trivial, .inr rfl, rfl⟩, ⟨rfl, rfl⟩, ⟨rfl, rfl⟩, trivial⟩, ⟨rfl, rfl⟩, trivial⟩ (fun j hj IH2 => ?_)
      · simp
      have hdl : (L.drop (i + 1)).length = L.length - (i + 1) := List.length_drop
      refine sSplit (ctx _) 200 rfl trivial (fun h7 => ?_) (fun h7 => ?_)
      · have h8 : j < (L.drop (i + 1)).length := by simp at h7; omega
        clear h7
        obtain ⟨b, hb⟩ : ∃ b, (L.drop (i + 1))[j]? = some b := ⟨_, List.getElem?_eq_getElem h8⟩
        have hb2 : L[i + 1 + j]? = some b := by rw [List.getElem?_drop] at hb; exact hb
        have htk : (L.drop (i + 1)).take (j + 1) = (L.drop (i + 1)).take j ++ [b] := by
          rw [List.take_succ_eq_append_getElem h8]
          rw [List.getElem?_eq_getElem h8] at hb
          rw [Option.some.inj hb]
        have hfb := hfa b
        have hlen2 : (((prs L i ++ ((L.drop (i + 1)).take j).map f)).map encC).length = (prs L i).length + j := by
          rw [List.length_map, List.length_append, List.length_map, List.length_take]; omega
        refine sDraws (ctx _) mix 100 rfl trivial (by decide) ?_
        refine dElem 100 rfl trivial (Int.natCast_nonneg _) (encC a) (by rw [Int.toNat_natCast, List.getElem?_map, ha]; rfl) ?_
        obtain ⟨ka, ofa, pa, va, loa, hia⟩ := a
        refine dElem 100 rfl trivial (Int.natCast_nonneg _) (encC b) (by rw [Int.toNat_natCast, List.getElem?_map, hb2]; rfl) ?_
        obtain ⟨kb, ofb, pb, vb, lob, hib⟩ := b
        refine dCall 100 rfl trivial (fun H => ret_frame H (ref_all_ret [.mk ka ofa pa va loa hia, .mk kb ofb pb vb lob hib]) ⟨⟨trivial, .inr rfl, rfl⟩, trivial⟩) ?_
        refine dCall 100 rfl trivial (fun H => ret_frame H (ref_not_ret (allC [.mk ka ofa pa va loa hia, .mk kb ofb pb vb lob hib])) ⟨fits_enc 0 (allC [.mk ka ofa pa va loa hia, .mk kb ofb pb vb lob hib]), trivial⟩) ?_
        refine dDone 100 rfl ?_ ?_
        · rw [hlen2]; exact ⟨trivial, rfl, show ((prs L i).length + j + 1) * 88 ≤ 140737488355328 by omega⟩
        refine sBack (ctx _) 200 rfl trivial ?_
        refine IH2 (j + 1) _ (by omega) (by omega) ⟨⟨⟨⟨rfl, Nat.le_of_ble_eq_true rfl⟩, rfl⟩, ⟨trivial, .inr rfl, rfl⟩, ⟨⟨rfl, Nat.le_of_ble_eq_true rfl⟩, .inr rfl, ?_⟩, ⟨rfl, rfl⟩, ⟨rfl, ?_⟩, trivial⟩,
          ⟨⟨rfl, rfl⟩, ⟨trivial, .inr rfl, rfl⟩, rfl, ⟨trivial, .inr rfl, rfl⟩, ⟨rfl, rfl⟩, ⟨rfl, rfl⟩, trivial⟩, ⟨?_, rfl⟩, trivial⟩
        · rw [htk, List.map_append (f := f), ← List.append_assoc]
          generalize prs L i ++ ((L.drop (i + 1)).take j).map f = A
          rw [List.map_append]
          show _ = _ ++ [encC (f _)]
          rw [← hfb]; rfl
        · exact wrap_id (by omega) (by omega)
        · rw [hlen2]; rfl
      · have h8 : j = (L.drop (i + 1)).length := by simp at h7; omega
        subst h8
        refine sBack (ctx _) 200 rfl trivial ?_
        refine IH (i + 1) _ (by omega) (by omega) ⟨⟨⟨⟨rfl, Nat.le_of_ble_eq_true rfl⟩, rfl⟩, ⟨trivial, .inr rfl, rfl⟩, ⟨⟨rfl, Nat.le_of_ble_eq_true rfl⟩, .inr rfl, ?_⟩, ⟨rfl, hw1⟩, trivial⟩,
          ⟨⟨rfl, rfl⟩, ⟨trivial, .inr rfl, rfl⟩, rfl, ⟨trivial, .inr rfl, rfl⟩, ⟨rfl, rfl⟩, ⟨rfl, rfl⟩, trivial⟩, ⟨?_, rfl⟩, trivial⟩
        · rw [List.take_length, hprs]
        · rw [hprs, List.length_append, List.length_map]
    · have h6 : i = L.length := by simp at h5; omega
      subst h6
      refine sCall (ctx _) 200 rfl trivial (ret_frame _ (ref_all_ret (prs L L.length)) ⟨⟨trivial, .inr rfl, rfl⟩, trivial⟩) ?_
      refine sRet (ctx _) 200 rfl trivial rfl ⟨⟨fits_enc1 _ (allC (prs L L.length)), ⟨rfl, rfl⟩, trivial⟩, trivial⟩
end Go.Proofs.YtcehdakofmhabaaGreatDoor.Ab
