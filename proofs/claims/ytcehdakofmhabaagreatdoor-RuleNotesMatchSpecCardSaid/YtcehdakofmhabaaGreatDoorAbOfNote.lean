/- rule.OfNote. -/
import Derived.Test.YtcehdakofmhabaaGreatDoorAbNote
import Derived.Test.YtcehdakofmhabaaGreatDoorAbRClone
namespace Go.Proofs.YtcehdakofmhabaaGreatDoor.Ab
open Go Go.Ab Go.RowKit
set_option linter.unusedVariables false
set_option linter.unusedSimpArgs false
def thereC (tag : List UInt8) (n : Int) : Cond := .mk 4 [] (tag ++ [46] ++ Lib.itoa n) [] 0 0
def allC (l : List Cond) : Cond := .mk 1 l [] [] 0 0
def anyC (l : List Cond) : Cond := .mk 2 l [] [] 0 0
def notC (c : Cond) : Cond := .mk 3 [c] [] [] 0 0
/-- The pairs whose first one is one of the first 'i'. -/
def prs (l : List Cond) : Nat → List Cond
  | 0 => []
  | i + 1 => prs l i ++ (l.drop (i + 1)).map fun b => notC (allC [l.getD i zeroC, b])
theorem prs_len (l : List Cond) : ∀ i, (prs l i).length ≤ i * l.length
  | 0 => by simp [prs]
  | i + 1 => by
    have := prs_len l i
    simp only [prs, List.length_append, List.length_map, List.length_drop, Nat.succ_mul]
    omega
def noteC (tag : List UInt8) (k : Int) (els : List Int) : Cond :=
  let l := els.map (thereC tag)
  if k = 80 then anyC [allC l, notC (anyC l)] else if k = 69 then allC (prs l l.length) else if k = 67 then anyC [notC (l.getD 0 zeroC), allC (l.drop 1)]
  else if k = 76 then anyC [notC (l.getD 0 zeroC), anyC (l.drop 1)] else anyC l
theorem noteL_zero : ∀ (l s : List Int), noteL s l = 0 → ∀ n ∈ l, 1 ≤ n ∧ n ≤ 50
  | [], _, _, n, h => by cases h
  | a :: r, s, h, n, hn => by
    rw [noteL] at h
    split at h
    · cases h
    · split at h
      · cases h
      · rcases List.mem_cons.1 hn with rfl | hn
        · omega
        · exact noteL_zero r _ h n hn
theorem noteF_zero {tag : List UInt8} {k : Int} {l : List Int} (h : noteF tag k l = 0) : ruleTag tag = true ∧ noteKind k = true ∧ 2 ≤ l.length ∧ l.length ≤ 10 ∧ ∀ n ∈ l, 1 ≤ n ∧ n ≤ 50 := by
  unfold noteF at h
  repeat' split at h
  all_goals first | (cases h; done) | skip
  rename_i h1 h2 h3 h4
  exact ⟨by simpa using h1, by simpa using h2, by omega, by omega, noteL_zero _ _ h⟩
theorem ruleTag_len {s : List UInt8} (h : ruleTag s = true) : s.length ≤ 6 := by
  simp only [ruleTag, Bool.and_eq_true, decide_eq_true_eq] at h
  exact h.1.1.2
theorem sz_there (tag : List UInt8) (n : Int) : CondSz (thereC tag n) := .mk _ _ _ _ _ _ (by simp) (by simp) (by simp)
theorem sz_of {k : Int} {l : List Cond} (hl : l.length ≤ 1000) (h : ∀ x ∈ l, CondSz x) : CondSz (.mk k l [] [] 0 0) := .mk _ _ _ _ _ _ (by omega) (by simp) h
theorem sz_one {k : Int} {a : Cond} (h : CondSz a) : CondSz (.mk k [a] [] [] 0 0) := sz_of (by simp) (fun x hx => by simp at hx; subst hx; exact h)
theorem sz_two {k : Int} {a b : Cond} (h : CondSz a) (h2 : CondSz b) : CondSz (.mk k [a, b] [] [] 0 0) := sz_of (by simp) (fun x hx => by simp at hx; rcases hx with rfl | rfl <;> assumption)
theorem prs_sz {l : List Cond} (h : ∀ x ∈ l, CondSz x) : ∀ i, ∀ x ∈ prs l i, CondSz x
  | 0, x, hx => by simp [prs] at hx
  | i + 1, x, hx => by
    rw [prs] at hx
    rcases List.mem_append.1 hx with hx | hx
    · exact prs_sz h i x hx
    · obtain ⟨b, hb, rfl⟩ := List.mem_map.1 hx
      have hg : CondSz (l.getD i zeroC) := by
        cases hl : l[i]? with
        | none => simp [List.getD, hl]; exact .mk _ _ _ _ _ _ (by simp) (by simp) (by simp)
        | some a => simp [List.getD, hl]; exact h a (List.mem_of_getElem? hl)
      exact sz_one (sz_two hg (h b (List.mem_of_mem_drop hb)))
def noteR (tag : List UInt8) (k : Int) (els : List Int) : Cond := if noteF tag k els = 0 then noteC tag k els else zeroC
set_option maxRecDepth 100000 in
theorem ofNote_ret (tag : List UInt8) (k : Int) (els : List Int) : Ret Tryz.prog 11 [.str tag, .int .u8 k, .row 1 (els.map (.int .i64)) .no] [] (.tuple [encC (noteR tag k els), .int .i64 (noteF tag k els)]) [] := by
  obtain ⟨F, hF⟩ : ∃ F, F = noteF tag k els := ⟨_, rfl⟩
  obtain ⟨C, hC⟩ : ∃ C, C = noteR tag k els := ⟨_, rfl⟩
  rw [← hF, ← hC]
  refine ret_of (fn := Tryz.f11) Tryz.func11 rfl rfl (Nat.le_of_ble_eq_true rfl) rfl ?_
  refine sCall (ctx _) 200 rfl trivial (ret_frame _ (noteFault_ret tag k els) ⟨rfl, ⟨rfl, rfl⟩, ⟨trivial, .inr rfl, rfl⟩, trivial⟩) ?_
  refine sSplit (ctx _) 200 rfl trivial (fun h => ?_) (fun h => ?_)
  · have h' : F ≠ 0 := by rw [hF]; simpa using h
    have hC' : C = zeroC := by rw [hC, noteR, if_neg (by rw [← hF]; exact h')]
    subst hC'
    refine sRet (ctx _) 200 rfl trivial rfl ⟨⟨?_, ⟨rfl, hF.symm⟩, trivial⟩, trivial⟩
    exact ⟨⟨rfl, rfl⟩, ⟨trivial, .inl rfl, rfl⟩, rfl, ⟨trivial, .inl rfl, rfl⟩, ⟨rfl, rfl⟩, ⟨rfl, rfl⟩, trivial⟩
  have hF0 : noteF tag k els = 0 := by simpa using h
  clear h
  have hF' : F = 0 := by rw [hF, hF0]
  obtain ⟨n1, n2, n3, n4, n5⟩ := noteF_zero hF0
  have ntag := ruleTag_len n1
  have hC' : C = noteC tag k els := by rw [hC, noteR, if_pos hF0]
  clear hC
  subst hF'
  refine sLoop (ctx _) 200 rfl trivial ?_
  refine awp_tip 6 ?_
  refine awp_loop (α := Nat) (fun i => ⟨[(0, .str tag), (1, .int .u8 k), (2, .row 1 (els.map (.int .i64)) .no), (6, .ptr 0 0), (9, .row 6 (((els.take i).map (thereC tag)).map encC) (.own 1)), (26, .row 1 (els.map (.int .i64)) .no), (27, .int .i64 els.length), (28, .int .i64 (i : Int))],
      [.blk zs25, .tip i 6]⟩) (fun i => i ≤ els.length) (fun i => els.length - i) 0
    (Nat.zero_le _) (fun _ _ => Nat.zero_le _) ⟨⟨rfl, ⟨rfl, rfl⟩, ⟨trivial, .inr rfl, rfl⟩, ⟨⟨rfl, Nat.le_of_ble_eq_true rfl⟩, rfl⟩, ⟨rfl, .inl rfl, rfl⟩, ⟨trivial, .inr rfl, rfl⟩, ⟨rfl, by simp⟩, ⟨rfl, rfl⟩, trivial⟩,
      ⟨⟨rfl, rfl⟩, ⟨trivial, .inr rfl, rfl⟩, rfl, ⟨trivial, .inr rfl, rfl⟩, ⟨rfl, rfl⟩, ⟨rfl, rfl⟩, trivial⟩, ⟨rfl, rfl⟩, trivial⟩ (fun i hi IH => ?_)
  refine sSplit (ctx _) 200 rfl trivial (fun h => ?_) (fun h => ?_)
  · have h5 : i < els.length := by simp at h; omega
    have hb := n5 els[i] (List.getElem_mem h5)
    have hil := Lib.itoa_length_le els[i] (by omega) (by omega)
    refine sElem (ctx _) 200 rfl (by (repeat' (first | exact trivial | refine ⟨?_, ?_⟩ | intro _)) <;> (first | assumption | (rename_i hh; exact hh) | (rename_i hh; exact congrArg not hh) | (rename_i h1 h2; exact Bool.and_eq_true_iff.2 ⟨h1, h2⟩) | (rename_i h1 h2; exact Bool.and_eq_true_iff.2 ⟨h1, congrArg not h2⟩) | (rename_i hh; simp [gOf, hh]; done) | (simp_all [gOf]; done) | (simp_all [gOf]; omega))) (Int.natCast_nonneg _) (.int .i64 els[i]) (by simp [h5]) ?_
    refine sCall (ctx _) 200 rfl ?_ (ret_frame _ (itoa_ret els[i] (by omega) (by omega)) ⟨⟨rfl, rfl⟩, trivial⟩) ?_
    · exact ⟨trivial, by show tag.length + 1 ≤ big; simp only [big]; omega⟩
    refine sHalt (ctx _) 2 rfl ?_ ?_
    · exact ⟨trivial, by show (tag ++ [46]).length + (Lib.itoa els[i]).length ≤ big; simp only [big, List.length_append, List.length_singleton]; omega⟩
    have hl : (((els.take i).map (thereC tag)).map encC).length = i := by simp; omega
    refine awp_weaken (s := ⟨[(0, .str tag), (1, .int .u8 k), (2, .row 1 (els.map (.int .i64)) .no), (6, .ptr 0 0), (26, .row 1 (els.map (.int .i64)) .no), (27, .int .i64 els.length), (28, .int .i64 (i : Int)),
      (32, .row 6 (((els.take i).map (thereC tag)).map encC) (.own 1)), (38, encC (thereC tag els[i]))], [.blk zs25, .tip i 6]⟩)
      ⟨⟨rfl, ⟨rfl, rfl⟩, ⟨trivial, .inr rfl, rfl⟩, ⟨⟨rfl, Nat.le_of_ble_eq_true rfl⟩, rfl⟩, ⟨trivial, .inr rfl, rfl⟩, ⟨rfl, rfl⟩, ⟨rfl, rfl⟩, ⟨⟨rfl, Nat.le_of_ble_eq_true rfl⟩, .inr rfl, rfl⟩, ⟨⟨rfl, rfl⟩, ⟨trivial, .inl rfl, rfl⟩, rfl, ⟨trivial, .inl rfl, rfl⟩, ⟨rfl, rfl⟩, ⟨rfl, rfl⟩, trivial⟩, trivial⟩,
        ⟨⟨rfl, rfl⟩, ⟨trivial, .inr rfl, rfl⟩, rfl, ⟨trivial, .inr rfl, rfl⟩, ⟨rfl, rfl⟩, ⟨rfl, rfl⟩, trivial⟩, ⟨rfl, rfl⟩, trivial⟩ (Nat.zero_le _) ?_
    refine sBack (ctx _) 200 rfl ?_ ?_
    · rw [hl]; exact ⟨trivial, rfl, show (i + 1) * 88 ≤ 140737488355328 by omega⟩
    refine IH (i + 1) _ (by omega) (by omega) ⟨⟨rfl, ⟨rfl, rfl⟩, ⟨trivial, .inr rfl, rfl⟩, ⟨⟨rfl, Nat.le_of_ble_eq_true rfl⟩, rfl⟩, ⟨⟨rfl, Nat.le_of_ble_eq_true rfl⟩, .inr rfl, ?_⟩, ⟨trivial, .inr rfl, rfl⟩, ⟨rfl, rfl⟩, ⟨rfl, ?_⟩, trivial⟩,
        ⟨⟨rfl, rfl⟩, ⟨trivial, .inr rfl, rfl⟩, rfl, ⟨trivial, .inr rfl, rfl⟩, ⟨rfl, rfl⟩, ⟨rfl, rfl⟩, trivial⟩, ⟨?_, rfl⟩, trivial⟩
    · rw [List.take_succ_eq_append_getElem h5, List.map_append, List.map_append]
      rfl
    · exact wrap_id (by omega) (by omega)
    · rw [hl]; rfl
  · have h5 : i = els.length := by simp at h; omega
    subst h5
    clear IH h hi
    have hL : (els.map (thereC tag)).length = els.length := by simp
    have hsz : ∀ x ∈ els.map (thereC tag), CondSz x := fun x hx => by
      obtain ⟨n, _, rfl⟩ := List.mem_map.1 hx
      exact sz_there _ _
    refine sCall (ctx _) 200 rfl trivial (ret_frame _ (anyOf_ret (els.map (thereC tag))) ⟨⟨trivial, .inr rfl, ?_⟩, trivial⟩) ?_
    · rw [List.take_length]
    unfold noteC at hC'
    simp only at hC'
    generalize hLL : els.map (thereC tag) = L at hL hsz hC' ⊢
    refine sSplit (ctx _) 200 rfl trivial (fun h => ?_) (fun h => ?_)
    · have hk : k = 80 := by simpa using h
      rw [if_pos hk] at hC'
      subst hC'
      refine awp_weaken (s := ⟨[(6, .ptr 0 0), (9, .row 6 (L.map encC) .no), (12, .ptr 2 0)], [.blk zs25, .dead, .blk (anyC L).cs]⟩) ⟨⟨⟨⟨rfl, Nat.le_of_ble_eq_true rfl⟩, rfl⟩, ⟨trivial, .inr rfl, ?_⟩, ⟨⟨rfl, Nat.le_of_ble_eq_true rfl⟩, rfl⟩, trivial⟩,
        ⟨⟨rfl, rfl⟩, ⟨trivial, .inr rfl, rfl⟩, rfl, ⟨trivial, .inr rfl, rfl⟩, ⟨rfl, rfl⟩, ⟨rfl, rfl⟩, trivial⟩, trivial, ⟨⟨rfl, rfl⟩, ⟨trivial, .inr rfl, rfl⟩, rfl, ⟨trivial, .inr rfl, rfl⟩, ⟨rfl, rfl⟩, ⟨rfl, rfl⟩, trivial⟩, trivial⟩ (Nat.zero_le _) ?_
      · rw [List.take_length, hLL]
      refine sCall (ctx _) 200 rfl trivial (ret_frame _ (all_ret L) ⟨⟨trivial, .inr rfl, rfl⟩, trivial⟩) ?_
      refine sCall (ctx _) 200 rfl trivial (ret_frame _ (anyOf_ret L) ⟨⟨trivial, .inr rfl, rfl⟩, trivial⟩) ?_
      refine sCall (ctx _) 200 rfl trivial (ret_frame _ (not_ret (anyC L)) ⟨fits_enc 0 (anyC L), trivial⟩) ?_
      refine sCall (ctx _) 200 rfl (by (repeat' (first | exact trivial | refine ⟨?_, ?_⟩ | intro _)) <;> (first | assumption | (rename_i hh; exact hh) | (rename_i hh; exact congrArg not hh) | (rename_i h1 h2; exact Bool.and_eq_true_iff.2 ⟨h1, h2⟩) | (rename_i h1 h2; exact Bool.and_eq_true_iff.2 ⟨h1, congrArg not h2⟩) | (rename_i hh; simp [gOf, hh]; done) | (simp_all [gOf]; done) | (simp_all [gOf]; omega))) (ret_frame _ (anyOf_ret [allC L, notC (anyC L)]) ⟨⟨trivial, .inr rfl, rfl⟩, trivial⟩) ?_
      refine sCall (ctx _) 200 rfl (by (repeat' (first | exact trivial | refine ⟨?_, ?_⟩ | intro _)) <;> (first | assumption | (rename_i hh; exact hh) | (rename_i hh; exact congrArg not hh) | (rename_i h1 h2; exact Bool.and_eq_true_iff.2 ⟨h1, h2⟩) | (rename_i h1 h2; exact Bool.and_eq_true_iff.2 ⟨h1, congrArg not h2⟩) | (rename_i hh; simp [gOf, hh]; done) | (simp_all [gOf]; done) | (simp_all [gOf]; omega))) (ret_frame _ (rule_clone (anyC [allC L, notC (anyC L)]) ?_) ⟨?_, trivial⟩) ?_
      · exact sz_two (sz_of (by omega) hsz) (sz_one (sz_of (by omega) hsz))
      · exact fits_enc 0 (anyC [allC L, notC (anyC L)])
      refine sRet (ctx _) 200 rfl trivial rfl ⟨⟨fits_enc1 _ (anyC [allC L, notC (anyC L)]), ⟨rfl, rfl⟩, trivial⟩, trivial⟩
    rw [if_neg (by simpa using h)] at hC'
    refine sSplit (ctx _) 200 rfl trivial (fun h2 => ?_) (fun h2 => ?_)
    · have hk : k = 69 := by simpa using h2
      rw [if_pos hk] at hC'
      subst hC'
      refine awp_weaken (s := ⟨[(6, .ptr 0 0), (9, .row 6 (L.map encC) .no), (12, .ptr 2 0)], [.blk zs25, .dead, .blk (anyC L).cs]⟩) ⟨⟨⟨⟨rfl, Nat.le_of_ble_eq_true rfl⟩, rfl⟩, ⟨trivial, .inr rfl, ?_⟩, ⟨⟨rfl, Nat.le_of_ble_eq_true rfl⟩, rfl⟩, trivial⟩,
        ⟨⟨rfl, rfl⟩, ⟨trivial, .inr rfl, rfl⟩, rfl, ⟨trivial, .inr rfl, rfl⟩, ⟨rfl, rfl⟩, ⟨rfl, rfl⟩, trivial⟩, trivial, ⟨⟨rfl, rfl⟩, ⟨trivial, .inr rfl, rfl⟩, rfl, ⟨trivial, .inr rfl, rfl⟩, ⟨rfl, rfl⟩, ⟨rfl, rfl⟩, trivial⟩, trivial⟩ (Nat.zero_le _) ?_
      · rw [List.take_length, hLL]
      refine sLoop (ctx _) 200 rfl trivial ?_
      refine awp_tip 6 ?_
      refine awp_loop (α := Nat) (fun i => ⟨[(6, .ptr 0 0), (9, .row 6 (L.map encC) .no), (12, .ptr 2 0), (13, .row 6 ((prs L i).map encC) (.own 3)), (56, .row 6 (L.map encC) .no), (57, .int .i64 L.length), (58, .int .i64 (i : Int))],
          [.blk zs25, .dead, .blk (anyC L).cs, .tip (prs L i).length 6]⟩) (fun i => i ≤ L.length) (fun i => L.length - i) 0
        (Nat.zero_le _) (fun _ _ => Nat.zero_le _) ⟨⟨⟨⟨rfl, Nat.le_of_ble_eq_true rfl⟩, rfl⟩, ⟨trivial, .inr rfl, rfl⟩, ⟨⟨rfl, Nat.le_of_ble_eq_true rfl⟩, rfl⟩, ⟨rfl, .inl rfl, rfl⟩, ⟨trivial, .inr rfl, rfl⟩, ⟨rfl, by simp⟩, ⟨rfl, rfl⟩, trivial⟩,
          ⟨⟨rfl, rfl⟩, ⟨trivial, .inr rfl, rfl⟩, rfl, ⟨trivial, .inr rfl, rfl⟩, ⟨rfl, rfl⟩, ⟨rfl, rfl⟩, trivial⟩, trivial, ⟨⟨rfl, rfl⟩, ⟨trivial, .inr rfl, rfl⟩, rfl, ⟨trivial, .inr rfl, rfl⟩, ⟨rfl, rfl⟩, ⟨rfl, rfl⟩, trivial⟩, ⟨rfl, rfl⟩, trivial⟩ (fun i hi IH => ?_)
      refine sSplit (ctx _) 200 rfl trivial (fun h5 => ?_) (fun h5 => ?_)
      · have h6 : i < L.length := by simp at h5; omega
        clear h5
        have hpl := prs_len L i
        have hpl2 : i * L.length ≤ 10 * L.length := Nat.mul_le_mul_right _ (by omega)
        obtain ⟨a, ha⟩ : ∃ a, L[i]? = some a := ⟨_, List.getElem?_eq_getElem h6⟩
        have hag : L.getD i zeroC = a := by simp [List.getD, ha]
        have hw1 : IntKind.i64.wrap ((i : Int) + 1) = ((i + 1 : Nat) : Int) := wrap_id (by omega) (by omega)
        refine sElem (ctx _) 200 rfl trivial (Int.natCast_nonneg _) (encC a) (by simp [ha]) ?_
        obtain ⟨f, hf⟩ : ∃ f, f = fun b => notC (allC [a, b]) := ⟨_, rfl⟩
        have hprs : prs L (i + 1) = prs L i ++ (L.drop (i + 1)).map f := by rw [prs, hag, hf]
        have hfa : ∀ b, notC (allC [a, b]) = f b := fun b => by rw [hf]
        have hacs := cs_fits (keepN 5) a
        obtain ⟨ka, ofa, pa, va, loa, hia⟩ := a
        refine sLoop (ctx _) 200 rfl ?_ ?_
        · rw [hw1]; exact ⟨trivial, by omega, by simp; omega, Int.le_refl _⟩
        refine awp_loop (α := Nat) (fun j => ⟨[(6, .ptr 0 0), (9, .row 6 (L.map encC) .no), (12, .ptr 2 0), (13, .row 6 ((prs L i ++ ((L.drop (i + 1)).take j).map f).map encC) (.own 3)), (15, .ptr 4 0), (56, .row 6 (L.map encC) .no), (57, .int .i64 L.length), (58, .int .i64 (i : Int)),
            (66, .row 6 ((L.drop (i + 1)).map encC) .no), (67, .int .i64 ((L.drop (i + 1)).length : Nat)), (68, .int .i64 (j : Int))],
            [.blk zs25, .dead, .blk (anyC L).cs, .tip ((prs L i).length + j) 6, .blk (Cond.mk ka ofa pa va loa hia).cs]⟩) (fun j => j ≤ (L.drop (i + 1)).length) (fun j => (L.drop (i + 1)).length - j) 0
          (Nat.zero_le _) (fun _ _ => Nat.zero_le _) ⟨⟨⟨⟨rfl, Nat.le_of_ble_eq_true rfl⟩, rfl⟩, ⟨trivial, .inr rfl, rfl⟩, ⟨⟨rfl, Nat.le_of_ble_eq_true rfl⟩, rfl⟩, ⟨⟨rfl, Nat.le_of_ble_eq_true rfl⟩, .inr rfl, ?_⟩, ⟨⟨rfl, Nat.le_of_ble_eq_true rfl⟩, rfl⟩, ⟨trivial, .inr rfl, rfl⟩, ⟨rfl, rfl⟩, ⟨rfl, rfl⟩, ⟨trivial, .inr rfl, ?_⟩, ⟨rfl, ?_⟩, ⟨rfl, rfl⟩, trivial⟩,
            ⟨⟨rfl, rfl⟩, ⟨trivial, .inr rfl, rfl⟩, rfl, ⟨trivial, .inr rfl, rfl⟩, ⟨rfl, rfl⟩, ⟨rfl, rfl⟩, trivial⟩, trivial, ⟨⟨rfl, rfl⟩, ⟨trivial, .inr rfl, rfl⟩, rfl, ⟨trivial, .inr rfl, rfl⟩, ⟨rfl, rfl⟩, ⟨rfl, rfl⟩, trivial⟩, ⟨rfl, rfl⟩, (show fitsL (fits1 (keepN 5)) _ _ from fitsL_refl hacs), trivial⟩ (fun j hj IH2 => ?_)
        · simp
        · rw [hw1, Int.toNat_natCast, Int.toNat_natCast, List.take_length, List.map_drop]
        · rw [hw1, Int.toNat_natCast, Int.toNat_natCast, List.take_length, ← List.map_drop, List.length_map]
        refine sSplit (ctx _) 200 rfl trivial (fun h7 => ?_) (fun h7 => ?_)
        · have h8 : j < (L.drop (i + 1)).length := by simp at h7 ⊢; omega
          clear h7
          obtain ⟨b, hb⟩ : ∃ b, (L.drop (i + 1))[j]? = some b := ⟨_, List.getElem?_eq_getElem h8⟩
          have htk : (L.drop (i + 1)).take (j + 1) = (L.drop (i + 1)).take j ++ [b] := by
            rw [List.take_succ_eq_append_getElem h8]
            rw [List.getElem?_eq_getElem h8] at hb
            rw [Option.some.inj hb]
          have hfb := hfa b
          have hdl : (L.drop (i + 1)).length ≤ 10 := by simp; omega
          have hlen2 : (((prs L i ++ ((L.drop (i + 1)).take j).map f)).map encC).length = (prs L i).length + j := by
            rw [List.length_map, List.length_append, List.length_map, List.length_take]; omega
          refine sElem (ctx _) 200 rfl trivial (Int.natCast_nonneg _) (encC b) (by rw [Int.toNat_natCast, List.getElem?_map, hb]; rfl) ?_
          obtain ⟨kb, ofb, pb, vb, lob, hib⟩ := b
          refine sCall (ctx _) 200 rfl trivial (ret_frame _ (all_ret [.mk ka ofa pa va loa hia, .mk kb ofb pb vb lob hib]) ⟨⟨trivial, .inr rfl, rfl⟩, trivial⟩) ?_
          refine sCall (ctx _) 200 rfl trivial (ret_frame _ (not_ret (allC [.mk ka ofa pa va loa hia, .mk kb ofb pb vb lob hib])) ⟨fits_enc 0 (allC [.mk ka ofa pa va loa hia, .mk kb ofb pb vb lob hib]), trivial⟩) ?_
          refine sBack (ctx _) 200 rfl ?_ ?_
          · rw [hlen2]; exact ⟨trivial, rfl, show ((prs L i).length + j + 1) * 88 ≤ 140737488355328 by omega⟩
          refine IH2 (j + 1) _ (by omega) (by omega) ⟨⟨⟨⟨rfl, Nat.le_of_ble_eq_true rfl⟩, rfl⟩, ⟨trivial, .inr rfl, rfl⟩, ⟨⟨rfl, Nat.le_of_ble_eq_true rfl⟩, rfl⟩, ⟨⟨rfl, Nat.le_of_ble_eq_true rfl⟩, .inr rfl, ?_⟩, ⟨⟨rfl, Nat.le_of_ble_eq_true rfl⟩, rfl⟩, ⟨trivial, .inr rfl, rfl⟩, ⟨rfl, rfl⟩, ⟨rfl, rfl⟩, ⟨trivial, .inr rfl, rfl⟩, ⟨rfl, rfl⟩, ⟨rfl, ?_⟩, trivial⟩,
            ⟨⟨rfl, rfl⟩, ⟨trivial, .inr rfl, rfl⟩, rfl, ⟨trivial, .inr rfl, rfl⟩, ⟨rfl, rfl⟩, ⟨rfl, rfl⟩, trivial⟩, trivial, ⟨⟨rfl, rfl⟩, ⟨trivial, .inr rfl, rfl⟩, rfl, ⟨trivial, .inr rfl, rfl⟩, ⟨rfl, rfl⟩, ⟨rfl, rfl⟩, trivial⟩, ⟨?_, rfl⟩, (show fitsL (fits1 (keepN 5)) _ _ from fitsL_refl hacs), trivial⟩
          · rw [htk, List.map_append (f := f), ← List.append_assoc]
            generalize prs L i ++ ((L.drop (i + 1)).take j).map f = A
            rw [List.map_append]
            show _ = _ ++ [encC (f _)]
            rw [← hfb]; rfl
          · exact wrap_id (by omega) (by simp at h8; omega)
          · rw [hlen2]; rfl
        · have h8 : j = (L.drop (i + 1)).length := by simp at h7 hj ⊢; omega
          subst h8
          refine sBack (ctx _) 200 rfl trivial ?_
          refine IH (i + 1) _ (by omega) (by omega) ⟨⟨⟨⟨rfl, Nat.le_of_ble_eq_true rfl⟩, rfl⟩, ⟨trivial, .inr rfl, rfl⟩, ⟨⟨rfl, Nat.le_of_ble_eq_true rfl⟩, rfl⟩, ⟨⟨rfl, Nat.le_of_ble_eq_true rfl⟩, .inr rfl, ?_⟩, ⟨trivial, .inr rfl, rfl⟩, ⟨rfl, rfl⟩, ⟨rfl, hw1⟩, trivial⟩,
            ⟨⟨rfl, rfl⟩, ⟨trivial, .inr rfl, rfl⟩, rfl, ⟨trivial, .inr rfl, rfl⟩, ⟨rfl, rfl⟩, ⟨rfl, rfl⟩, trivial⟩, trivial, ⟨⟨rfl, rfl⟩, ⟨trivial, .inr rfl, rfl⟩, rfl, ⟨trivial, .inr rfl, rfl⟩, ⟨rfl, rfl⟩, ⟨rfl, rfl⟩, trivial⟩, ⟨?_, rfl⟩, trivial⟩
          · rw [List.take_length, hprs]
          · rw [hprs, List.length_append, List.length_map]
      · have h6 : i = L.length := by simp at h5; omega
        subst h6
        refine sCall (ctx _) 200 rfl trivial (ret_frame _ (all_ret (prs L L.length)) ⟨⟨trivial, .inr rfl, rfl⟩, trivial⟩) ?_
        refine sCall (ctx _) 200 rfl trivial (ret_frame _ (rule_clone (allC (prs L L.length)) ?_) ⟨?_, trivial⟩) ?_
        · have := prs_len L L.length
          have h9 : L.length * L.length ≤ 10 * L.length := Nat.mul_le_mul_right _ (by omega)
          exact sz_of (by omega) (prs_sz hsz L.length)
        · exact fits_enc 0 (allC (prs L L.length))
        refine sRet (ctx _) 200 rfl trivial rfl ⟨⟨fits_enc1 _ (allC (prs L L.length)), ⟨rfl, rfl⟩, trivial⟩, trivial⟩
    rw [if_neg (by simpa using h2)] at hC'
    have h0 : 0 < L.length := by omega
    have hx0 : L[0]? = some (L.getD 0 zeroC) := by simp [List.getD, h0]
    have hs0 : CondSz (L.getD 0 zeroC) := hsz _ (List.mem_of_getElem? hx0)
    have hsd : ∀ x ∈ L.drop 1, CondSz x := fun x hx => hsz x (List.mem_of_mem_drop hx)
    generalize L.getD 0 zeroC = c0 at hx0 hs0 hC'
    refine sSplit (ctx _) 200 rfl trivial (fun h3 => ?_) (fun h3 => ?_)
    · have hk : k = 67 := by simpa using h3
      rw [if_pos hk] at hC'
      subst hC'
      refine awp_weaken (s := ⟨[(6, .ptr 0 0), (9, .row 6 (L.map encC) .no), (12, .ptr 2 0)], [.blk zs25, .dead, .blk (anyC L).cs]⟩) ⟨⟨⟨⟨rfl, Nat.le_of_ble_eq_true rfl⟩, rfl⟩, ⟨trivial, .inr rfl, ?_⟩, ⟨⟨rfl, Nat.le_of_ble_eq_true rfl⟩, rfl⟩, trivial⟩,
        ⟨⟨rfl, rfl⟩, ⟨trivial, .inr rfl, rfl⟩, rfl, ⟨trivial, .inr rfl, rfl⟩, ⟨rfl, rfl⟩, ⟨rfl, rfl⟩, trivial⟩, trivial, ⟨⟨rfl, rfl⟩, ⟨trivial, .inr rfl, rfl⟩, rfl, ⟨trivial, .inr rfl, rfl⟩, ⟨rfl, rfl⟩, ⟨rfl, rfl⟩, trivial⟩, trivial⟩ (Nat.zero_le _) ?_
      · rw [List.take_length, hLL]
      refine sDraws (ctx _) mix 100 rfl trivial (by decide) ?_
      refine dElem 100 rfl trivial (by decide) (encC c0) (by simp [hx0]) ?_
      obtain ⟨k0, of0, p0, v0, lo0, hi0⟩ := c0
      refine dCall 100 rfl trivial (fun H => ret_frame H (not_ret (.mk k0 of0 p0 v0 lo0 hi0)) ⟨fits_enc 0 (.mk k0 of0 p0 v0 lo0 hi0), trivial⟩) ?_
      refine dCall 100 rfl ?_ (fun H => ret_frame H (all_ret (L.drop 1)) ⟨⟨trivial, .inr rfl, ?_⟩, trivial⟩) ?_
      · exact ⟨trivial, by decide, by simp; omega, Int.le_refl _⟩
      · show List.drop 1 (List.take ((L.map encC).length : Int).toNat (L.map encC)) = _
        rw [Int.toNat_natCast, List.take_length, List.map_drop]
      refine dCall 100 rfl trivial (fun H => ret_frame H (anyOf_ret [notC (.mk k0 of0 p0 v0 lo0 hi0), allC (L.drop 1)]) ⟨⟨trivial, .inr rfl, rfl⟩, trivial⟩) ?_
      refine dDone 100 rfl trivial ?_
      refine sCall (ctx _) 200 rfl trivial (ret_frame _ (rule_clone (anyC [notC (.mk k0 of0 p0 v0 lo0 hi0), allC (L.drop 1)]) ?_) ⟨?_, trivial⟩) ?_
      · exact sz_two (sz_one hs0) (sz_of (by simp; omega) hsd)
      · exact fits_enc 0 (anyC [notC (.mk k0 of0 p0 v0 lo0 hi0), allC (L.drop 1)])
      refine sRet (ctx _) 200 rfl trivial rfl ⟨⟨fits_enc1 _ (anyC [notC (.mk k0 of0 p0 v0 lo0 hi0), allC (L.drop 1)]), ⟨rfl, rfl⟩, trivial⟩, trivial⟩
    rw [if_neg (by simpa using h3)] at hC'
    refine sSplit (ctx _) 200 rfl trivial (fun h4 => ?_) (fun h4 => ?_)
    · have hk : k = 76 := by simpa using h4
      rw [if_pos hk] at hC'
      subst hC'
      refine awp_weaken (s := ⟨[(6, .ptr 0 0), (9, .row 6 (L.map encC) .no), (12, .ptr 2 0)], [.blk zs25, .dead, .blk (anyC L).cs]⟩) ⟨⟨⟨⟨rfl, Nat.le_of_ble_eq_true rfl⟩, rfl⟩, ⟨trivial, .inr rfl, ?_⟩, ⟨⟨rfl, Nat.le_of_ble_eq_true rfl⟩, rfl⟩, trivial⟩,
        ⟨⟨rfl, rfl⟩, ⟨trivial, .inr rfl, rfl⟩, rfl, ⟨trivial, .inr rfl, rfl⟩, ⟨rfl, rfl⟩, ⟨rfl, rfl⟩, trivial⟩, trivial, ⟨⟨rfl, rfl⟩, ⟨trivial, .inr rfl, rfl⟩, rfl, ⟨trivial, .inr rfl, rfl⟩, ⟨rfl, rfl⟩, ⟨rfl, rfl⟩, trivial⟩, trivial⟩ (Nat.zero_le _) ?_
      · rw [List.take_length, hLL]
      refine sDraws (ctx _) mix 100 rfl trivial (by decide) ?_
      refine dElem 100 rfl trivial (by decide) (encC c0) (by simp [hx0]) ?_
      obtain ⟨k0, of0, p0, v0, lo0, hi0⟩ := c0
      refine dCall 100 rfl trivial (fun H => ret_frame H (not_ret (.mk k0 of0 p0 v0 lo0 hi0)) ⟨fits_enc 0 (.mk k0 of0 p0 v0 lo0 hi0), trivial⟩) ?_
      refine dCall 100 rfl ?_ (fun H => ret_frame H (anyOf_ret (L.drop 1)) ⟨⟨trivial, .inr rfl, ?_⟩, trivial⟩) ?_
      · exact ⟨trivial, by decide, by simp; omega, Int.le_refl _⟩
      · show List.drop 1 (List.take ((L.map encC).length : Int).toNat (L.map encC)) = _
        rw [Int.toNat_natCast, List.take_length, List.map_drop]
      refine dCall 100 rfl trivial (fun H => ret_frame H (anyOf_ret [notC (.mk k0 of0 p0 v0 lo0 hi0), anyC (L.drop 1)]) ⟨⟨trivial, .inr rfl, rfl⟩, trivial⟩) ?_
      refine dDone 100 rfl trivial ?_
      refine sCall (ctx _) 200 rfl trivial (ret_frame _ (rule_clone (anyC [notC (.mk k0 of0 p0 v0 lo0 hi0), anyC (L.drop 1)]) ?_) ⟨?_, trivial⟩) ?_
      · exact sz_two (sz_one hs0) (sz_of (by simp; omega) hsd)
      · exact fits_enc 0 (anyC [notC (.mk k0 of0 p0 v0 lo0 hi0), anyC (L.drop 1)])
      refine sRet (ctx _) 200 rfl trivial rfl ⟨⟨fits_enc1 _ (anyC [notC (.mk k0 of0 p0 v0 lo0 hi0), anyC (L.drop 1)]), ⟨rfl, rfl⟩, trivial⟩, trivial⟩
    rw [if_neg (by simpa using h4)] at hC'
    subst hC'
    refine sCall (ctx _) 200 rfl trivial (ret_frame _ (rule_clone (anyC L) ?_) ⟨?_, trivial⟩) ?_
    · exact sz_of (by omega) hsz
    · exact fits_enc 0 (anyC L)
    refine sRet (ctx _) 200 rfl trivial rfl ⟨⟨fits_enc1 _ (anyC L), ⟨rfl, rfl⟩, trivial⟩, trivial⟩
end Go.Proofs.YtcehdakofmhabaaGreatDoor.Ab
