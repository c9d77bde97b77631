/- rule.Clone gives the same condition. -/
import Derived.Test.YtcehdakofmhabaaGreatDoorAbClone
namespace Go.Proofs.YtcehdakofmhabaaGreatDoor.Ab
open Go Go.Ab Go.RowKit
set_option linter.unusedVariables false
set_option linter.unusedSimpArgs false
inductive CondSz : Cond → Prop where
  | mk (k : Int) (of : List Cond) (p : List UInt8) (v : List (List UInt8)) (lo hi : Int) : of.length * 88 ≤ 140737488355328 → v.length * 16 ≤ 140737488355328 → (∀ x ∈ of, CondSz x) → CondSz (.mk k of p v lo hi)
noncomputable def zs25 : List AV := (tyI Tryz.t25 Tryz.t24).zs
def cnd (b : Bool) (p : Nat × AV) (r : List (Nat × AV)) : List (Nat × AV) := match b with
  | true => p :: r
  | false => r
/-- What is known when the operations of 'm' are done. -/
noncomputable def clS (n : Nat) (k : Int) (of : List Cond) (p : List UInt8) (v : List (List UInt8)) (lo hi : Int) (m x : Nat) : St :=
  { env := cnd (m.testBit 0) (5, .ptr 0 1) (cnd (m.testBit 1) (6, .row 6 (encL of) .no) (cnd (m.testBit 2) (7, .ref 2 0 n) (cnd (m.testBit 3) (8, .ptr 0 3) (cnd (m.testBit 4) (9, .row 1 (v.map .str) .no)
      (cnd (m.testBit 5) (10, .row 1 (v.map .str) .no) (cnd (m.testBit 6) (11, .ptr 0 1) (cnd (m.testBit 8) (12, .ptr 0 3) [(1, .ptr 0 0), (2, .ptr 1 0)])))))))
    H := .blk [.int .i64 k, (match m.testBit 7 with | true => .ref 2 0 n | false => .row 6 (encL of) .no), .str p, .row 1 (v.map .str) .no, .int .i64 lo, .int .i64 hi] :: .blk zs25 ::
      (match m.testBit 2 with | true => [.blk ((encL of).flatMap AV.cells ++ List.replicate x .undef)] | false => []) }
set_option maxRecDepth 100000 in
theorem clone_ret : ∀ (n : Nat) (c : Cond), SizeOf.sizeOf c ≤ n → CondSz c → Ret Tryz.prog 28 [encC c] [] (encC c) [] := by
  intro n
  induction n with
  | zero => intro c hc; cases c; simp at hc
  | succ n ih =>
    intro c hc hz
    cases hz with
    | mk k of p v lo hi hz1 hz2 hz3 =>
    rw [encC]
    by_cases hof : of = []
    · subst hof
      refine ret_of (fn := Tryz.f28) Tryz.func28 rfl rfl (Nat.le_of_ble_eq_true rfl) rfl ?_
      refine sDraws (ctx _) mix 100 rfl trivial (by decide) ?_
      refine dCall 100 rfl trivial (fun H => ret_frame H cloneC_nil ⟨⟨trivial, .inr rfl, rfl⟩, trivial⟩) ?_
      refine dCall 100 rfl trivial (fun H => ret_frame H (cloneS_ret v hz2) ⟨⟨trivial, .inr rfl, rfl⟩, trivial⟩) ?_
      refine dDone 100 rfl trivial ?_
      refine sLoop (ctx _) 200 rfl trivial ?_
      refine awp_step (fun _ _ _ _ _ _ _ => step_loop) ?_
      refine sSplit (ctx _) 200 rfl trivial (fun h => ?_) (fun h => ?_)
      · simp at h
      · exact sRet (ctx _) 200 rfl trivial rfl ⟨⟨⟨rfl, rfl⟩, ⟨trivial, .inr rfl, rfl⟩, rfl, ⟨trivial, .inr rfl, rfl⟩, ⟨rfl, rfl⟩, ⟨rfl, rfl⟩, trivial⟩, trivial⟩
    · have hlen : (encL of).length = of.length := by rw [encL_eq]; simp
      have hne : encL of ≠ [] := fun e => hof (List.eq_nil_of_length_eq_zero (by rw [← hlen, e]; rfl))
      refine ret_ofF (fn := Tryz.f28) Tryz.func28 rfl rfl (Nat.le_of_ble_eq_true rfl) rfl ?_
      refine sDraw (ctx _) 200 rfl trivial ?_
      refine awp_masks mix (clS (encL of).length k of p v lo hi) [0, 1, 3, 7, 8, 9, 11, 15, 24, 25, 27, 31, 63, 95, 127, 255, 511, 1023]
        [(0, 0), (0, 3), (1, 1), (1, 3), (3, 2), (3, 3), (7, 3), (8, 0), (8, 4), (9, 1), (9, 4), (11, 2), (11, 4), (15, 4), (24, 0), (25, 1), (27, 2), (31, 5), (31, 6), (63, 6), (95, 5), (127, 7), (255, 8), (511, 9)] 1023 (by decide) 0 (by decide) ⟨rfl, rfl, rfl, trivial⟩ ?_ ?_
      · refine ⟨?_, ?_, ?_, ?_, ?_, ?_, ?_, ?_, ?_, ?_, ?_, ?_, ?_, ?_, ?_, ?_, ?_, ?_, ?_, ?_, ?_, ?_, ?_, ?_, trivial⟩
        · exact fun x => StepsTo.valM tab_ok rfl rfl rfl rfl x ⟨rfl, by repeat' (first | exact trivial | refine ⟨rfl, ?_⟩)⟩
        · exact fun x => StepsTo.valM tab_ok rfl rfl rfl rfl x ⟨rfl, by repeat' (first | exact trivial | refine ⟨rfl, ?_⟩)⟩
        · exact fun x => StepsTo.valM tab_ok rfl rfl rfl rfl x ⟨rfl, by repeat' (first | exact trivial | refine ⟨rfl, ?_⟩)⟩
        · exact fun x => StepsTo.valM tab_ok rfl rfl rfl rfl x ⟨rfl, by repeat' (first | exact trivial | refine ⟨rfl, ?_⟩)⟩
        · exact fun x => StepsTo.callM tab_ok rfl rfl rfl rfl (cloneC_ret (encL of) hne (by rw [hlen]; exact hz1) _) (fun r H' ⟨κ, hr, hH⟩ => ⟨κ, by subst hr; subst hH; exact ⟨rfl, by repeat' (first | exact trivial | refine ⟨rfl, ?_⟩)⟩⟩)
        · exact fun x => StepsTo.valM tab_ok rfl rfl rfl rfl x ⟨rfl, by repeat' (first | exact trivial | refine ⟨rfl, ?_⟩)⟩
        · exact fun x => StepsTo.valM tab_ok rfl rfl rfl rfl x ⟨rfl, by repeat' (first | exact trivial | refine ⟨rfl, ?_⟩)⟩
        · exact fun x => StepsTo.valM tab_ok rfl rfl rfl rfl x ⟨rfl, by repeat' (first | exact trivial | refine ⟨rfl, ?_⟩)⟩
        · exact fun x => StepsTo.valM tab_ok rfl rfl rfl rfl x ⟨rfl, by repeat' (first | exact trivial | refine ⟨rfl, ?_⟩)⟩
        · exact fun x => StepsTo.valM tab_ok rfl rfl rfl rfl x ⟨rfl, by repeat' (first | exact trivial | refine ⟨rfl, ?_⟩)⟩
        · exact fun x => StepsTo.valM tab_ok rfl rfl rfl rfl x ⟨rfl, by repeat' (first | exact trivial | refine ⟨rfl, ?_⟩)⟩
        · exact fun x => StepsTo.callM tab_ok rfl rfl rfl rfl (cloneC_ret (encL of) hne (by rw [hlen]; exact hz1) _) (fun r H' ⟨κ, hr, hH⟩ => ⟨κ, by subst hr; subst hH; exact ⟨rfl, by repeat' (first | exact trivial | refine ⟨rfl, ?_⟩)⟩⟩)
        · exact fun x => StepsTo.valM tab_ok rfl rfl rfl rfl x ⟨rfl, by repeat' (first | exact trivial | refine ⟨rfl, ?_⟩)⟩
        · exact fun x => StepsTo.valM tab_ok rfl rfl rfl rfl x ⟨rfl, by repeat' (first | exact trivial | refine ⟨rfl, ?_⟩)⟩
        · exact fun x => StepsTo.valM tab_ok rfl rfl rfl rfl x ⟨rfl, by repeat' (first | exact trivial | refine ⟨rfl, ?_⟩)⟩
        · exact fun x => StepsTo.valM tab_ok rfl rfl rfl rfl x ⟨rfl, by repeat' (first | exact trivial | refine ⟨rfl, ?_⟩)⟩
        · exact fun x => StepsTo.callM tab_ok rfl rfl rfl rfl (cloneC_ret (encL of) hne (by rw [hlen]; exact hz1) _) (fun r H' ⟨κ, hr, hH⟩ => ⟨κ, by subst hr; subst hH; exact ⟨rfl, by repeat' (first | exact trivial | refine ⟨rfl, ?_⟩)⟩⟩)
        · exact fun x => StepsTo.callM tab_ok rfl rfl rfl rfl (ret_frame (args := [.row 1 (v.map .str) .no]) _ (cloneS_ret v hz2) ⟨⟨trivial, .inr rfl, rfl⟩, trivial⟩).toE (fun r H' ⟨hr, hH⟩ => ⟨x, by subst hr; subst hH; exact ⟨rfl, by repeat' (first | exact trivial | refine ⟨rfl, ?_⟩)⟩⟩)
        · exact fun x => StepsTo.valM tab_ok rfl rfl rfl rfl x ⟨rfl, by repeat' (first | exact trivial | refine ⟨rfl, ?_⟩)⟩
        · exact fun x => StepsTo.valM tab_ok rfl rfl rfl rfl x ⟨rfl, by repeat' (first | exact trivial | refine ⟨rfl, ?_⟩)⟩
        · exact fun x => StepsTo.callM tab_ok rfl rfl rfl rfl (ret_frame (args := [.row 1 (v.map .str) .no]) _ (cloneS_ret v hz2) ⟨⟨trivial, .inr rfl, rfl⟩, trivial⟩).toE (fun r H' ⟨hr, hH⟩ => ⟨x, by subst hr; subst hH; exact ⟨rfl, by repeat' (first | exact trivial | refine ⟨rfl, ?_⟩)⟩⟩)
        · exact fun x => StepsTo.valM tab_ok rfl rfl rfl rfl x ⟨rfl, by repeat' (first | exact trivial | refine ⟨rfl, ?_⟩)⟩
        · exact fun x => StepsTo.valM tab_ok rfl rfl rfl rfl x ⟨rfl, by repeat' (first | exact trivial | refine ⟨rfl, ?_⟩)⟩
        · exact fun x => StepsTo.valM tab_ok rfl rfl rfl rfl x ⟨rfl, by repeat' (first | exact trivial | refine ⟨rfl, ?_⟩)⟩
      · intro κ
        refine sLoop (ctx _) 200 rfl trivial ?_
        refine awp_len 6 rfl (fun hbl => ?_)
        refine awp_loop (α := Nat) (fun i => ⟨[(1, .ptr 0 0), (2, .ptr 1 0), (14, .ref 2 0 (encL of).length), (15, .int .i64 of.length), (16, .int .i64 (i : Int))],
            [.blk [.int .i64 k, .ref 2 0 (encL of).length, .str p, .row 1 (v.map .str) .no, .int .i64 lo, .int .i64 hi], .blk zs25, .blk ((encL of).flatMap AV.cells ++ List.replicate κ .undef)]⟩)
          (fun i => i ≤ of.length) (fun i => of.length - i) 0 (Nat.zero_le _) (fun _ _ => Nat.zero_le _)
          ⟨⟨⟨⟨rfl, Nat.le_of_ble_eq_true rfl⟩, rfl⟩, ⟨⟨rfl, Nat.le_of_ble_eq_true rfl⟩, rfl⟩, ⟨⟨rfl, Nat.le_of_ble_eq_true rfl⟩, rfl, rfl⟩, ⟨rfl, by rw [hlen]⟩, ⟨rfl, rfl⟩, trivial⟩,
            ⟨⟨rfl, rfl⟩, ⟨⟨rfl, Nat.le_of_ble_eq_true rfl⟩, rfl, rfl⟩, rfl, ⟨trivial, .inr rfl, rfl⟩, ⟨rfl, rfl⟩, ⟨rfl, rfl⟩, trivial⟩, ?_, (show fitsL (fits1 (keepN 3)) _ _ from encL_fits (keepN 3) of κ), trivial⟩ (fun i hi IH => ?_)
        · exact ⟨⟨rfl, rfl⟩, ⟨trivial, .inr rfl, rfl⟩, rfl, ⟨trivial, .inr rfl, rfl⟩, ⟨rfl, rfl⟩, ⟨rfl, rfl⟩, trivial⟩
        · refine sSplit (ctx _) 200 rfl trivial (fun h3 => ?_) (fun h3 => ?_)
          · have h3' : i < of.length := by simp at h3; omega
            obtain ⟨x, hx⟩ : ∃ x, of[i]? = some x := ⟨_, List.getElem?_eq_getElem h3'⟩
            have hmem : x ∈ of := List.mem_of_getElem? hx
            have hsz : SizeOf.sizeOf x ≤ n := by
              have := List.sizeOf_lt_of_mem hmem
              simp at hc
              omega
            have hrec := ih x hsz (hz3 x hmem)
            have hxe : (encL of)[i]? = some (encC x) := by rw [encL_eq, List.getElem?_map, hx]; rfl
            have hp := flat_part (tl := List.replicate κ .undef) (encL_cells of) hxe
            rw [encC_cells] at hp
            first | refine sHalt (ctx _) 40 rfl ?_ ?_ | refine sHalt (ctx _) 39 rfl ?_ ?_ | refine sHalt (ctx _) 38 rfl ?_ ?_ | refine sHalt (ctx _) 37 rfl ?_ ?_ | refine sHalt (ctx _) 36 rfl ?_ ?_ | refine sHalt (ctx _) 35 rfl ?_ ?_ | refine sHalt (ctx _) 34 rfl ?_ ?_ | refine sHalt (ctx _) 33 rfl ?_ ?_ | refine sHalt (ctx _) 32 rfl ?_ ?_ | refine sHalt (ctx _) 31 rfl ?_ ?_ | refine sHalt (ctx _) 30 rfl ?_ ?_ | refine sHalt (ctx _) 29 rfl ?_ ?_ | refine sHalt (ctx _) 28 rfl ?_ ?_ | refine sHalt (ctx _) 27 rfl ?_ ?_ | refine sHalt (ctx _) 26 rfl ?_ ?_ | refine sHalt (ctx _) 25 rfl ?_ ?_ | refine sHalt (ctx _) 24 rfl ?_ ?_ | refine sHalt (ctx _) 23 rfl ?_ ?_ | refine sHalt (ctx _) 22 rfl ?_ ?_ | refine sHalt (ctx _) 21 rfl ?_ ?_ | refine sHalt (ctx _) 20 rfl ?_ ?_ | refine sHalt (ctx _) 19 rfl ?_ ?_ | refine sHalt (ctx _) 18 rfl ?_ ?_ | refine sHalt (ctx _) 17 rfl ?_ ?_ | refine sHalt (ctx _) 16 rfl ?_ ?_ | refine sHalt (ctx _) 15 rfl ?_ ?_ | refine sHalt (ctx _) 14 rfl ?_ ?_ | refine sHalt (ctx _) 13 rfl ?_ ?_ | refine sHalt (ctx _) 12 rfl ?_ ?_ | refine sHalt (ctx _) 11 rfl ?_ ?_ | refine sHalt (ctx _) 10 rfl ?_ ?_ | refine sHalt (ctx _) 9 rfl ?_ ?_ | refine sHalt (ctx _) 8 rfl ?_ ?_ | refine sHalt (ctx _) 7 rfl ?_ ?_ | refine sHalt (ctx _) 6 rfl ?_ ?_ | refine sHalt (ctx _) 5 rfl ?_ ?_ | refine sHalt (ctx _) 4 rfl ?_ ?_ | refine sHalt (ctx _) 3 rfl ?_ ?_ | refine sHalt (ctx _) 2 rfl ?_ ?_
            · exact ⟨trivial, Int.natCast_nonneg _, by rw [hlen]; omega⟩
            refine sOp (ctx _) rfl rfl rfl (v := .agg x.cs) (load_out rfl rfl (load_part (cs := (encL of).flatMap AV.cells ++ List.replicate κ .undef) rfl
              (show Go.Ab.part true 6 _ (0 + (i : Int).toNat * 6) = some (.agg x.cs) by rw [Nat.zero_add, Int.toNat_natCast, part_agg hp.1, hp.2]))) ?_
            obtain ⟨k2, of2, p2, v2, lo2, hi2⟩ := x
            refine sDraws (ctx _) mix 100 rfl trivial (by decide) ?_
            refine dCall 100 rfl trivial (fun H => ret_frame H hrec ⟨?_, trivial⟩) ?_
            · exact fits_enc 0 (.mk k2 of2 p2 v2 lo2 hi2)
            refine .step rfl rfl (.valc rfl rfl ⟨Int.natCast_nonneg _, by rw [hlen]; omega⟩) ?_
            refine .step rfl rfl (.val rfl (store_out rfl rfl rfl (store_at (cs := (encL of).flatMap AV.cells ++ List.replicate κ .undef) rfl rfl rfl ?_))) ?_
            · show 0 + (i : Int).toNat * 6 + 6 ≤ _
              rw [Nat.zero_add, Int.toNat_natCast]; exact hp.1
            refine .done (Nat.le_of_ble_eq_true rfl) ?_
            have hset : setAt ((encL of).flatMap AV.cells ++ List.replicate κ .undef) (0 + (i : Int).toNat * 6) (encC (Cond.mk k2 of2 p2 v2 lo2 hi2)).cells = (encL of).flatMap AV.cells ++ List.replicate κ .undef := by
              rw [Nat.zero_add, Int.toNat_natCast, encC_cells]
              exact setAt_same hp.1 hp.2
            refine sBack (ctx _) 200 rfl trivial ?_
            refine IH (i + 1) _ (by omega) (by omega) ⟨⟨⟨⟨rfl, Nat.le_of_ble_eq_true rfl⟩, rfl⟩, ⟨⟨rfl, Nat.le_of_ble_eq_true rfl⟩, rfl⟩, ⟨⟨rfl, Nat.le_of_ble_eq_true rfl⟩, rfl, rfl⟩, ⟨rfl, rfl⟩, ⟨rfl, ?_⟩, trivial⟩, ⟨⟨rfl, rfl⟩, ⟨⟨rfl, Nat.le_of_ble_eq_true rfl⟩, rfl, rfl⟩, rfl, ⟨trivial, .inr rfl, rfl⟩, ⟨rfl, rfl⟩, ⟨rfl, rfl⟩, trivial⟩, ⟨⟨rfl, rfl⟩, ⟨trivial, .inr rfl, rfl⟩, rfl, ⟨trivial, .inr rfl, rfl⟩, ⟨rfl, rfl⟩, ⟨rfl, rfl⟩, trivial⟩,
              (show fitsL (fits1 (keepN 3)) (setAt ((encL of).flatMap AV.cells ++ List.replicate κ .undef) (0 + (i : Int).toNat * 6) (encC (Cond.mk k2 of2 p2 v2 lo2 hi2)).cells) ((encL of).flatMap AV.cells ++ List.replicate κ .undef) by rw [hset]; exact encL_fits (keepN 3) of κ), trivial⟩
            have hb : of.length ≤ big := by simp only [big]; omega
            exact wrap_id (by omega) (by simp only [big] at hb; omega)
          · refine sRet (ctx _) 200 rfl trivial rfl ?_
            exact ⟨⟨⟨rfl, rfl⟩, ⟨rfl, rfl, Nat.zero_le _, ⟨_, _, rfl, rfl⟩, encL_toG of⟩, rfl, ⟨trivial, .inr rfl, rfl⟩, ⟨rfl, rfl⟩, ⟨rfl, rfl⟩, trivial⟩, trivial⟩
theorem rule_clone (c : Cond) (h : CondSz c) : Ret Tryz.prog 28 [encC c] [] (encC c) [] := clone_ret _ c (Nat.le_refl _) h
end Go.Proofs.YtcehdakofmhabaaGreatDoor.Ab
