/- A condition is the same as itself. -/
import Derived.Test.YtcehdakofmhabaaGreatDoorAbEnc
namespace Go.Proofs.YtcehdakofmhabaaGreatDoor.Ab
open Go Go.Ab Go.RowKit
set_option linter.unusedVariables false
set_option linter.unusedSimpArgs false
theorem same_ret : ∀ (n : Nat) (c : Cond), SizeOf.sizeOf c ≤ n → Ret Tryz.prog 12 [encC c, encC c] [] (.bool true) [] := by
  intro n
  induction n with
  | zero => intro c hc; cases c; simp at hc
  | succ n ih =>
    intro c hc
    obtain ⟨k, of, p, v, lo, hi⟩ := c
    refine ret_of (fn := Tryz.f12) Tryz.func12 rfl rfl (Nat.le_of_ble_eq_true rfl) rfl ?_
    refine sNo (ctx _) 200 rfl (by (repeat' (first | exact trivial | refine ⟨?_, ?_⟩ | intro _)) <;> (first | assumption | (rename_i hh; exact hh) | (rename_i hh; exact congrArg not hh) | (rename_i h1 h2; exact Bool.and_eq_true_iff.2 ⟨h1, h2⟩) | (rename_i h1 h2; exact Bool.and_eq_true_iff.2 ⟨h1, congrArg not h2⟩) | (rename_i hh; simp [gOf, hh]; done) | (simp_all [gOf]; done) | (simp_all [gOf]; omega))) (by simp) ?_
    have hol : (encL of).length = of.length := by rw [encL_eq, List.length_map]
    refine sLoop (ctx _) 200 rfl trivial ?_
    refine awp_loop (α := Nat) (fun i => ⟨[(2, .ptr 0 0), (3, .ptr 1 0), (5, .int .i64 (i : Int))], [.blk (Cond.mk k of p v lo hi).cs, .blk (Cond.mk k of p v lo hi).cs]⟩) (fun i => i ≤ v.length) (fun i => v.length - i) 0
      (Nat.zero_le _) (fun _ _ => Nat.zero_le _) ⟨⟨⟨⟨rfl, Nat.le_of_ble_eq_true rfl⟩, rfl⟩, ⟨⟨rfl, Nat.le_of_ble_eq_true rfl⟩, rfl⟩, ⟨rfl, rfl⟩, trivial⟩, ⟨⟨rfl, rfl⟩, ⟨trivial, .inr rfl, rfl⟩, rfl, ⟨trivial, .inr rfl, rfl⟩, ⟨rfl, rfl⟩, ⟨rfl, rfl⟩, trivial⟩, ⟨⟨rfl, rfl⟩, ⟨trivial, .inr rfl, rfl⟩, rfl, ⟨trivial, .inr rfl, rfl⟩, ⟨rfl, rfl⟩, ⟨rfl, rfl⟩, trivial⟩, trivial⟩ (fun i hi0 IH => ?_)
    refine sSplit (ctx _) 200 rfl trivial (fun h => ?_) (fun h => ?_)
    · have h3 : i < v.length := by simp at h; omega
      clear h
      refine awp_len 53 rfl (fun hb => ?_)
      obtain ⟨x, hx⟩ : ∃ x, v[i]? = some x := ⟨_, List.getElem?_eq_getElem h3⟩
      refine sDraws (ctx _) mix 100 rfl trivial (by decide) ?_
      refine dElem 100 rfl trivial (Int.natCast_nonneg _) (.str x) (by simp [hx]) ?_
      refine dElem 100 rfl trivial (Int.natCast_nonneg _) (.str x) (by simp [hx]) ?_
      refine dDone 100 rfl trivial ?_
      refine sNo (ctx _) 200 rfl trivial (by simp) ?_
      refine sBack (ctx _) 200 rfl trivial ?_
      refine IH (i + 1) _ (by omega) (by omega) ⟨⟨⟨⟨rfl, Nat.le_of_ble_eq_true rfl⟩, rfl⟩, ⟨⟨rfl, Nat.le_of_ble_eq_true rfl⟩, rfl⟩, ⟨rfl, ?_⟩, trivial⟩, ⟨⟨rfl, rfl⟩, ⟨trivial, .inr rfl, rfl⟩, rfl, ⟨trivial, .inr rfl, rfl⟩, ⟨rfl, rfl⟩, ⟨rfl, rfl⟩, trivial⟩, ⟨⟨rfl, rfl⟩, ⟨trivial, .inr rfl, rfl⟩, rfl, ⟨trivial, .inr rfl, rfl⟩, ⟨rfl, rfl⟩, ⟨rfl, rfl⟩, trivial⟩, trivial⟩
      rw [List.length_map] at hb
      exact wrap_id (by omega) (by simp only [big] at hb; omega)
    clear IH
    refine sLoop (ctx _) 200 rfl trivial ?_
    refine awp_loop (α := Nat) (fun i => ⟨[(2, .ptr 0 0), (3, .ptr 1 0), (6, .int .i64 (i : Int))], [.blk (Cond.mk k of p v lo hi).cs, .blk (Cond.mk k of p v lo hi).cs]⟩) (fun i => i ≤ of.length) (fun i => of.length - i) 0
      (Nat.zero_le _) (fun _ _ => Nat.zero_le _) ⟨⟨⟨⟨rfl, Nat.le_of_ble_eq_true rfl⟩, rfl⟩, ⟨⟨rfl, Nat.le_of_ble_eq_true rfl⟩, rfl⟩, ⟨rfl, rfl⟩, trivial⟩, ⟨⟨rfl, rfl⟩, ⟨trivial, .inr rfl, rfl⟩, rfl, ⟨trivial, .inr rfl, rfl⟩, ⟨rfl, rfl⟩, ⟨rfl, rfl⟩, trivial⟩, ⟨⟨rfl, rfl⟩, ⟨trivial, .inr rfl, rfl⟩, rfl, ⟨trivial, .inr rfl, rfl⟩, ⟨rfl, rfl⟩, ⟨rfl, rfl⟩, trivial⟩, trivial⟩ (fun i hi0 IH => ?_)
    refine sSplit (ctx _) 200 rfl trivial (fun h => ?_) (fun h => ?_)
    · have h3 : i < of.length := by simp at h; omega
      clear h
      refine awp_len 71 rfl (fun hb => ?_)
      obtain ⟨x, hx⟩ : ∃ x, of[i]? = some x := ⟨_, List.getElem?_eq_getElem h3⟩
      have hmem : x ∈ of := List.mem_of_getElem? hx
      have hsz : SizeOf.sizeOf x ≤ n := by
        have := List.sizeOf_lt_of_mem hmem
        simp at hc
        omega
      have hrec := ih x hsz
      have hxe : (encL of)[i]? = some (encC x) := by rw [encL_eq, List.getElem?_map, hx]; rfl
      refine sDraws (ctx _) mix 100 rfl trivial (by decide) ?_
      refine dElem 100 rfl trivial (Int.natCast_nonneg _) (encC x) (by rw [Int.toNat_natCast]; exact hxe) ?_
      obtain ⟨k2, of2, p2, v2, lo2, hi2⟩ := x
      refine dElem 100 rfl trivial (Int.natCast_nonneg _) (encC (.mk k2 of2 p2 v2 lo2 hi2)) (by rw [Int.toNat_natCast]; exact hxe) ?_
      refine dCall 100 rfl trivial (fun H => ret_frame H hrec ⟨fits_enc 0 (.mk k2 of2 p2 v2 lo2 hi2), fits_enc 0 (.mk k2 of2 p2 v2 lo2 hi2), trivial⟩) ?_
      refine dDone 100 rfl trivial ?_
      refine sNo (ctx _) 200 rfl trivial rfl ?_
      refine sBack (ctx _) 200 rfl trivial ?_
      refine IH (i + 1) _ (by omega) (by omega) ⟨⟨⟨⟨rfl, Nat.le_of_ble_eq_true rfl⟩, rfl⟩, ⟨⟨rfl, Nat.le_of_ble_eq_true rfl⟩, rfl⟩, ⟨rfl, ?_⟩, trivial⟩, ⟨⟨rfl, rfl⟩, ⟨trivial, .inr rfl, rfl⟩, rfl, ⟨trivial, .inr rfl, rfl⟩, ⟨rfl, rfl⟩, ⟨rfl, rfl⟩, trivial⟩, ⟨⟨rfl, rfl⟩, ⟨trivial, .inr rfl, rfl⟩, rfl, ⟨trivial, .inr rfl, rfl⟩, ⟨rfl, rfl⟩, ⟨rfl, rfl⟩, trivial⟩, trivial⟩
      rw [hol] at hb
      exact wrap_id (by omega) (by simp only [big] at hb; omega)
    exact sRet (ctx _) 200 rfl trivial rfl ⟨rfl, trivial⟩
theorem ref_same (c : Cond) : Ret Tryz.prog 12 [encC c, encC c] [] (.bool true) [] := same_ret _ c (Nat.le_refl _)
end Go.Proofs.YtcehdakofmhabaaGreatDoor.Ab
