/- Clones. -/
import Derived.Test.YtcehdakofmhabaaGreatDoorAbLib
import Derived.Test.YtcehdakofmhabaaGreatDoorAbAppRef
import Derived.Test.YtcehdakofmhabaaGreatDoorShCloneS
import Derived.Lib.SliceRun
namespace Go.Proofs.YtcehdakofmhabaaGreatDoor.Ab
open Go Go.Ab Go.RowKit
set_option linter.unusedVariables false
set_option linter.unusedSimpArgs false
/-- A row that is known to hold something is not nil. -/
theorem row_ne {E : En} {sz : Nat} {l : List AV} {tok : Tok} {x : Value} (h : R E (.row sz l tok) x) (hne : l ≠ []) : ∃ b off cap, x = .slice (some ⟨b, off, none⟩) l.length cap := by
  have hg := h.row_g
  cases hg with
  | row0 => exact absurd rfl hne
  | row00 => exact absurd rfl hne
  | row _ _ b off cap vs h1 h2 h3 h4 h5 => exact ⟨b, off, cap, rfl⟩
theorem eql_nil {X : XT} {E : En} {H : List HB} {a : Act} {w : World} (hw : Wr X E H w) {o : Oper} {t : TypeId} {e : TypeId} {x : Operand} {yt : TypeId} {n c : Nat} (ho : o.op = .binOp .eql t x (.const (.slice none n c)) yt) (ht : Tryz.prog.underlying t = some (.slice e))
    {sz : Nat} {l : List AV} {tok : Tok} (hx : R E (.row sz l tok) (a.eval x)) (hne : l ≠ []) : OpDoes Tryz.prog X E (execOp a.eval o) w .ff H := by
  obtain ⟨b, off, cap, hv⟩ := row_ne hx hne
  have h : (execOp a.eval o).run Tryz.prog w = .ok (.value (.bool false)) w := by
    obtain ⟨dst, op, ty, pos, after, guard⟩ := o
    simp only at ho
    subst ho
    have hc : a.eval (.const (.slice none n c)) = .slice none n c := rfl
    simp [execOp, hv, hc, eqGuard, Lib.run_eql_slice_nil w t e _ _ _ _ _ ht]
  exact ⟨.bool false, .value (.bool false), w, E, h, .inl rfl, .refl _, .refl _ _, hw, .refl _, .ground .ff⟩
theorem append_does {X : XT} {E : En} {H : List HB} {a : Act} {w : World} (hw : Wr X E H w) {o : Oper} {x y : Operand} (ho : o.op = .call ⟨.builtin .append, #[x, y], #[22, 22]⟩)
    {l : List AV} (hx : R E (.row 6 [] .full) (a.eval x)) (hy : R E (.row 6 l .no) (a.eval y)) (hne : l ≠ []) (hlen : l.length * 88 ≤ 140737488355328) :
    ∃ n, OpDoes Tryz.prog X E (execOp a.eval o) w (.ref H.length 0 l.length) (H ++ [.blk (l.flatMap AV.cells ++ List.replicate n .undef)]) := by
  obtain ⟨n, hn⟩ := app_ref (P := Tryz.prog) hw (tab_ok 22 _ rfl) (tab_ok 22 _ rfl) rfl rfl (tab_ok 25 _ rfl) (by decide) (by decide) o.type (sz := 6) hx hy hne hlen
  refine ⟨n, ?_⟩
  have := does_op hn
  obtain ⟨dst, op, ty, pos, after, guard⟩ := o
  simp only at ho
  subst ho
  have he : execOp a.eval ⟨dst, .call ⟨.builtin .append, #[x, y], #[22, 22]⟩, ty, pos, after, guard⟩ = (do pure (.value (← Builtin.append_ #[22, 22] ty #[a.eval x, a.eval y]))) := by
    simp [execOp, resolve, invoke, builtin]
  rw [he]; exact this
theorem cloneC_ret (l : List AV) (hne : l ≠ []) (hlen : l.length * 88 ≤ 140737488355328) (H : List HB) :
    RetE Tryz.prog 43 [.row 6 l .no] H (fun r H' => ∃ k, r = .ref H.length 0 l.length ∧ H' = H ++ [.blk (l.flatMap AV.cells ++ List.replicate k .undef)]) := by
  refine retE_of (fn := Tryz.f43) Tryz.func43 rfl rfl (Nat.le_of_ble_eq_true rfl) ?_
  refine sHalt (ctx _) 100 rfl trivial ?_
  refine sOpD rfl rfl rfl (v := .ff) (H' := H) (fun X E a w hr => ?_) ?_
  · exact eql_nil hr.wr rfl Tryz.underlying22 (hr.env 3 (.row 6 l .no) rfl) hne
  first | refine sHalt (ctx _) 40 rfl trivial ?_ | refine sHalt (ctx _) 39 rfl trivial ?_ | refine sHalt (ctx _) 38 rfl trivial ?_ | refine sHalt (ctx _) 37 rfl trivial ?_ | refine sHalt (ctx _) 36 rfl trivial ?_ | refine sHalt (ctx _) 35 rfl trivial ?_ | refine sHalt (ctx _) 34 rfl trivial ?_ | refine sHalt (ctx _) 33 rfl trivial ?_ | refine sHalt (ctx _) 32 rfl trivial ?_ | refine sHalt (ctx _) 31 rfl trivial ?_ | refine sHalt (ctx _) 30 rfl trivial ?_ | refine sHalt (ctx _) 29 rfl trivial ?_ | refine sHalt (ctx _) 28 rfl trivial ?_ | refine sHalt (ctx _) 27 rfl trivial ?_ | refine sHalt (ctx _) 26 rfl trivial ?_ | refine sHalt (ctx _) 25 rfl trivial ?_ | refine sHalt (ctx _) 24 rfl trivial ?_ | refine sHalt (ctx _) 23 rfl trivial ?_ | refine sHalt (ctx _) 22 rfl trivial ?_ | refine sHalt (ctx _) 21 rfl trivial ?_ | refine sHalt (ctx _) 20 rfl trivial ?_ | refine sHalt (ctx _) 19 rfl trivial ?_ | refine sHalt (ctx _) 18 rfl trivial ?_ | refine sHalt (ctx _) 17 rfl trivial ?_ | refine sHalt (ctx _) 16 rfl trivial ?_ | refine sHalt (ctx _) 15 rfl trivial ?_ | refine sHalt (ctx _) 14 rfl trivial ?_ | refine sHalt (ctx _) 13 rfl trivial ?_ | refine sHalt (ctx _) 12 rfl trivial ?_ | refine sHalt (ctx _) 11 rfl trivial ?_ | refine sHalt (ctx _) 10 rfl trivial ?_ | refine sHalt (ctx _) 9 rfl trivial ?_ | refine sHalt (ctx _) 8 rfl trivial ?_ | refine sHalt (ctx _) 7 rfl trivial ?_ | refine sHalt (ctx _) 6 rfl trivial ?_ | refine sHalt (ctx _) 5 rfl trivial ?_ | refine sHalt (ctx _) 4 rfl trivial ?_ | refine sHalt (ctx _) 3 rfl trivial ?_ | refine sHalt (ctx _) 2 rfl trivial ?_
  refine awp_opE rfl rfl (fun r H' => ∃ k, r = .ref H.length 0 l.length ∧ H' = H ++ [.blk (l.flatMap AV.cells ++ List.replicate k .undef)]) (fun X E a w hr => ⟨(guard_go hr).1 rfl, ?_⟩) ?_
  · refine Exists.elim (append_does (a := a) (H := H) (x := .tmp 5) (y := .tmp 6) (l := l) hr.wr ?ho (hr.env 5 (.row 6 [] .full) rfl) (hr.env 6 (.row 6 l .no) rfl) hne hlen) (fun n hn => ⟨_, _, ⟨n, rfl, rfl⟩, hn⟩)
    rfl
  · rintro v H' ⟨k, rfl, rfl⟩
    exact sRet (ctx _) 200 rfl trivial rfl ⟨k, rfl, rfl⟩
/-- An empty row gives an empty one. -/
theorem cloneC_nil : Ret Tryz.prog 43 [.row 6 [] .no] [] (.row 6 [] .no) [] := by
  refine ret_of (fn := Tryz.f43) Tryz.func43 rfl rfl (Nat.le_of_ble_eq_true rfl) rfl ?_
  refine sHalt (ctx _) 100 rfl trivial ?_
  refine awp_opE rfl rfl (fun r H' => ∃ b, r = .bool b ∧ H' = []) (fun X E a w hr => ⟨(guard_go hr).1 rfl, ?_⟩) ?_
  · obtain ⟨A, cap, hv, _⟩ := (hr.env 3 (.row 6 [] .no) rfl).row_slice
    have hv' : a.eval (.tmp 3) = .slice A 0 cap := hv
    refine ⟨.bool A.isNone, [], ⟨_, rfl, rfl⟩, .bool A.isNone, .value (.bool A.isNone), w, E, ?_, .inl rfl, .refl _, .refl _ _, hr.wr, .refl _, .ground (.bool _)⟩
    have hc : a.eval (.const (.slice none 0 0)) = .slice none 0 0 := rfl
    simp [execOp, hv', hc, eqGuard, Lib.run_eql_slice_nil w 22 25 _ _ _ _ _ Tryz.underlying22]
  · rintro v H' ⟨b, rfl, rfl⟩
    refine sSplit (ctx _) 200 rfl trivial (fun h => ?_) (fun h => ?_)
    · exact sRet (ctx _) 200 rfl trivial rfl ⟨⟨trivial, .inl rfl, rfl⟩, trivial⟩
    · exact sRet (ctx _) 200 rfl trivial rfl ⟨⟨trivial, .inl rfl, rfl⟩, trivial⟩
/-- slices.Clone at strings. -/
theorem cloneS_ret (l : List (List UInt8)) (hlen : l.length * 16 ≤ 140737488355328) : Ret Tryz.prog 44 [.row 1 (l.map .str) .no] [] (.row 1 (l.map .str) .no) [] := by
  refine ret_new ⟨Tryz.f44, Tryz.func44, rfl, rfl⟩ fun E w xs hG hz hxs => ?_
  obtain ⟨x, rfl, hx⟩ := args1 hxs
  have hle := since_le hz
  by_cases hne : l = []
  · subst hne
    obtain ⟨A, cap, rfl, _⟩ := hx.row_slice
    cases A with
    | none =>
      refine (Tryz.slices_Clone_string_nil 0 cap w).mono fun e w' he => ?_
      obtain ⟨rfl, rfl⟩ := he
      exact ⟨_, rfl, Below.refl _ _, .ground (.row0 _)⟩
    | some ad =>
      refine (Tryz.slices_Clone_string_zero ad cap w).mono fun e w' he => ?_
      obtain ⟨v, rfl, ⟨_, ho⟩, _, hb⟩ := he
      refine ⟨v, rfl, hb, ?_⟩
      rcases ho with ⟨rfl, _⟩ | ⟨g, c2, cur, rfl, _⟩
      · exact .ground (.row0 _)
      · exact .ground (.row00 _ _ _)
  · have hg := hx.row_g
    have hs : ∀ s ∈ l, s.length ≤ big := by
      intro s hs
      obtain ⟨i, hi⟩ := List.mem_iff_getElem?.1 hs
      generalize hL : l.map AV.str = L at hg
      have hi' : L[i]? = some (.str s) := by rw [← hL]; simp [hi]
      cases hg with
      | row0 => simp at hi'
      | row00 => simp at hi'
      | row _ _ b off cap vs h1 h2 h3 h4 h5 =>
        have := h5 i _ 0 _ hi' rfl
        cases hc : vs i 0 <;> rw [hc] at this <;> cases this
        assumption
    generalize hL : l.map AV.str = L at hg
    cases hg with
    | row0 => simp at hL; exact absurd hL hne
    | row00 => simp at hL; exact absurd hL hne
    | row _ _ b off cap vs h1 h2 h3 h4 h5 =>
      have hll : L.length = l.length := by rw [← hL]; simp
      refine (Tryz.slices_Clone_string b off L.length cap (l.map fun s => ⟨s.toArray⟩) w (by simp [hll]) (by omega) (fun j hj => ?_)).mono fun e w' he => ?_
      · have hj' : j < l.length := by simpa using hj
        have hi' : L[j]? = some (.str l[j]) := by rw [← hL]; simp [hj']
        have g1 := hz _ _ _ (h4 j _ 0 _ hi' rfl)
        have g2 := h5 j _ 0 _ hi' rfl
        rw [Nat.mul_one, Nat.add_zero] at g1
        rw [g1]
        have : vs j 0 = .string ⟨l[j].toArray⟩ := by
          cases hc : vs j 0 <;> rw [hc] at g2 <;> cases g2
          rfl
        rw [this]
        simp [List.getD, hj']
      · obtain ⟨v, rfl, ⟨_, ho⟩, hnn, hb⟩ := he
        refine ⟨v, rfl, hb, ?_⟩
        have hpos : 0 < L.length := by rw [hll]; exact List.length_pos_iff.2 hne
        rcases ho with ⟨rfl, h0⟩ | ⟨g, c2, cur, rfl, hgb, hh, hc, hm, hsz, htake⟩
        · omega
        · subst hL
          refine row_strs (l := l) (n := (l.map AV.str).length) hll (by rw [← hll]; omega) (by rw [← hll]; exact h2) hs g hgb hh (fun i s hi => ?_)
          have hlt := (List.getElem?_eq_some_iff.1 hi).1
          have h7 : (cur.toList.take ((l.map AV.str).length * 1))[i]? = some (.string ⟨s.toArray⟩) := by rw [htake, hll, List.take_of_length_le (by simp)]; simp only [List.getElem?_map, hi]; rfl
          rw [List.getElem?_take] at h7
          rw [if_pos (by rw [hll]; omega)] at h7
          simpa using h7
end Go.Proofs.YtcehdakofmhabaaGreatDoor.Ab
