/- Values told without addresses, and how they stand in a world: what a walk of straight Go code needs, once for all functions. -/
import Derived.Calls
import Derived.Test.YtcehdakofmhabaaGreatDoorAbGlob
import Derived.Below
import Derived.Laws.AppendOwn
import Derived.Laws.MakeOwn
import Derived.Laws.IdiomCopy
import Derived.Laws.Concat
namespace Go.Ab
set_option linter.unusedVariables false
set_option linter.unusedSimpArgs false

/-- What is known of the places behind a slice's end: nothing; there are none; they belong to this call. -/
inductive Tok where
  | no
  | full
  | own (t : Nat)

/-- A value told without addresses. A row is told by its elements; a pointer by the number of its variable. -/
inductive AV where
  | undef
  | int (k : IntKind) (n : Int)
  | tt
  | ff
  | bool (b : Bool)
  | str (s : List UInt8)
  | row (sz : Nat) (l : List AV) (tok : Tok)
  | fptr (cs : List AV)
  | ptr (id off : Nat)
  | nilptr
  | ref (id off len : Nat)
  | agg (cs : List AV)
  | tuple (vs : List AV)
  | func (f : Nat) (caps : List AV)
  | nilfunc
  | whenB (g : Bool) (v : AV)
  deriving Inhabited

def AV.cells : AV → List AV
  | .agg cs => cs
  | x => [x]

abbrev big : Nat := 4611686018427387904

/-- A value that is never written again: its cells are among the frozen ones. -/
inductive G (z : Nat → Nat → Option Value) : AV → Value → Prop
  | int (k : IntKind) (n : Int) : G z (.int k n) (.int k n)
  | tt : G z .tt (.bool true)
  | ff : G z .ff (.bool false)
  | bool (b : Bool) : G z (.bool b) (.bool b)
  | str (s : List UInt8) : s.length ≤ big → G z (.str s) (.string ⟨s.toArray⟩)
  | row0 (sz : Nat) : G z (.row sz [] .no) (.slice none 0 0)
  | row00 (sz : Nat) (a : Addr) (cap : Nat) : G z (.row sz [] .no) (.slice (some a) 0 cap)
  | row (sz : Nat) (l : List AV) (b off cap : Nat) (vs : Nat → Nat → Value) : l.length ≤ cap → l.length ≤ big →
      (∀ (i : Nat) (e : AV), l[i]? = some e → e.cells.length = sz) →
      (∀ (i : Nat) (e : AV) (j : Nat) (c : AV), l[i]? = some e → e.cells[j]? = some c → z b (off + i * sz + j) = some (vs i j)) →
      (∀ (i : Nat) (e : AV) (j : Nat) (c : AV), l[i]? = some e → e.cells[j]? = some c → G z c (vs i j)) →
      G z (.row sz l .no) (.slice (some ⟨b, off, none⟩) l.length cap)
  | nilptr : G z .nilptr (.pointer none)
  | nilfunc : G z .nilfunc .nilFunc

/-- What the numbers of this call's variables stand for; what the rows that it lets grow stand on; the frozen cells. -/
structure En where
  φ : Nat → Option Nat
  τ : Nat → Nat → Option (Nat × Nat × Nat)
  z : Nat → Nat → Option Value

inductive R (E : En) : AV → Value → Prop
  | undef (x : Value) : R E .undef x
  | ground {v : AV} {x : Value} : G E.z v x → R E v x
  | full {sz : Nat} {l : List AV} {A : Option Addr} {n : Nat} : G E.z (.row sz l .no) (.slice A n n) → R E (.row sz l .full) (.slice A n n)
  | own {sz : Nat} {l : List AV} {b off n cap t : Nat} : G E.z (.row sz l .no) (.slice (some ⟨b, off, none⟩) n cap) → E.τ t n = some (b, off, cap) →
      R E (.row sz l (.own t)) (.slice (some ⟨b, off, none⟩) n cap)
  | own0 {sz : Nat} {A : Option Addr} {t : Nat} : G E.z (.row sz [] .no) (.slice A 0 0) → R E (.row sz [] (.own t)) (.slice A 0 0)
  | fptr (cs : List AV) (b off : Nat) (vs : Nat → Value) : (∀ (j : Nat) (c : AV), cs[j]? = some c → E.z b (off + j) = some (vs j)) →
      (∀ (j : Nat) (c : AV), cs[j]? = some c → G E.z c (vs j)) → R E (.fptr cs) (.pointer (some ⟨b, off, none⟩))
  | ptr {id b : Nat} (off : Nat) : E.φ id = some b → R E (.ptr id off) (.pointer (some ⟨b, off, none⟩))
  | ref {id b : Nat} (off off' len cap : Nat) : E.φ id = some b → len ≤ cap → len ≤ big → (off' = off ∨ len = 0) → R E (.ref id off len) (.slice (some ⟨b, off', none⟩) len cap)
  | agg (cs : List AV) (xs : Array Value) : cs.length = xs.size → (∀ (j : Nat) (c : AV) (x : Value), cs[j]? = some c → xs[j]? = some x → R E c x) → R E (.agg cs) (.agg xs)
  | tuple (cs : List AV) (xs : Array Value) : cs.length = xs.size → (∀ (j : Nat) (c : AV) (x : Value), cs[j]? = some c → xs[j]? = some x → R E c x) → R E (.tuple cs) (.tuple xs)
  | func (f : Nat) (cs : List AV) (xs : Array Value) : cs.length = xs.size → (∀ (j : Nat) (c : AV) (x : Value), cs[j]? = some c → xs[j]? = some x → R E c x) → R E (.func f cs) (.func (.func f) #[] xs)
  | whenT {v : AV} {x : Value} : R E v x → R E (.whenB true v) x
  | whenF (v : AV) : R E (.whenB false v) Go.undef

structure En.le (E E' : En) : Prop where
  φ : ∀ i b, E.φ i = some b → E'.φ i = some b
  τ : ∀ t n x, E.τ t n = some x → E'.τ t n = some x
  z : ∀ b o v, E.z b o = some v → E'.z b o = some v

theorem En.le.refl (E : En) : E.le E := ⟨fun _ _ h => h, fun _ _ _ h => h, fun _ _ _ h => h⟩
theorem En.le.trans {A B C : En} (h : A.le B) (g : B.le C) : A.le C :=
  ⟨fun _ _ x => g.φ _ _ (h.φ _ _ x), fun _ _ _ x => g.τ _ _ _ (h.τ _ _ _ x), fun _ _ _ x => g.z _ _ _ (h.z _ _ _ x)⟩

theorem G.mono {z z' : Nat → Nat → Option Value} (hz : ∀ b o v, z b o = some v → z' b o = some v) {v : AV} {x : Value} (h : G z v x) : G z' v x := by
  induction h with
  | int k n => exact .int k n
  | tt => exact .tt
  | ff => exact .ff
  | bool b => exact .bool b
  | str s h => exact .str s h
  | row0 sz => exact .row0 sz
  | row00 sz a cap => exact .row00 sz a cap
  | row sz l b off cap vs h1 h2 h3 h4 _ ih => exact .row sz l b off cap vs h1 h2 h3 (fun i e j c he hc => hz _ _ _ (h4 i e j c he hc)) ih
  | nilptr => exact .nilptr
  | nilfunc => exact .nilfunc

theorem R.mono {E E' : En} (hE : E.le E') {v : AV} {x : Value} (h : R E v x) : R E' v x := by
  induction h with
  | undef x => exact .undef x
  | ground h => exact .ground (h.mono hE.z)
  | full h => exact .full (h.mono hE.z)
  | own h ht => exact .own (h.mono hE.z) (hE.τ _ _ _ ht)
  | own0 h => exact .own0 (h.mono hE.z)
  | fptr cs b off vs h1 h2 => exact .fptr cs b off vs (fun j c h => hE.z _ _ _ (h1 j c h)) (fun j c h => (h2 j c h).mono hE.z)
  | ptr off h => exact .ptr off (hE.φ _ _ h)
  | ref off off' len cap h h1 h2 h3 => exact .ref off off' len cap (hE.φ _ _ h) h1 h2 h3
  | agg cs xs h _ ih => exact .agg cs xs h ih
  | tuple cs xs h _ ih => exact .tuple cs xs h ih
  | func f cs xs h _ ih => exact .func f cs xs h ih
  | whenT _ ih => exact .whenT ih
  | whenF v => exact .whenF v

section inv
variable {E : En} {x : Value}
theorem R.int_inv {k : IntKind} {n : Int} (h : R E (.int k n) x) : x = .int k n := by cases h with | ground h => cases h; rfl
theorem R.tt_inv (h : R E .tt x) : x = .bool true := by cases h with | ground h => cases h; rfl
theorem R.ff_inv (h : R E .ff x) : x = .bool false := by cases h with | ground h => cases h; rfl
theorem R.bool_inv {b : Bool} (h : R E (.bool b) x) : x = .bool b := by cases h with | ground h => cases h; rfl
theorem R.str_inv {s : List UInt8} (h : R E (.str s) x) : x = .string ⟨s.toArray⟩ ∧ s.length ≤ big := by cases h with | ground h => cases h; exact ⟨rfl, by assumption⟩
theorem R.nilptr_inv (h : R E .nilptr x) : x = .pointer none := by cases h with | ground h => cases h; rfl
theorem R.nilfunc_inv (h : R E .nilfunc x) : x = .nilFunc := by cases h with | ground h => cases h; rfl
theorem R.ptr_inv {id off : Nat} (h : R E (.ptr id off) x) : ∃ b, E.φ id = some b ∧ x = .pointer (some ⟨b, off, none⟩) := by
  cases h with
  | ground h => cases h
  | ptr _ h => exact ⟨_, h, rfl⟩
theorem R.ref_inv {id off len : Nat} (h : R E (.ref id off len) x) : ∃ b off' cap, E.φ id = some b ∧ len ≤ cap ∧ len ≤ big ∧ (off' = off ∨ len = 0) ∧ x = .slice (some ⟨b, off', none⟩) len cap := by
  cases h with
  | ground h => cases h
  | ref _ off' _ cap h h1 h2 h3 => exact ⟨_, off', cap, h, h1, h2, h3, rfl⟩
theorem R.fptr_inv {cs : List AV} (h : R E (.fptr cs) x) : ∃ b off, ∃ vs : Nat → Value, x = .pointer (some ⟨b, off, none⟩) ∧ (∀ (j : Nat) (c : AV), cs[j]? = some c → E.z b (off + j) = some (vs j)) ∧ (∀ (j : Nat) (c : AV), cs[j]? = some c → G E.z c (vs j)) := by
  cases h with
  | ground h => cases h
  | fptr _ b off vs h1 h2 => exact ⟨b, off, vs, rfl, h1, h2⟩
theorem R.agg_inv {cs : List AV} (h : R E (.agg cs) x) : ∃ xs : Array Value, x = .agg xs ∧ cs.length = xs.size ∧ ∀ (j : Nat) (c : AV) (x : Value), cs[j]? = some c → xs[j]? = some x → R E c x := by
  cases h with
  | ground h => cases h
  | agg _ xs h1 h2 => exact ⟨xs, rfl, h1, h2⟩
theorem R.tuple_inv {cs : List AV} (h : R E (.tuple cs) x) : ∃ xs : Array Value, x = .tuple xs ∧ cs.length = xs.size ∧ ∀ (j : Nat) (c : AV) (x : Value), cs[j]? = some c → xs[j]? = some x → R E c x := by
  cases h with
  | ground h => cases h
  | tuple _ xs h1 h2 => exact ⟨xs, rfl, h1, h2⟩
theorem R.func_inv {f : Nat} {cs : List AV} (h : R E (.func f cs) x) : ∃ xs : Array Value, x = .func (.func f) #[] xs ∧ cs.length = xs.size ∧ ∀ (j : Nat) (c : AV) (x : Value), cs[j]? = some c → xs[j]? = some x → R E c x := by
  cases h with
  | ground h => cases h
  | func _ _ xs h1 h2 => exact ⟨xs, rfl, h1, h2⟩
/-- A row, whatever is known of the places behind it, reads as one. -/
theorem G.row_tok {z : Nat → Nat → Option Value} {sz : Nat} {l : List AV} {tok : Tok} (h : G z (.row sz l tok) x) : tok = .no := by cases h <;> rfl
theorem R.row_g {sz : Nat} {l : List AV} {tok : Tok} (h : R E (.row sz l tok) x) : G E.z (.row sz l .no) x := by
  cases h with
  | ground h => have := h.row_tok; subst this; exact h
  | full h => exact h
  | own h _ => exact h
  | own0 h => exact h
theorem G.row_slice {z : Nat → Nat → Option Value} {sz : Nat} {l : List AV} {tok : Tok} (h : G z (.row sz l tok) x) : ∃ A cap, x = .slice A l.length cap ∧ l.length ≤ cap ∧ l.length ≤ big ∧ tok = .no := by
  cases h with
  | row0 => exact ⟨none, 0, rfl, Nat.le_refl _, by simp, rfl⟩
  | row00 _ a cap => exact ⟨some a, cap, rfl, by simp, by simp, rfl⟩
  | row _ _ b off cap vs h1 h2 _ _ _ => exact ⟨_, cap, rfl, h1, h2, rfl⟩
theorem R.row_slice {sz : Nat} {l : List AV} {tok : Tok} (h : R E (.row sz l tok) x) : ∃ A cap, x = .slice A l.length cap ∧ l.length ≤ cap ∧ l.length ≤ big := by
  obtain ⟨A, cap, h1, h2, h3, _⟩ := h.row_g.row_slice
  exact ⟨A, cap, h1, h2, h3⟩
end inv

/-- What of a value may be kept for good: without what is known of the places behind its rows. -/
def AV.toG : AV → Option AV
  | .int k n => some (.int k n)
  | .tt => some .tt
  | .ff => some .ff
  | .bool b => some (.bool b)
  | .str s => some (.str s)
  | .row sz l _ => some (.row sz l .no)
  | .nilptr => some .nilptr
  | .nilfunc => some .nilfunc
  | _ => none
theorem AV.toG_ok {E : En} {v u : AV} {x : Value} (h : R E v x) (hg : v.toG = some u) : G E.z u x := by
  cases v <;> simp only [AV.toG, Option.some.injEq, reduceCtorEq] at hg <;> subst hg
  all_goals first
    | exact h.row_g
    | (cases h with | ground h => exact h)
theorem AV.toG_cells {v u : AV} (hg : v.toG = some u) : u.cells = [u] := by
  cases v <;> simp only [AV.toG, Option.some.injEq, reduceCtorEq] at hg <;> subst hg <;> rfl
theorem G.one {z : Nat → Nat → Option Value} {v : AV} {x : Value} (h : G z v x) : x.oneCell' = true := by cases h <;> rfl
theorem G.cells_one {z : Nat → Nat → Option Value} {v : AV} {x : Value} (h : G z v x) : x.cells = #[x] := by cases h <;> rfl
theorem G.av_cells {z : Nat → Nat → Option Value} {v : AV} {x : Value} (h : G z v x) : v.cells = [v] := by cases h <;> rfl

/-- A variable of this call: gone; its cells; the places behind a row that it lets grow (how many elements stand there, and their size). -/
inductive HB where
  | dead
  | blk (cs : List AV)
  | tip (n sz : Nat)

def owns (E : En) (H : List HB) (i b : Nat) : Prop :=
  (∃ cs, H[i]? = some (.blk cs) ∧ E.φ i = some b) ∨ (∃ n sz off cap, H[i]? = some (.tip n sz) ∧ E.τ i n = some (b, off, cap))

/-- How the world stands: 'X' are the blocks that this call leaves alone. -/
structure Wr (X : XT) (E : En) (H : List HB) (w : World) : Prop where
  frame : ∀ b o, X b = some o → w.heap[b]? = some o
  froz : ∀ b o v, E.z b o = some v → w.cell? ⟨b, o, none⟩ = some v
  blk : ∀ i cs, H[i]? = some (.blk cs) → ∃ b xs ty, E.φ i = some b ∧ w.heap[b]? = some (.cells xs ty (0, 0)) ∧ X b = none ∧ (∀ o, E.z b o = none) ∧
    cs.length = xs.size ∧ ∀ (j : Nat) (c : AV) (x : Value), cs[j]? = some c → xs[j]? = some x → R E c x
  tip : ∀ t n sz, H[t]? = some (.tip n sz) → (n = 0 ∧ ∀ m, E.τ t m = none) ∨ ∃ b cap xs ty, E.τ t n = some (b, 0, cap) ∧ (∀ m, n < m → E.τ t m = none) ∧ w.heap[b]? = some (.cells xs ty (0, 0)) ∧ X b = none ∧
    (∀ o, n * sz ≤ o → E.z b o = none) ∧ cap * sz = xs.size ∧ n ≤ cap
  sep : ∀ i j b, owns E H i b → owns E H j b → i = j
  fresh : ∀ i, H.length ≤ i → E.φ i = none ∧ ∀ n, E.τ i n = none

/-- What a call leaves of a world besides its blocks. -/
structure Ext (w w' : World) : Prop where
  os : w'.os = w.os
  tape : w'.tape = w.tape
  output : w'.output = w.output
  size : w.heap.size ≤ w'.heap.size
theorem Ext.refl (w : World) : Ext w w := ⟨rfl, rfl, rfl, Nat.le_refl _⟩
theorem Ext.trans {a b c : World} (h : Ext a b) (g : Ext b c) : Ext a c := ⟨g.os.trans h.os, g.tape.trans h.tape, g.output.trans h.output, Nat.le_trans h.size g.size⟩
theorem Ext.alloc (w : World) (o : Obj) : Ext w (w.alloc o) := ⟨rfl, rfl, rfl, by simp⟩
theorem Ext.drew (w : World) : Ext w w.drew := ⟨rfl, rfl, rfl, Nat.le_refl _⟩
theorem Ext.setCell (w : World) (a : Addr) (v : Value) : Ext w (w.setCell a v) := ⟨rfl, rfl, rfl, by simp⟩

theorem Wr.z_lt {X : XT} {E : En} {H : List HB} {w : World} (h : Wr X E H w) {b o : Nat} {v : Value} (hz : E.z b o = some v) : b < w.heap.size :=
  World.block_lt_of_cell? w _ (h.froz b o v hz)
theorem Wr.z_new {X : XT} {E : En} {H : List HB} {w : World} (h : Wr X E H w) {b o : Nat} (hb : w.heap.size ≤ b) : E.z b o = none := by
  cases hz : E.z b o with
  | none => rfl
  | some v => exact absurd (h.z_lt hz) (by omega)
theorem Wr.drew {X : XT} {E : En} {H : List HB} {w : World} (h : Wr X E H w) : Wr X E H w.drew :=
  ⟨h.frame, h.froz, h.blk, h.tip, h.sep, h.fresh⟩

/-- What a step adds to the frozen cells lies outside the blocks that are left alone. -/
def Off (X : XT) (E E' : En) : Prop := ∀ b o v, E'.z b o = some v → E.z b o = none → X b = none
theorem Off.refl (X : XT) (E : En) : Off X E E := fun b o v h1 h2 => by rw [h1] at h2; cases h2
theorem Off.trans {X : XT} {A B C : En} (h : Off X A B) (g : Off X B C) : Off X A C := fun b o v h1 h2 => by
  cases hb : B.z b o with
  | none => exact g b o v h1 hb
  | some u => exact h b o u hb h2
end Go.Ab
