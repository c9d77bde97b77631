/- Straight code walked over values told without addresses: a machine that runs until something has to be decided by hand. -/
import Derived.Test.YtcehdakofmhabaaGreatDoorAbBase
namespace Go.Ab
set_option linter.unusedVariables false
set_option linter.unusedSimpArgs false

/-- What is asked of a type. -/
structure TyI where
  d : TypeDesc
  size : Nat
  bytes : Nat
  zs : List AV
  agg : Bool
  deriving Inhabited

def descOf (T : Nat → Option TyI) (t : Nat) : Option TypeDesc :=
  match T t with
  | some i => some i.d
  | none => none

structure St where
  env : List (Nat × AV)
  H : List HB

def look : List (Nat × AV) → Nat → Option AV
  | [], _ => none
  | (k, v) :: r, t => match Nat.beq k t with
    | true => some v
    | false => look r t

def ofConst : Value → AV
  | .int k n => .int k n
  | .bool true => .tt
  | .bool false => .ff
  | .string s => match Nat.ble s.data.toList.length 1000000 with
    | true => .str s.data.toList
    | false => .undef
  | .slice none 0 0 => .row 0 [] .full
  | .pointer none => .nilptr
  | .nilFunc => .nilfunc
  | _ => .undef

def St.ev (s : St) : Operand → Option AV
  | .tmp t => look s.env t
  | .const v => some (ofConst v)
  | .global _ => none
  | .func f => some (.func f [])

def evs (s : St) : List Operand → Option (List AV)
  | [] => some []
  | x :: r => match s.ev x with
    | none => none
    | some v => match evs s r with
      | none => none
      | some vs => some (v :: vs)

/-- A value, the variables behind it, and what is to be shown for it. -/
inductive Out where
  | val (v : AV) (H : List HB)
  | valc (v : AV) (H : List HB) (vc : Prop)
  | call (f : Nat) (args : List AV)
  | elem (l : List AV) (i : Int)
  | stuck

def toB : AV → Option Bool
  | .tt => some true
  | .ff => some false
  | .bool b => some b
  | _ => none

def kNum : IntKind → Nat
  | .i8 => 0 | .i16 => 1 | .i32 => 2 | .i64 => 3 | .u8 => 4 | .u16 => 5 | .u32 => 6 | .u64 => 7
theorem kNum_inj {a b : IntKind} (h : Nat.beq (kNum a) (kNum b) = true) : a = b := by
  cases a <;> cases b <;> first | rfl | (exact absurd h (by decide))

def aBinInt (op : BinOp) (k : IntKind) (a b : Int) (H : List HB) : Out :=
  match op with
  | .add => .val (.int k (k.wrap (a + b))) H
  | .sub => .val (.int k (k.wrap (a - b))) H
  | .mul => .val (.int k (k.wrap (a * b))) H
  | .quo => .valc (.int k (k.wrap (a.tdiv b))) H (b ≠ 0)
  | .rem => .valc (.int k (a.tmod b)) H (b ≠ 0)
  | .and => .val (.int k (k.wrap (BitVec.ofInt k.bits a &&& BitVec.ofInt k.bits b).toNat)) H
  | .or => .val (.int k (k.wrap (BitVec.ofInt k.bits a ||| BitVec.ofInt k.bits b).toNat)) H
  | .xor => .val (.int k (k.wrap (BitVec.ofInt k.bits a ^^^ BitVec.ofInt k.bits b).toNat)) H
  | .eql => .val (.bool (a == b)) H
  | .neq => .val (.bool (a != b)) H
  | .lss => .val (.bool (decide (a < b))) H
  | .leq => .val (.bool (decide (a ≤ b))) H
  | .gtr => .val (.bool (decide (a > b))) H
  | .geq => .val (.bool (decide (a ≥ b))) H
  | _ => .stuck

def aBinStr (op : BinOp) (a b : List UInt8) (H : List HB) : Out :=
  match op with
  | .add => .valc (.str (a ++ b)) H (a.length + b.length ≤ big)
  | .eql => .val (.bool (a == b)) H
  | .neq => .val (.bool (!(a == b))) H
  | .lss => .val (.bool (Op.bytesLess a b)) H
  | .leq => .val (.bool (Op.bytesLess a b || a == b)) H
  | .gtr => .val (.bool (!(Op.bytesLess a b || a == b))) H
  | .geq => .val (.bool (!(Op.bytesLess a b))) H
  | _ => .stuck

def aBin (d : Option TypeDesc) (op : BinOp) (x y : AV) (H : List HB) : Out :=
  match x, y with
  | .int k a, .int k' b =>
    match op with
    | .shl => .valc (.int k (k.wrap (a * 2 ^ (min b.toNat k.bits)))) H (0 ≤ b)
    | .shr => .valc (.int k (a.fdiv (2 ^ (min b.toNat k.bits)))) H (0 ≤ b)
    | op => match Nat.beq (kNum k) (kNum k') with
      | true => aBinInt op k a b H
      | false => .stuck
  | .str a, .str b => aBinStr op a b H
  | x, y => match d, op, toB x, toB y with
    | some .bool, .eql, some a, some b => .val (.bool (a == b)) H
    | some .bool, .neq, some a, some b => .val (.bool (!(a == b))) H
    | _, _, _, _ => .stuck

def aUn (op : UnOp) (x : AV) (H : List HB) : Out :=
  match op, x with
  | .neg, .int k n => .val (.int k (k.wrap (0 - n))) H
  | .not, .tt => .val .ff H
  | .not, .ff => .val .tt H
  | .not, .bool b => .val (.bool !b) H
  | _, _ => .stuck

/-- '.cells[off .. off + n]', put together. -/
def part (agg : Bool) (n : Nat) (cs : List AV) (off : Nat) : Option AV :=
  match agg with
  | true => match Nat.ble (off + n) cs.length with
    | true => some (.agg ((cs.drop off).take n))
    | false => none
  | false => cs[off]?

def aField (i : TyI) (T : Nat → Option TyI) (x : AV) (f : Nat) (H : List HB) : Out :=
  match i.d, x with
  | .struct fields, .agg cs => match fields[f]? with
    | some fl => match T fl.type with
      | some j => match part j.agg j.size cs fl.offset with
        | some v => .val v H
        | none => .stuck
      | none => .stuck
    | none => .stuck
  | _, _ => .stuck

def aFieldAddr (i : TyI) (T : Nat → Option TyI) (x : AV) (f : Nat) (H : List HB) : Out :=
  match i.d with
  | .struct fields => match fields[f]? with
    | some fl => match T fl.type with
      | some j => match j.size with
        | 0 => .stuck
        | _ + 1 => match x with
          | .ptr id off => .val (.ptr id (off + fl.offset)) H
          | .fptr cs => .val (.fptr (cs.drop fl.offset)) H
          | _ => .stuck
      | none => .stuck
    | none => .stuck
  | _ => .stuck

def aLoad (i : TyI) (x : AV) (H : List HB) : Out :=
  match x with
  | .ptr id off => match H[id]? with
    | some (.blk cs) => match part i.agg i.size cs off with
      | some v => .val v H
      | none => .stuck
    | _ => .stuck
  | .fptr cs => match part i.agg i.size cs 0 with
    | some v => .val v H
    | none => .stuck
  | _ => .stuck

/-- May the value stand in a cell? -/
def AV.leaf : AV → Bool
  | .undef | .agg _ | .tuple _ | .whenB _ _ => false
  | _ => true
def setAt (cs : List AV) (off : Nat) (vs : List AV) : List AV := cs.take off ++ (vs ++ cs.drop (off + vs.length))

def aStore (i : TyI) (x v : AV) (H : List HB) : Option (List HB) :=
  match x with
  | .ptr id off => match H[id]? with
    | some (.blk cs) => match v.cells.all AV.leaf, Nat.beq v.cells.length i.size, Nat.ble (off + v.cells.length) cs.length with
      | true, true, true => some (H.set id (.blk (setAt cs off v.cells)))
      | _, _, _ => none
    | _ => none
  | _ => none

def aBox (v : AV) (H : List HB) : Out :=
  match v.cells.all AV.leaf with
  | true => .val (.ptr H.length 0) (H ++ [.blk v.cells])
  | false => .stuck

def aAlloc (i : TyI) (H : List HB) : Out := .val (.ptr H.length 0) (H ++ [.blk i.zs])

def toGs : List AV → Option (List AV)
  | [] => some []
  | v :: r => match v.toG with
    | none => none
    | some u => match toGs r with
      | none => none
      | some us => some (u :: us)

/-- The parts of a composite, each at its place. -/
def aFill (place : Nat → Option (Nat × Nat)) (cells : List AV) : List (Nat × AV) → Option (List AV)
  | [] => some cells
  | (i, v) :: rest => match place i with
    | none => none
    | some (off, size) => match Nat.beq v.cells.length size, Nat.ble (off + v.cells.length) cells.length with
      | true, true => aFill place (setAt cells off v.cells) rest
      | _, _ => none

def evParts (s : St) : List (Nat × Operand) → Option (List (Nat × AV))
  | [] => some []
  | (i, x) :: r => match s.ev x with
    | none => none
    | some v => match v.cells.all AV.leaf with
      | false => none
      | true => match evParts s r with
        | none => none
        | some vs => some ((i, v) :: vs)

def fieldPlaces (T : Nat → Option TyI) (fields : Array Field) (f : Nat) : Option (Nat × Nat) :=
  match fields[f]? with
  | none => none
  | some fl => match T fl.type with
    | none => none
    | some j => some (fl.offset, j.size)

def known (T : Nat → Option TyI) : List Field → Bool
  | [] => true
  | f :: r => match T f.type with
    | some _ => known T r
    | none => false

def aBuild (i : TyI) (T : Nat → Option TyI) (parts : List (Nat × AV)) (H : List HB) : Out :=
  match i.d with
  | .struct fields => match known T fields.toList with
    | true => match aFill (fieldPlaces T fields) i.zs parts with
      | some cs => .val (.agg cs) H
      | none => .stuck
    | false => .stuck
  | _ => .stuck

/-- A row of cells as elements. -/
def chunk (agg : Bool) (sz : Nat) : Nat → List AV → List AV
  | 0, _ => []
  | n + 1, cs => match agg with
    | true => .agg (cs.take sz) :: chunk agg sz n (cs.drop sz)
    | false => match cs with
      | [] => []
      | c :: r => c :: chunk agg sz n r

def repl (zs : List AV) : Nat → List AV
  | 0 => []
  | n + 1 => zs ++ repl zs n

/-- A row of new elements: it is never written again. -/
def aBuildSlice (i : TyI) (T : Nat → Option TyI) (len : Nat) (parts : List (Nat × AV)) (H : List HB) : Out :=
  match i.d with
  | .slice e => match T e with
    | some j => match Nat.ble 1 j.size, Nat.ble (len * j.size) 10000 with
      | true, true => match aFill (fun i => some (i * j.size, j.size)) (repl j.zs len) parts with
        | some cs => match toGs cs with
          | some us => .val (.row j.size (chunk j.agg j.size len us) .full) H
          | none => .stuck
        | none => .stuck
      | _, _ => .stuck
    | none => .stuck
  | _ => .stuck

def aLen (i : TyI) (x : AV) (H : List HB) : Out :=
  match i.d, x with
  | .string, .str s => .val (.int .i64 s.length) H
  | .slice _, .row _ l _ => .val (.int .i64 l.length) H
  | .slice _, .ref _ _ n => .val (.int .i64 n) H
  | _, _ => .stuck

def aIndex (i : TyI) (x : AV) (ix : AV) (H : List HB) : Out :=
  match i.d, x, ix with
  | .string, .str s, .int _ n => .valc (.int .u8 ((s.getD n.toNat 0).toNat : Int)) H (0 ≤ n ∧ n < s.length)
  | _, _, _ => .stuck

def aIndexAddr (i : TyI) (T : Nat → Option TyI) (x : AV) (ix : AV) (H : List HB) : Out :=
  match i.d, ix with
  | .slice e, .int _ n => match T e with
    | some j => match x with
      | .row sz l _ => match Nat.beq sz j.size with
        | true => .elem l n
        | false => .stuck
      | .ref id off len => .valc (.ptr id (off + n.toNat * j.size)) H (0 ≤ n ∧ n < len)
      | _ => .stuck
    | none => .stuck
  | _, _ => .stuck

def intOf : Option AV → Int → Option Int
  | none, d => some d
  | some (.int _ n), _ => some n
  | some _, _ => none

def aSlice (i : TyI) (T : Nat → Option TyI) (x : AV) (lo hi mx : Option AV) (H : List HB) : Out :=
  match i.d, x with
  | .string, .str s => match mx, intOf lo 0, intOf hi s.length with
    | none, some l, some h => .valc (.str ((s.take h.toNat).drop l.toNat)) H (0 ≤ l ∧ l ≤ h ∧ h ≤ s.length)
    | _, _, _ => .stuck
  | .slice e, .row sz xs tok => match T e with
    | some j => match Nat.beq sz j.size, intOf lo 0, mx with
      | true, some l, some (.int _ m) => match hi with
        | some (.int _ h) => .valc (.row sz ((xs.take h.toNat).drop l.toNat) .full) H (0 ≤ l ∧ l ≤ h ∧ h ≤ xs.length ∧ m = h)
        | _ => .stuck
      | true, some l, none => match intOf hi xs.length with
        | some h => .valc (.row sz ((xs.take h.toNat).drop l.toNat) .no) H (0 ≤ l ∧ l ≤ h ∧ h ≤ xs.length)
        | none => .stuck
      | _, _, _ => .stuck
    | none => .stuck
  | .slice e, .ref id off len => match T e with
    | some j => match intOf lo 0, intOf hi len, mx with
      | some l, some h, none => .valc (.ref id (off + l.toNat * j.size) (h.toNat - l.toNat)) H (0 ≤ l ∧ l ≤ h ∧ h ≤ len)
      | _, _, _ => .stuck
    | none => .stuck
  | _, _ => .stuck

def aConvert (i j : TyI) (T : Nat → Option TyI) (x : AV) (H : List HB) : Out :=
  match i.d, j.d, x with
  | .int _, .int k, .int _ n => .val (.int k (k.wrap n)) H
  | .int _, .string, .int _ n => .val (.str (Utf8.encode n).data.toList) H
  | .string, .string, .str s => .val (.str s) H
  | _, _, _ => .stuck

def aExtract (x : AV) (ix : Nat) (H : List HB) : Out :=
  match x with
  | .tuple vs => match vs[ix]? with
    | some v => .val v H
    | none => .stuck
  | _ => .stuck

def aMin (mn : Bool) (a b : AV) (H : List HB) : Out :=
  match a, b with
  | .int k x, .int k' y => match Nat.beq (kNum k) (kNum k') with
    | true => match mn with
      | true => .val (.int k (if y < x then y else x)) H
      | false => .val (.int k (if y > x then y else x)) H
    | false => .stuck
  | _, _ => .stuck

/-- Has the row's elements this size? -/
def szOk (sz : Nat) (xs : List AV) (k : Nat) : Bool :=
  match xs with
  | [] => true
  | _ :: _ => Nat.beq sz k

/-- 'append' where what stands behind the row is known. -/
def aAppend (i j : TyI) (T : Nat → Option TyI) (x y : AV) (H : List HB) : Out :=
  match i.d, j.d, x, y with
  | .slice e, .slice e', .row sz xs tok, .row sz' ys _ => match T e with
    | some k => match Nat.ble 1 k.size, Nat.ble 1 k.bytes, Nat.beq e e' with
      | true, true, true => match tok, ys with
        | .full, y :: yr => match szOk sz xs k.size, Nat.beq sz' k.size with
          | true, true => .valc (.row k.size (xs ++ y :: yr) (.own H.length)) (H ++ [.tip (xs.length + (yr.length + 1)) k.size]) ((xs.length + (yr.length + 1)) * k.bytes ≤ 140737488355328)
          | _, _ => .stuck
        | .full, [] => .val (.row sz xs .full) H
        | .own t, ys => match H[t]? with
          | some (.tip n sz2) => match Nat.beq sz2 k.size, Nat.beq sz k.size, Nat.beq sz' k.size with
            | true, true, true => .valc (.row k.size (xs ++ ys) (.own t)) (H.set t (.tip (xs.length + ys.length) k.size)) (n = xs.length ∧ (xs.length + ys.length) * k.bytes ≤ 140737488355328)
            | _, _, _ => .stuck
          | _ => .stuck
        | _, _ => .stuck
      | _, _, _ => .stuck
    | none => .stuck
  | _, _, _, _ => .stuck

def aMakeSlice (i : TyI) (T : Nat → Option TyI) (ln cp : AV) (H : List HB) : Out :=
  match i.d, ln, cp with
  | .slice e, .int _ l, .int _ c => match T e with
    | some k => match Nat.beq k.size 1, k.zs with
      | true, [z] => .valc (.ref H.length 0 l.toNat) (H ++ [.blk (List.replicate l.toNat z)]) (0 ≤ l ∧ l = c ∧ l * k.bytes ≤ 140737488355328 ∧ l ≤ 140737488355328)
      | _, _ => .stuck
    | none => .stuck
  | _, _, _ => .stuck

def aCallee (f : AV) (args : List AV) : Out :=
  match f with
  | .func g caps => .call g (args ++ caps)
  | _ => .stuck

def aBuiltin (T : Nat → Option TyI) (b : Builtin) (tys : List Nat) (args : List AV) (H : List HB) : Out :=
  match b, tys, args with
  | .len, [t], [x] => match T t with
    | some i => aLen i x H
    | none => .stuck
  | .append, [t, u], [x, y] => match T t, T u with
    | some i, some j => aAppend i j T x y H
    | _, _ => .stuck
  | .min, _, [x, y] => aMin true x y H
  | .max, _, [x, y] => aMin false x y H
  | _, _, _ => .stuck

def evO (s : St) : Option Operand → Option (Option AV)
  | none => some none
  | some x => match s.ev x with
    | some v => some (some v)
    | none => none

def oMove (s : St) (x : Operand) : Out :=
  match s.ev x with
  | some v => .val v s.H
  | none => .stuck
def oNil (s : St) (x : Operand) : Out :=
  match s.ev x with
  | some (.ptr i o) => .val (.ptr i o) s.H
  | some (.fptr cs) => .val (.fptr cs) s.H
  | some (.func f cs) => .val (.func f cs) s.H
  | _ => .stuck
def pickB (g : Bool) (x y : AV) (H : List HB) : Out :=
  match x, y with
  | .whenB g1 x, .whenB g2 y => match toB x, toB y with
    | some p, some q => .valc (.bool (bif g then p else q)) H ((g = true → g1 = true) ∧ (g = false → g2 = true))
    | _, _ => .stuck
  | .whenB g1 x, y => match toB x, toB y with
    | some p, some q => .valc (.bool (bif g then p else q)) H (g = true → g1 = true)
    | _, _ => .stuck
  | x, .whenB g2 y => match toB x, toB y with
    | some p, some q => .valc (.bool (bif g then p else q)) H (g = false → g2 = true)
    | _, _ => .stuck
  | x, y => match toB x, toB y with
    | some p, some q => .val (.bool (bif g then p else q)) H
    | _, _ => .stuck
def oPick (s : St) (c a b : Operand) : Out :=
  match s.ev c with
  | some .tt => oMove s a
  | some .ff => oMove s b
  | some (.bool g) => match s.ev a, s.ev b with
    | some x, some y => pickB g x y s.H
    | _, _ => .stuck
  | _ => .stuck
def oAlloc (T : Nat → Option TyI) (s : St) (t : Nat) : Out :=
  match T t with
  | some i => aAlloc i s.H
  | none => .stuck
def oBox (s : St) (x : Operand) : Out :=
  match s.ev x with
  | some v => aBox v s.H
  | none => .stuck
def oBuild (T : Nat → Option TyI) (s : St) (t : Nat) (parts : List (Nat × Operand)) : Out :=
  match T t, evParts s parts with
  | some i, some ps => aBuild i T ps s.H
  | _, _ => .stuck
def oBuildSlice (T : Nat → Option TyI) (s : St) (t len : Nat) (parts : List (Nat × Operand)) : Out :=
  match T t, evParts s parts with
  | some i, some ps => aBuildSlice i T len ps s.H
  | _, _ => .stuck
def oLoad (T : Nat → Option TyI) (s : St) (t : Nat) (a : Operand) : Out :=
  match T t, s.ev a with
  | some i, some x => aLoad i x s.H
  | _, _ => .stuck
def oStore (T : Nat → Option TyI) (s : St) (t : Nat) (a v : Operand) : Out :=
  match T t, s.ev a, s.ev v with
  | some i, some x, some y => match aStore i x y s.H with
    | some H' => .val .undef H'
    | none => .stuck
  | _, _, _ => .stuck
def oBin (T : Nat → Option TyI) (s : St) (op : BinOp) (t : Nat) (x y : Operand) : Out :=
  match s.ev x, s.ev y with
  | some a, some b => aBin (descOf T t) op a b s.H
  | _, _ => .stuck
def oUn (s : St) (op : UnOp) (x : Operand) : Out :=
  match s.ev x with
  | some a => aUn op a s.H
  | none => .stuck
def oConvert (T : Nat → Option TyI) (s : St) (src dst : Nat) (x : Operand) : Out :=
  match T src, T dst, s.ev x with
  | some i, some j, some a => aConvert i j T a s.H
  | _, _, _ => .stuck
def oMakeFunc (s : St) (fn : Fn) (first caps : List Operand) : Out :=
  match fn, first, evs s caps with
  | .func f, [], some vs => .val (.func f vs) s.H
  | _, _, _ => .stuck
def oMakeSlice (T : Nat → Option TyI) (s : St) (t : Nat) (l c : Operand) : Out :=
  match T t, s.ev l, s.ev c with
  | some i, some a, some b => aMakeSlice i T a b s.H
  | _, _, _ => .stuck
def oSlice (T : Nat → Option TyI) (s : St) (t : Nat) (x : Operand) (lo hi mx : Option Operand) : Out :=
  match T t, s.ev x, evO s lo, evO s hi, evO s mx with
  | some i, some a, some l, some h, some m => aSlice i T a l h m s.H
  | _, _, _, _, _ => .stuck
def oFieldAddr (T : Nat → Option TyI) (s : St) (t : Nat) (x : Operand) (f : Nat) : Out :=
  match T t, s.ev x with
  | some i, some a => aFieldAddr i T a f s.H
  | _, _ => .stuck
def oField (T : Nat → Option TyI) (s : St) (t : Nat) (x : Operand) (f : Nat) : Out :=
  match T t, s.ev x with
  | some i, some a => aField i T a f s.H
  | _, _ => .stuck
def oIndexAddr (T : Nat → Option TyI) (s : St) (t : Nat) (x ix : Operand) : Out :=
  match T t, s.ev x, s.ev ix with
  | some i, some a, some b => aIndexAddr i T a b s.H
  | _, _, _ => .stuck
def oIndex (T : Nat → Option TyI) (s : St) (t : Nat) (x ix : Operand) : Out :=
  match T t, s.ev x, s.ev ix with
  | some i, some a, some b => aIndex i a b s.H
  | _, _, _ => .stuck
def oExtract (s : St) (x : Operand) (ix : Nat) : Out :=
  match s.ev x with
  | some a => aExtract a ix s.H
  | none => .stuck
def oCall (T : Nat → Option TyI) (s : St) (c : Callee) (args : List Operand) (tys : List Nat) : Out :=
  match c, evs s args with
  | .builtin b, some vs => aBuiltin T b tys vs s.H
  | .value f, some vs => match s.ev f with
    | some g => aCallee g vs
    | none => .stuck
  | _, _ => .stuck

def aop (T : Nat → Option TyI) (s : St) (op : Op) : Out :=
  match op with
  | .move x => oMove s x
  | .assign x => oMove s x
  | .nilCheck x => oNil s x
  | .pick c a b => oPick s c a b
  | .alloc t => oAlloc T s t
  | .box _ x => oBox s x
  | .build t parts => oBuild T s t parts.toList
  | .buildSlice t len parts => oBuildSlice T s t len parts.toList
  | .load t a => oLoad T s t a
  | .store t a v => oStore T s t a v
  | .binOp op t x y _ => oBin T s op t x y
  | .unOp op _ x => oUn s op x
  | .convert src dst x => oConvert T s src dst x
  | .makeFunc fn first caps => oMakeFunc s fn first.toList caps.toList
  | .makeSlice t l c => oMakeSlice T s t l c
  | .slice t x lo hi mx => oSlice T s t x lo hi mx
  | .fieldAddr t x f => oFieldAddr T s t x f
  | .field t x f => oField T s t x f
  | .indexAddr t x ix => oIndexAddr T s t x ix
  | .index t x ix => oIndex T s t x ix
  | .extract x ix => oExtract s x ix
  | .call c => oCall T s c.callee c.args.toList c.argTypes.toList
  | _ => .stuck

def Out.noStop : Out → Out
  | .call _ _ => .stuck
  | .elem _ _ => .stuck
  | o => o
def exec1 (T : Nat → Option TyI) (s : St) (op : Op) : Out :=
  match op with
  | .call c => oCall T s c.callee c.args.toList c.argTypes.toList
  | .indexAddr t x ix => oIndexAddr T s t x ix
  | op => (aop T s op).noStop

/-- Where the machine stops. -/
inductive Stop where
  | ret (s : St) (vc : Prop)
  | split (t : Nat) (g : Bool) (yes no : List Item) (s : St) (vc : Prop)
  | guard (t : Nat) (g : Bool) (k : List Item) (s : St) (vc : Prop)
  | call (f : Nat) (args : List AV) (dst : Option Nat) (k : List Item) (s : St) (vc : Prop)
  | elem (l : List AV) (i : Int) (dst : Option Nat) (k : List Item) (s : St) (vc : Prop)
  | loop (body : Code) (k : List Item) (s : St) (vc : Prop)
  | back (k : List Item) (s : St) (vc : Prop)
  | draw (id : Nat) (ops : Array Oper) (k : List Item) (s : St) (vc : Prop)
  | stuck (k : List Item) (s : St) (vc : Prop)

def St.put (s : St) (d : Option Nat) (v : AV) (H : List HB) : St :=
  match d with
  | some t => { env := (t, v) :: s.env, H }
  | none => { env := s.env, H }

def canPut (nt : Nat) : Option Nat → Bool
  | some t => Nat.blt t nt
  | none => true

/-- The guard of an operation: what it hangs on, and whether it is wanted. -/
inductive Gd where
  | go
  | skip
  | ask (t : Nat) (g want : Bool)
  | askW (g1 g want : Bool)
  | bad
def guardOf (nt : Nat) (ops : Array Oper) (s : St) (o : Oper) : Gd :=
  match o.guard with
  | none => .go
  | some (j, want) => match ops[j]? with
    | none => .bad
    | some p => match p.dst with
      | none => .bad
      | some t => match Nat.blt t nt with
       | false => .bad
       | true => match look s.env t, want with
        | some .tt, true => .go
        | some .tt, false => .skip
        | some .ff, true => .skip
        | some .ff, false => .go
        | some .undef, _ => .bad
        | some (.bool g), w => .ask t g w
        | some (.whenB g1 (.bool g)), w => .askW g1 g w
        | _, _ => .bad

def runG (T : Nat → Option TyI) (nt : Nat) (go : List Item → St → Prop → Stop) (ops : Array Oper) (i : Nat) (r : List Nat) (o : Oper) (k : List Item) (s : St) (vc : Prop) : Stop :=
  match exec1 T s o.op with
  | .val v H => go (.inRegion ops r :: k) (s.put o.dst v H) vc
  | .valc v H c => go (.inRegion ops r :: k) (s.put o.dst v H) (vc ∧ c)
  | .call f args => .call f args o.dst (.inRegion ops r :: k) s vc
  | .elem l ix => .elem l ix o.dst (.inRegion ops r :: k) s vc
  | .stuck => .stuck (.inRegion ops (i :: r) :: k) s vc
/-- The operands as they are where the guard holds, and what is to be shown for that. -/
def opEnv (G : Bool) (s : St) : List Operand → List (Nat × AV)
  | [] => []
  | .tmp t :: r => match look s.env t with
    | some (.whenB _ v) => (t, v) :: opEnv G s r
    | some v => (t, v) :: opEnv G s r
    | none => opEnv G s r
  | _ :: r => opEnv G s r
def opNeeds (G : Bool) (s : St) : List Operand → Prop
  | [] => True
  | .tmp t :: r => match look s.env t with
    | some (.whenB g1 _) => (G = true → g1 = true) ∧ opNeeds G s r
    | _ => opNeeds G s r
  | _ :: r => opNeeds G s r
def rawEnv (s : St) : List Operand → List (Nat × AV)
  | [] => []
  | .tmp t :: r => match look s.env t with
    | some v => (t, v) :: rawEnv s r
    | none => rawEnv s r
  | _ :: r => rawEnv s r
def gEnv (G : Bool) (s : St) (op : Op) : List (Nat × AV) × Prop :=
  match op with
  | .pick c a b => (opEnv G s [c] ++ rawEnv s [a, b], opNeeds G s [c])
  | op => (opEnv G s op.operands.toList, opNeeds G s op.operands.toList)
def writes : Op → Bool
  | .alloc _ | .box .. | .store .. | .makeSlice .. => true
  | .call c => match c.callee with
    | .builtin .append => true
    | _ => false
  | _ => false
/-- A guarded operation that changes no variable: told with its guard. -/
def runP (T : Nat → Option TyI) (nt : Nat) (go : List Item → St → Prop → Stop) (other : Stop) (G : Bool) (ops : Array Oper) (r : List Nat) (o : Oper) (k : List Item) (s : St) (vc : Prop) : Stop :=
  match writes o.op with
  | true => other
  | false => match exec1 T ⟨(gEnv G s o.op).1, s.H⟩ o.op with
    | .val v _ => go (.inRegion ops r :: k) (s.put o.dst (.whenB G v) s.H) (vc ∧ (gEnv G s o.op).2)
    | .valc v _ c => go (.inRegion ops r :: k) (s.put o.dst (.whenB G v) s.H) ((vc ∧ (gEnv G s o.op).2) ∧ (G = true → c))
    | _ => other
def gOf (g want : Bool) : Bool := match want with
  | true => g
  | false => !g
def runR (T : Nat → Option TyI) (nt : Nat) (go : List Item → St → Prop → Stop) (ops : Array Oper) (i : Nat) (r : List Nat) (k : List Item) (s : St) (vc : Prop) : Stop :=
  match ops[i]? with
  | none => .stuck (.inRegion ops (i :: r) :: k) s vc
  | some o => match canPut nt o.dst with
    | false => .stuck (.inRegion ops (i :: r) :: k) s vc
    | true => match guardOf nt ops s o with
      | .bad => .stuck (.inRegion ops (i :: r) :: k) s vc
      | .skip => go (.inRegion ops r :: k) (s.put o.dst .undef s.H) vc
      | .ask t g w => runP T nt go (.guard t g (.inRegion ops (i :: r) :: k) s vc) (gOf g w) ops r o k s vc
      | .askW g1 g w => runP T nt go (.stuck (.inRegion ops (i :: r) :: k) s vc) (g1 && gOf g w) ops r o k s vc
      | .go => runG T nt go ops i r o k s vc
def runB (go : List Item → St → Prop → Stop) (c : Operand) (x y : Code) (k : List Item) (s : St) (vc : Prop) : Stop :=
  match s.ev c with
  | some .tt => go (.code x :: k) s vc
  | some .ff => go (.code y :: k) s vc
  | some (.bool g) => match c with
    | .tmp t => .split t g (.code x :: k) (.code y :: k) s vc
    | _ => .stuck (.code (.cond c x y) :: k) s vc
  | _ => .stuck (.code (.cond c x y) :: k) s vc
def runC (go : List Item → St → Prop → Stop) (c : Code) (k : List Item) (s : St) (vc : Prop) : Stop :=
  match c with
  | .ret => .ret s vc
  | .skip => go k s vc
  | .label _ => go k s vc
  | .seq a b => go (.code a :: .code b :: k) s vc
  | .block id c => go (.code c :: .inBlock id :: k) s vc
  | .scope c => go (.code c :: .inScope c :: k) s vc
  | .exit id => match exitTo id k with
    | some k' => go k' s vc
    | none => .stuck (.code (.exit id) :: k) s vc
  | .cond c x y => runB go c x y k s vc
  | .loop c => .loop c k s vc
  | .region id ops true => .draw id ops k s vc
  | .region _ ops false => go (.inRegion ops (List.range ops.size) :: k) s vc
  | c => .stuck (.code c :: k) s vc
def run (T : Nat → Option TyI) (nt : Nat) : Nat → List Item → St → Prop → Stop
  | 0, k, s, vc => .stuck k s vc
  | n + 1, k, s, vc => match k with
    | [] => .ret s vc
    | .code c :: k => runC (run T nt n) c k s vc
    | .inBlock _ :: k => run T nt n k s vc
    | .inScope _ :: k => run T nt n k s vc
    | .inLoop c :: k => .back (.inLoop c :: k) s vc
    | .inRegion _ [] :: k => run T nt n k s vc
    | .inRegion ops (i :: r) :: k => runR T nt (run T nt n) ops i r k s vc
    | k => .stuck k s vc
end Go.Ab
