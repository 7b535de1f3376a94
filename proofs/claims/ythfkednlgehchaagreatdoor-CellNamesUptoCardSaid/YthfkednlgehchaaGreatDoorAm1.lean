/- The abstract machine: its heaps, its values, how they stand to the model's. -/
import Derived.WalkKit
import Derived.KernelRfl
import Derived.Orders
import Derived.Stop.Asserts
import Derived.Laws.StructEq
import Derived.Laws.Small
import Derived.Laws.Entries
import Derived.Laws.Slices
set_option linter.unusedVariables false
set_option linter.unusedSimpArgs false
/-! An abstract machine for the programs of this model: a function that runs a Go function over a heap of its own (numbered blocks, no tape, no open order). What it answers, every run of the model answers (AmCode.lean). -/
namespace Go.Am

/-! ### A table by numbers -/

inductive T (α : Type) where
  | nil
  | node (v : Option α) (l r : T α)

namespace T
variable {α : Type}

def get : T α → Nat → Option α
  | nil, _ => none
  | node v l r, n =>
    match n.beq 0 with
    | true => v
    | false => match (n % 2).beq 1 with
      | true => l.get (n / 2)
      | false => r.get (n / 2 - 1)

def single : Nat → Nat → α → T α
  | 0, _, _ => nil
  | k + 1, n, a =>
    match n.beq 0 with
    | true => node (some a) nil nil
    | false => match (n % 2).beq 1 with
      | true => node none (single k (n / 2) a) nil
      | false => node none nil (single k (n / 2 - 1) a)

def set : T α → Nat → α → T α
  | nil, n, a => single (n + 1) n a
  | node v l r, n, a =>
    match n.beq 0 with
    | true => node (some a) l r
    | false => match (n % 2).beq 1 with
      | true => node v (l.set (n / 2) a) r
      | false => node v l (r.set (n / 2 - 1) a)

def ofList : List α → Nat → T α → T α
  | [], _, t => t
  | a :: l, i, t => ofList l (i + 1) (t.set i a)

theorem beq_t {a b : Nat} : (a.beq b = true) ↔ a = b := ⟨Nat.eq_of_beq_eq_true, fun h => by subst h; exact Nat.beq_refl a⟩
theorem beq_f {a b : Nat} : (a.beq b = false) ↔ a ≠ b := by
  rw [← Bool.not_eq_true, beq_t]

theorem get_single (a : α) : ∀ (k n j : Nat), n < k → (single k n a).get j = if n = j then some a else none := by
  intro k
  induction k with
  | zero => intro n j h; omega
  | succ k ih =>
    intro n j h
    unfold single
    cases h0 : n.beq 0 with
    | true =>
      have h0 := beq_t.1 h0; subst h0
      simp only [get]
      cases hj : j.beq 0 with
      | true => have hj := beq_t.1 hj; subst hj; simp
      | false =>
        have hj := beq_f.1 hj
        simp only
        rw [if_neg (by omega)]
        cases (j % 2).beq 1 <;> rfl
    | false =>
      have h0 := beq_f.1 h0
      simp only
      cases h1 : (n % 2).beq 1 with
      | true =>
        have h1 := beq_t.1 h1
        simp only [get]
        cases hj : j.beq 0 with
        | true => have hj := beq_t.1 hj; subst hj; simp only; rw [if_neg (by omega)]
        | false =>
          have hj := beq_f.1 hj
          simp only
          cases hj1 : (j % 2).beq 1 with
          | true =>
            have hj1 := beq_t.1 hj1
            simp only
            rw [ih _ _ (by omega)]
            by_cases e : n = j
            · subst e; simp
            · rw [if_neg e, if_neg (by omega)]
          | false =>
            have hj1 := beq_f.1 hj1
            simp only [get]
            rw [if_neg (by intro e; subst e; omega)]
      | false =>
        have h1 := beq_f.1 h1
        simp only [get]
        cases hj : j.beq 0 with
        | true => have hj := beq_t.1 hj; subst hj; simp only; rw [if_neg (by omega)]
        | false =>
          have hj := beq_f.1 hj
          simp only
          cases hj1 : (j % 2).beq 1 with
          | true =>
            have hj1 := beq_t.1 hj1
            simp only [get]
            rw [if_neg (by intro e; subst e; omega)]
          | false =>
            have hj1 := beq_f.1 hj1
            simp only
            rw [ih _ _ (by omega)]
            by_cases e : n = j
            · subst e; simp
            · rw [if_neg e, if_neg (by omega)]

theorem get_set (a : α) : ∀ (t : T α) (n j : Nat), (t.set n a).get j = if n = j then some a else t.get j := by
  intro t
  induction t with
  | nil => intro n j; simp only [set, get]; exact get_single a _ _ _ (by omega)
  | node v l r ihl ihr =>
    intro n j
    unfold set
    cases h0 : n.beq 0 with
    | true =>
      have h0 := beq_t.1 h0; subst h0
      simp only [get]
      cases hj : j.beq 0 with
      | true => have hj := beq_t.1 hj; subst hj; simp
      | false =>
        have hj := beq_f.1 hj
        simp only
        rw [if_neg (by omega)]
    | false =>
      have h0 := beq_f.1 h0
      simp only
      cases h1 : (n % 2).beq 1 with
      | true =>
        have h1 := beq_t.1 h1
        simp only [get]
        cases hj : j.beq 0 with
        | true => have hj := beq_t.1 hj; subst hj; simp only; rw [if_neg (by omega)]
        | false =>
          have hj := beq_f.1 hj
          simp only
          cases hj1 : (j % 2).beq 1 with
          | true =>
            have hj1 := beq_t.1 hj1
            simp only
            rw [ihl]
            by_cases e : n = j
            · subst e; simp
            · rw [if_neg e, if_neg (by omega)]
          | false =>
            have hj1 := beq_f.1 hj1
            simp only
            rw [if_neg (by intro e; subst e; omega)]
      | false =>
        have h1 := beq_f.1 h1
        simp only [get]
        cases hj : j.beq 0 with
        | true => have hj := beq_t.1 hj; subst hj; simp only; rw [if_neg (by omega)]
        | false =>
          have hj := beq_f.1 hj
          simp only
          cases hj1 : (j % 2).beq 1 with
          | true =>
            have hj1 := beq_t.1 hj1
            simp only
            rw [if_neg (by intro e; subst e; omega)]
          | false =>
            have hj1 := beq_f.1 hj1
            simp only
            rw [ihr]
            by_cases e : n = j
            · subst e; simp
            · rw [if_neg e, if_neg (by omega)]

theorem get_set_same (t : T α) (n : Nat) (a : α) : (t.set n a).get n = some a := by rw [get_set, if_pos rfl]
theorem get_set_ne (t : T α) {n j : Nat} (a : α) (h : n ≠ j) : (t.set n a).get j = t.get j := by rw [get_set, if_neg h]

theorem get_ofList : ∀ (l : List α) (i : Nat) (t : T α) (j : Nat), (ofList l i t).get j = if i ≤ j ∧ j < i + l.length then l[j - i]? else t.get j := by
  intro l
  induction l with
  | nil => intro i t j; simp only [ofList, List.length_nil]; rw [if_neg (by omega)]
  | cons a l ih =>
    intro i t j
    simp only [ofList, List.length_cons]
    rw [ih, get_set]
    by_cases h : i = j
    · subst h
      rw [if_neg (by omega), if_pos rfl, if_pos (by omega)]; simp
    · rw [if_neg h]
      by_cases h2 : i + 1 ≤ j ∧ j < i + 1 + l.length
      · rw [if_pos h2, if_pos (by omega)]
        obtain ⟨k, rfl⟩ : ∃ k, j = i + 1 + k := ⟨j - (i + 1), by omega⟩
        rw [show i + 1 + k - (i + 1) = k by omega, show i + 1 + k - i = k + 1 by omega]
        simp
      · rw [if_neg h2, if_neg (by omega)]
end T

/-! ### Heaps -/

/-- Whose a row of cells is: `ext`: nobody's here (read only); `solo`: one block, never grown; `fam f v`: version v of a row that grew out of block f. -/
inductive Own where
  | ext | solo | fam (f v : Nat)

inductive Blk where
  /-- cells; e: how many an element has (0: the row is never appended to); -/
  | cells (c : List Value) (e : Nat) (o : Own)
  | map (es : List MapEntry) (clock : Nat) (mine : Bool)
  | siter (s : ByteArray) (pos : Nat) (mine : Bool)
  | miter (m : Option Nat) (since : Nat) (seen : List Nat) (last : Nat) (mine : Bool)

/-- `fam f`: the newest version of a family, and the oldest that may still be read; `base`: what is older must not be written. -/
structure AH where
  blk : T Blk
  fam : T (Nat × Nat)
  next : Nat
  base : Nat

def Own.root (b : Nat) : Own → Nat
  | .ext => 0
  | .solo => b
  | .fam f _ => f

def Blk.root (b : Nat) : Blk → Nat
  | .cells _ _ o => o.root b
  | .map _ _ m => if m then b else 0
  | .siter _ _ m => if m then b else 0
  | .miter _ _ _ _ m => if m then b else 0

def AH.root (H : AH) (b : Nat) : Nat :=
  match H.blk.get b with
  | some k => k.root b
  | none => 0

def AH.new (H : AH) (k : Blk) : AH := { H with blk := H.blk.set H.next k, next := H.next + 1 }

def AH.okR (H : AH) : Own → Bool
  | .ext => true
  | .solo => true
  | .fam f v => match H.fam.get f with
    | some (_, l) => l.ble v
    | none => false

def AH.okW (H : AH) (b : Nat) : Own → Bool
  | .ext => false
  | .solo => H.base.ble b
  | .fam f v => match H.fam.get f with
    | some (c, _) => H.base.ble f && c.beq v
    | none => false

def AH.row (H : AH) (b : Nat) : Option (List Value) :=
  match H.blk.get b with
  | some (.cells c _ o) => match H.okR o with
    | true => some c
    | false => none
  | _ => none

def AH.cell (H : AH) (b o : Nat) : Option Value :=
  match H.row b with
  | some c => c[o]?
  | none => none

def oneCell : Value → Bool
  | .agg _ | .tuple _ => false
  | _ => true

/-- Cells laid over others. -/
def splice (c : List Value) (o : Nat) (xs : List Value) : List Value := c.take o ++ (xs ++ c.drop (o + xs.length))

/-- A row's cells after a write. -/
def AH.put (H : AH) (b : Nat) (c : List Value) (e : Nat) (o : Own) : AH :=
  match o with
  | .fam f v => { H with blk := H.blk.set b (.cells c e o), fam := H.fam.set f (v, v) }
  | _ => { H with blk := H.blk.set b (.cells c e o) }

def AH.stores (H : AH) (b o : Nat) (xs : List Value) : Option AH :=
  match H.blk.get b with
  | some (.cells c e w) =>
    match H.okW b w && xs.all oneCell && (o + xs.length).ble c.length with
    | true => some (H.put b (splice c o xs) e w)
    | false => none
  | _ => none

def AH.loads (H : AH) (b : Nat) : Nat → Nat → Option (List Value)
  | _, 0 => some []
  | o, n + 1 => match H.cell b o with
    | some v => match H.loads b (o + 1) n with
      | some vs => some (v :: vs)
      | none => none
    | none => none

/-! ### What is asked of a program's types -/

section
variable (P : Program)

def szT (t : TypeId) : Option Nat :=
  match P.types[t]? with
  | some i => some i.size
  | none => none

/-- how many cells a slice's element has -/
def eszT (t : TypeId) : Option Nat :=
  match P.types[t]? with
  | some i => match i.desc with
    | .tuple _ => none
    | _ => some i.size
  | none => none

def byT (t : TypeId) : Option Nat :=
  match P.types[t]? with
  | some i => some i.bytes
  | none => none

def zeroT (t : TypeId) : Option Value :=
  match P.types[t]? with
  | some i => i.zero
  | none => none

def undT (t : TypeId) : Option TypeDesc := P.underlying t

def aggT (t : TypeId) : Option Bool :=
  match undT P t with
  | some (.struct _) | some (.array ..) => some true
  | some _ => some false
  | none => none

def elemT (t : TypeId) : Option TypeId :=
  match undT P t with
  | some (.slice e) => some e
  | _ => none

/-- a field's offset and type -/
def fieldT (t : TypeId) (f : Nat) : Option (Nat × TypeId) :=
  match undT P t with
  | some (.struct fs) => match fs[f]? with
    | some f => some (f.offset, f.type)
    | none => none
  | _ => none

def placesOf (fs : List Field) : Option (List (Nat × Nat)) :=
  match fs with
  | [] => some []
  | f :: fs => match szT P f.type, placesOf fs with
    | some n, some r => some ((f.offset, n) :: r)
    | _, _ => none

/-- of each field of a struct where it lies and how many cells it has -/
def placesT (t : TypeId) : Option (List (Nat × Nat)) :=
  match undT P t with
  | some (.struct fs) => placesOf P fs.toList
  | _ => none

end

def undef : Value := .tuple #[]

/-! ### Frames -/

/-- A function's slots lie from 1 on; at 0: the calls that it has put off, the latest first. -/
abbrev Fr := T Value

def Fr.at (fr : Fr) (t : Nat) : Value :=
  match fr.get (t + 1) with
  | some v => v
  | none => undef

def Fr.late (fr : Fr) : Value :=
  match fr.get 0 with
  | some v => v
  | none => undef

def ev (fr : Fr) : Operand → Value
  | .tmp t => Fr.at fr t
  | .const v => v
  | .global g => .pointer (some ⟨g, 0, none⟩)
  | .func f => .func (.func f) #[] #[]

def Fr.put (fr : Fr) (d : Option Tmp) (v : Value) : Fr :=
  match d with
  | some t => fr.set (t + 1) v
  | none => fr

/-! ### Operations -/

section
variable (P : Program)

def aStr (op : BinOp) (x y : ByteArray) : Option Value :=
  match op with
  | .add => if ((x.size + y.size : Nat) : Int) > IntKind.i64.max then none else some (.string (x ++ y))
  | .eql => some (.bool (x.data.toList == y.data.toList))
  | .neq => some (.bool (!(x.data.toList == y.data.toList)))
  | .lss => some (.bool (Op.bytesLess x.data.toList y.data.toList))
  | .leq => some (.bool (Op.bytesLess x.data.toList y.data.toList || x.data.toList == y.data.toList))
  | .gtr => some (.bool (!(Op.bytesLess x.data.toList y.data.toList || x.data.toList == y.data.toList)))
  | .geq => some (.bool (!(Op.bytesLess x.data.toList y.data.toList)))
  | _ => none

def aInt (op : BinOp) (k : IntKind) (x : Int) (k' : IntKind) (y : Int) : Option Value :=
  match op with
  | .shl => if y < 0 then none else some (.int k (k.wrap (x * 2 ^ min y.toNat k.bits)))
  | .shr => if y < 0 then none else some (.int k (x.fdiv (2 ^ min y.toNat k.bits)))
  | op => if k = k' then
      match op with
      | .add => some (.int k (k.wrap (x + y)))
      | .sub => some (.int k (k.wrap (x - y)))
      | .mul => some (.int k (k.wrap (x * y)))
      | .quo => if y = 0 then none else some (.int k (k.wrap (x.tdiv y)))
      | .rem => if y = 0 then none else some (.int k (x.tmod y))
      | .and => some (.int k (k.wrap (BitVec.ofInt k.bits x &&& BitVec.ofInt k.bits y).toNat))
      | .or => some (.int k (k.wrap (BitVec.ofInt k.bits x ||| BitVec.ofInt k.bits y).toNat))
      | .xor => some (.int k (k.wrap (BitVec.ofInt k.bits x ^^^ BitVec.ofInt k.bits y).toNat))
      | .andNot => some (.int k (k.wrap (BitVec.ofInt k.bits x &&& ~~~(BitVec.ofInt k.bits y)).toNat))
      | .eql => some (.bool (x == y))
      | .neq => some (.bool (x != y))
      | .lss => some (.bool (x < y))
      | .leq => some (.bool (x ≤ y))
      | .gtr => some (.bool (x > y))
      | .geq => some (.bool (x ≥ y))
      | _ => none
    else none

/-- a part of a struct's or an array's cells -/
def aPart (t : TypeId) (cs : List Value) (off : Nat) : Option Value :=
  match aggT P t with
  | some true => match szT P t with
    | some n => some (.agg ((cs.drop off).take n).toArray)
    | none => none
  | some false => cs[off]?
  | none => none

def aEqParts (eq : TypeId → Value → Value → Option Bool) (xs ys : List Value) : List Field → Option Bool
  | [] => some true
  | f :: fs =>
    match f.name == "_" with
    | true => aEqParts eq xs ys fs
    | false =>
      match aPart P f.type xs f.offset, aPart P f.type ys f.offset with
      | some a, some b => match eq f.type a b with
        | some true => aEqParts eq xs ys fs
        | some false => some false
        | none => none
      | _, _ => none

def aEq : Nat → TypeId → Value → Value → Option Bool
  | 0, _, _, _ => none
  | d + 1, t, x, y =>
    match P.underlying t, x, y with
    | some .bool, .bool a, .bool b => some (a == b)
    | some (.int _), .int k a, .int k' b => if k = k' then some (a == b) else none
    | some .string, .string a, .string b => some (a.data.toList == b.data.toList)
    | some (.pointer _), .pointer none, .pointer b => some b.isNone
    | some (.pointer _), .pointer (some _), .pointer none => some false
    | some (.pointer e), .pointer (some a), .pointer (some b) =>
      match szT P e with
      | some n => if n ≠ 0 ∧ a.block = b.block ∧ a.spot = none ∧ b.spot = none then some (a.off == b.off) else none
      | none => none
    | some (.interface _), .nilIface, .nilIface => some true
    | some (.interface _), .nilIface, .iface _ _ => some false
    | some (.interface _), .iface _ _, .nilIface => some false
    | some (.interface _), .iface tx vx, .iface ty vy =>
      if tx ≠ ty then some false else
      match P.types[tx]? with
      | some i => match i.comparable with
        | true => aEq d tx vx vy
        | false => none
      | none => none
    | some (.struct fields), .agg xs, .agg ys =>
      match P.stoodInHeld t with
      | true => none
      | false => aEqParts P (aEq d) xs.toList ys.toList fields.toList
    | some (.slice _), .slice none _ _, .slice b _ _ => some b.isNone
    | some (.slice _), .slice (some _) _ _, .slice none _ _ => some false
    | some (.map _ _), .map none, .map b => some b.isNone
    | some (.map _ _), .map (some _), .map none => some false
    | some (.func _ _ _), .nilFunc, .nilFunc => some true
    | some (.func _ _ _), .nilFunc, .func _ _ _ => some false
    | some (.func _ _ _), .func _ _ _, .nilFunc => some false
    | _, _, _ => none

def isConst : Operand → Bool
  | .const _ => true
  | _ => false

def aGuard (t : TypeId) (xo yo : Operand) (x y : Value) : Bool :=
  match x, y with
  | .nilIface, .nilIface => isConst xo || isConst yo
  | .agg _, .agg _ => !(P.eqGuardType P.depth t)
  | _, _ => true

def aBin (op : BinOp) (t : TypeId) (xo yo : Operand) (x y : Value) : Option Value :=
  match x, y with
  | .int k a, .int k' b => aInt op k a k' b
  | .string a, .string b => aStr op a b
  | x, y =>
    match op with
    | .eql => match aGuard P t xo yo x y with
      | true => match aEq P Op.maxDepth t x y with
        | some b => some (.bool b)
        | none => none
      | false => none
    | .neq => match aGuard P t xo yo x y with
      | true => match aEq P Op.maxDepth t x y with
        | some b => some (.bool (!b))
        | none => none
      | false => none
    | _ => none

def aUn (op : UnOp) (x : Value) : Option Value :=
  match op, x with
  | .neg, .int k n => some (.int k (k.wrap (0 - n)))
  | .xor, .int k n => aInt .xor k (if k.signed then -1 else k.max) k n
  | .not, .bool b => some (.bool (!b))
  | _, _ => none

def cellsL (v : Value) : List Value :=
  match v with
  | .agg cs => cs.toList
  | v => [v]

def aFill (place : Nat → Option (Nat × Nat)) (cells : List Value) : List (Nat × Value) → Option (List Value)
  | [] => some cells
  | (i, v) :: rest =>
    match place i with
    | none => none
    | some (off, size) =>
      match (cellsL v).length.beq size && (off + (cellsL v).length).ble cells.length with
      | true => aFill place (splice cells off (cellsL v)) rest
      | false => none

/-- zeros of n elements -/
def zerosT (t : TypeId) (n : Nat) : Option (List Value) :=
  match zeroT P t with
  | some z => some (List.replicate n (cellsL z)).flatten
  | none => none

def aBuild (t : TypeId) (parts : List (Nat × Value)) : Option Value :=
  match zeroT P t, undT P t with
  | some z, some (.struct fs) => match placesOf P fs.toList with
    | some ps => match aFill (fun i => ps[i]?) (cellsL z) parts with
      | some c => some (.agg c.toArray)
      | none => none
    | none => none
  | some z, some (.array _ e) => match szT P e with
    | some n => match aFill (fun i => some (i * n, n)) (cellsL z) parts with
      | some c => some (.agg c.toArray)
      | none => none
    | none => none
  | _, _ => none

def aBuildSlice (H : AH) (t : TypeId) (len : Nat) (parts : List (Nat × Value)) : Option (Value × AH) :=
  match elemT P t with
  | some e => match szT P e, zerosT P e len with
    | some n, some z =>
      match n.beq 0 || (16777216).blt (len * n) || !(z.length.beq (len * n)) with
      | true => none
      | false => match aFill (fun i => some (i * n, n)) z parts with
        | some c => some (.slice (some ⟨H.next, 0, none⟩) len len, H.new (.cells c n .solo))
        | none => none
    | _, _ => none
  | none => none

def aLoad (H : AH) (t : TypeId) (a : Value) : Option Value :=
  match a with
  | .pointer (some ⟨b, o, none⟩) =>
    match aggT P t with
    | some true => match szT P t with
      | some n => match H.loads b o n with
        | some vs => some (.agg vs.toArray)
        | none => none
      | none => none
    | some false => H.cell b o
    | none => none
  | _ => none

def aStore (H : AH) (t : TypeId) (a v : Value) : Option AH :=
  match a with
  | .pointer (some ⟨b, o, none⟩) =>
    match szT P t with
    | some n => match (cellsL v).length.beq n with
      | true => H.stores b o (cellsL v)
      | false => none
    | none => none
  | _ => none

def aFieldAddr (s : TypeId) (a : Value) (f : Nat) : Option Value :=
  match a with
  | .pointer (some ⟨b, o, none⟩) =>
    match fieldT P s f with
    | some (off, t) => match szT P t with
      | some (_ + 1) => some (.pointer (some ⟨b, o + off, none⟩))
      | _ => none
    | none => none
  | _ => none

def aField (t : TypeId) (x : Value) (f : Nat) : Option Value :=
  match x with
  | .agg cs => match fieldT P t f with
    | some (off, t) => aPart P t cs.toList off
    | none => none
  | _ => none

def aIndexAddr (t : TypeId) (x i : Value) : Option Value :=
  match undT P t, x, i with
  | some (.slice e), .slice (some ⟨b, o, none⟩) len _, .int _ n =>
    if 0 ≤ n ∧ n < (len : Int) then
      match szT P e with
      | some s => some (.pointer (some ⟨b, o + n.toNat * s, none⟩))
      | none => none
    else none
  | some (.array len e), .pointer (some ⟨b, o, none⟩), .int _ n =>
    if 0 ≤ n ∧ n < (len : Int) then
      match szT P e with
      | some s => some (.pointer (some ⟨b, o + n.toNat * s, none⟩))
      | none => none
    else none
  | _, _, _ => none

def aIndex (t : TypeId) (x i : Value) : Option Value :=
  match undT P t, x, i with
  | some .string, .string s, .int _ n =>
    if 0 ≤ n then
      match s.data.toList[n.toNat]? with
      | some c => some (.int .u8 c.toNat)
      | none => none
    else none
  | some (.array len e), .agg cs, .int _ n =>
    if 0 ≤ n ∧ n < (len : Int) then
      match szT P e with
      | some s => aPart P e cs.toList (n.toNat * s)
      | none => none
    else none
  | _, _, _ => none

def aBound (x : Option Value) (dflt y : Nat) : Option Nat :=
  match x with
  | none => some dflt
  | some (.int _ n) => if 0 ≤ n ∧ n ≤ (y : Int) then some n.toNat else none
  | some _ => none

/-- the address of an empty slice whose capacity is not known; of one whose capacity is 0 -/
def somewhere : Addr := ⟨0, 0, some 0⟩
def exact0 : Addr := ⟨0, 0, some 1⟩

/-- the bounds of a slice expression -/
def aBounds (lo hi : Option Value) (len c : Nat) : Option (Nat × Nat) :=
  match aBound hi len c with
  | some h => match aBound lo 0 h with
    | some l => some (l, h)
    | none => none
  | none => none

/-- a slice that begins at l, not its base's first place -/
def aFrom (n : Nat) (b o l h c : Nat) : Value :=
  match l.beq 0 with
  | true => .slice (some ⟨b, o, none⟩) h c
  | false => match c.beq l with
    | true => .slice (some somewhere) 0 0
    | false => .slice (some ⟨b, o + l * n, none⟩) (h - l) (c - l)

def aSlice (H : AH) (t : TypeId) (x : Value) (lo hi mx : Option Value) : Option Value :=
  match undT P t, x, mx with
  | some .string, .string s, none => match aBounds lo hi s.size s.size with
    | some (l, h) => some (.string (s.extract l h))
    | none => none
  | some (.slice e), .slice a len c, none => match aBounds lo hi len c, szT P e with
    | some (l, h), some n => match a with
      | none => some (.slice none (h - l) (c - l))
      | some ⟨b, o, none⟩ => match H.blk.get b with
        | some (.cells _ e' _) => match e'.beq 0 || e'.beq n with
          | true => some (aFrom n b o l h c)
          | false => none
        | _ => none
      | some ⟨_, _, some s⟩ => match c.beq 0 with
        | true => some (.slice (some ⟨0, 0, some s⟩) 0 0)
        | false => none
    | _, _ => none
  | some (.slice e), .slice a _ _, some (.int _ 0) => match hi, lo, szT P e with
    | some (.int _ 0), none, some _ => match a with
      | none => some (.slice none 0 0)
      | some _ => some (.slice (some exact0) 0 0)
    | _, _, _ => none
  | some (.array len e), .pointer (some ⟨b, o, none⟩), none => match aBounds lo hi len len with
    | some (l, h) => match szT P e, H.blk.get b with
      | some n, some (.cells _ 0 _) => match len.beq l with
        | true => none
        | false => some (.slice (some ⟨b, o + l * n, none⟩) (h - l) (len - l))
      | _, _ => none
    | none => none
  | _, _, _ => none

def byteCells (s : List UInt8) : List Value := s.map fun b => .int .u8 b.toNat

def bytesOf : List Value → Option (List UInt8)
  | [] => some []
  | .int .u8 n :: r => match bytesOf r with
    | some l => some (UInt8.ofNat n.toNat :: l)
    | none => none
  | _ => none

def aConvert (H : AH) (src dst : TypeId) (x : Value) : Option (Value × AH) :=
  match undT P src, undT P dst, x with
  | some _, some (.int k), .int _ n => some (.int k (k.wrap n), H)
  | some _, some .string, .string s => some (.string s, H)
  | some _, some (.slice e), .string s =>
    match undT P e with
    | some (.int .u8) => some (.slice (some ⟨H.next, 0, none⟩) s.size s.size, H.new (.cells (byteCells s.data.toList) 1 .solo))
    | _ => none
  | some (.slice e), some .string, .slice a len _ =>
    match undT P e with
    | some (.int .u8) =>
      match a with
      | none => some (.string ⟨#[]⟩, H)
      | some ⟨b, o, none⟩ => match H.loads b o len with
        | some c => match bytesOf c with
          | some l => some (.string ⟨l.toArray⟩, H)
          | none => none
        | none => none
      | some ⟨_, _, some _⟩ => match len.beq 0 with
        | true => some (.string ⟨#[]⟩, H)
        | false => none
    | _ => none
  | _, _, _ => none

def aLen (H : AH) (t : TypeId) (x : Value) : Option Value :=
  match undT P t, x with
  | some .string, .string s => some (.int .i64 s.size)
  | some (.slice _), .slice _ n _ => some (.int .i64 n)
  | some (.array n _), _ => some (.int .i64 n)
  | some (.map _ _), .map none => some (.int .i64 0)
  | some (.map _ _), .map (some b) => match H.blk.get b with
    | some (.map es _ _) => some (.int .i64 es.length)
    | _ => none
  | _, _ => none

/-- the cells that an append's or a copy's second operand gives: n elements of s cells -/
def aGiven (H : AH) (s n : Nat) (x : Value) : Option (List Value) :=
  match x with
  | .slice none _ _ => some []
  | .slice (some ⟨b, o, none⟩) _ _ => H.loads b o (n * s)
  | .slice (some ⟨_, _, some _⟩) _ _ => some []
  | .string t => some (byteCells (t.data.toList.take n))
  | _ => none

def lenOf : Value → Option Nat
  | .slice _ n _ => some n
  | .string s => some s.size
  | _ => none

/-- a row grows: a new version, in a block of its own -/
def AH.grow (H : AH) (b : Nat) (w : Own) (c : List Value) (e : Nat) (c' : List Value) : Option AH :=
  match w with
  | .ext => none
  | .solo => some { blk := (H.blk.set b (.cells c e (.fam b 0))).set H.next (.cells c' e (.fam b 1)), fam := H.fam.set b (1, 0), next := H.next + 1, base := H.base }
  | .fam f v => match H.fam.get f with
    | some (_, l) => some { blk := H.blk.set H.next (.cells c' e (.fam f (v + 1))), fam := H.fam.set f (v + 1, l), next := H.next + 1, base := H.base }
    | none => none

def isIntD : TypeDesc → Bool
  | .int _ => true
  | _ => false

def aAppend (H : AH) (ts : List TypeId) (args : List Value) : Option (Value × AH) :=
  match ts, args with
  | [t, t'], [.slice a len cap, x] =>
    match elemT P t, lenOf x, undT P t' with
    | some e, some n, some d =>
      match eszT P e, byT P e, isIntD d with
      | some s, some by_, false =>
        match n.beq 0 with
        | true => some (.slice a len cap, H)
        | false => match aGiven H s n x with
          | some new =>
            match !(new.length.beq (n * s)) || !(new.all oneCell) || s.beq 0 || by_.beq 0 || (281474976710656).blt ((2 * (len + n) + 1000) * by_) with
            | true => none
            | false =>
              match a with
              | none => match len.beq 0 && cap.beq 0 with
                | true => some (.slice (some ⟨H.next, 0, none⟩) n n, H.new (.cells new s .solo))
                | false => none
              | some ⟨b, o, none⟩ =>
                match (len + n).ble cap with
                | true => match H.stores b (o + len * s) new with
                  | some H' => some (.slice (some ⟨b, o, none⟩) (len + n) cap, H')
                  | none => none
                | false => match H.blk.get b with
                  | some (.cells c e' w) =>
                    match H.okW b w && e'.beq s && (o + len * s).beq c.length with
                    | true => match H.grow b w c s (c.drop o ++ new) with
                      | some H' => some (.slice (some ⟨H.next, 0, none⟩) (len + n) (len + n), H')
                      | none => none
                    | false => none
                  | _ => none
              | some ⟨_, _, some 1⟩ => match len.beq 0 && cap.beq 0 with
                | true => some (.slice (some ⟨H.next, 0, none⟩) n n, H.new (.cells new s .solo))
                | false => none
              | _ => none
          | none => none
      | _, _, _ => none
    | _, _, _ => none
  | _, _ => none

def aCopy (H : AH) (ts : List TypeId) (args : List Value) : Option (Value × AH) :=
  match ts, args with
  | [t, _], [.slice a dlen _, x] =>
    match elemT P t, lenOf x with
    | some e, some n =>
      match szT P e with
      | some s =>
        match (min n dlen).beq 0 with
        | true => some (.int .i64 0, H)
        | false => match aGiven H s (min n dlen) x, a with
          | some new, some ⟨b, o, none⟩ => match new.length.beq (min n dlen * s), H.stores b o new with
            | true, some H' => some (.int .i64 (min n dlen : Nat), H')
            | _, _ => none
          | _, _ => none
      | none => none
    | _, _ => none
  | _, _ => none

def aMax (more : Bool) : List Value → Option Value
  | [] => none
  | x :: rest => rest.foldlM (fun a b => match a, b with
    | .int k x, .int _ y => some (.int k (match more with | true => if y > x then y else x | false => if y < x then y else x))
    | _, _ => none) x

def aMakeSlice (H : AH) (t : TypeId) (l c : Value) : Option (Value × AH) :=
  match elemT P t, l, c with
  | some e, .int _ l, .int _ c =>
    match szT P e, byT P e, zerosT P e c.toNat with
    | some s, some by_, some z =>
      if 0 ≤ l ∧ l ≤ c ∧ (by_ : Int) * c ≤ 281474976710656 ∧ c < 9223372036854775808 ∧ s ≠ 0 ∧ z.length = c.toNat * s then
        some (.slice (some ⟨H.next, 0, none⟩) l.toNat c.toNat, H.new (.cells z s .solo))
      else none
    | _, _, _ => none
  | _, _, _ => none

/-- may be a map's key here: a type of one plain cell -/
def keyT (t : TypeId) : Option TypeDesc :=
  match undT P t with
  | some (.int k) => some (.int k)
  | some .string => some .string
  | some .bool => some .bool
  | _ => none

def aLookup (H : AH) (t : TypeId) (x k : Value) (ok : Bool) : Option Value :=
  match undT P t with
  | some (.map kt et) => match keyT P kt, zeroT P et with
    | some kd, some z =>
      match (match x with
        | .map none => some []
        | .map (some b) => match H.blk.get b with
          | some (.map es _ _) => some es
          | _ => none
        | _ => none) with
      | some es => match Instr.findNow kd k es 0 with
        | some (some (_, v)) => some (match ok with | true => .tuple #[v, .bool true] | false => v)
        | some none => some (match ok with | true => .tuple #[z, .bool false] | false => z)
        | none => none
      | none => none
    | _, _ => none
  | _ => none

def aMapUpdate (H : AH) (t : TypeId) (m k v : Value) : Option AH :=
  match undT P t, m with
  | some (.map kt _), .map (some b) => match keyT P kt, H.blk.get b with
    | some kd, some (.map es clock true) =>
      match H.base.ble b, Instr.findNow kd k es 0 with
      | true, some (some (i, _)) => some { H with blk := H.blk.set b (.map (es.modify i fun e => { e with key := k, val := v }) clock true) }
      | true, some none => some { H with blk := H.blk.set b (.map (es ++ [{ key := k, val := v, born := clock }]) (clock + 1) true) }
      | _, _ => none
    | _, _ => none
  | _, _ => none

def aRange (H : AH) (t : TypeId) (x : Value) : Option (Value × AH) :=
  match undT P t, x with
  | some .string, .string s => some (.pointer (some ⟨H.next, 0, none⟩), H.new (.siter s 0 true))
  | some (.map _ _), .map none => some (.pointer (some ⟨H.next, 0, none⟩), H.new (.miter none 0 [] 0 true))
  | some (.map _ _), .map (some b) => match H.blk.get b with
    | some (.map _ clock _) => some (.pointer (some ⟨H.next, 0, none⟩), H.new (.miter (some b) clock [] clock true))
    | _ => none
  | _, _ => none

/-- what a map's loop comes to next, if that is known: an entry, or the end -/
def aCand (es : List MapEntry) (since : Nat) (seen : List Nat) (last : Nat) : Option (Option MapEntry) :=
  match !seen.isEmpty && !es.isEmpty && es.all (fun e => last.ble e.born) with
  | true => none
  | false => match es.filter (fun e => !seen.contains e.born) with
    | [] => some none
    | [e] => match e.born.blt since with
      | true => some (some e)
      | false => none
    | _ => none

def aNext (H : AH) (x : Value) (isString : Bool) : Option (Value × AH) :=
  match x with
  | .pointer (some ⟨b, 0, none⟩) => match H.blk.get b, isString with
    | some (.siter s pos true), true =>
      match H.base.ble b with
      | true => if pos < s.size then
          some (.tuple #[.bool true, .int .i64 pos, .int .i32 (Utf8.decode s pos).1], { H with blk := H.blk.set b (.siter s (pos + (Utf8.decode s pos).2) true) })
        else some (.tuple #[.bool false], H)
      | false => none
    | some (.miter none _ _ _ _), false => some (.tuple #[.bool false], H)
    | some (.miter (some m) since seen last true), false =>
      match H.base.ble b, H.blk.get m with
      | true, some (.map es clock _) => match aCand es since seen last with
        | some (some e) => some (.tuple #[.bool true, e.key, e.val], { H with blk := H.blk.set b (.miter (some m) since (seen ++ [e.born]) clock true) })
        | some none => some (.tuple #[.bool false], H)
        | none => none
      | _, _ => none
    | _, _ => none
  | _ => none

def aEntry (H : AH) (x : Value) : Option Value :=
  match x with
  | .pointer (some ⟨b, 0, none⟩) => match H.blk.get b with
    | some (.miter (some m) _ seen last _) => match seen.getLast?, H.blk.get m with
      | some stamp, some (.map es clock _) => match clock.beq last, es.find? (fun e => e.born.beq stamp) with
        | true, some e => some (.tuple #[e.key, e.val])
        | _, _ => none
      | _, _ => none
    | _ => none
  | _ => none

def aAssert (x : Value) (t : TypeId) (ok : Bool) : Option Value :=
  match undT P t, x with
  | some (.interface want), .iface d v => match P.types[d]? with
    | some i => match (lacking want i.methods).isEmpty with
      | true => some (match ok with | true => .tuple #[.iface d v, .bool true] | false => .iface d v)
      | false => match ok, zeroT P t with
        | true, some z => some (.tuple #[z, .bool false])
        | _, _ => none
    | none => none
  | some _, .nilIface => match ok, zeroT P t with
    | true, some z => some (.tuple #[z, .bool false])
    | _, _ => none
  | some (.interface _), _ => none
  | some _, .iface d v => if d = t then some (match ok with | true => .tuple #[v, .bool true] | false => v) else
    match ok, zeroT P t with
    | true, some z => some (.tuple #[z, .bool false])
    | _, _ => none
  | _, _ => none

inductive AR where
  | val (v : Value) (H : AH)
  | enter (f : FuncId) (args : List Value)

def aMethod (t : TypeId) (v : Value) (name : String) : Option (FuncId × Value) :=
  match P.types[t]? with
  | some i => match i.methods.find? (·.name == name) with
    | some m => match m.path.isEmpty, m.func, undT P t with
      | true, some (f, true), some (.pointer _) => some (f, v)
      | true, some (_, false), some (.pointer _) => none
      | true, some (f, false), some _ => some (f, v)
      | _, _, _ => none
    | none => none
  | none => none

def AR.of (H : AH) : Option Value → Option AR
  | some v => some (.val v H)
  | none => none
def AR.ofH : Option AH → Option AR
  | some H => some (.val undef H)
  | none => none
def AR.ofB : Option (Value × AH) → Option AR
  | some (v, H) => some (.val v H)
  | none => none

def aBuiltin (H : AH) (b : Builtin) (ts : List TypeId) (args : List Value) : Option AR :=
  match b with
  | .len => match ts, args with
    | t :: _, x :: _ => AR.of H (aLen P H t x)
    | _, _ => none
  | .append => AR.ofB (aAppend P H ts args)
  | .copy => AR.ofB (aCopy P H ts args)
  | .max => AR.of H (aMax true args)
  | .min => AR.of H (aMax false args)
  | _ => none

def aOp (fr : Fr) (H : AH) (o : Oper) : Option AR :=
  match o.op with
  | .move x | .assign x => some (.val (ev fr x) H)
  | .pick c a b => match ev fr c with
    | .bool true => some (.val (ev fr a) H)
    | .bool false => some (.val (ev fr b) H)
    | _ => none
  | .alloc t => match zeroT P t with
    | some z => some (.val (.pointer (some ⟨H.next, 0, none⟩)) (H.new (.cells (cellsL z) 0 .solo)))
    | none => none
  | .box _ x => some (.val (.pointer (some ⟨H.next, 0, none⟩)) (H.new (.cells (cellsL (ev fr x)) 0 .solo)))
  | .build t parts => AR.of H (aBuild P t (parts.toList.map fun p => (p.1, ev fr p.2)))
  | .buildSlice t len parts => AR.ofB (aBuildSlice P H t len (parts.toList.map fun p => (p.1, ev fr p.2)))
  | .load t a => AR.of H (aLoad P H t (ev fr a))
  | .store t a x => AR.ofH (aStore P H t (ev fr a) (ev fr x))
  | .nilCheck x => match ev fr x with
    | .pointer none | .nilIface | .nilFunc | .func (.method _) _ _ => none
    | v => some (.val v H)
  | .binOp op t x y _ => AR.of H (aBin P op t x y (ev fr x) (ev fr y))
  | .unOp op _ x => AR.of H (aUn op (ev fr x))
  | .convert src dst x => AR.ofB (aConvert P H src dst (ev fr x))
  | .makeInterface t x => match undT P t with
    | some (.interface _) => none
    | some _ => some (.val (.iface t (ev fr x)) H)
    | none => none
  | .makeFunc fn first captured => some (.val (.func fn (first.map (ev fr)) (captured.map (ev fr))) H)
  | .makeMap _ none => some (.val (.map (some H.next)) (H.new (.map [] 0 true)))
  | .makeSlice t l c => AR.ofB (aMakeSlice P H t (ev fr l) (ev fr c))
  | .slice t x lo hi mx => AR.of H (aSlice P H t (ev fr x) (lo.map (ev fr)) (hi.map (ev fr)) (mx.map (ev fr)))
  | .fieldAddr s x f => AR.of H (aFieldAddr P s (ev fr x) f)
  | .field t x f => AR.of H (aField P t (ev fr x) f)
  | .indexAddr t x i => AR.of H (aIndexAddr P t (ev fr x) (ev fr i))
  | .index t x i => AR.of H (aIndex P t (ev fr x) (ev fr i))
  | .lookup t x i ok => AR.of H (aLookup P H t (ev fr x) (ev fr i) ok)
  | .mapUpdate t m k x | .insert t m k x => AR.ofH (aMapUpdate P H t (ev fr m) (ev fr k) (ev fr x))
  | .range t x => AR.ofB (aRange P H t (ev fr x))
  | .next it s => AR.ofB (aNext H (ev fr it) s)
  | .entry it => AR.of H (aEntry H (ev fr it))
  | .typeAssert x _ t ok => AR.of H (aAssert P (ev fr x) t ok)
  | .extract x i => match ev fr x with
    | .tuple vs => AR.of H vs.toList[i]?
    | _ => none
  | .call c =>
    match c.callee with
    | .value f => match ev fr f with
      | .func (.func k) first captured => some (.enter k (first.toList ++ (c.args.toList.map (ev fr) ++ captured.toList)))
      | _ => none
    | .invoke r name => match ev fr r with
      | .iface t v => match aMethod P t v name with
        | some (k, recv) => some (.enter k (recv :: c.args.toList.map (ev fr)))
        | none => none
      | _ => none
    | .builtin b => aBuiltin P H b c.argTypes.toList (c.args.toList.map (ev fr))
  | _ => none

end

/-! ### Code -/

inductive AEx where
  | normal
  | exit (id : Nat)
  | ret

abbrev Callf := FuncId → List Value → AH → Option (Value × AH)

section
variable (P : Program) (call : Callf)

/-- the bool that an operation of this region has given -/
def aYield (ops : Array Oper) (fr : Fr) (j : Nat) : Option Bool :=
  match ops[j]? with
  | some o => match o.dst with
    | some d => match Fr.at fr d with
      | .bool b => some b
      | _ => none
    | none => none
  | none => none

def aWanted (ops : Array Oper) (fr : Fr) (o : Oper) : Bool :=
  match o.guard with
  | none => true
  | some (j, want) => match aYield ops fr j with
    | some b => b == want
    | none => false

/-- A call put off to the frame's end. -/
def aDefer (fr : Fr) (o : Oper) : Option Fr :=
  match o.op with
  | .defer c => match c.callee with
    | .value f => match ev fr f, Fr.late fr with
      | .func (.func k) first captured, .tuple vs =>
        some (Fr.put (fr.set 0 (.tuple (.func (.func k) (first.toList ++ c.args.toList.map (ev fr)).toArray captured :: vs.toList).toArray)) o.dst undef)
      | _, _ => none
    | _ => none
  | _ => none

/-- One operation; `fence`: a call must not write what was there. -/
def aStep (fence : Bool) (fr : Fr) (H : AH) (o : Oper) : Option (Fr × AH) :=
  match aOp P fr H o with
  | some (.val v H') => some (fr.put o.dst v, H')
  | some (.enter f args) =>
    match fence with
    | true => match call f args { H with base := H.next } with
      | some (v, H') => some (fr.put o.dst v, { H' with base := H.base })
      | none => none
    | false => match call f args H with
      | some (v, H') => some (fr.put o.dst v, H')
      | none => none
  | none =>
    match fence with
    | true => none
    | false => match aDefer fr o with
      | some fr' => some (fr', H)
      | none => none

def aOps (fence : Bool) (ops : Array Oper) : List Oper → Fr → AH → Option (Fr × AH)
  | [], fr, H => some (fr, H)
  | o :: rest, fr, H =>
    match aWanted ops fr o with
    | true => match aStep P call fence fr H o with
      | some (fr', H') => aOps fence ops rest fr' H'
      | none => none
    | false => aOps fence ops rest (fr.put o.dst undef) H

def iter (f : Fr → AH → Option (AEx × Fr × AH)) : Nat → Fr → AH → Option (AEx × Fr × AH)
  | 0, _, _ => none
  | n + 1, fr, H =>
    match f fr H with
    | some (.normal, fr', H') => iter f n fr' H'
    | r => r

def aCode (n : Nat) : Code → Fr → AH → Option (AEx × Fr × AH)
  | .skip, fr, H => some (.normal, fr, H)
  | .label _, fr, H => some (.normal, fr, H)
  | .region _ ops draw, fr, H =>
    match aOps P call draw ops ops.toList fr H with
    | some (fr', H') => some (.normal, fr', H')
    | none => none
  | .seq a b, fr, H =>
    match aCode n a fr H with
    | some (.normal, fr', H') => aCode n b fr' H'
    | r => r
  | .cond c t e, fr, H =>
    match ev fr c with
    | .bool true => aCode n t fr H
    | .bool false => aCode n e fr H
    | _ => none
  | .block id c, fr, H =>
    match aCode n c fr H with
    | some (.exit id', fr', H') => match id'.beq id with
      | true => some (.normal, fr', H')
      | false => some (.exit id', fr', H')
    | r => r
  | .loop c, fr, H => iter (aCode n c) n fr H
  | .exit id, fr, H => some (.exit id, fr, H)
  | .scope c, fr, H => aCode n c fr H
  | .ret, fr, H => some (.ret, fr, H)
  | _, _, _ => none

def aResult (fr : Fr) (H : AH) : ResultVar → Option Value
  | .tmp t => some (Fr.at fr t)
  | .cell a t => aLoad P H t (Fr.at fr a)

def aResults (fr : Fr) (H : AH) : List ResultVar → Option (List Value)
  | [] => some []
  | r :: rs => match aResult P fr H r, aResults fr H rs with
    | some v, some vs => some (v :: vs)
    | _, _ => none

def packed : List Value → Value
  | [v] => v
  | vs => .tuple vs.toArray

/-- a function's body over a frame of its arguments -/
def aRun (n : Nat) (fn : Func) (args : List Value) (H : AH) : Option (Fr × AH) :=
  match fn.body with
  | none => none
  | some c => match aCode P call n c (T.ofList args 1 .nil) H with
    | some (.normal, fr, H') => some (fr, H')
    | some (.ret, fr, H') => some (fr, H')
    | _ => none

/-- the calls that were put off -/
def aLate (fnOf : Nat → Option Func) (n : Nat) : List Value → AH → Option AH
  | [], H => some H
  | v :: vs, H =>
    match v with
    | .func (.func k) args cap => match fnOf k with
      | some fn => match aRun P call n fn (args.toList ++ cap.toList) H with
        | some (fr, H') => match Fr.late fr, aResults P fr H' fn.results.toList with
          | .tuple us, some _ => match us.toList.isEmpty with
            | true => aLate fnOf n vs H'
            | false => none
          | _, _ => none
        | none => none
      | none => none
    | _ => none

def aBody (fnOf : Nat → Option Func) (n : Nat) (fn : Func) (args : List Value) (H : AH) : Option (Value × AH) :=
  match aRun P call n fn args H with
  | some (fr, H') => match Fr.late fr with
    | .tuple us => match aLate P call fnOf n us.toList H' with
      | some H2 => match aResults P fr H2 fn.results.toList with
        | some vs => some (packed vs, H2)
        | none => none
      | none => none
    | _ => none
  | none => none
end

/-- What is known of the program: `fn`: the functions that may be entered; `orc`: calls that are answered without being run. -/
structure Cfg where
  P : Program
  fn : Nat → Option Func
  orc : Callf

def aCall (C : Cfg) : Nat → Callf
  | 0, _, _, _ => none
  | n + 1, f, args, H =>
    match C.orc f args H with
    | some r => some r
    | none => match C.fn f with
      | some fn => aBody C.P (aCall C n) C.fn n fn args H
      | none => none

end Go.Am

/-! How the abstract machine's values and heaps stand to the model's. -/
namespace Go.Am

/-- Where a block lies: its real block, the place of its first cell there, how many cells may be used from there on, how many cells an element has. -/
structure Pl where
  r : Nat
  d : Nat
  R : Nat
  e : Nat

abbrev Rho := Nat → Option Pl

inductive VR (ρ : Rho) : Value → Value → Prop where
  | bool (b : Bool) : VR ρ (.bool b) (.bool b)
  | int (k : IntKind) (n : Int) : VR ρ (.int k n) (.int k n)
  | float (k : FloatKind) (n : Nat) : VR ρ (.float k n) (.float k n)
  | complex (k : FloatKind) (n m : Nat) : VR ρ (.complex k n m) (.complex k n m)
  | string (s : ByteArray) : VR ρ (.string s) (.string s)
  | pnil : VR ρ (.pointer none) (.pointer none)
  | ptr {b : Nat} {m : Pl} (o : Nat) (h : ρ b = some m) : VR ρ (.pointer (some ⟨b, o, none⟩)) (.pointer (some ⟨m.r, m.d + o, none⟩))
  | opq (r o : Nat) : VR ρ (.pointer (some ⟨r, o, some 2⟩)) (.pointer (some ⟨r, o, none⟩))
  | snil : VR ρ (.slice none 0 0) (.slice none 0 0)
  | smt (a : Addr) (c : Nat) : VR ρ (.slice (some somewhere) 0 0) (.slice (some a) 0 c)
  | sz (a : Addr) : VR ρ (.slice (some exact0) 0 0) (.slice (some a) 0 0)
  | sl {b : Nat} {m : Pl} (o len c c' : Nat) (h : ρ b = some m) (hc : c ≤ c') (hl : len ≤ c) (hR : m.e = 0 ∨ o + c' * m.e ≤ m.R) :
      VR ρ (.slice (some ⟨b, o, none⟩) len c) (.slice (some ⟨m.r, m.d + o, none⟩) len c')
  | mnil : VR ρ (.map none) (.map none)
  | map {b : Nat} {m : Pl} (h : ρ b = some m) : VR ρ (.map (some b)) (.map (some m.r))
  | chnil : VR ρ (.chan none) (.chan none)
  | func (fn : Fn) {xs ys us vs : Array Value} (h1 : xs.size = ys.size) (h2 : ∀ (i : Nat) (x y : Value), xs[i]? = some x → ys[i]? = some y → VR ρ x y)
      (h3 : us.size = vs.size) (h4 : ∀ (i : Nat) (x y : Value), us[i]? = some x → vs[i]? = some y → VR ρ x y) : VR ρ (.func fn xs us) (.func fn ys vs)
  | nilFunc : VR ρ .nilFunc .nilFunc
  | iface (t : TypeId) {x y : Value} (h : VR ρ x y) : VR ρ (.iface t x) (.iface t y)
  | nilIface : VR ρ .nilIface .nilIface
  | agg {xs ys : Array Value} (h1 : xs.size = ys.size) (h2 : ∀ (i : Nat) (x y : Value), xs[i]? = some x → ys[i]? = some y → VR ρ x y) : VR ρ (.agg xs) (.agg ys)
  | tuple {xs ys : Array Value} (h1 : xs.size = ys.size) (h2 : ∀ (i : Nat) (x y : Value), xs[i]? = some x → ys[i]? = some y → VR ρ x y) : VR ρ (.tuple xs) (.tuple ys)

def Rho.le (ρ ρ' : Rho) : Prop := ∀ b m, ρ b = some m → ρ' b = some m

theorem Rho.le_refl (ρ : Rho) : ρ.le ρ := fun _ _ h => h
theorem Rho.le_trans {ρ ρ' ρ'' : Rho} (h : ρ.le ρ') (h' : ρ'.le ρ'') : ρ.le ρ'' := fun b m e => h' b m (h b m e)

theorem VR.mono {ρ ρ' : Rho} (hle : ρ.le ρ') {x y : Value} (h : VR ρ x y) : VR ρ' x y := by
  induction h with
  | bool b => exact .bool b
  | int k n => exact .int k n
  | float k n => exact .float k n
  | complex k n m => exact .complex k n m
  | string s => exact .string s
  | pnil => exact .pnil
  | ptr o h => exact .ptr o (hle _ _ h)
  | opq r o => exact .opq r o
  | snil => exact .snil
  | smt a c => exact .smt a c
  | sz a => exact .sz a
  | sl o len c c' h hc hl hR => exact .sl o len c c' (hle _ _ h) hc hl hR
  | mnil => exact .mnil
  | map h => exact .map (hle _ _ h)
  | chnil => exact .chnil
  | func fn h1 _ h3 _ ih1 ih2 => exact .func fn h1 ih1 h3 ih2
  | nilFunc => exact .nilFunc
  | iface t _ ih => exact .iface t ih
  | nilIface => exact .nilIface
  | agg h1 _ ih => exact .agg h1 ih
  | tuple h1 _ ih => exact .tuple h1 ih

/-- Lists, one by one. -/
inductive LR (ρ : Rho) : List Value → List Value → Prop where
  | nil : LR ρ [] []
  | cons {x y : Value} {xs ys : List Value} (h : VR ρ x y) (t : LR ρ xs ys) : LR ρ (x :: xs) (y :: ys)

namespace LR
variable {ρ : Rho}

theorem mono {ρ' : Rho} (hle : ρ.le ρ') {xs ys : List Value} (h : LR ρ xs ys) : LR ρ' xs ys := by
  induction h with
  | nil => exact .nil
  | cons h _ ih => exact .cons (h.mono hle) ih

theorem length {xs ys : List Value} (h : LR ρ xs ys) : xs.length = ys.length := by
  induction h with
  | nil => rfl
  | cons _ _ ih => simp [ih]

theorem get {xs ys : List Value} (h : LR ρ xs ys) : ∀ {i : Nat} {x y : Value}, xs[i]? = some x → ys[i]? = some y → VR ρ x y := by
  induction h with
  | nil => intro i x y h; simp at h
  | cons h _ ih =>
    intro i x y hx hy
    cases i with
    | zero => simp at hx hy; subst hx; subst hy; exact h
    | succ i => simp at hx hy; exact ih hx hy

theorem get_left {xs ys : List Value} (h : LR ρ xs ys) : ∀ {i : Nat} {x : Value}, xs[i]? = some x → ∃ y, ys[i]? = some y ∧ VR ρ x y := by
  induction h with
  | nil => intro i x h; simp at h
  | cons h _ ih =>
    intro i x hx
    cases i with
    | zero => simp at hx; subst hx; exact ⟨_, by simp, h⟩
    | succ i => simp at hx; obtain ⟨y, hy, hv⟩ := ih hx; exact ⟨y, by simpa using hy, hv⟩

theorem of_get : ∀ {xs ys : List Value}, xs.length = ys.length → (∀ (i : Nat) (x y : Value), xs[i]? = some x → ys[i]? = some y → VR ρ x y) → LR ρ xs ys
  | [], [], _, _ => .nil
  | [], _ :: _, h, _ => by simp at h
  | _ :: _, [], h, _ => by simp at h
  | x :: xs, y :: ys, h, g => .cons (g 0 x y (by simp) (by simp)) (of_get (by simpa using h) fun i a b ha hb => g (i + 1) a b (by simpa using ha) (by simpa using hb))

theorem append {xs ys us vs : List Value} (h : LR ρ xs ys) (h' : LR ρ us vs) : LR ρ (xs ++ us) (ys ++ vs) := by
  induction h with
  | nil => exact h'
  | cons h _ ih => exact .cons h ih

theorem take {xs ys : List Value} (h : LR ρ xs ys) (n : Nat) : LR ρ (xs.take n) (ys.take n) := by
  induction h generalizing n with
  | nil => simp; exact .nil
  | cons h _ ih => cases n with
    | zero => simp; exact .nil
    | succ n => simp; exact .cons h (ih n)

theorem drop {xs ys : List Value} (h : LR ρ xs ys) (n : Nat) : LR ρ (xs.drop n) (ys.drop n) := by
  induction h generalizing n with
  | nil => simp; exact .nil
  | cons h t ih => cases n with
    | zero => exact .cons h t
    | succ n => simp; exact ih n

theorem splice {xs ys us vs : List Value} (h : LR ρ xs ys) (h' : LR ρ us vs) (o : Nat) : LR ρ (splice xs o us) (Am.splice ys o vs) := by
  unfold Am.splice
  rw [h'.length]
  exact (h.take o).append (h'.append (h.drop _))

theorem refl_of {xs : List Value} (h : ∀ x ∈ xs, VR ρ x x) : LR ρ xs xs := by
  induction xs with
  | nil => exact .nil
  | cons x xs ih => exact .cons (h x (by simp)) (ih fun y hy => h y (by simp [hy]))

end LR

theorem VR.agg_inv {ρ : Rho} {xs : Array Value} {v : Value} (h : VR ρ (.agg xs) v) : ∃ ys, v = .agg ys ∧ LR ρ xs.toList ys.toList := by
  cases h with
  | agg h1 h2 => exact ⟨_, rfl, LR.of_get (by simpa using h1) fun i x y hx hy => h2 i x y (by simpa using hx) (by simpa using hy)⟩

theorem VR.tuple_inv {ρ : Rho} {xs : Array Value} {v : Value} (h : VR ρ (.tuple xs) v) : ∃ ys, v = .tuple ys ∧ LR ρ xs.toList ys.toList := by
  cases h with
  | tuple h1 h2 => exact ⟨_, rfl, LR.of_get (by simpa using h1) fun i x y hx hy => h2 i x y (by simpa using hx) (by simpa using hy)⟩

theorem VR.func_inv {ρ : Rho} {fn : Fn} {xs us : Array Value} {v : Value} (h : VR ρ (.func fn xs us) v) :
    ∃ ys vs, v = .func fn ys vs ∧ LR ρ xs.toList ys.toList ∧ LR ρ us.toList vs.toList := by
  cases h with
  | func _ h1 h2 h3 h4 =>
    exact ⟨_, _, rfl, LR.of_get (by simpa using h1) fun i x y hx hy => h2 i x y (by simpa using hx) (by simpa using hy),
      LR.of_get (by simpa using h3) fun i x y hx hy => h4 i x y (by simpa using hx) (by simpa using hy)⟩

theorem VR.agg_of {ρ : Rho} {xs ys : Array Value} (h : LR ρ xs.toList ys.toList) : VR ρ (.agg xs) (.agg ys) :=
  .agg (by simpa using h.length) fun i x y hx hy => h.get (by simpa using hx) (by simpa using hy)

theorem VR.tuple_of {ρ : Rho} {xs ys : Array Value} (h : LR ρ xs.toList ys.toList) : VR ρ (.tuple xs) (.tuple ys) :=
  .tuple (by simpa using h.length) fun i x y hx hy => h.get (by simpa using hx) (by simpa using hy)

theorem VR.func_of {ρ : Rho} (fn : Fn) {xs ys us vs : Array Value} (h : LR ρ xs.toList ys.toList) (h' : LR ρ us.toList vs.toList) : VR ρ (.func fn xs us) (.func fn ys vs) :=
  .func fn (by simpa using h.length) (fun i x y hx hy => h.get (by simpa using hx) (by simpa using hy))
    (by simpa using h'.length) (fun i x y hx hy => h'.get (by simpa using hx) (by simpa using hy))

theorem VR.undef (ρ : Rho) : VR ρ Am.undef Am.undef := VR.tuple_of .nil

/-- A value without addresses stands to itself. -/
def plainV : Nat → Value → Bool
  | 0, _ => false
  | _ + 1, .bool _ | _ + 1, .int _ _ | _ + 1, .float _ _ | _ + 1, .complex _ _ _ | _ + 1, .string _ | _ + 1, .pointer none | _ + 1, .slice none 0 0
  | _ + 1, .map none | _ + 1, .chan none | _ + 1, .nilFunc | _ + 1, .nilIface => true
  | n + 1, .func _ xs ys => xs.toList.all (plainV n) && ys.toList.all (plainV n)
  | n + 1, .iface _ v => plainV n v
  | n + 1, .agg xs => xs.toList.all (plainV n)
  | n + 1, .tuple xs => xs.toList.all (plainV n)
  | _, _ => false

theorem VR.plain (ρ : Rho) : ∀ (n : Nat) (v : Value), plainV n v = true → VR ρ v v := by
  intro n
  induction n with
  | zero => intro v h; simp [plainV] at h
  | succ n ih =>
    have hl : ∀ l : List Value, l.all (plainV n) = true → LR ρ l l := fun l hl => LR.refl_of fun x hx => ih x (List.all_eq_true.1 hl x hx)
    intro v h
    cases v with
    | bool b => exact .bool b
    | int k m => exact .int k m
    | float k m => exact .float k m
    | complex k m l => exact .complex k m l
    | string s => exact .string s
    | pointer a => cases a with
      | none => exact .pnil
      | some a => simp [plainV] at h
    | slice a l c =>
      have h' : a = none ∧ l = 0 ∧ c = 0 := by
        unfold plainV at h
        split at h <;> simp_all
      obtain ⟨rfl, rfl, rfl⟩ := h'
      exact .snil
    | map r => cases r with
      | none => exact .mnil
      | some a => simp [plainV] at h
    | chan r => cases r with
      | none => exact .chnil
      | some a => simp [plainV] at h
    | func fn xs ys =>
      simp only [plainV, Bool.and_eq_true] at h
      exact VR.func_of fn (hl _ h.1) (hl _ h.2)
    | nilFunc => exact .nilFunc
    | iface t v => exact .iface t (ih v (by simpa [plainV] using h))
    | nilIface => exact .nilIface
    | agg xs => exact VR.agg_of (hl _ (by simpa only [plainV] using h))
    | tuple xs => exact VR.tuple_of (hl _ (by simpa only [plainV] using h))

end Go.Am

/-! Heaps of the abstract machine: what keeps them well formed, and how they stand to the model's heap. -/
namespace Go.Am

def Blk.verNe (k k' : Blk) : Prop := ∃ c e f v c' e' f' v', k = .cells c e (.fam f v) ∧ k' = .cells c' e' (.fam f' v') ∧ v ≠ v'

structure AH.WF (H : AH) : Prop where
  base : 0 < H.base
  next : H.base ≤ H.next
  lt : ∀ b k, H.blk.get b = some k → b < H.next
  root : ∀ b k, H.blk.get b = some k → k.root b ≤ b
  uniq : ∀ b b' k k', H.blk.get b = some k → H.blk.get b' = some k' → k.root b = k'.root b' → k.root b ≠ 0 → b = b' ∨ k.verNe k'
  fam : ∀ b c e f v, H.blk.get b = some (.cells c e (.fam f v)) → 0 < f ∧ ∃ cur low, H.fam.get f = some (cur, low) ∧ v ≤ cur ∧ low ≤ cur

/-- What lies below the base stays. -/
structure AFr (H H' : AH) : Prop where
  next : H.next ≤ H'.next
  base : H'.base = H.base
  root : ∀ b, b < H.next → H'.root b = H.root b
  blk : ∀ b, b < H.next → H.root b < H.base → H'.blk.get b = H.blk.get b
  fam : ∀ f, f < H.base → H'.fam.get f = H.fam.get f

theorem AFr.refl (H : AH) : AFr H H := ⟨Nat.le_refl _, rfl, fun _ _ => rfl, fun _ _ _ => rfl, fun _ _ => rfl⟩

theorem AFr.trans {H H1 H2 : AH} (h : AFr H H1) (h' : AFr H1 H2) : AFr H H2 where
  next := Nat.le_trans h.next h'.next
  base := h'.base.trans h.base
  root := fun b hb => (h'.root b (Nat.lt_of_lt_of_le hb h.next)).trans (h.root b hb)
  blk := fun b hb hr => (h'.blk b (Nat.lt_of_lt_of_le hb h.next) (by rw [h.root b hb, h.base]; exact hr)).trans (h.blk b hb hr)
  fam := fun f hf => (h'.fam f (by rw [h.base]; exact hf)).trans (h.fam f hf)

theorem AH.root_of {H : AH} {b : Nat} {k : Blk} (h : H.blk.get b = some k) : H.root b = k.root b := by unfold AH.root; rw [h]

theorem AH.WF.root_le {H : AH} (h : H.WF) (b : Nat) : H.root b ≤ b := by
  unfold AH.root
  cases hb : H.blk.get b with
  | none => simp
  | some k => exact h.root b k hb

/-- A block that is laid new. -/
def Blk.mine : Blk → Bool
  | .cells _ _ .solo => true
  | .map _ _ m => m
  | .siter _ _ m => m
  | .miter _ _ _ _ m => m
  | _ => false

theorem Blk.mine_root {k : Blk} (h : k.mine = true) (b : Nat) : k.root b = b := by
  cases k with
  | cells c e o => cases o <;> simp_all [Blk.mine, Blk.root, Own.root]
  | map es cl m => simp_all [Blk.mine, Blk.root]
  | siter s p m => simp_all [Blk.mine, Blk.root]
  | miter _ _ _ _ m => simp_all [Blk.mine, Blk.root]

theorem AH.new_blk (H : AH) (k : Blk) (b : Nat) : (H.new k).blk.get b = if H.next = b then some k else H.blk.get b := T.get_set ..

theorem AH.WF.new {H : AH} (h : H.WF) {k : Blk} (hk : k.mine = true) : (H.new k).WF := by
  have hr := Blk.mine_root hk
  constructor
  · exact h.base
  · exact Nat.le_succ_of_le h.next
  · intro b k' hb
    rw [AH.new_blk] at hb
    by_cases e : H.next = b
    · subst e; exact Nat.lt_succ_self _
    · rw [if_neg e] at hb; exact Nat.lt_succ_of_lt (h.lt b k' hb)
  · intro b k' hb
    rw [AH.new_blk] at hb
    by_cases e : H.next = b
    · rw [if_pos e] at hb; cases hb; rw [hr]; exact Nat.le_refl _
    · rw [if_neg e] at hb; exact h.root b k' hb
  · intro b b' k1 k2 hb hb' he h0
    rw [AH.new_blk] at hb hb'
    by_cases e : H.next = b <;> by_cases e' : H.next = b'
    · left; rw [← e, ← e']
    · rw [if_pos e] at hb; cases hb; rw [if_neg e'] at hb'
      have h1 := h.root b' k2 hb'; have h2 := h.lt b' k2 hb'; rw [hr] at he; omega
    · rw [if_pos e'] at hb'; cases hb'; rw [if_neg e] at hb
      have h1 := h.root b k1 hb; have h2 := h.lt b k1 hb; rw [hr] at he; omega
    · rw [if_neg e] at hb; rw [if_neg e'] at hb'; exact h.uniq b b' k1 k2 hb hb' he h0
  · intro b c e f v hb
    rw [AH.new_blk] at hb
    by_cases e' : H.next = b
    · rw [if_pos e'] at hb; cases hb; simp [Blk.mine] at hk
    · rw [if_neg e'] at hb; exact h.fam b c e f v hb

theorem AFr.new (H : AH) (k : Blk) : AFr H (H.new k) where
  next := Nat.le_succ _
  base := rfl
  root := fun b hb => by unfold AH.root; rw [AH.new_blk, if_neg (by omega)]
  blk := fun b hb _ => by rw [AH.new_blk, if_neg (by omega)]
  fam := fun _ _ => rfl

theorem AH.okW_spec {H : AH} (h : H.WF) {b : Nat} {c : List Value} {e : Nat} {o : Own} (hb : H.blk.get b = some (.cells c e o)) (hw : H.okW b o = true) :
    H.base ≤ H.root b ∧ H.okR o = true ∧ o ≠ .ext ∧ (∀ f v, o = .fam f v → ∃ l, H.fam.get f = some (v, l)) := by
  rw [AH.root_of hb]
  cases o with
  | ext => simp [AH.okW] at hw
  | solo => simp only [AH.okW] at hw; exact ⟨Nat.le_of_ble_eq_true hw, rfl, by simp, by simp⟩
  | fam f v =>
    obtain ⟨h0, cur, low, hf, hv, hl⟩ := h.fam b c e f v hb
    simp only [AH.okW, hf, Bool.and_eq_true] at hw
    have hc := Nat.eq_of_beq_eq_true hw.2
    subst hc
    refine ⟨Nat.le_of_ble_eq_true hw.1, ?_, by simp, ?_⟩
    · simp only [AH.okR, hf]; exact Nat.ble_eq_true_of_le hl
    · intro f' v' e'; cases e'; exact ⟨low, hf⟩

theorem AH.put_blk (H : AH) (b : Nat) (c : List Value) (e : Nat) (o : Own) (j : Nat) :
    (H.put b c e o).blk.get j = if b = j then some (.cells c e o) else H.blk.get j := by
  cases o <;> exact T.get_set ..

theorem AH.put_fam (H : AH) (b : Nat) (c : List Value) (e : Nat) (o : Own) (j : Nat) :
    (H.put b c e o).fam.get j = match o with
      | .fam f v => if f = j then some (v, v) else H.fam.get j
      | _ => H.fam.get j := by
  cases o with
  | fam f v => exact T.get_set ..
  | _ => rfl

theorem AH.put_next (H : AH) (b : Nat) (c : List Value) (e : Nat) (o : Own) : (H.put b c e o).next = H.next := by cases o <;> rfl
theorem AH.put_base (H : AH) (b : Nat) (c : List Value) (e : Nat) (o : Own) : (H.put b c e o).base = H.base := by cases o <;> rfl

/-- of a block's kind the root alone matters here -/
def Blk.like (k k' : Blk) : Prop := (∃ c c' e o, k = .cells c e o ∧ k' = .cells c' e o) ∨ (∃ es cl es' cl' m, k = .map es cl m ∧ k' = .map es' cl' m) ∨ (∃ s p s' p' m, k = .siter s p m ∧ k' = .siter s' p' m) ∨
  (∃ a s l t a' s' l' t' m, k = .miter a s l t m ∧ k' = .miter a' s' l' t' m)

theorem Blk.like_root {k k' : Blk} (h : k.like k') (b : Nat) : k'.root b = k.root b := by
  rcases h with ⟨c, c', e, o, rfl, rfl⟩ | ⟨es, cl, es', cl', m, rfl, rfl⟩ | ⟨s, p, s', p', m, rfl, rfl⟩ | ⟨_, _, _, _, _, _, _, _, _, rfl, rfl⟩ <;> rfl

theorem Blk.like_verNe_left {k k' j : Blk} (h : k.like k') (hv : k.verNe j) : k'.verNe j := by
  obtain ⟨c, e, f, v, c', e', f', v', rfl, rfl, hne⟩ := hv
  rcases h with ⟨_, c2, _, _, h1, rfl⟩ | ⟨_, _, _, _, _, h1, _⟩ | ⟨_, _, _, _, _, h1, _⟩ | ⟨_, _, _, _, _, _, _, _, _, h1, _⟩
  · cases h1; exact ⟨_, _, _, _, _, _, _, _, rfl, rfl, hne⟩
  · cases h1
  · cases h1
  · cases h1

theorem Blk.like_verNe_right {k k' j : Blk} (h : k.like k') (hv : j.verNe k) : j.verNe k' := by
  obtain ⟨c, e, f, v, c', e', f', v', rfl, rfl, hne⟩ := hv
  rcases h with ⟨_, c2, _, _, h1, rfl⟩ | ⟨_, _, _, _, _, h1, _⟩ | ⟨_, _, _, _, _, h1, _⟩ | ⟨_, _, _, _, _, _, _, _, _, h1, _⟩
  · cases h1; exact ⟨_, _, _, _, _, _, _, _, rfl, rfl, hne⟩
  · cases h1
  · cases h1
  · cases h1

/-- A block's contents turn. -/
theorem AH.WF.turn {H H' : AH} (h : H.WF) {b : Nat} {k k' : Blk} (hb : H.blk.get b = some k) (hl : k.like k') (hn : H'.next = H.next) (hba : H'.base = H.base)
    (hblk : ∀ j, H'.blk.get j = if b = j then some k' else H.blk.get j)
    (hfam : ∀ f cur low, H.fam.get f = some (cur, low) → ∃ low', H'.fam.get f = some (cur, low') ∧ low' ≤ cur ∨ H'.fam.get f = some (cur, low)) : H'.WF := by
  have hr := Blk.like_root hl
  constructor
  · rw [hba]; exact h.base
  · rw [hba, hn]; exact h.next
  · intro j kj hj
    rw [hblk] at hj; rw [hn]
    by_cases e : b = j
    · subst e; exact h.lt _ _ hb
    · rw [if_neg e] at hj; exact h.lt j kj hj
  · intro j kj hj
    rw [hblk] at hj
    by_cases e : b = j
    · rw [if_pos e] at hj; cases hj; subst e; rw [hr]; exact h.root _ _ hb
    · rw [if_neg e] at hj; exact h.root j kj hj
  · intro j j' kj kj' hj hj' he h0
    rw [hblk] at hj hj'
    by_cases e : b = j <;> by_cases e' : b = j'
    · left; rw [← e, ← e']
    · rw [if_pos e] at hj; cases hj; rw [if_neg e'] at hj'; subst e
      rcases h.uniq b j' k kj' hb hj' (by rw [← hr]; exact he) (by rw [← hr]; exact h0) with h1 | h1
      · exact absurd h1 e'
      · exact .inr (Blk.like_verNe_left hl h1)
    · rw [if_pos e'] at hj'; cases hj'; rw [if_neg e] at hj; subst e'
      rcases h.uniq j b kj k hj hb (by rw [← hr]; exact he) h0 with h1 | h1
      · exact .inl h1
      · exact .inr (Blk.like_verNe_right hl h1)
    · rw [if_neg e] at hj; rw [if_neg e'] at hj'; exact h.uniq j j' kj kj' hj hj' he h0
  · intro j c e f v hj
    rw [hblk] at hj
    have key : ∃ c e, H.blk.get j = some (.cells c e (.fam f v)) := by
      by_cases e' : b = j
      · rw [if_pos e'] at hj; cases hj; subst e'
        rcases hl with ⟨_, c2, _, _, h1, h2⟩ | ⟨_, _, _, _, _, h1, h2⟩ | ⟨_, _, _, _, _, h1, h2⟩ | ⟨_, _, _, _, _, _, _, _, _, h1, h2⟩
        · cases h2; exact ⟨_, _, hb.trans (by rw [h1])⟩
        · cases h2
        · cases h2
        · cases h2
      · rw [if_neg e'] at hj; exact ⟨c, e, hj⟩
    obtain ⟨c1, e1, hj1⟩ := key
    obtain ⟨h0, cur, low, hf, hv, hlo⟩ := h.fam j c1 e1 f v hj1
    refine ⟨h0, ?_⟩
    obtain ⟨low', h1 | h1⟩ := hfam f cur low hf
    · exact ⟨cur, low', h1.1, hv, h1.2⟩
    · exact ⟨cur, low, h1, hv, hlo⟩

theorem AFr.turn {H H' : AH} {b : Nat} {k k' : Blk} (hb : H.blk.get b = some k) (hl : k.like k') (hn : H'.next = H.next) (hba : H'.base = H.base)
    (hblk : ∀ j, H'.blk.get j = if b = j then some k' else H.blk.get j) (hw : H.base ≤ H.root b)
    (hfam : ∀ f, f < H.base → H'.fam.get f = H.fam.get f) : AFr H H' where
  next := Nat.le_of_eq hn.symm
  base := hba
  root := fun j _ => by
    unfold AH.root; rw [hblk]
    by_cases e : b = j
    · subst e; rw [if_pos rfl, hb]; exact Blk.like_root hl _
    · rw [if_neg e]
  blk := fun j _ hr => by
    rw [hblk, if_neg]; intro e; subst e; omega
  fam := hfam

theorem AH.WF.put {H : AH} (h : H.WF) {b : Nat} {c : List Value} {e : Nat} {o : Own} (hb : H.blk.get b = some (.cells c e o)) (hw : H.okW b o = true) (c' : List Value) :
    (H.put b c' e o).WF ∧ AFr H (H.put b c' e o) := by
  obtain ⟨h1, h2, h3, h4⟩ := AH.okW_spec h hb hw
  have hl : (Blk.cells c e o).like (.cells c' e o) := .inl ⟨_, _, _, _, rfl, rfl⟩
  refine ⟨h.turn hb hl (AH.put_next ..) (AH.put_base ..) (fun j => AH.put_blk ..) ?_, AFr.turn hb hl (AH.put_next ..) (AH.put_base ..) (fun j => AH.put_blk ..) h1 ?_⟩
  · intro f cur low hf
    rw [AH.put_fam]
    cases o with
    | fam f' v =>
      obtain ⟨l, hl'⟩ := h4 f' v rfl
      by_cases e' : f' = f
      · subst e'; rw [hl'] at hf; cases hf
        exact ⟨cur, .inl ⟨by simp, Nat.le_refl _⟩⟩
      · exact ⟨0, .inr (by simp only [if_neg e']; exact hf)⟩
    | solo => exact ⟨0, .inr hf⟩
    | ext => exact ⟨0, .inr hf⟩
  · intro f hf
    rw [AH.put_fam]
    cases o with
    | fam f' v =>
      rw [AH.root_of hb] at h1
      have h1 : H.base ≤ f' := h1
      simp only
      rw [if_neg (by omega)]
    | solo => rfl
    | ext => rfl

/-! ### A row grows -/

/-- The family of a row that may grow, and its version. -/
def Own.famOf (b : Nat) : Own → Nat × Nat
  | .fam f v => (f, v)
  | _ => (b, 0)

theorem AH.grow_spec {H H' : AH} (h : H.WF) {b : Nat} {c : List Value} {e : Nat} {o : Own} (hb : H.blk.get b = some (.cells c e o)) (hw : H.okW b o = true) {c' : List Value}
    (hg : H.grow b o c e c' = some H') :
    H'.next = H.next + 1 ∧ H'.base = H.base ∧
    (∀ j, H'.blk.get j = if H.next = j then some (.cells c' e (.fam (o.famOf b).1 ((o.famOf b).2 + 1))) else if b = j then some (.cells c e (.fam (o.famOf b).1 (o.famOf b).2)) else H.blk.get j) ∧
    (∃ l, l ≤ (o.famOf b).2 ∧ (∀ f v, o = .fam f v → H.fam.get f = some (v, l)) ∧ (o = .solo → l = 0) ∧ ∀ f, H'.fam.get f = if (o.famOf b).1 = f then some ((o.famOf b).2 + 1, l) else H.fam.get f) := by
  obtain ⟨h1, h2, h3, h4⟩ := AH.okW_spec h hb hw
  cases o with
  | ext => exact absurd rfl h3
  | solo =>
    simp only [AH.grow, Option.some.injEq] at hg
    subst hg
    refine ⟨rfl, rfl, fun j => ?_, 0, Nat.le_refl _, by simp, fun _ => rfl, fun f => T.get_set ..⟩
    simp only [T.get_set, Own.famOf]
  | fam f v =>
    obtain ⟨l, hl⟩ := h4 f v rfl
    simp only [AH.grow, hl, Option.some.injEq] at hg
    subst hg
    obtain ⟨h0, cur, low, hf, hv, hlo⟩ := h.fam b c e f v hb
    rw [hl] at hf; cases hf
    refine ⟨rfl, rfl, fun j => ?_, l, hlo, ?_, by simp, fun g => ?_⟩
    · simp only [T.get_set, Own.famOf]
      by_cases e1 : H.next = j
      · rw [if_pos e1, if_pos e1]
      · rw [if_neg e1, if_neg e1]
        by_cases e2 : b = j
        · subst e2; rw [if_pos rfl, hb]
        · rw [if_neg e2]
    · intro f' v' e'; cases e'; exact hl
    · exact T.get_set ..

theorem Own.famOf_root (b : Nat) (o : Own) (h : o ≠ .ext) : (o.famOf b).1 = o.root b := by cases o <;> simp_all [Own.famOf, Own.root]

theorem AH.WF.grow {H H' : AH} (h : H.WF) {b : Nat} {c : List Value} {e : Nat} {o : Own} (hb : H.blk.get b = some (.cells c e o)) (hw : H.okW b o = true) {c' : List Value}
    (hg : H.grow b o c e c' = some H') : H'.WF ∧ AFr H H' := by
  obtain ⟨g1, g2, g3, l, g4, g5, g6, g7⟩ := AH.grow_spec h hb hw hg
  obtain ⟨h1, h2, h3, h4⟩ := AH.okW_spec h hb hw
  have hbn := h.lt b _ hb
  have hrb : (o.famOf b).1 = o.root b := Own.famOf_root b o h3
  have hro : H.root b = o.root b := AH.root_of hb
  have hrle : o.root b ≤ b := h.root b _ hb
  have hpos : 0 < o.root b := by have := h.base; omega
  have cur : ∀ v', (o.famOf b).2 < v' → ∀ j c1 e1, H.blk.get j = some (.cells c1 e1 (.fam (o.famOf b).1 v')) → False := by
    intro v' hv' j c1 e1 hj
    cases o with
    | ext => exact h3 rfl
    | solo =>
      have := h.uniq b j _ _ hb hj rfl (by show b ≠ 0; have := h.base; have : H.base ≤ b := by rw [hro] at h1; exact h1
                                           omega)
      rcases this with e' | ⟨_, _, _, _, _, _, _, _, h5, _, _⟩
      · subst e'; rw [hb] at hj; cases hj
      · cases h5
    | fam f v =>
      obtain ⟨l', hl'⟩ := h4 f v rfl
      obtain ⟨_, cur, low, hf, hv, _⟩ := h.fam j c1 e1 f v' hj
      rw [hl'] at hf; cases hf
      exact absurd hv (Nat.not_le.2 hv')
  have solo1 : o = .solo → ∀ j k, H.blk.get j = some k → k.root j = b → j = b := by
    intro eo j k hj hr
    subst eo
    rcases h.uniq b j _ _ hb hj hr.symm (by show b ≠ 0; omega) with e' | ⟨_, _, _, _, _, _, _, _, h5, _, _⟩
    · exact e'.symm
    · cases h5
  have oldk : ∀ j k', H'.blk.get j = some k' → j ≠ H.next → ∃ k, H.blk.get j = some k ∧ k.root j = k'.root j ∧ (j ≠ b → k = k') := by
    intro j k' hj hne
    rw [g3, if_neg (fun e => hne e.symm)] at hj
    by_cases e1 : b = j
    · rw [if_pos e1] at hj; cases hj; subst e1
      exact ⟨_, hb, by show o.root b = (o.famOf b).1; exact hrb.symm, fun hn => absurd rfl hn⟩
    · rw [if_neg e1] at hj; exact ⟨k', hj, rfl, fun _ => rfl⟩
  have hnew : ∀ k', H'.blk.get H.next = some k' → k' = .cells c' e (.fam (o.famOf b).1 ((o.famOf b).2 + 1)) := by
    intro k' hk; rw [g3, if_pos rfl] at hk; cases hk; rfl
  have newold : ∀ j k', H'.blk.get j = some k' → j ≠ H.next → k'.root j = (o.famOf b).1 → ∃ c1 e1 v1, k' = .cells c1 e1 (.fam (o.famOf b).1 v1) ∧ v1 ≤ (o.famOf b).2 := by
    intro j k' hj hne hr
    by_cases e1 : b = j
    · rw [g3, if_neg (fun e => hne e.symm), if_pos e1] at hj; cases hj
      exact ⟨_, _, _, rfl, Nat.le_refl _⟩
    · obtain ⟨k, hk, hkr, hkk⟩ := oldk j k' hj hne
      have := hkk (fun e => e1 e.symm); subst this
      rcases h.uniq b j _ _ hb hk (by show o.root b = _; rw [← hrb]; exact hr.symm) (by show o.root b ≠ 0; omega) with e' | ⟨c1, e2, f1, v1, c2, e3, f2, v2, h5, h6, h7⟩
      · exact absurd e' e1
      · cases h5; subst h6
        have hf2 : f2 = f1 := hr
        subst hf2
        refine ⟨_, _, _, rfl, ?_⟩
        refine Nat.le_of_not_lt fun hlt => ?_
        exact cur v2 hlt j c2 e3 hk
  refine ⟨⟨?_, ?_, ?_, ?_, ?_, ?_⟩, ⟨?_, g2, ?_, ?_, ?_⟩⟩
  · rw [g2]; exact h.base
  · rw [g1, g2]; exact Nat.le_succ_of_le h.next
  · intro j k' hj
    rw [g1]
    by_cases e1 : j = H.next
    · omega
    · obtain ⟨k, hk, _⟩ := oldk j k' hj e1
      exact Nat.lt_succ_of_lt (h.lt j k hk)
  · intro j k' hj
    by_cases e1 : j = H.next
    · subst e1; have := hnew k' hj; subst this; show (o.famOf b).1 ≤ _; omega
    · obtain ⟨k, hk, hkr, _⟩ := oldk j k' hj e1
      rw [← hkr]; exact h.root j k hk
  · intro j j' k1 k2 hj hj' he h0
    by_cases e1 : j = H.next <;> by_cases e2 : j' = H.next
    · left; rw [e1, e2]
    · subst e1; have := hnew k1 hj; subst this
      obtain ⟨c1, e1, v1, rfl, hv1⟩ := newold j' k2 hj' e2 he.symm
      exact .inr ⟨_, _, _, _, _, _, _, _, rfl, rfl, by omega⟩
    · subst e2; have := hnew k2 hj'; subst this
      obtain ⟨c1, e1, v1, rfl, hv1⟩ := newold j k1 hj e1 he
      exact .inr ⟨_, _, _, _, _, _, _, _, rfl, rfl, by omega⟩
    · obtain ⟨i1, hi1, hr1, hk1⟩ := oldk j k1 hj e1
      obtain ⟨i2, hi2, hr2, hk2⟩ := oldk j' k2 hj' e2
      rcases h.uniq j j' i1 i2 hi1 hi2 (by rw [hr1, hr2]; exact he) (by rw [hr1]; exact h0) with h5 | h5
      · exact .inl h5
      · by_cases e3 : j = b
        · subst e3
          by_cases e4 : j' = j
          · exact .inl e4.symm
          · have := hk2 e4; subst this
            rw [hb] at hi1; cases hi1
            rw [g3, if_neg (fun e => e1 e.symm), if_pos rfl] at hj; cases hj
            obtain ⟨_, _, _, _, c2, e5, f2, v2, h6, rfl, h7⟩ := h5
            cases h6
            exact .inr ⟨_, _, _, _, _, _, _, _, rfl, rfl, h7⟩
        · have := hk1 e3; subst this
          by_cases e4 : j' = b
          · subst e4
            rw [hb] at hi2; cases hi2
            rw [g3, if_neg (fun e => e2 e.symm), if_pos rfl] at hj'; cases hj'
            obtain ⟨c2, e5, f2, v2, _, _, _, _, rfl, h6, h7⟩ := h5
            cases h6
            exact .inr ⟨_, _, _, _, _, _, _, _, rfl, rfl, h7⟩
          · have := hk2 e4; subst this
            exact .inr h5
  · intro j c1 e1 f v hj
    rw [g7]
    by_cases e2 : j = H.next
    · subst e2; have := hnew _ hj; cases this
      refine ⟨by omega, _, _, by rw [if_pos rfl], Nat.le_refl _, by omega⟩
    · by_cases e3 : b = j
      · rw [g3, if_neg (fun e => e2 e.symm), if_pos e3] at hj; cases hj
        refine ⟨by omega, _, _, by rw [if_pos rfl], Nat.le_succ _, by omega⟩
      · rw [g3, if_neg (fun e => e2 e.symm), if_neg e3] at hj
        obtain ⟨i0, cu, lo, i1, i2, i3⟩ := h.fam j c1 e1 f v hj
        refine ⟨i0, ?_⟩
        by_cases e4 : (o.famOf b).1 = f
        · rw [if_pos e4]
          cases o with
          | ext => exact absurd rfl h3
          | solo =>
            have := solo1 rfl j _ hj e4.symm
            exact absurd this.symm e3
          | fam f' v' =>
            have e4 : f' = f := e4
            subst e4
            rw [g5 _ _ rfl] at i1; cases i1
            exact ⟨_, _, rfl, Nat.le_succ_of_le i2, Nat.le_succ_of_le i3⟩
        · rw [if_neg e4]; exact ⟨cu, lo, i1, i2, i3⟩
  · rw [g1]; exact Nat.le_succ _
  · intro j hj
    unfold AH.root
    rw [g3, if_neg (by omega)]
    by_cases e1 : b = j
    · subst e1; rw [if_pos rfl, hb]; exact hrb
    · rw [if_neg e1]
  · intro j hj hr
    rw [g3, if_neg (by omega), if_neg]
    intro e1; subst e1; omega
  · intro f hf
    rw [g7, if_neg]
    intro e1; subst e1; rw [hro] at h1; omega

end Go.Am

/-! How a heap of the abstract machine stands to the model's heap, and the five ways to change both. -/
namespace Go.Am

def CR (ρ : Rho) (c : List Value) (C : Array Value) (d : Nat) : Prop := ∀ (i : Nat) (x : Value), c[i]? = some x → ∃ y, C[d + i]? = some y ∧ VR ρ x y

def FF (C : Array Value) (fz : Nat × Nat) : Prop := ∀ i, i < C.size → ¬ (fz.1 ≤ i ∧ i < fz.2)

def ER (ρ : Rho) (es es' : List MapEntry) : Prop :=
  es.length = es'.length ∧ ∀ (i : Nat) (e e' : MapEntry), es[i]? = some e → es'[i]? = some e' → VR ρ e.key e'.key ∧ VR ρ e.val e'.val ∧ e.born = e'.born

def BR (H : AH) (ρ : Rho) (h : Array Obj) (m : Pl) : Blk → Prop
  | .cells c e o => m.e = e ∧ (H.okR o = true → ∃ C ty fz, h[m.r]? = some (.cells C ty fz) ∧ CR ρ c C m.d ∧ (o ≠ .ext → m.d + m.R ≤ C.size ∧ c.length ≤ m.R ∧ FF C fz))
  | .map es clock _ => m.d = 0 ∧ ∃ es', h[m.r]? = some (.map es' clock) ∧ ER ρ es es'.toList
  | .siter s pos _ => m.d = 0 ∧ h[m.r]? = some (.stringIter s pos)
  | .miter none since seen last _ => m.d = 0 ∧ h[m.r]? = some (.mapIter none since seen.toArray last)
  | .miter (some b) since seen last _ => m.d = 0 ∧ ∃ mb, ρ b = some mb ∧ h[m.r]? = some (.mapIter (some mb.r) since seen.toArray last)

structure WR (P : Program) (H : AH) (ρ : Rho) (h : Array Obj) : Prop where
  wf : H.WF
  dom : ∀ b m, ρ b = some m → b < H.next
  glob : ∀ g, g < P.globals.size → ∃ m, ρ g = some m ∧ m.r = g ∧ m.d = 0
  real : ∀ b m, ρ b = some m → m.r < h.size
  sep : ∀ b b' m m', ρ b = some m → ρ b' = some m' → m.r = m'.r → H.root b = H.root b'
  ends : ∀ b b' m m' c e c' e' f v v', ρ b = some m → ρ b' = some m' → H.blk.get b = some (.cells c e (.fam f v)) → H.blk.get b' = some (.cells c' e' (.fam f v')) →
    v' ≤ v → m.r = m'.r → m'.d + c'.length ≤ m.d + c.length
  blk : ∀ b m k, ρ b = some m → H.blk.get b = some k → BR H ρ h m k

structure Grw (H : AH) (ρ : Rho) (w : World) (H' : AH) (ρ' : Rho) (w' : World) : Prop where
  afr : AFr H H'
  rho : ρ.le ρ'
  new : ∀ b m, ρ' b = some m → ρ b = none → H.next ≤ b
  fresh : ∀ b m, ρ' b = some m → ρ b = none → w.heap.size ≤ m.r ∨ ∃ b0 m0, ρ b0 = some m0 ∧ m0.r = m.r ∧ H.base ≤ H.root b0
  os : w'.os = w.os
  tape : w'.tape = w.tape
  output : w'.output = w.output
  size : w.heap.size ≤ w'.heap.size
  frame : ∀ r, r < w.heap.size → (∀ b m, ρ b = some m → m.r = r → ¬ H.base ≤ H.root b) → w'.heap[r]? = w.heap[r]?
  cov : ∀ b k, H.next ≤ b → H'.blk.get b = some k → ∃ m, ρ' b = some m

theorem Grw.refl {H : AH} (hwf : H.WF) (ρ : Rho) (w : World) : Grw H ρ w H ρ w where
  afr := AFr.refl H
  rho := Rho.le_refl ρ
  new := fun b m h h' => by rw [h'] at h; cases h
  fresh := fun b m h h' => by rw [h'] at h; cases h
  os := rfl
  tape := rfl
  output := rfl
  size := Nat.le_refl _
  frame := fun _ _ _ => rfl
  cov := fun b k hb hk => by have := hwf.lt b k hk; omega

theorem WR.refl {P : Program} {H : AH} {ρ : Rho} {w : World} (hW : WR P H ρ w.heap) : Grw H ρ w H ρ w := Grw.refl hW.wf ρ w

theorem Grw.blk0 {H H' : AH} {ρ ρ' : Rho} {w w' : World} (h : Grw H ρ w H' ρ' w') (hb : 0 < H.base) (b : Nat) (hlt : b < H.next) (h0 : H.blk.get b = none) : H'.blk.get b = none := by
  rw [← h0]
  refine h.afr.blk b hlt ?_
  unfold AH.root; rw [h0]; exact hb

theorem Grw.trans {H H1 H2 : AH} {ρ ρ1 ρ2 : Rho} {w w1 w2 : World} (hd : ∀ b m, ρ b = some m → b < H.next) (hbase : 0 < H.base)
    (h : Grw H ρ w H1 ρ1 w1) (h' : Grw H1 ρ1 w1 H2 ρ2 w2) : Grw H ρ w H2 ρ2 w2 where
  afr := h.afr.trans h'.afr
  rho := Rho.le_trans h.rho h'.rho
  new := fun b m h2 h0 => by
    cases h1 : ρ1 b with
    | some m1 => exact h.new b m1 h1 h0
    | none => exact Nat.le_trans h.afr.next (h'.new b m h2 h1)
  fresh := fun b m h2 h0 => by
    cases h1 : ρ1 b with
    | some m1 =>
      have := h'.rho b m1 h1
      rw [h2] at this; cases this
      exact h.fresh b m h1 h0
    | none =>
      rcases h'.fresh b m h2 h1 with h3 | ⟨b0, m0, h3, h4, h5⟩
      · exact .inl (Nat.le_trans h.size h3)
      · cases h6 : ρ b0 with
        | some m1 =>
          have := h.rho b0 m1 h6
          rw [h3] at this; cases this
          refine .inr ⟨b0, m0, h6, h4, ?_⟩
          rw [← h.afr.root b0 (hd b0 m0 h6), ← h.afr.base]; exact h5
        | none =>
          rcases h.fresh b0 m0 h3 h6 with h7 | ⟨b1, m1, h7, h8, h9⟩
          · exact .inl (by rw [← h4]; exact h7)
          · exact .inr ⟨b1, m1, h7, h8.trans h4, h9⟩
  os := h'.os.trans h.os
  tape := h'.tape.trans h.tape
  output := h'.output.trans h.output
  size := Nat.le_trans h.size h'.size
  frame := fun r hr hno => by
    rw [h'.frame r (Nat.lt_of_lt_of_le hr h.size), h.frame r hr hno]
    intro b m hb hm hw
    cases h0 : ρ b with
    | some m0 =>
      have := h.rho b m0 h0
      rw [hb] at this; cases this
      refine hno b m h0 hm ?_
      rw [← h.afr.root b (hd b m h0), ← h.afr.base]; exact hw
    | none =>
      rcases h.fresh b m hb h0 with h3 | ⟨b0, m0, h3, h4, h5⟩
      · omega
      · exact hno b0 m0 h3 (h4.trans hm) h5
  cov := fun b k hb hk => by
    by_cases e : b < H1.next
    · cases h1 : H1.blk.get b with
      | some k1 => obtain ⟨m, hm⟩ := h.cov b k1 hb h1; exact ⟨m, h'.rho b m hm⟩
      | none =>
        have := h'.blk0 (by rw [h.afr.base]; exact hbase) b e h1
        rw [this] at hk; cases hk
    · exact h'.cov b k (by omega) hk

theorem CR.mono {ρ ρ' : Rho} (hle : ρ.le ρ') {c : List Value} {C : Array Value} {d : Nat} (h : CR ρ c C d) : CR ρ' c C d :=
  fun i x hx => let ⟨y, hy, hv⟩ := h i x hx; ⟨y, hy, hv.mono hle⟩

theorem ER.mono {ρ ρ' : Rho} (hle : ρ.le ρ') {es es' : List MapEntry} (h : ER ρ es es') : ER ρ' es es' :=
  ⟨h.1, fun i e e' he he' => let ⟨a, b, c⟩ := h.2 i e e' he he'; ⟨a.mono hle, b.mono hle, c⟩⟩

theorem BR.mono {H H' : AH} {ρ ρ' : Rho} {h h' : Array Obj} {m : Pl} {k : Blk} (hle : ρ.le ρ') (hh : h'[m.r]? = h[m.r]?)
    (hok : ∀ c e o, k = .cells c e o → H'.okR o = true → H.okR o = true) (hb : BR H ρ h m k) : BR H' ρ' h' m k := by
  cases k with
  | cells c e o =>
    refine ⟨hb.1, fun hr => ?_⟩
    obtain ⟨C, ty, fz, h1, h2, h3⟩ := hb.2 (hok c e o rfl hr)
    exact ⟨C, ty, fz, hh.trans h1, h2.mono hle, h3⟩
  | map es cl mi =>
    obtain ⟨h0, es', h1, h2⟩ := hb
    exact ⟨h0, es', hh.trans h1, h2.mono hle⟩
  | siter s p mi => exact ⟨hb.1, hh.trans hb.2⟩
  | miter mb since seen last mi =>
    cases mb with
    | none => exact ⟨hb.1, hh.trans hb.2⟩
    | some b =>
      obtain ⟨h0, mb, h1, h2⟩ := hb
      exact ⟨h0, mb, hle b mb h1, hh.trans h2⟩

def Rho.set (ρ : Rho) (b : Nat) (m : Pl) : Rho := fun j => if b = j then some m else ρ j

theorem Rho.set_same (ρ : Rho) (b : Nat) (m : Pl) : ρ.set b m b = some m := by simp [Rho.set]
theorem Rho.set_ne (ρ : Rho) {b j : Nat} (m : Pl) (h : b ≠ j) : ρ.set b m j = ρ j := by simp [Rho.set, h]
theorem Rho.le_set {ρ : Rho} {b : Nat} (m : Pl) (h : ρ b = none) : ρ.le (ρ.set b m) := fun j m' hj => by
  by_cases e : b = j
  · subst e; rw [h] at hj; cases hj
  · rw [Rho.set_ne _ _ e]; exact hj

theorem WR.none_next {P : Program} {H : AH} {ρ : Rho} {h : Array Obj} (hW : WR P H ρ h) : ρ H.next = none := by
  cases e : ρ H.next with
  | none => rfl
  | some m => have := hW.dom _ _ e; omega

theorem push_old (h : Array Obj) (o : Obj) {r : Nat} (hr : r < h.size) : (h.push o)[r]? = h[r]? := by
  rw [Array.getElem?_push, if_neg (by omega)]

/-- (1) A new block. -/
theorem WR.new {P : Program} {H : AH} {ρ : Rho} {w w' : World} (hW : WR P H ρ w.heap) {k : Blk} (hk : k.mine = true) {obj : Obj} (R e : Nat)
    (hB : BR H (ρ.set H.next ⟨w.heap.size, 0, R, e⟩) (w.heap.push obj) ⟨w.heap.size, 0, R, e⟩ k)
    (hh : w'.heap = w.heap.push obj) (h1 : w'.os = w.os) (h2 : w'.tape = w.tape) (h3 : w'.output = w.output) :
    WR P (H.new k) (ρ.set H.next ⟨w.heap.size, 0, R, e⟩) w'.heap ∧ Grw H ρ w (H.new k) (ρ.set H.next ⟨w.heap.size, 0, R, e⟩) w' := by
  have hn := hW.none_next
  have hle := Rho.le_set ⟨w.heap.size, 0, R, e⟩ hn
  have hroot : ∀ b, b < H.next → (H.new k).root b = H.root b := (AFr.new H k).root
  have hrootn : (H.new k).root H.next = H.next := by
    rw [AH.root_of (k := k) (by rw [AH.new_blk, if_pos rfl])]; exact Blk.mine_root hk _
  have hcase : ∀ b m, ρ.set H.next ⟨w.heap.size, 0, R, e⟩ b = some m → (b = H.next ∧ m = ⟨w.heap.size, 0, R, e⟩) ∨ (b ≠ H.next ∧ ρ b = some m) := by
    intro b m hb
    by_cases e : H.next = b
    · subst e; rw [Rho.set_same] at hb; cases hb; exact .inl ⟨rfl, rfl⟩
    · rw [Rho.set_ne _ _ e] at hb; exact .inr ⟨fun x => e x.symm, hb⟩
  refine ⟨⟨hW.wf.new hk, ?_, ?_, ?_, ?_, ?_, ?_⟩, ⟨AFr.new H k, hle, ?_, ?_, h1, h2, h3, ?_, ?_, ?_⟩⟩
  · intro b m hb
    rcases hcase b m hb with ⟨rfl, _⟩ | ⟨_, hb⟩
    · exact Nat.lt_succ_self _
    · exact Nat.lt_succ_of_lt (hW.dom b m hb)
  · intro g hg
    obtain ⟨m, h4, h5⟩ := hW.glob g hg
    exact ⟨m, hle _ _ h4, h5⟩
  · intro b m hb
    rw [hh, Array.size_push]
    rcases hcase b m hb with ⟨_, rfl⟩ | ⟨_, hb⟩
    · exact Nat.lt_succ_self _
    · exact Nat.lt_succ_of_lt (hW.real b m hb)
  · intro b b' m m' hb hb' hr
    rcases hcase b m hb with ⟨rfl, rfl⟩ | ⟨hne, hb⟩ <;> rcases hcase b' m' hb' with ⟨rfl, rfl⟩ | ⟨hne', hb'⟩
    · rfl
    · have := hW.real b' m' hb'; simp only at hr; omega
    · have := hW.real b m hb; simp only at hr; omega
    · rw [hroot b (hW.dom b m hb), hroot b' (hW.dom b' m' hb')]; exact hW.sep b b' m m' hb hb' hr
  · intro b b' m m' c e1 c' e' f v v' hb hb' hk1 hk2 hv hr
    rw [AH.new_blk] at hk1 hk2
    rcases hcase b m hb with ⟨rfl, rfl⟩ | ⟨hne, hb⟩
    · rw [if_pos rfl] at hk1; cases hk1; simp [Blk.mine] at hk
    · rcases hcase b' m' hb' with ⟨rfl, rfl⟩ | ⟨hne', hb'⟩
      · rw [if_pos rfl] at hk2; cases hk2; simp [Blk.mine] at hk
      · rw [if_neg (fun e => hne e.symm)] at hk1; rw [if_neg (fun e => hne' e.symm)] at hk2
        exact hW.ends b b' m m' c e1 c' e' f v v' hb hb' hk1 hk2 hv hr
  · intro b m k' hb hk'
    rw [AH.new_blk] at hk'
    rw [hh]
    rcases hcase b m hb with ⟨rfl, rfl⟩ | ⟨hne, hb⟩
    · rw [if_pos rfl] at hk'; cases hk'
      exact BR.mono (Rho.le_refl _) rfl (fun c e o _ hr => hr) hB
    · rw [if_neg (fun e => hne e.symm)] at hk'
      exact BR.mono hle (push_old _ _ (hW.real b m hb)) (fun c e o _ hr => hr) (hW.blk b m k' hb hk')
  · intro b m hb h0
    rcases hcase b m hb with ⟨rfl, _⟩ | ⟨_, hb⟩
    · exact Nat.le_refl _
    · rw [h0] at hb; cases hb
  · intro b m hb h0
    rcases hcase b m hb with ⟨rfl, rfl⟩ | ⟨_, hb⟩
    · exact .inl (Nat.le_refl _)
    · rw [h0] at hb; cases hb
  · rw [hh, Array.size_push]; exact Nat.le_succ _
  · intro r hr _
    rw [hh]; exact push_old _ _ hr
  · intro b k' hb hk'
    rw [AH.new_blk] at hk'
    by_cases e : H.next = b
    · subst e; exact ⟨_, Rho.set_same ..⟩
    · rw [if_neg e] at hk'; have := hW.wf.lt b k' hk'; omega

/-- The heap's blocks but one are as they were. -/
def ButAt (h h' : Array Obj) (r : Nat) : Prop := h'.size = h.size ∧ ∀ j, j ≠ r → h'[j]? = h[j]?

/-- (2) A block's contents turn (not its versions). -/
theorem WR.turn {P : Program} {H H' : AH} {ρ : Rho} {w w' : World} (hW : WR P H ρ w.heap) {b : Nat} {m : Pl} {k k' : Blk} (hb : H.blk.get b = some k) (hl : k.like k')
    (hm : ρ b = some m) (hwf : H'.WF) (hafr : AFr H H') (hnx : H'.next = H.next) (hw : H.base ≤ H.root b)
    (hblk : ∀ j, H'.blk.get j = if b = j then some k' else H.blk.get j)
    (hlen : ∀ c e o c' e' o', k = .cells c e o → k' = .cells c' e' o' → c'.length = c.length)
    (hothers : ∀ j kj, j ≠ b → H.blk.get j = some kj → kj.root j = k.root b → ∀ c e o, kj = .cells c e o → H'.okR o = false)
    (hok : ∀ o, H'.okR o = true → H.okR o = true)
    (hB : BR H' ρ w'.heap m k') (hh : ButAt w.heap w'.heap m.r) (h1 : w'.os = w.os) (h2 : w'.tape = w.tape) (h3 : w'.output = w.output) :
    WR P H' ρ w'.heap ∧ Grw H ρ w H' ρ w' := by
  have hroot : ∀ j, H'.root j = H.root j := by
    intro j
    unfold AH.root; rw [hblk]
    by_cases e : b = j
    · subst e; rw [if_pos rfl, hb]; exact Blk.like_root hl _
    · rw [if_neg e]
  refine ⟨⟨hwf, ?_, hW.glob, ?_, ?_, ?_, ?_⟩, ⟨hafr, Rho.le_refl ρ, ?_, ?_, h1, h2, h3, Nat.le_of_eq hh.1.symm, ?_, ?_⟩⟩
  · intro j mj hj; rw [hnx]; exact hW.dom j mj hj
  · intro j mj hj; rw [hh.1]; exact hW.real j mj hj
  · intro j j' mj mj' hj hj' hr; rw [hroot, hroot]; exact hW.sep j j' mj mj' hj hj' hr
  · intro j j' mj mj' c e c' e' f v v' hj hj' hk1 hk2 hv hr
    have key : ∀ j c e f v, H'.blk.get j = some (.cells c e (.fam f v)) → ∃ c0 e0, H.blk.get j = some (.cells c0 e0 (.fam f v)) ∧ c.length = c0.length := by
      intro j c e f v hj
      rw [hblk] at hj
      by_cases e1 : b = j
      · rw [if_pos e1] at hj; cases hj; subst e1
        rcases hl with ⟨_, c2, _, _, h4, h5⟩ | ⟨_, _, _, _, _, h4, h5⟩ | ⟨_, _, _, _, _, h4, h5⟩ | ⟨_, _, _, _, _, _, _, _, _, h4, h5⟩
        · cases h5
          exact ⟨_, _, hb.trans (by rw [h4]), hlen _ _ _ _ _ _ h4 rfl⟩
        · cases h5
        · cases h5
        · cases h5
      · rw [if_neg e1] at hj; exact ⟨c, e, hj, rfl⟩
    obtain ⟨c1, e1, i1, i2⟩ := key j c e f v hk1
    obtain ⟨c2, e2, i3, i4⟩ := key j' c' e' f v' hk2
    rw [i2, i4]
    exact hW.ends j j' mj mj' c1 e1 c2 e2 f v v' hj hj' i1 i3 hv hr
  · intro j mj kj hj hkj
    rw [hblk] at hkj
    by_cases e1 : b = j
    · rw [if_pos e1] at hkj; cases hkj; subst e1
      rw [hm] at hj; cases hj; exact hB
    · rw [if_neg e1] at hkj
      by_cases e2 : mj.r = m.r
      · have hs := hW.sep j b mj m hj hm e2
        rw [AH.root_of hkj, AH.root_of hb] at hs
        have h0 : k.root b ≠ 0 := by
          have := hW.wf.base; rw [AH.root_of hb] at hw; omega
        rcases hW.wf.uniq j b kj k hkj hb hs (by rw [hs]; exact h0) with h4 | ⟨c1, e3, f1, v1, c2, e4, f2, v2, h5, h6, h7⟩
        · exact absurd h4.symm e1
        · subst h5
          have := hothers j _ (fun e => e1 e.symm) hkj hs _ _ _ rfl
          have hB0 := hW.blk j mj _ hj hkj
          exact ⟨hB0.1, fun hr => by rw [this] at hr; cases hr⟩
      · exact BR.mono (Rho.le_refl ρ) (hh.2 _ e2) (fun c e o _ hr => hok o hr) (hW.blk j mj kj hj hkj)
  · intro j mj h4 h5; rw [h5] at h4; cases h4
  · intro j mj h4 h5; rw [h5] at h4; cases h4
  · intro r hr hno
    refine hh.2 r ?_
    intro e; subst e
    exact hno b m hm rfl hw
  · intro j kj hj hkj
    have := hwf.lt j kj hkj
    omega

/-- (3) Cells of a block are written. -/
theorem WR.put {P : Program} {H : AH} {ρ : Rho} {w w' : World} (hW : WR P H ρ w.heap) {b : Nat} {m : Pl} {c : List Value} {e : Nat} {o : Own}
    (hb : H.blk.get b = some (.cells c e o)) (hw : H.okW b o = true) (hm : ρ b = some m) {c' : List Value} (hlen : c'.length = c.length) {C C' : Array Value} {ty : TypeId} {fz : Nat × Nat}
    (hC : w.heap[m.r]? = some (.cells C ty fz)) (hsz : C'.size = C.size) (hC' : w'.heap[m.r]? = some (.cells C' ty fz)) (hCR : CR ρ c' C' m.d)
    (hh : ButAt w.heap w'.heap m.r) (h1 : w'.os = w.os) (h2 : w'.tape = w.tape) (h3 : w'.output = w.output) :
    WR P (H.put b c' e o) ρ w'.heap ∧ Grw H ρ w (H.put b c' e o) ρ w' := by
  obtain ⟨g1, g2, g3, g4⟩ := AH.okW_spec hW.wf hb hw
  obtain ⟨hwf, hafr⟩ := hW.wf.put hb hw c'
  have hl : (Blk.cells c e o).like (.cells c' e o) := .inl ⟨_, _, _, _, rfl, rfl⟩
  have hok : ∀ o', (H.put b c' e o).okR o' = true → H.okR o' = true := by
    intro o' ho
    cases o' with
    | fam f' v' =>
      simp only [AH.okR] at ho ⊢
      rw [AH.put_fam] at ho
      cases o with
      | fam f v =>
        simp only at ho
        by_cases e1 : f = f'
        · subst e1
          obtain ⟨l, hl'⟩ := g4 f v rfl
          obtain ⟨_, cur, low, hf, hv, hlo⟩ := hW.wf.fam b c e f v hb
          rw [hl'] at hf; cases hf
          rw [if_pos rfl] at ho
          rw [hl']
          exact Nat.ble_eq_true_of_le (Nat.le_trans hlo (Nat.le_of_ble_eq_true ho))
        · rw [if_neg e1] at ho; exact ho
      | solo => exact ho
      | ext => exact ho
    | solo => rfl
    | ext => rfl
  refine hW.turn hb hl hm hwf hafr (AH.put_next ..) g1 (fun j => AH.put_blk ..) ?_ ?_ hok ?_ hh h1 h2 h3
  · intro c1 e1 o1 c2 e2 o2 h4 h5; cases h4; cases h5; exact hlen
  · intro j kj hj hkj hr c1 e1 o1 hk
    have h0 : (Blk.cells c e o).root b ≠ 0 := by
      have := hW.wf.base; rw [AH.root_of hb] at g1; omega
    rcases hW.wf.uniq j b kj _ hkj hb hr (by rw [hr]; exact h0) with h4 | ⟨c3, e3, f1, v1, c4, e4, f2, v2, h5, h6, h7⟩
    · exact absurd h4 hj
    · subst h5; cases h6; cases hk
      have hf : f1 = f2 := hr
      subst hf
      obtain ⟨l, hl'⟩ := g4 f1 v2 rfl
      obtain ⟨_, cur, low, hf, hv, hlo⟩ := hW.wf.fam j _ _ f1 v1 hkj
      rw [hl'] at hf; cases hf
      simp only [AH.okR]
      rw [AH.put_fam]
      simp only [if_true]
      rw [← Bool.not_eq_true]
      intro hx
      have := Nat.le_of_ble_eq_true hx
      omega
  · obtain ⟨he, hB⟩ := hW.blk b m _ hm hb
    obtain ⟨C0, ty0, fz0, k1, k2, k3⟩ := hB g2
    rw [hC] at k1; cases k1
    obtain ⟨k4, k5, k6⟩ := k3 g3
    exact ⟨he, fun _ => ⟨C', ty, fz, hC', hCR, fun _ => ⟨by rw [hsz]; exact k4, by rw [hlen]; exact k5, fun i hi => k6 i (by rw [← hsz]; exact hi)⟩⟩⟩

/-- (4) A row grows. -/
theorem WR.grow {P : Program} {H H' : AH} {ρ : Rho} {w w' : World} (hW : WR P H ρ w.heap) {b : Nat} {m : Pl} {c : List Value} {e : Nat} {o : Own}
    (hb : H.blk.get b = some (.cells c e o)) (hw : H.okW b o = true) (hm : ρ b = some m) {c' : List Value} (hg : H.grow b o c e c' = some H')
    {mn : Pl} (hreal : mn.r < w'.heap.size) (hsize : w.heap.size ≤ w'.heap.size) (hfresh : mn.r = m.r ∨ w.heap.size ≤ mn.r)
    (hkeep : ∀ r, r < w.heap.size → r ≠ m.r → w'.heap[r]? = w.heap[r]?)
    (hold : ∃ C ty fz C', w.heap[m.r]? = some (.cells C ty fz) ∧ w'.heap[m.r]? = some (.cells C' ty fz) ∧ C'.size = C.size ∧ ∀ i, i < m.d + c.length → C'[i]? = C[i]?)
    (hends : mn.r = m.r → m.d + c.length ≤ mn.d + c'.length)
    (hB : ∃ C ty fz, mn.e = e ∧ w'.heap[mn.r]? = some (.cells C ty fz) ∧ CR ρ c' C mn.d ∧ mn.d + mn.R ≤ C.size ∧ c'.length ≤ mn.R ∧ FF C fz)
    (h1 : w'.os = w.os) (h2 : w'.tape = w.tape) (h3 : w'.output = w.output) :
    WR P H' (ρ.set H.next mn) w'.heap ∧ Grw H ρ w H' (ρ.set H.next mn) w' := by
  obtain ⟨g1, g2, g3, g4⟩ := AH.okW_spec hW.wf hb hw
  obtain ⟨s1, s2, s3, l, s4, s5, s6, s7⟩ := AH.grow_spec hW.wf hb hw hg
  obtain ⟨hwf, hafr⟩ := hW.wf.grow hb hw hg
  have hn := hW.none_next
  have hle := Rho.le_set mn hn
  have hbn := hW.wf.lt b _ hb
  have hro : H.root b = o.root b := AH.root_of hb
  have hrb : (o.famOf b).1 = o.root b := Own.famOf_root b o g3
  have hb0 := hW.wf.base
  have hcase : ∀ j mj, ρ.set H.next mn j = some mj → (j = H.next ∧ mj = mn) ∨ (j ≠ H.next ∧ ρ j = some mj) := by
    intro j mj hj
    by_cases e : H.next = j
    · subst e; rw [Rho.set_same] at hj; cases hj; exact .inl ⟨rfl, rfl⟩
    · rw [Rho.set_ne _ _ e] at hj; exact .inr ⟨fun x => e x.symm, hj⟩
  have hrootn : H'.root H.next = o.root b := by
    rw [AH.root_of (k := .cells c' e (.fam (o.famOf b).1 ((o.famOf b).2 + 1))) (by rw [s3, if_pos rfl])]; exact hrb
  -- what lies at the old block's real place
  have hat : ∀ j mj kj, ρ j = some mj → H.blk.get j = some kj → mj.r = m.r → j = b ∨ (∃ c1 e1 f v v1, kj = .cells c1 e1 (.fam f v1) ∧ o = .fam f v ∧ v1 ≤ v ∧ mj.d + c1.length ≤ m.d + c.length) := by
    intro j mj kj hj hkj hr
    have hs := hW.sep j b mj m hj hm hr
    rw [AH.root_of hkj, AH.root_of hb] at hs
    rcases hW.wf.uniq j b kj _ hkj hb hs (by rw [hs]; show o.root b ≠ 0; omega) with h4 | ⟨c3, e3, f1, v1, c4, e4, f2, v2, h5, h6, h7⟩
    · exact .inl h4
    · subst h5; cases h6
      have hf : f1 = f2 := hs
      subst hf
      obtain ⟨l', hl'⟩ := g4 f1 v2 rfl
      obtain ⟨_, cur, low, hf, hv, hlo⟩ := hW.wf.fam j _ _ f1 v1 hkj
      rw [hl'] at hf; cases hf
      exact .inr ⟨_, _, _, _, _, rfl, rfl, hv, hW.ends b j m mj _ _ _ _ _ _ _ hm hj hb hkj hv hr.symm⟩
  have hold' : ∀ j mj kj', ρ j = some mj → j ≠ H.next → H'.blk.get j = some kj' → BR H' (ρ.set H.next mn) w'.heap mj kj' := by
    intro j mj kj' hj hne hkj'
    rw [s3, if_neg (fun e => hne e.symm)] at hkj'
    obtain ⟨C, ty, fz, C', t1, t2, t3, t4⟩ := hold
    have move : ∀ c1 d1, CR ρ c1 C d1 → d1 + c1.length ≤ m.d + c.length → CR (ρ.set H.next mn) c1 C' d1 := by
      intro c1 d1 hc hl i x hx
      obtain ⟨y, hy, hv⟩ := hc i x hx
      have hi : i < c1.length := by
        rcases Nat.lt_or_ge i c1.length with h | h
        · exact h
        · rw [List.getElem?_eq_none h] at hx; cases hx
      exact ⟨y, (t4 _ (by omega)).trans hy, hv.mono hle⟩
    have okf : ∀ f v, o = .fam f v → ∀ v', H'.okR (.fam f v') = H.okR (.fam f v') := by
      intro f v ho v'
      subst ho
      simp only [AH.okR]
      rw [s7, if_pos (show ((Own.fam f v).famOf b).1 = f from rfl), s5 f v rfl]
    by_cases e1 : b = j
    · subst e1
      rw [if_pos rfl] at hkj'; cases hkj'
      rw [hm] at hj; cases hj
      obtain ⟨he, hBb⟩ := hW.blk b m _ hm hb
      obtain ⟨C0, ty0, fz0, k1, k2, k3⟩ := hBb g2
      rw [t1] at k1; cases k1
      obtain ⟨k4, k5, k6⟩ := k3 g3
      exact ⟨he, fun _ => ⟨C', ty, fz, t2, move c m.d k2 (Nat.le_refl _), fun _ => ⟨by rw [t3]; exact k4, k5, fun i hi => k6 i (by rw [← t3]; exact hi)⟩⟩⟩
    · rw [if_neg e1] at hkj'
      have hB0 := hW.blk j mj kj' hj hkj'
      by_cases e2 : mj.r = m.r
      · rcases hat j mj kj' hj hkj' e2 with h4 | ⟨c1, e3, f, v, v1, rfl, ho, hv, hl⟩
        · exact absurd h4.symm e1
        · refine ⟨hB0.1, fun hr => ?_⟩
          rw [okf f v ho] at hr
          obtain ⟨C0, ty0, fz0, k1, k2, k3⟩ := hB0.2 hr
          rw [e2, t1] at k1; cases k1
          obtain ⟨k4, k5, k6⟩ := k3 (by simp)
          exact ⟨C', ty, fz, by rw [e2]; exact t2, move c1 mj.d k2 hl, fun _ => ⟨by rw [t3]; exact k4, k5, fun i hi => k6 i (by rw [← t3]; exact hi)⟩⟩
      · refine BR.mono hle (hkeep _ (hW.real j mj hj) e2) ?_ hB0
        intro c1 e3 o1 ho hr
        subst ho
        cases o1 with
        | fam f' v' =>
          simp only [AH.okR] at hr ⊢
          rw [s7] at hr
          by_cases e4 : (o.famOf b).1 = f'
          · rw [if_pos e4] at hr
            cases o with
            | ext => exact absurd rfl g3
            | solo =>
              have e4 : b = f' := e4
              subst e4
              rcases hW.wf.uniq j b _ _ hkj' hb rfl (by show b ≠ 0; have : H.base ≤ b := by rw [hro] at g1; exact g1
                                                        omega) with h4 | ⟨_, _, _, _, _, _, _, _, _, h6, _⟩
              · exact absurd h4.symm e1
              · cases h6
            | fam f v =>
              have e4 : f = f' := e4
              subst e4
              rw [s5 f v rfl]
              exact hr
          · rw [if_neg e4] at hr; exact hr
        | solo => rfl
        | ext => rfl
  refine ⟨⟨hwf, ?_, ?_, ?_, ?_, ?_, ?_⟩, ⟨hafr, hle, ?_, ?_, h1, h2, h3, hsize, ?_, ?_⟩⟩
  · intro j mj hj
    rw [s1]
    rcases hcase j mj hj with ⟨rfl, _⟩ | ⟨_, hj⟩
    · exact Nat.lt_succ_self _
    · exact Nat.lt_succ_of_lt (hW.dom j mj hj)
  · intro g hg'
    obtain ⟨m1, h4, h5⟩ := hW.glob g hg'
    exact ⟨m1, hle _ _ h4, h5⟩
  · intro j mj hj
    rcases hcase j mj hj with ⟨_, rfl⟩ | ⟨_, hj⟩
    · exact hreal
    · exact Nat.lt_of_lt_of_le (hW.real j mj hj) hsize
  · have one : ∀ j mj, ρ j = some mj → mn.r = mj.r → o.root b = H.root j := by
      intro j mj hj hr
      rcases hfresh with h4 | h4
      · rw [← hro]; exact hW.sep b j m mj hm hj (h4.symm.trans hr)
      · have := hW.real j mj hj; omega
    intro j j' mj mj' hj hj' hr
    rcases hcase j mj hj with ⟨e1, e2⟩ | ⟨hne, k1⟩ <;> rcases hcase j' mj' hj' with ⟨e3, e4⟩ | ⟨hne', k2⟩
    · rw [e1, e3]
    · subst e1; subst e2
      rw [hrootn, hafr.root j' (hW.dom j' mj' k2)]; exact one j' mj' k2 hr
    · subst e3; subst e4
      rw [hrootn, hafr.root j (hW.dom j mj k1)]; exact (one j mj k1 hr.symm).symm
    · rw [hafr.root j (hW.dom j mj k1), hafr.root j' (hW.dom j' mj' k2)]; exact hW.sep j j' mj mj' k1 k2 hr
  · have vers : ∀ j mj c1 e1 v1, ρ j = some mj → j ≠ H.next → H'.blk.get j = some (.cells c1 e1 (.fam (o.famOf b).1 v1)) → v1 ≤ (o.famOf b).2 := by
      intro j mj c1 e1 v1 hj hne hkj
      rw [s3, if_neg (fun e => hne e.symm)] at hkj
      by_cases e2 : b = j
      · rw [if_pos e2] at hkj; cases hkj; exact Nat.le_refl _
      · rw [if_neg e2] at hkj
        obtain ⟨_, cur, low, hf, hv, _⟩ := hW.wf.fam j _ _ _ v1 hkj
        cases o with
        | ext => exact absurd rfl g3
        | solo =>
          rcases hW.wf.uniq j b _ _ hkj hb rfl (by show b ≠ 0; have : H.base ≤ b := by rw [hro] at g1; exact g1
                                                   omega) with h4 | ⟨_, _, _, _, _, _, _, _, _, h6, _⟩
          · exact absurd h4.symm e2
          · cases h6
        | fam f v =>
          obtain ⟨l', hl'⟩ := g4 f v rfl
          have hf : H.fam.get f = some (cur, low) := hf
          rw [hl'] at hf; cases hf
          exact hv
    intro j j' mj mj' c1 e1 c2 e2 f v v' hjx hjy hk1 hk2 hv hr
    rcases hcase j mj hjx with ⟨i1, i2⟩ | ⟨hne, hj⟩ <;> rcases hcase j' mj' hjy with ⟨i3, i4⟩ | ⟨hne', hj'⟩
    · subst i1; subst i3; subst i2; subst i4; rw [hk1] at hk2; cases hk2; exact Nat.le_refl _
    · subst i1; subst i2; rw [s3, if_pos rfl] at hk1; cases hk1
      rcases hfresh with h4 | h4
      · refine Nat.le_trans ?_ (hends h4)
        have hr2 : mj'.r = m.r := hr.symm.trans h4
        rw [s3, if_neg (fun e => hne' e.symm)] at hk2
        by_cases e3 : b = j'
        · rw [if_pos e3] at hk2; cases hk2; subst e3
          rw [hm] at hj'; cases hj'; exact Nat.le_refl _
        · rw [if_neg e3] at hk2
          rcases hat j' mj' _ hj' hk2 hr2 with h5 | ⟨_, _, _, _, _, h6, _, _, h7⟩
          · exact absurd h5.symm e3
          · cases h6; exact h7
      · have := hW.real j' mj' hj'; omega
    · subst i3; rw [s3, if_pos rfl] at hk2; cases hk2
      have := vers j mj c1 e1 v hj hne hk1
      omega
    · rw [s3, if_neg (fun e => hne e.symm)] at hk1
      rw [s3, if_neg (fun e => hne' e.symm)] at hk2
      by_cases e3 : b = j <;> by_cases e4 : b = j'
      · rw [if_pos e3] at hk1; rw [if_pos e4] at hk2; cases hk1; cases hk2; subst e3; subst e4
        rw [hj] at hj'; cases hj'; exact Nat.le_refl _
      · rw [if_pos e3] at hk1; rw [if_neg e4] at hk2; cases hk1; subst e3
        rw [hm] at hj; cases hj
        rcases hat j' mj' _ hj' hk2 hr.symm with h5 | ⟨_, _, _, _, _, h6, _, _, h7⟩
        · exact absurd h5.symm e4
        · cases h6; exact h7
      · rw [if_neg e3] at hk1; rw [if_pos e4] at hk2; cases hk2; subst e4
        rw [hm] at hj'; cases hj'
        rcases hat j mj _ hj hk1 hr with h5 | ⟨c5, e5, f5, v5, v6, h6, h7, h8, h9⟩
        · exact absurd h5.symm e3
        · cases h6
          have h7v : (o.famOf b).2 = v5 := congrArg (fun x => (Own.famOf b x).2) h7
          have hvv : v = v5 := by omega
          subst hvv
          rcases hW.wf.uniq j b _ _ hk1 hb hrb (by show (o.famOf b).1 ≠ 0; omega) with h10 | ⟨_, _, _, _, _, _, _, _, h11, h12, h13⟩
          · exact absurd h10.symm e3
          · cases h11
            have h14 := (Blk.cells.inj h12).2.2
            rw [h7] at h14
            exact absurd (Own.fam.inj h14).2 h13
      · rw [if_neg e3] at hk1; rw [if_neg e4] at hk2
        exact hW.ends j j' mj mj' c1 e1 c2 e2 f v v' hj hj' hk1 hk2 hv hr
  · intro j mj kj hj hkj
    rcases hcase j mj hj with ⟨rfl, rfl⟩ | ⟨hne, hj⟩
    · rw [s3, if_pos rfl] at hkj; cases hkj
      obtain ⟨C, ty, fz, u1, u2, u3, u4, u5, u6⟩ := hB
      exact ⟨u1, fun _ => ⟨C, ty, fz, u2, u3.mono hle, fun _ => ⟨u4, u5, u6⟩⟩⟩
    · exact hold' j mj kj hj hne hkj
  · intro j mj hj h0
    rcases hcase j mj hj with ⟨rfl, _⟩ | ⟨_, hj⟩
    · exact Nat.le_refl _
    · rw [h0] at hj; cases hj
  · intro j mj hj h0
    rcases hcase j mj hj with ⟨rfl, rfl⟩ | ⟨_, hj⟩
    · rcases hfresh with h4 | h4
      · exact .inr ⟨b, m, hm, h4.symm, g1⟩
      · exact .inl h4
    · rw [h0] at hj; cases hj
  · intro r hr hno
    refine hkeep r hr ?_
    intro e; subst e
    exact hno b m hm rfl g1
  · intro j kj hj hkj
    rw [s3] at hkj
    by_cases e1 : H.next = j
    · subst e1; exact ⟨_, Rho.set_same ..⟩
    · rw [if_neg e1] at hkj
      by_cases e2 : b = j
      · omega
      · rw [if_neg e2] at hkj; have := hW.wf.lt j kj hkj; omega

end Go.Am

/-! The abstract machine's operations that touch no memory, against the model's. -/
namespace Go.Am
open Go

variable {P : Program}

/-- A computation that leaves the world alone and answers what stands to v. -/
def Pu (P : Program) (ρ : Rho) (w : World) (s : Sem Value) (v : Value) : Prop := ∃ v', s.run P w = .ok v' w ∧ VR ρ v v'

theorem toListB (s : ByteArray) : s.toList = s.data.toList := ByteArray.toList_eq s

/-! ### What is known of types -/

theorem info_of {t : TypeId} {i : TypeInfo} (h : P.types[t]? = some i) : P.info? t = some i := by
  have hlt : t < P.types.size := by
    rcases Nat.lt_or_ge t P.types.size with h' | h'
    · exact h'
    · rw [Array.getElem?_eq_none h'] at h; cases h
  unfold Tables.info?
  rw [if_pos hlt, h]

theorem run_typeInfo {t : TypeId} {i : TypeInfo} (h : P.types[t]? = some i) (w : World) : (typeInfo t).run P w = .ok i w := by
  unfold typeInfo
  simp [info_of h]

theorem run_sizeOf {t : TypeId} {n : Nat} (h : szT P t = some n) (w : World) : (sizeOf t).run P w = .ok n w := by
  unfold szT at h
  split at h
  · rename_i i hi
    cases h
    unfold sizeOf
    simp [run_typeInfo hi]
  · cases h

theorem run_zeroValue {t : TypeId} {z : Value} (h : zeroT P t = some z) (w : World) : (zeroValue t).run P w = .ok z w := by
  unfold zeroT at h
  split at h
  · rename_i i hi
    unfold zeroValue
    simp [run_typeInfo hi, h]
  · cases h

theorem run_und {t : TypeId} {d : TypeDesc} (h : undT P t = some d) (w : World) : (underlying t).run P w = .ok d w := run_underlying h w

theorem run_isAgg {t : TypeId} {b : Bool} (h : aggT P t = some b) (w : World) : (isAgg t).run P w = .ok b w := by
  unfold aggT at h
  split at h
  · rename_i hd; cases h; unfold isAgg; simp [run_und hd]
  · rename_i hd; cases h; unfold isAgg; simp [run_und hd]
  · rename_i d h1 h2 hd
    cases h; unfold isAgg
    simp only [Sem.run_bind, run_und hd, Result.andThen_ok]
    rfl
  · cases h

/-! ### Equality -/

theorem extract_toList (xs : Array Value) (o n : Nat) : (xs.extract o (o + n)).toList = (xs.toList.drop o).take n := by
  simp [Array.toList_extract, List.extract_eq_take_drop]

theorem part_ok {ρ : Rho} {w : World} {t : TypeId} {xs : Array Value} {cs : List Value} {off : Nat} {v : Value} (h : aPart P t cs off = some v) (hx : LR ρ cs xs.toList) :
    Pu P ρ w (part t xs off) v := by
  unfold aPart at h
  split at h
  · rename_i ha
    split at h
    · rename_i n hn
      cases h
      refine ⟨.agg (xs.extract off (off + n)), ?_, VR.agg_of ?_⟩
      · unfold part; simp [run_isAgg ha, run_sizeOf hn]
      · rw [extract_toList]; exact (hx.drop off).take n
    · cases h
  · rename_i ha
    obtain ⟨y, hy, hv⟩ := hx.get_left h
    refine ⟨y, ?_, hv⟩
    unfold part
    have hy' : xs[off]? = some y := by simpa using hy
    simp [run_isAgg ha, hy']
  · cases h

theorem eqParts_ok {ρ : Rho} {d : Nat} {eq : TypeId → Value → Value → Option Bool}
    (heq : ∀ t x y x' y' b w, eq t x y = some b → VR ρ x x' → VR ρ y y' → (Op.equalIn d t x' y').run P w = .ok b w) {xs ys : List Value} {xa ya : Array Value}
    (hx : LR ρ xs xa.toList) (hy : LR ρ ys ya.toList) : ∀ (fs : List Field) (b : Bool) (w : World), aEqParts P eq xs ys fs = some b → (Op.eqFields d xa ya fs).run P w = .ok b w := by
  intro fs
  induction fs with
  | nil => intro b w h; simp [aEqParts] at h; subst h; simp [Op.eqFields]
  | cons f fs ih =>
    intro b w h
    unfold aEqParts at h
    unfold Op.eqFields
    split at h
    · rename_i hn
      have hn : f.name = "_" := by simpa using hn
      rw [if_neg (by simp [hn])]
      exact ih b w h
    · rename_i hn
      have hn : f.name ≠ "_" := by simpa using hn
      rw [if_pos hn]
      split at h
      · rename_i a c ha hc
        obtain ⟨a', ra, va⟩ := part_ok (w := w) ha hx
        obtain ⟨c', rc, vc⟩ := part_ok (w := w) hc hy
        simp only [Sem.run_bind, ra, rc, Result.andThen_ok]
        split at h
        · rename_i he
          rw [heq _ _ _ _ _ _ w he va vc]
          simp only [Result.andThen_ok, Bool.not_true, Bool.false_eq_true, if_false]
          exact ih b w h
        · rename_i he
          cases h
          rw [heq _ _ _ _ _ _ w he va vc]
          simp
        · cases h
      · cases h

theorem sameAddr_block (a b : Addr) (h : a.block = b.block) (w : World) : (sameAddr a b).run P w = .ok (a == b) w := by
  unfold sameAddr
  simp [h]

set_option maxHeartbeats 2000000 in
theorem eq_ok {ρ : Rho} : ∀ (d : Nat) (t : TypeId) (x y x' y' : Value) (b : Bool) (w : World), aEq P d t x y = some b → VR ρ x x' → VR ρ y y' →
    (Op.equalIn d t x' y').run P w = .ok b w := by
  intro d
  induction d with
  | zero => intro t x y x' y' b w h; simp [aEq] at h
  | succ d ih =>
    intro t x y x' y' b w h hx hy
    unfold aEq at h
    split at h
    · rename_i hu; cases hx; cases hy; cases h; exact run_equalIn_bool w d t _ _ hu
    · rename_i hu
      cases hx; cases hy
      split at h
      · rename_i hk; subst hk; cases h; exact run_equalIn_int w d t _ _ _ _ hu
      · cases h
    · rename_i hu
      cases hx; cases hy; cases h
      rw [run_equalIn_string w d t _ _ hu, toListB, toListB]
    · rename_i hu; cases hx; cases h
      cases hy <;> simp [Op.equalIn, run_underlying hu]
    · rename_i hu; cases hy; cases h
      cases hx <;> simp [Op.equalIn, run_underlying hu]
    · rename_i e a c hu
      split at h
      · rename_i n hn
        split at h
        · rename_i hc
          obtain ⟨h0, h1, h2, h3⟩ := hc
          cases h
          obtain ⟨ab, ao, as⟩ := a
          obtain ⟨cb, co, cs⟩ := c
          simp only at h1 h2 h3
          subst h1; subst h2; subst h3
          cases hx with
          | @ptr _ m _ e1 =>
            cases hy with
            | ptr _ e2 =>
              rw [e1] at e2; cases e2
              simp only [Op.equalIn, Sem.run_bind, run_underlying hu, Result.andThen_ok, run_sizeOf hn]
              rw [if_pos h0]
              refine (sameAddr_block (P := P) ⟨m.r, m.d + ao, none⟩ ⟨m.r, m.d + co, none⟩ rfl w).trans ?_
              congr 1
              rw [Bool.eq_iff_iff]
              simp
        · cases h
      · cases h
    · rename_i hu; cases hx; cases hy; cases h; simp [Op.equalIn, run_underlying hu]
    · rename_i hu; cases hx; cases hy; cases h; simp [Op.equalIn, run_underlying hu]
    · rename_i hu; cases hx; cases hy; cases h; simp [Op.equalIn, run_underlying hu]
    · rename_i tx vx ty vy hu
      cases hx with
      | iface _ hx =>
        cases hy with
        | iface _ hy =>
          split at h
          · rename_i hne
            cases h
            simp [Op.equalIn, run_underlying hu, hne]
          · rename_i hne
            split at h
            · rename_i i hi
              split at h
              · rename_i hc
                simp only [Op.equalIn, Sem.run_bind, run_underlying hu, Result.andThen_ok]
                rw [if_neg hne]
                simp only [Sem.run_bind, run_typeInfo hi, Result.andThen_ok, hc, Bool.not_true, Bool.false_eq_true, if_false]
                exact ih _ _ _ _ _ _ w h hx hy
              · cases h
            · cases h
    · rename_i fields xs ys hu
      split at h
      · cases h
      · rename_i hs
        obtain ⟨xa, rfl, hxa⟩ := hx.agg_inv
        obtain ⟨ya, rfl, hya⟩ := hy.agg_inv
        have hf : P.fieldsOf t = fields := by unfold Program.fieldsOf; rw [hu]
        rw [run_equalIn_struct w d t xa ya (by rw [hf]; exact hu) hs, hf]
        exact eqParts_ok (fun t x y x' y' b w h hx hy => ih t x y x' y' b w h hx hy) hxa hya _ _ _ h
    · rename_i hu; cases hx; cases h
      cases hy <;> simp [Op.equalIn, run_underlying hu]
    · rename_i hu; cases hy; cases h
      cases hx <;> simp [Op.equalIn, run_underlying hu]
    · rename_i hu; cases hx; cases h
      cases hy <;> simp [Op.equalIn, run_underlying hu]
    · rename_i hu; cases hy; cases h
      cases hx <;> simp [Op.equalIn, run_underlying hu]
    · rename_i hu; cases hx; cases hy; cases h; simp [Op.equalIn, run_underlying hu]
    · rename_i hu; cases hx; cases hy; cases h; simp [Op.equalIn, run_underlying hu]
    · rename_i hu; cases hx; cases hy; cases h; simp [Op.equalIn, run_underlying hu]
    · cases h

end Go.Am

/-! The abstract machine's operations on numbers, texts and structs, against the model's. -/
namespace Go.Am
open Go
variable {P : Program}

theorem run_eqGuard {t : TypeId} {op : BinOp} {xo yo : Operand} {ρ : Rho} {x y x' y' : Value} (hx : VR ρ x x') (hy : VR ρ y y') (h : aGuard P t xo yo x y = true) (w : World) :
    (eqGuard op t xo yo x' y').run P w = .ok () w := by
  cases hx with
  | nilIface =>
    cases hy with
    | nilIface =>
      unfold aGuard at h
      simp only [Bool.or_eq_true] at h
      rcases h with h | h
      · cases xo <;> simp [isConst] at h
        rw [eqGuard_nil_constL]; rfl
      · cases yo <;> simp [isConst] at h
        rw [eqGuard_nil_constR]; rfl
    | _ => cases op <;> rfl
  | agg _ _ =>
    cases hy with
    | agg _ _ =>
      unfold aGuard at h
      exact run_eqGuard_agg w op t xo yo _ _ (by simpa using h)
    | _ => cases op <;> rfl
  | _ => cases op <;> rfl

theorem aInt_ok {ρ : Rho} {op : BinOp} {t : TypeId} {k k' : IntKind} {a b : Int} {v : Value} (h : aInt op k a k' b = some v) (w : World) :
    (binOp op t (.int k a) (.int k' b)).run P w = .ok v w ∧ VR ρ v v := by
  cases op <;> simp only [aInt] at h
  case shl =>
    split at h
    · cases h
    · rename_i h0; cases h
      refine ⟨?_, .int _ _⟩
      rw [binOp_shl]; unfold Op.shift; rw [if_neg h0]; rfl
  case shr =>
    split at h
    · cases h
    · rename_i h0; cases h
      refine ⟨?_, .int _ _⟩
      rw [binOp_shr]; unfold Op.shift; rw [if_neg h0]; rfl
  case quo =>
    split at h
    · rename_i hk; subst hk
      split at h
      · cases h
      · rename_i h0; cases h
        refine ⟨?_, .int _ _⟩
        rw [binOp_quo]; unfold Op.intDiv; rw [if_neg h0]; rfl
    · cases h
  case rem =>
    split at h
    · rename_i hk; subst hk
      split at h
      · cases h
      · rename_i h0; cases h
        refine ⟨?_, .int _ _⟩
        rw [binOp_rem]; unfold Op.intDiv; rw [if_neg h0]; rfl
    · cases h
  all_goals
    split at h
    · rename_i hk; subst hk; cases h
      refine ⟨?_, by first | exact .int _ _ | exact .bool _⟩
      simp only [binOp, ne_eq, not_true_eq_false, if_false]
      rfl
    · cases h

theorem aStr_ok {ρ : Rho} {op : BinOp} {t : TypeId} {a b : ByteArray} {v : Value} (h : aStr op a b = some v) (w : World) :
    (binOp op t (.string a) (.string b)).run P w = .ok v w ∧ VR ρ v v := by
  cases op <;> simp only [aStr] at h
  case add =>
    split at h
    · cases h
    · rename_i h0; cases h
      refine ⟨?_, .string _⟩
      simp only [binOp, Op.stringOp]
      rw [if_neg h0]; rfl
  all_goals first | (cases h; done) | skip
  all_goals
    cases h
    refine ⟨?_, .bool _⟩
    simp only [binOp, Op.stringOp, toListB]
    rfl

theorem bin_gen {op : BinOp} {t : TypeId} {x y : Value} (ho : op = .eql ∨ op = .neq) {b : Bool} {w : World} (h : (Op.equalIn Op.maxDepth t x y).run P w = .ok b w)
    (hne : (∀ k a k' b, ¬ (x = .int k a ∧ y = .int k' b)) ∧ (∀ a b, ¬ (x = .string a ∧ y = .string b))) (hf : (∀ k a, x ≠ .float k a) ∧ (∀ k a b, x ≠ .complex k a b)) :
    (binOp op t x y).run P w = .ok (.bool (if op = .eql then b else !b)) w := by
  rcases ho with rfl | rfl
  · cases x <;> cases y <;> first | exact absurd ⟨rfl, rfl⟩ (hne.1 _ _ _ _) | exact absurd ⟨rfl, rfl⟩ (hne.2 _ _) | simp_all [binOp, Op.equal]
  · cases x <;> cases y <;> first | exact absurd ⟨rfl, rfl⟩ (hne.1 _ _ _ _) | exact absurd ⟨rfl, rfl⟩ (hne.2 _ _) | simp_all [binOp, Op.equal]

theorem bin_ok {ρ : Rho} {op : BinOp} {t : TypeId} {xo yo : Operand} {x y x' y' v : Value} (h : aBin P op t xo yo x y = some v) (hx : VR ρ x x') (hy : VR ρ y y') (w : World) :
    Pu P ρ w (do eqGuard op t xo yo x' y'; binOp op t x' y') v := by
  unfold aBin at h
  split at h
  · rename_i k a k' b
    cases hx; cases hy
    obtain ⟨h1, h2⟩ := aInt_ok (P := P) (ρ := ρ) (t := t) h w
    refine ⟨v, ?_, h2⟩
    rw [eqGuard_at_int]
    simpa using h1
  · cases hx; cases hy
    obtain ⟨h1, h2⟩ := aStr_ok (P := P) (ρ := ρ) (t := t) h w
    refine ⟨v, ?_, h2⟩
    rw [eqGuard_at_string]
    simpa using h1
  · rename_i hn1 hn2
    have hnn : (∀ k a k' b, ¬ (x' = .int k a ∧ y' = .int k' b)) ∧ (∀ a b, ¬ (x' = .string a ∧ y' = .string b)) := by
      constructor
      · rintro k a k' b ⟨rfl, rfl⟩
        cases hx; cases hy; exact hn1 _ _ _ _ rfl rfl
      · rintro a b ⟨rfl, rfl⟩
        cases hx; cases hy; exact hn2 _ _ rfl rfl
    split at h
    · split at h
      · rename_i hg
        split at h
        · rename_i b he
          cases h
          have h1 := eq_ok _ _ _ _ _ _ _ w he hx hy
          have hf : (∀ k a, x' ≠ .float k a) ∧ (∀ k a b, x' ≠ .complex k a b) := by
            constructor
            · rintro k a rfl; cases hx; simp [aEq, Op.maxDepth] at he
            · rintro k a b rfl; cases hx; simp [aEq, Op.maxDepth] at he
          refine ⟨.bool b, ?_, .bool b⟩
          simp only [Sem.run_bind, run_eqGuard hx hy hg, Result.andThen_ok]
          rw [bin_gen (.inl rfl) h1 hnn hf]; simp
        · cases h
      · cases h
    · split at h
      · rename_i hg
        split at h
        · rename_i b he
          cases h
          have h1 := eq_ok _ _ _ _ _ _ _ w he hx hy
          have hf : (∀ k a, x' ≠ .float k a) ∧ (∀ k a b, x' ≠ .complex k a b) := by
            constructor
            · rintro k a rfl; cases hx; simp [aEq, Op.maxDepth] at he
            · rintro k a b rfl; cases hx; simp [aEq, Op.maxDepth] at he
          refine ⟨.bool (!b), ?_, .bool (!b)⟩
          simp only [Sem.run_bind, run_eqGuard hx hy hg, Result.andThen_ok]
          rw [bin_gen (.inr rfl) h1 hnn hf]; simp
        · cases h
      · cases h
    · cases h

theorem un_ok {ρ : Rho} {op : UnOp} {x x' v : Value} (h : aUn op x = some v) (hx : VR ρ x x') (w : World) : Pu P ρ w (Op.unary op x') v := by
  unfold aUn at h
  split at h
  · cases hx; cases h; exact ⟨_, rfl, .int _ _⟩
  · cases hx
    simp only [aInt, if_true] at h
    cases h; exact ⟨_, rfl, .int _ _⟩
  · cases hx; cases h; exact ⟨_, rfl, .bool _⟩
  · cases h

end Go.Am
