/- What is proved: the types and the evaluator. Conditions: those that each theorem names. -/
import Derived.WalkKit
set_option linter.unusedVariables false
set_option linter.unusedSimpArgs false
/- The universe of pure data, and how memory reads as such data. -/
namespace Go.Own

/-- A type of pure data: numbers, texts, arrays, structs (pairs that end in 'unit'), slices and pointers that nobody writes through. -/
inductive Ty where
  | int (k : IntKind)
  | bool
  | str
  | flt
  | unit
  | pair (a b : Ty)
  | arr (n : Nat) (t : Ty)
  | sl (t : Ty)
  | ref (t : Ty)
  deriving DecidableEq, Inhabited

@[reducible] def Ty.den : Ty → Type
  | .int _ => Int
  | .bool => Bool
  | .str => ByteArray
  | .flt => Nat
  | .unit => Unit
  | .pair a b => a.den × b.den
  | .arr _ t => List t.den
  | .sl t => List t.den
  | .ref t => Option t.den

/-- The zero value. -/
def Ty.dflt : (t : Ty) → t.den
  | .int _ => (0 : Int)
  | .bool => false
  | .str => ByteArray.empty
  | .flt => (0 : Nat)
  | .unit => ()
  | .pair a b => (a.dflt, b.dflt)
  | .arr n t => List.replicate n t.dflt
  | .sl _ => []
  | .ref _ => none

/-- How many cells a value takes. -/
def Ty.size : Ty → Nat
  | .unit => 0
  | .pair a b => a.size + b.size
  | .arr n t => n * t.size
  | _ => 1

/-- Is a value of this type an aggregate (of cells)? -/
def Ty.isAgg : Ty → Bool
  | .unit => true
  | .pair _ _ => true
  | .arr _ _ => true
  | _ => false

/-- The cells of block b from o on are these. -/
def cellsAt (w : World) (b o : Nat) (cs : List Value) : Prop := ∀ j v, cs[j]? = some v → w.cell? ⟨b, o + j, none⟩ = some v

/-- Cells read as data; what is behind pointers and slices lies in blocks of I. -/
def cellsRep (w : World) (I : Nat → Prop) : (t : Ty) → t.den → List Value → Prop
  | .int k, n, cs => cs = [.int k n]
  | .bool, b, cs => cs = [.bool b]
  | .str, s, cs => cs = [.string s]
  | .flt, b, cs => cs = [.float .f64 b]
  | .unit, _, cs => cs = []
  | .pair a b, x, cs => ∃ c1 c2, cs = c1 ++ c2 ∧ cellsRep w I a x.1 c1 ∧ cellsRep w I b x.2 c2
  | .arr n t, l, cs => l.length = n ∧ cs.length = n * t.size ∧ ∀ i x, l[i]? = some x → cellsRep w I t x ((cs.drop (i * t.size)).take t.size)
  | .sl t, l, cs => ∃ ad cap, cs = [.slice ad l.length cap] ∧ l.length ≤ cap ∧ (l = [] ∨ ∃ b o, ad = some ⟨b, o, none⟩ ∧ I b ∧
      ∀ i x, l[i]? = some x → ∃ c, cellsRep w I t x c ∧ cellsAt w b (o + i * t.size) c)
  | .ref t, r, cs => match r with
    | none => cs = [.pointer none]
    | some x => ∃ b o c, cs = [.pointer (some ⟨b, o, none⟩)] ∧ I b ∧ cellsRep w I t x c ∧ cellsAt w b o c

theorem cellsRep.length {w : World} {I : Nat → Prop} : ∀ {t : Ty} {x : t.den} {cs : List Value}, cellsRep w I t x cs → cs.length = t.size := by
  intro t
  induction t with
  | int k => intro x cs h; simp only [cellsRep] at h; subst h; rfl
  | bool => intro x cs h; simp only [cellsRep] at h; subst h; rfl
  | str => intro x cs h; simp only [cellsRep] at h; subst h; rfl
  | flt => intro x cs h; simp only [cellsRep] at h; subst h; rfl
  | unit => intro x cs h; simp only [cellsRep] at h; subst h; rfl
  | pair a b iha ihb =>
    intro x cs h
    simp only [cellsRep] at h
    obtain ⟨c1, c2, rfl, h1, h2⟩ := h
    simp [Ty.size, iha h1, ihb h2]
  | arr n t ih => intro x cs h; simp only [cellsRep] at h; simpa [Ty.size] using h.2.1
  | sl t ih => intro x cs h; simp only [cellsRep] at h; obtain ⟨ad, cap, rfl, _⟩ := h; rfl
  | ref t ih =>
    intro x cs h
    cases x with
    | none => simp only [cellsRep] at h; subst h; rfl
    | some x => simp only [cellsRep] at h; obtain ⟨b, o, c, rfl, _⟩ := h; rfl

theorem cellsAt.of_block {w w' : World} {b o : Nat} {cs : List Value} (h : cellsAt w b o cs) (hb : w'.heap[b]? = w.heap[b]?) : cellsAt w' b o cs := by
  intro j v hj
  have := h j v hj
  unfold World.cell? at *
  simpa [hb] using this

theorem cellsRep.mono {w w' : World} {I I' : Nat → Prop} (hI : ∀ b, I b → I' b) (hw : ∀ b, I b → w'.heap[b]? = w.heap[b]?) :
    ∀ {t : Ty} {x : t.den} {cs : List Value}, cellsRep w I t x cs → cellsRep w' I' t x cs := by
  intro t
  induction t with
  | int k => intro x cs h; exact h
  | bool => intro x cs h; exact h
  | str => intro x cs h; exact h
  | flt => intro x cs h; exact h
  | unit => intro x cs h; exact h
  | pair a b iha ihb =>
    intro x cs h
    simp only [cellsRep] at h ⊢
    obtain ⟨c1, c2, rfl, h1, h2⟩ := h
    exact ⟨c1, c2, rfl, iha h1, ihb h2⟩
  | arr n t ih =>
    intro x cs h
    simp only [cellsRep] at h ⊢
    exact ⟨h.1, h.2.1, fun i y hy => ih (h.2.2 i y hy)⟩
  | sl t ih =>
    intro x cs h
    simp only [cellsRep] at h ⊢
    obtain ⟨ad, cap, rfl, hcap, h⟩ := h
    refine ⟨ad, cap, rfl, hcap, h.imp id ?_⟩
    rintro ⟨b, o, rfl, hb, h⟩
    refine ⟨b, o, rfl, hI b hb, fun i y hy => ?_⟩
    obtain ⟨c, hc, ha⟩ := h i y hy
    exact ⟨c, ih hc, ha.of_block (hw b hb)⟩
  | ref t ih =>
    intro x cs h
    cases x with
    | none => simp only [cellsRep] at h ⊢; exact h
    | some x =>
      simp only [cellsRep] at h ⊢
      obtain ⟨b, o, c, rfl, hb, hc, ha⟩ := h
      exact ⟨b, o, c, rfl, hI b hb, ih hc, ha.of_block (hw b hb)⟩

/-- A value reads as data. -/
def valRep (w : World) (I : Nat → Prop) (t : Ty) (x : t.den) (v : Value) : Prop :=
  if t.isAgg then ∃ cs : Array Value, v = .agg cs ∧ cellsRep w I t x cs.toList else cellsRep w I t x [v]

theorem valRep.mono {w w' : World} {I I' : Nat → Prop} (hI : ∀ b, I b → I' b) (hw : ∀ b, I b → w'.heap[b]? = w.heap[b]?)
    {t : Ty} {x : t.den} {v : Value} (h : valRep w I t x v) : valRep w' I' t x v := by
  unfold valRep at *
  split
  · rename_i ht
    simp only [ht, if_true] at h
    obtain ⟨cs, rfl, h⟩ := h
    exact ⟨cs, rfl, h.mono hI hw⟩
  · rename_i ht
    simp only [ht] at h
    exact cellsRep.mono hI hw h

/-- A value's cells. -/
theorem valRep.cells {w : World} {I : Nat → Prop} {t : Ty} {x : t.den} {v : Value} (h : valRep w I t x v) : cellsRep w I t x v.cells.toList := by
  unfold valRep at h
  split at h
  · obtain ⟨cs, rfl, h⟩ := h
    exact h
  · rename_i ht
    have hc : v.cells = #[v] := by
      cases v <;> first | rfl | skip
      rename_i cs
      cases t <;> simp_all [cellsRep, Ty.isAgg]
      rename_i t
      cases x <;> simp [cellsRep] at h
    rw [hc]
    exact h

end Go.Own

/- The abstract interpreter: a function's code over pure data, with own slices in slots and own boxes. -/
namespace Go.Own

/-- Data with its type. -/
abbrev DV := (t : Ty) × t.den

/-- A step into a value. -/
inductive PS where
  | fst
  | snd
  | ix (i : Nat)
abbrev Path := List PS

def getP : (t : Ty) → t.den → Path → Option DV
  | t, x, [] => some ⟨t, x⟩
  | .pair a _, x, .fst :: p => getP a x.1 p
  | .pair _ b, x, .snd :: p => getP b x.2 p
  | .arr _ t, l, .ix i :: p => getP t (l.getD i t.dflt) p
  | _, _, _ => none

def setP : (t : Ty) → t.den → Path → DV → Option t.den
  | t, _, [], ⟨u, y⟩ => if h : u = t then some (h ▸ y) else none
  | .pair a _, x, .fst :: p, d => (setP a x.1 p d).map fun z => (z, x.2)
  | .pair _ b, x, .snd :: p, d => (setP b x.2 p d).map fun z => (x.1, z)
  | .arr _ t, l, .ix i :: p, d => (setP t (l.getD i t.dflt) p d).map fun z => l.set i z
  | _, _, _, _ => none

/-- What a slot holds. -/
inductive SV where
  | p (d : DV)                                   -- pure data
  | own (t : Ty) (nl : Bool) (l : List t.den)    -- a slice whose array is this slot's own
  | rf (h : Nat)                                 -- the same slice as slot h's own
  | rs (h : Nat) (t : Ty) (lo n : Nat)           -- a part of slot h's own slice, of elements t
  | pb (s : Nat) (t : Ty) (pa : Path)            -- a pointer into the box of site s, of what is of type t there
  | pe (h : Nat) (t0 : Ty) (i : Nat) (t : Ty) (pa : Path)  -- a pointer into element i of slot h's own slice, of elements t0
  | nil                                          -- the nil slice, as the text has it
  | nilp                                         -- the nil pointer, as the text has it
  | clo (f : FuncId) (caps : List SV)            -- a function value
  | tup (l : List SV)                            -- several results
  | dead                                         -- nothing is known
  | und                                          -- what was passed by left nothing
  deriving Inhabited

structure St where
  sl : List SV
  bx : List (Nat × DV)

def St.slot (st : St) (i : Nat) : SV := st.sl.getD i .dead
def St.box (st : St) (s : Nat) : Option DV := (st.bx.find? (·.1 == s)).map (·.2)
/-- Boxes are kept by their sites, the least one first. -/
def insB (s : Nat) (d : DV) : List (Nat × DV) → List (Nat × DV)
  | [] => [(s, d)]
  | x :: r => bif Nat.beq x.1 s then (s, d) :: r else bif Nat.blt s x.1 then (s, d) :: x :: r else x :: insB s d r
def St.setBox (st : St) (s : Nat) (d : DV) : St := { st with bx := insB s d st.bx }

/-- What hangs on slot h is no longer known. -/
def SV.off (h : Nat) : SV → SV
  | .rf g => if g = h then .dead else .rf g
  | .rs g t lo n => if g = h then .dead else .rs g t lo n
  | .pe g t0 i t pa => if g = h then .dead else .pe g t0 i t pa
  | v => v
/-- Pointers into slot h's own slice are no longer known. -/
def SV.offE (h : Nat) : SV → SV
  | .pe g t0 i t pa => if g = h then .dead else .pe g t0 i t pa
  | v => v
/-- What hangs on slot h hangs on slot d. -/
def SV.ren (h d : Nat) : SV → SV
  | .rf g => if g = h then .rf d else .rf g
  | .rs g t lo n => if g = h then .rs d t lo n else .rs g t lo n
  | .pe g t0 i t pa => if g = h then .pe d t0 i t pa else .pe g t0 i t pa
  | v => v
/-- What points into the box of site s is no longer known. -/
def SV.offB (s : Nat) : SV → SV
  | .pb r t pa => if r = s then .dead else .pb r t pa
  | .clo f caps => if caps.any fun | .pb r _ _ => r == s | _ => false then .dead else .clo f caps
  | v => v

/-- May others hang on a slot? On slices alone. -/
def SV.isHome : SV → Bool
  | .own .. => true
  | .p ⟨.sl _, _⟩ => true
  | _ => false

def St.put (st : St) (d : Nat) (v : SV) : St :=
  bif (st.slot d).isHome then { st with sl := (st.sl.map (SV.off d)).set d v } else { st with sl := st.sl.set d v }
def St.putO (st : St) (d : Option Nat) (v : SV) : St := match d with | some d => st.put d v | none => st

/-- What the program's types are; how many bytes an element of a slice type takes. -/
structure Env where
  T : TypeId → Option Ty
  B : TypeId → Nat

def ofConst : Value → SV
  | .int k n => .p ⟨.int k, n⟩
  | .bool b => .p ⟨.bool, b⟩
  | .string s => .p ⟨.str, s⟩
  | .float .f64 b => .p ⟨.flt, b⟩
  | .slice none 0 0 => .nil
  | .pointer none => .nilp
  | _ => .dead

/-- An operand: a slot's own slice is told by its slot. -/
def ev (st : St) : Operand → SV
  | .tmp i => match st.slot i with | .own .. => .rf i | .und => .dead | .p d => .p d | .rf h => .rf h | .rs h t lo n => .rs h t lo n | .pb s t pa => .pb s t pa | .pe h t0 i t pa => .pe h t0 i t pa | .nil => .nil | .nilp => .nilp | .clo f caps => .clo f caps | .tup l => .tup l | .dead => .dead
  | .const v => ofConst v
  | .func f => .clo f []
  | .global _ => .dead

/-- A slice's elements. -/
def seqOf (st : St) : SV → Option ((t : Ty) × List t.den)
  | .p ⟨.sl t, l⟩ => some ⟨t, l⟩
  | .rf h => match st.slot h with | .own t _ l => some ⟨t, l⟩ | .p ⟨.sl t, l⟩ => some ⟨t, l⟩ | _ => none
  | .rs h _ lo n => match st.slot h with | .own t _ l => some ⟨t, (l.drop lo).take n⟩ | .p ⟨.sl t, l⟩ => some ⟨t, (l.drop lo).take n⟩ | _ => none
  | _ => none

/-- Pure data of a slot; a slice's elements as they are now. -/
def dataOf (E : Env) (st : St) (T : TypeId) : SV → Option DV
  | .p d => some d
  | .nil => match E.T T with | some (.sl t) => some ⟨.sl t, []⟩ | _ => none
  | .nilp => match E.T T with | some (.ref t) => some ⟨.ref t, none⟩ | _ => none
  | v => (seqOf st v).map fun s => ⟨.sl s.1, s.2⟩

def ibits (k : IntKind) (f : BitVec k.bits → BitVec k.bits → BitVec k.bits) (a b : Int) : Int := k.wrap (f (BitVec.ofInt k.bits a) (BitVec.ofInt k.bits b)).toNat

/-- Integers: what must hold, and what comes. -/
def ibin (op : BinOp) (k : IntKind) (a b : Int) : Option (Bool × DV) :=
  match op with
  | .add => some (true, ⟨.int k, k.wrap (a + b)⟩)
  | .sub => some (true, ⟨.int k, k.wrap (a - b)⟩)
  | .mul => some (true, ⟨.int k, k.wrap (a * b)⟩)
  | .quo => some (!decide (b = 0), ⟨.int k, k.wrap (a.tdiv b)⟩)
  | .rem => some (!decide (b = 0), ⟨.int k, (a.tmod b : Int)⟩)
  | .and => some (true, ⟨.int k, ibits k (· &&& ·) a b⟩)
  | .or => some (true, ⟨.int k, ibits k (· ||| ·) a b⟩)
  | .xor => some (true, ⟨.int k, ibits k (· ^^^ ·) a b⟩)
  | .andNot => some (true, ⟨.int k, ibits k (fun x y => x &&& ~~~y) a b⟩)
  | .eql => some (true, ⟨.bool, a == b⟩)
  | .neq => some (true, ⟨.bool, a != b⟩)
  | .lss => some (true, ⟨.bool, decide (a < b)⟩)
  | .leq => some (true, ⟨.bool, decide (a ≤ b)⟩)
  | .gtr => some (true, ⟨.bool, decide (a > b)⟩)
  | .geq => some (true, ⟨.bool, decide (a ≥ b)⟩)
  | _ => none
def ishift (op : BinOp) (k : IntKind) (a b : Int) : Option (Bool × DV) :=
  match op with
  | .shl => some (!decide (b < 0), ⟨.int k, k.wrap (a * 2 ^ (min b.toNat k.bits))⟩)
  | .shr => some (!decide (b < 0), ⟨.int k, (a.fdiv (2 ^ (min b.toNat k.bits)) : Int)⟩)
  | _ => none
def sbin (op : BinOp) (a b : ByteArray) : Option (Bool × DV) :=
  match op with
  | .add => some (decide (a.size + b.size ≤ 4611686018427387904), ⟨.str, a ++ b⟩)
  | .eql => some (true, ⟨.bool, a.toList == b.toList⟩)
  | .neq => some (true, ⟨.bool, !(a.toList == b.toList)⟩)
  | .lss => some (true, ⟨.bool, Op.bytesLess a.toList b.toList⟩)
  | .leq => some (true, ⟨.bool, Op.bytesLess a.toList b.toList || a.toList == b.toList⟩)
  | .gtr => some (true, ⟨.bool, !(Op.bytesLess a.toList b.toList || a.toList == b.toList)⟩)
  | .geq => some (true, ⟨.bool, !(Op.bytesLess a.toList b.toList)⟩)
  | _ => none

/-- Are two values of a type the same? -/
def eqT : (t : Ty) → t.den → t.den → Option Bool
  | .int _, a, b => some (decide ((a : Int) = b))
  | .bool, a, b => some (a == b)
  | .str, a, b => some (a == b)
  | .unit, _, _ => some true
  | .pair s t, a, b => match eqT s a.1 b.1, eqT t a.2 b.2 with | some x, some y => some (x && y) | _, _ => none
  | .arr n t, a, b => (List.range n).foldr (fun i r => match eqT t (a.getD i t.dflt) (b.getD i t.dflt), r with | some x, some y => some (x && y) | _, _ => none) (some true)
  | _, _, _ => none

/-- Is a slice nil? What must hold, and the answer. -/
def isNilS (st : St) : SV → Option (Bool × Bool)
  | .p ⟨.sl _, l⟩ => some (!l.isEmpty, false)
  | .rf h => match st.slot h with
    | .own _ nl _ => some (true, nl)
    | .p ⟨.sl _, l⟩ => some (!l.isEmpty, false)
    | _ => none
  | _ => none

def nilOp (op : BinOp) (c : Bool) (r : Bool) : Option (Bool × DV) :=
  match op with
  | .eql => some (c, ⟨.bool, r⟩)
  | .neq => some (c, ⟨.bool, !r⟩)
  | _ => none

def binop (st : St) (tx : Option Ty) (op : BinOp) : SV → SV → Option (Bool × DV)
  | .p ⟨.int k, a⟩, .p ⟨.int k', b⟩ =>
    match op with
    | .shl => ishift .shl k a b
    | .shr => ishift .shr k a b
    | _ => if k = k' then ibin op k a b else none
  | .p ⟨.str, a⟩, .p ⟨.str, b⟩ => sbin op a b
  | .p ⟨.ref t, r⟩, .nilp => if tx = some (.ref t) then nilOp op true r.isNone else none
  | .nilp, .p ⟨.ref t, r⟩ => if tx = some (.ref t) then nilOp op true r.isNone else none
  | .p ⟨t, a⟩, .p ⟨t', b⟩ =>
    if h : t' = t then
      if tx = some t then
        match eqT t a (h ▸ b) with
        | some r => nilOp op true r
        | none => none
      else none
    else none
  | x, .nil => match tx, isNilS st x with
    | some (.sl _), some (c, r) => nilOp op c r
    | _, _ => none
  | .nil, x => match tx, isNilS st x with
    | some (.sl _), some (c, r) => nilOp op c r
    | _, _ => none
  | _, _ => none

def unop (op : UnOp) : SV → Option DV
  | .p ⟨.int k, n⟩ =>
    match op with
    | .neg => some ⟨.int k, k.wrap (0 - n)⟩
    | .xor => some ⟨.int k, ibits k (· ^^^ ·) (if k.signed then -1 else k.max) n⟩
    | _ => none
  | .p ⟨.bool, b⟩ => match op with | .not => some ⟨.bool, !b⟩ | _ => none
  | _ => none

/-- The field's place in pairs that end in 'unit'. -/
def fieldPath : Nat → Path
  | 0 => [.fst]
  | n + 1 => .snd :: fieldPath n
def tyAt : Ty → Path → Option Ty
  | t, [] => some t
  | .pair a _, .fst :: p => tyAt a p
  | .pair _ b, .snd :: p => tyAt b p
  | .arr _ t, .ix _ :: p => tyAt t p
  | _, _ => none

/-- A part of what is behind a pointer. -/
def partOf (pa : Path) : SV → Option SV
  | .pb s t q => (tyAt t pa).map fun u => .pb s u (q ++ pa)
  | .pe h t0 i t q => (tyAt t pa).map fun u => .pe h t0 i u (q ++ pa)
  | .p ⟨.ref t, some x⟩ => (getP t x pa).map fun d => .p ⟨.ref d.1, some d.2⟩
  | _ => none

/-- The type of what a pointer points to. -/
def targetOf : SV → Option Ty
  | .pb _ t _ => some t
  | .pe _ _ _ t _ => some t
  | .p ⟨.ref t, _⟩ => some t
  | _ => none

/-- An element's place: what must hold, and the pointer. -/
def idxAddr (E : Env) (st : St) (T : TypeId) (x : SV) (i : SV) : Option (Bool × SV) :=
  match E.T T, i with
  | some (.arr n t), .p ⟨.int _, i⟩ => if targetOf x = some (.arr n t) then
      match partOf [.ix (i : Int).toNat] x with
      | some v => some (decide (0 ≤ (i : Int)) && decide ((i : Int) < n), v)
      | none => none
    else none
  | some (.sl u), .p ⟨.int _, i⟩ =>
    match x with
    | .p ⟨.sl t, l⟩ => if t ≠ u then none else some (decide (0 ≤ (i : Int)) && decide ((i : Int) < l.length), .p ⟨.ref t, some (l.getD (i : Int).toNat t.dflt)⟩)
    | .rf h => match st.slot h with
      | .own t _ l => if t ≠ u then none else some (decide (0 ≤ (i : Int)) && decide ((i : Int) < l.length), .pe h t (i : Int).toNat t [])
      | .p ⟨.sl t, l⟩ => if t ≠ u then none else some (decide (0 ≤ (i : Int)) && decide ((i : Int) < l.length), .p ⟨.ref t, some (l.getD (i : Int).toNat t.dflt)⟩)
      | _ => none
    | .rs h _ lo n => match st.slot h with
      | .own t _ _ => if t ≠ u then none else some (decide (0 ≤ (i : Int)) && decide ((i : Int) < n), .pe h t (lo + (i : Int).toNat) t [])
      | .p ⟨.sl t, l⟩ => if t ≠ u then none else some (decide (0 ≤ (i : Int)) && decide ((i : Int) < n), .p ⟨.ref t, some (l.getD (lo + (i : Int).toNat) t.dflt)⟩)
      | _ => none
    | _ => none
  | _, _ => none

def loadS (st : St) : SV → Option DV
  | .pb s _ pa => match st.box s with | some d => getP d.1 d.2 pa | none => none
  | .pe h _ i _ pa => match st.slot h with | .own t _ l => getP t (l.getD i t.dflt) pa | _ => none
  | .p ⟨.ref t, some x⟩ => some ⟨t, x⟩
  | _ => none

def storeS (st : St) (d : DV) : SV → Option St
  | .pb s _ pa => match st.box s with | some b => (setP b.1 b.2 pa d).map fun x => st.setBox s ⟨b.1, x⟩ | none => none
  | .pe h _ i _ pa => match st.slot h with
    | .own t nl l => (setP t (l.getD i t.dflt) pa d).map fun x => { st with sl := st.sl.set h (.own t nl (l.set i x)) }
    | _ => none
  | _ => none

/-- A struct's, or an array's, value out of parts. -/
def Ty.has : Ty → Nat → Bool
  | .arr n _, i => decide (i < n)
  | _, _ => true
def buildS (isArr : Bool) : (t : Ty) → t.den → List (Nat × SV) → Option t.den
  | _, x, [] => some x
  | t, x, (i, .p d) :: r => bif t.has i then (setP t x (bif isArr then [.ix i] else fieldPath i) d).bind fun y => buildS isArr t y r else none
  | _, _, _ => none

def Ty.isArr : Ty → Bool
  | .arr .. => true
  | _ => false

def convS (tS t : Ty) : SV → Option SV
  | .p ⟨.int _, n⟩ => match t with | .int k => some (.p ⟨.int k, k.wrap n⟩) | _ => none
  | .p ⟨.str, s⟩ => match tS, t with
    | _, .str => some (.p ⟨.str, s⟩)
    | .str, .sl (.int .u8) => some (.own (.int .u8) false (s.data.toList.map fun b => (b.toNat : Int)))
    | _, _ => none
  | _ => none

def bytesOf (l : List Int) : ByteArray := ⟨(l.map fun n => UInt8.ofNat n.toNat).toArray⟩

end Go.Own

/- The abstract interpreter, continued: operations, regions, code. -/
namespace Go.Own

/-- An argument: data; a pointer into box j of those that are handed on; a function value. -/
inductive AV where
  | val (d : DV)
  | xp (j : Nat) (t : Ty) (pa : Path)
  | clo (f : FuncId) (caps : List AV)
  deriving Inhabited
/-- A result: data; a slice that is the caller's own. -/
inductive RV where
  | val (d : DV)
  | own (t : Ty) (nl : Bool) (l : List t.den)
  deriving Inhabited

/-- What a call comes to: results, and the boxes that were handed on. -/
abbrev Res := List RV × List DV

/-- Is there no pointer, and no slice, in a type? -/
def Ty.flat : Ty → Bool
  | .pair a b => a.flat && b.flat
  | .arr _ t => t.flat
  | .sl _ => false
  | .ref _ => false
  | _ => true
def RV.flat : RV → Bool
  | .val d => d.1.flat
  | .own t _ _ => t.flat

/-- The sites of the boxes that values point into. -/
def addSite (l : List Nat) (s : Nat) : List Nat := bif l.contains s then l else l ++ [s]
def sitesOf : List SV → List Nat → List Nat
  | [], acc => acc
  | .pb s _ _ :: r, acc => sitesOf r (addSite acc s)
  | .clo _ caps :: r, acc => sitesOf r (caps.foldl (fun a (c : SV) => match c with | .pb s _ _ => addSite a s | _ => a) acc)
  | _ :: r, acc => sitesOf r acc

def argOf (E : Env) (st : St) (sites : List Nat) (T : TypeId) : SV → Option AV
  | .pb s t pa => (sites.idxOf? s).map fun j => .xp j t pa
  | .clo f caps => (caps.mapM fun (c : SV) => match c with
      | .pb s t pa => (sites.idxOf? s).map fun j => AV.xp j t pa
      | .p d => some (.val d)
      | _ => none).map fun cs => .clo f cs
  | v => (dataOf E st T v).map .val

def argsOf (E : Env) (st : St) (sites : List Nat) : List TypeId → List SV → Option (List AV)
  | _, [] => some []
  | T :: Ts, v :: vs => match argOf E st sites T v, argsOf E st sites Ts vs with
    | some a, some r => some (a :: r)
    | _, _ => none
  | [], v :: vs => match argOf E st sites 0 v, argsOf E st sites [] vs with
    | some a, some r => some (a :: r)
    | _, _ => none

def resSV : RV → SV
  | .val d => .p d
  | .own t nl l => .own t nl l
def resOf : List RV → SV
  | [r] => resSV r
  | rs => .tup (rs.map resSV)

def setBoxes (st : St) : List Nat → List DV → St
  | s :: ss, d :: ds => setBoxes (st.setBox s d) ss ds
  | _, _ => st

/-- The slots whose own slices values hang on. -/
def homes : List SV → List Nat
  | [] => []
  | .rf h :: r => h :: homes r
  | .rs h _ _ _ :: r => h :: homes r
  | _ :: r => homes r
/-- A slot's own slice is nobody's any more, and stays as it is. -/
def St.freeze (st : St) (h : Nat) : St :=
  match st.slot h with
  | .own t _ l => { st with sl := (st.sl.map (SV.offE h)).set h (.p ⟨.sl t, l⟩) }
  | _ => st

def St.freezeAll (st : St) (vs : List SV) : St := (homes vs).foldl St.freeze st

section
variable {R : Type}

/-- A call: the function, its arguments, the boxes: what must hold, and what comes. -/
abbrev CallD := FuncId → List AV → List DV → Option (Bool × Res)

def callS (E : Env) (D : CallD) (dst : Option Nat) (f : FuncId) (Ts : List TypeId) (vs : List SV) (st : St) : Option (Bool × St) :=
  match argsOf E st (sitesOf vs []) Ts vs, (sitesOf vs []).mapM st.box with
  | some as, some bs => match D f as bs with
    | some (c, r) => some (c, (setBoxes (bif r.1.all RV.flat && r.2.all (·.1.flat) then st else st.freezeAll vs) (sitesOf vs []) r.2).putO dst (resOf r.1))
    | none => none
  | _, _ => none

def req (c : Bool) (x : Option R) : Option R := bif c then x else none

/-- The program's type is this data type. -/
def Env.isT (E : Env) (T : TypeId) (t : Ty) : Bool := decide (E.T T = some t)

/-- append: behind what hangs on slot h, or behind nothing. -/
def appendTo (E : Env) (dst : Option Nat) (T : TypeId) (u : Ty) (ys : List u.den) (t : Ty) (nl : Bool) (l : List t.den) (st : St) : Option (Bool × St) :=
  if h : u = t then
    bif E.isT T (.sl t) then some (decide ((2 * (l.length + ys.length) + 512) * E.B T ≤ 70368744177664), st.putO dst (.own t (nl && ys.isEmpty) (l ++ (h ▸ ys)))) else none
  else none
def moreOf (E : Env) (st : St) (T : TypeId) : SV → Option ((t : Ty) × List t.den)
  | .p ⟨.str, s⟩ => some ⟨.int .u8, s.data.toList.map fun b => (b.toNat : Int)⟩
  | .nil => match E.T T with | some (.sl t) => some ⟨t, []⟩ | _ => none
  | v => seqOf st v
def appendF (E : Env) (dst : Option Nat) (T : TypeId) (x y : SV) (st : St) : Option (Bool × St) :=
  match moreOf E st T y with
  | some ⟨u, ys⟩ =>
    match x with
    | .rf g => match st.slot g with
      | .own t nl l => appendTo E dst T u ys t nl l { st with sl := (st.sl.map (SV.off g)).set g .dead }
      | _ => none
    | .rs g _ lo n => match st.slot g with
      | .own t nl l => appendTo E dst T u ys t (nl && decide (n = 0)) ((l.drop lo).take n) { st with sl := (st.sl.map (SV.off g)).set g .dead }
      | _ => none
    | .nil => match E.T T with | some (.sl t) => appendTo E dst T u ys t true [] st | _ => none
    | _ => none
  | none => none

def lenS (E : Env) (st : St) (T : TypeId) : SV → Option DV
  | .p ⟨.str, s⟩ => if E.T T = some .str then some ⟨.int .i64, (s.size : Int)⟩ else none
  | v => match E.T T with
    | some (.arr n _) => some ⟨.int .i64, (n : Int)⟩
    | some (.sl _) => (seqOf st v).map fun s => ⟨.int .i64, (s.2.length : Int)⟩
    | _ => none

def maxS : Bool → SV → List SV → Option DV
  | _, .p d, [] => some d
  | mx, .p ⟨.int k, x⟩, .p ⟨.int _, y⟩ :: r => maxS mx (.p ⟨.int k, bif mx then (bif decide (y > x) then y else x) else (bif decide (y < x) then y else x)⟩) r
  | _, _, _ => none

def builtinF (E : Env) (dst : Option Nat) (b : Builtin) (Ts : List TypeId) (vs : List SV) (st : St) : Option (Bool × St) :=
  match b, Ts, vs with
  | .len, T :: _, [v] => match lenS E st T v with | some d => some (true, st.putO dst (.p d)) | none => none
  | .append, [T, T2], [x, y] => match E.T T2 with
    | some (.sl _) => appendF E dst T x y st
    | some .str => appendF E dst T x y st
    | _ => none
  | .max, _, v :: r => match maxS true v r with | some d => some (true, st.putO dst (.p d)) | none => none
  | .min, _, v :: r => match maxS false v r with | some d => some (true, st.putO dst (.p d)) | none => none
  | _, _, _ => none

/-- On which slot's own slice does it hang? -/
def SV.hang : SV → Option Nat
  | .rf h => some h
  | .rs h _ _ _ => some h
  | .pe h _ _ _ _ => some h
  | _ => none
/-- A value is put that may hang on a slot: on another one. -/
def St.putC (st : St) (d : Option Nat) (c : Bool) (v : SV) : Option (Bool × St) :=
  match d, v.hang with
  | some d, some h => bif h == d then none else some (c, st.put d v)
  | d, _ => some (c, st.putO d v)

def assignS (E : Env) (d : Nat) (T : TypeId) (v : SV) (st : St) : Option St :=
  match v with
  | .rf h =>
    if h = d then none else
    match st.slot h with
    | .own t nl l => some { st with sl := (((st.sl.map (SV.off d)).map (SV.ren h d)).set h (.rf d)).set d (.own t nl l) }
    | .p x => some (st.put d (.p x))
    | _ => none
  | .rs h _ lo n => match st.slot h with
    | .own t nl l => if h = d then some { st with sl := (st.sl.map (SV.off d)).set d (.own t (nl && decide (n = 0)) ((l.drop lo).take n)) }
      else some ((st.freeze h).put d (.p ⟨.sl t, (l.drop lo).take n⟩))
    | .p ⟨.sl t, l⟩ => some (st.put d (.p ⟨.sl t, (l.drop lo).take n⟩))
    | _ => none
  | .nil => match E.T T with
    | some (.sl t) => some (st.put d (.own t true []))
    | _ => none
  | .nilp => match E.T T with
    | some (.ref t) => some (st.put d (.p ⟨.ref t, none⟩))
    | _ => none
  | .tup _ => none
  | v => (st.putC (some d) true v).map (·.2)

/-- s[lo:hi]: the bounds, and what comes. -/
def boundOf (n : Int) : Option SV → Option Int
  | none => some n
  | some (.p ⟨.int _, i⟩) => some i
  | _ => none

def sliceS (st : St) (x : SV) (lo hi : Option SV) : Option (Bool × SV × Ty) :=
  match x with
  | .p ⟨.str, s⟩ => match boundOf 0 lo, boundOf s.size hi with
    | some l, some h => some (decide (0 ≤ l) && decide (l ≤ h) && decide (h ≤ s.size), .p ⟨.str, s.extract l.toNat h.toNat⟩, .str)
    | _, _ => none
  | .p ⟨.sl t, s⟩ => match boundOf 0 lo, boundOf s.length hi with
    | some l, some h => some (decide (0 ≤ l) && decide (l ≤ h) && decide (h ≤ s.length), .p ⟨.sl t, (s.drop l.toNat).take (h.toNat - l.toNat)⟩, .sl t)
    | _, _ => none
  | .rf g => match st.slot g with
    | .own t _ s => match boundOf 0 lo, boundOf s.length hi with
      | some l, some h => some (decide (0 ≤ l) && decide (l ≤ h) && decide (h ≤ s.length), .rs g t l.toNat (h.toNat - l.toNat), .sl t)
      | _, _ => none
    | .p ⟨.sl t, s⟩ => match boundOf 0 lo, boundOf s.length hi with
      | some l, some h => some (decide (0 ≤ l) && decide (l ≤ h) && decide (h ≤ s.length), .p ⟨.sl t, (s.drop l.toNat).take (h.toNat - l.toNat)⟩, .sl t)
      | _, _ => none
    | _ => none
  | .rs g t a n => match boundOf 0 lo, boundOf n hi with
      | some l, some h => some (decide (0 ≤ l) && decide (l ≤ h) && decide (h ≤ n), .rs g t (a + l.toNat) (h.toNat - l.toNat), .sl t)
      | _, _ => none
  | _ => none

def boolOf : SV → Option Bool
  | .p ⟨.bool, b⟩ => some b
  | _ => none
/-- One of two, by a third. -/
def pickS (c a b : SV) : Option (Bool × DV) :=
  match boolOf c, boolOf a, boolOf b with
  | some c, some x, some y => some (true, ⟨.bool, bif c then x else y⟩)
  | some c, some x, none => some (c, ⟨.bool, x⟩)
  | some c, none, some y => some (!c, ⟨.bool, y⟩)
  | _, _, _ => none

/-- Pure data? -/
def SV.isP : SV → Bool
  | .p _ => true
  | _ => false

def nzT (v : SV) : Bool := match targetOf v with
  | some u => u.size != 0
  | none => false

/-- What parts of a literal are: data. -/
def partsOf (E : Env) (st : St) (parts : List (Nat × Operand)) : List (Nat × SV) :=
  parts.map fun (i, x) => (i, match ev st x with
    | .p d => .p d
    | v => match dataOf E st 0 v with | some d => .p d | none => .dead)

/-- What a function value takes along. -/
def capS (E : Env) (st : St) : SV → Option SV
  | .pb s t pa => some (.pb s t pa)
  | .p d => some (.p d)
  | v => (dataOf E st 0 v).map .p

/-- An operation that is no call of a function: what must hold, and the state behind it. -/
def opF (E : Env) (o : Oper) (st : St) : Option (Bool × St) :=
  match o.op with
  | .move x => match ev st x with
    | .tup l => bif l.all SV.isP then some (true, st.putO o.dst (.tup l)) else match x with
      | .tmp i => some (true, { st with sl := st.sl.set i .dead }.putO o.dst (.tup l))
      | _ => none
    | .nil => match dataOf E st o.type .nil with
      | some d => some (true, st.putO o.dst (.p d))
      | none => none
    | .nilp => match dataOf E st o.type .nilp with
      | some d => some (true, st.putO o.dst (.p d))
      | none => none
    | v => st.putC o.dst true v
  | .assign x => match o.dst with
    | some d => match assignS E d o.type (ev st x) st with | some st' => some (true, st') | none => none
    | none => none
  | .pick c a b => match pickS (ev st c) (ev st a) (ev st b) with
    | some (c, d) => some (c, st.putO o.dst (.p d))
    | none => none
  | .alloc T => match E.T T, o.dst with
    | some t, some d => some (true, ({ st with sl := st.sl.map (SV.offB d) }.setBox d ⟨t, t.dflt⟩).put d (.pb d t []))
    | _, _ => none
  | .box T x => match dataOf E st T (ev st x), o.dst, E.T T with
    | some v, some d, some t =>
      if v.1 = t then
        let s := st.freezeAll [ev st x]
        some (true, ({ s with sl := s.sl.map (SV.offB d) }.setBox d v).put d (.pb d t []))
      else none
    | _, _, _ => none
  | .build T parts => match E.T T with
    | some t => match bif t.isAgg then buildS t.isArr t t.dflt (partsOf E st parts.toList) else none with
      | some y => some (true, (st.freezeAll (parts.toList.map fun (_, x) => ev st x)).putO o.dst (.p ⟨t, y⟩))
      | none => none
    | none => none
  | .buildSlice T n parts => match E.T T with
    | some (.sl t) => match bif decide (n * t.size ≤ 16777216) then buildS true (.arr n t) (Ty.arr n t).dflt (partsOf E st parts.toList) else none with
      | some l => some (true, (st.freezeAll (parts.toList.map fun (_, x) => ev st x)).putO o.dst (.own t false l))
      | none => none
    | _ => none
  | .load T a => match loadS st (ev st a) with
    | some d => bif E.isT T d.1 then some (true, st.putO o.dst (.p d)) else none
    | none => none
  | .store T a x => match (match o.dst with | none => dataOf E st T (ev st x) | some _ => none) with
    | some d => bif E.isT T d.1 then
        match storeS (st.freezeAll [ev st x]) d (ev st a) with | some st' => some (true, st') | none => none
      else none
    | none => none
  | .nilCheck x => match ev st x with
    | .pb s t pa => some (true, st.putO o.dst (.pb s t pa))
    | .pe h t0 i t pa => st.putC o.dst true (.pe h t0 i t pa)
    | .clo f caps => some (true, st.putO o.dst (.clo f caps))
    | .p ⟨.ref t, some x⟩ => some (true, st.putO o.dst (.p ⟨.ref t, some x⟩))
    | _ => none
  | .binOp op T x y _ => match binop st (E.T T) op (ev st x) (ev st y) with
    | some (c, d) => some (c, st.putO o.dst (.p d))
    | none => none
  | .unOp op _ x => match unop op (ev st x) with
    | some d => some (true, st.putO o.dst (.p d))
    | none => none
  | .convert S T x => match E.T S, E.T T with
    | some .str, some .str => match ev st x with
      | .p ⟨.str, s⟩ => some (true, st.putO o.dst (.p ⟨.str, s⟩))
      | _ => none
    | some (.sl (.int .u8)), some .str => match seqOf st (ev st x) with
      | some ⟨.int .u8, l⟩ => some (true, st.putO o.dst (.p ⟨.str, bytesOf l⟩))
      | _ => none
    | some s, some t => match convS s t (ev st x) with
      | some v => some (true, st.putO o.dst v)
      | none => none
    | _, _ => none
  | .makeFunc (.func f) first caps => match bif first.toList.isEmpty then caps.toList.mapM (fun x => capS E st (ev st x)) else none with
    | some cs => some (true, (st.freezeAll (caps.toList.map (ev st))).putO o.dst (.clo f cs))
    | none => none
  | .makeSlice T l c => match E.T T, ev st l, ev st c with
    | some (.sl t), .p ⟨.int _, l⟩, .p ⟨.int _, c⟩ =>
      some (decide (0 ≤ (l : Int)) && decide ((l : Int) ≤ c) && decide ((c : Int) * E.B T ≤ 70368744177664),
        st.putO o.dst (.own t false (List.replicate (l : Int).toNat t.dflt)))
    | _, _, _ => none
  | .slice T x lo hi none => match sliceS st (ev st x) (lo.map (ev st)) (hi.map (ev st)) with
    | some (c, v, t) => bif E.isT T t then st.putC o.dst c v else none
    | none => none
  | .fieldAddr T x f => match partOf (fieldPath f) (ev st x), targetOf (ev st x) with
    | some v, some t => bif E.isT T t && nzT v then st.putC o.dst true v else none
    | _, _ => none
  | .field T x f => match ev st x with
    | .p d => match getP d.1 d.2 (fieldPath f) with
      | some r => bif E.isT T d.1 then some (true, st.putO o.dst (.p r)) else none
      | none => none
    | _ => none
  | .indexAddr T x i => match idxAddr E st T (ev st x) (ev st i) with
    | some (c, v) => st.putC o.dst c v
    | none => none
  | .index T x i => match ev st x, ev st i with
    | .p ⟨.str, s⟩, .p ⟨.int _, i⟩ => bif E.isT T .str then
        some (decide (0 ≤ (i : Int)) && decide ((i : Int) < s.size), st.putO o.dst (.p ⟨.int .u8, ((s.data.getD (i : Int).toNat 0).toNat : Int)⟩)) else none
    | .p ⟨.arr n t, l⟩, .p ⟨.int _, i⟩ => bif E.isT T (.arr n t) then
        some (decide (0 ≤ (i : Int)) && decide ((i : Int) < n), st.putO o.dst (.p ⟨t, l.getD (i : Int).toNat t.dflt⟩)) else none
    | _, _ => none
  | .extract (.tmp i) j => match st.slot i with
    | .tup l => match l[j]? with
      | some (.p d) => some (true, st.putO o.dst (.p d))
      | some (.own t nl s) => some (true, { st with sl := st.sl.set i (.tup (l.set j .dead)) }.putO o.dst (.own t nl s))
      | _ => none
    | _ => none
  | .call c => match c.callee with
    | .builtin b => builtinF E o.dst b c.argTypes.toList (c.args.toList.map (ev st)) st
    | _ => none
  | _ => none

/-- The function that a call enters, its types, its arguments: the captured ones behind the others. -/
def calleeOf (st : St) (o : Oper) : Option (FuncId × List TypeId × List SV) :=
  match o.op with
  | .call c => match c.callee with
    | .value (.func f) => some (f, c.argTypes.toList, c.args.toList.map (ev st))
    | .value x => match ev st x with
      | .clo f caps => some (f, c.argTypes.toList, c.args.toList.map (ev st) ++ caps)
      | _ => none
    | _ => none
  | _ => none

/-- An operation: what must hold, and the state behind it. -/
def opD (E : Env) (D : CallD) (o : Oper) (st : St) : Option (Bool × St) :=
  match calleeOf st o with
  | some (f, Ts, vs) => callS E D o.dst f Ts vs st
  | none => opF E o st

def opK (E : Env) (D : CallD) (o : Oper) (st : St) (k : St → Option R) : Option R :=
  match opD E D o st with
  | some (c, st') => req c (k st')
  | none => none

/-- The slot on which an operation's guard looks. -/
def guardOf (all : List Oper) (o : Oper) : Option (Option (Nat × Bool)) :=
  match o.guard with
  | none => some none
  | some (j, want) => match (all[j]?).bind (·.dst) with
    | some d => some (some (d, want))
    | none => none

/-- One operation under its guard. -/
def opG (E : Env) (D : CallD) (all : List Oper) (o : Oper) (st : St) (k : St → Option R) : Option R :=
  match guardOf all o with
  | some none => opK E D o st k
  | some (some (d, want)) => match st.slot d with
    | .p ⟨.bool, b⟩ =>
      bif b then
        bif want then opK E D o { st with sl := st.sl.set d (.p ⟨.bool, true⟩) } k else k ({ st with sl := st.sl.set d (.p ⟨.bool, true⟩) }.putO o.dst .und)
      else
        bif want then k ({ st with sl := st.sl.set d (.p ⟨.bool, false⟩) }.putO o.dst .und) else opK E D o { st with sl := st.sl.set d (.p ⟨.bool, false⟩) } k
    | .und => k (st.putO o.dst .und)
    | _ => none
  | none => none

def opsK (E : Env) (D : CallD) (all : List Oper) : List Oper → St → (St → Option R) → Option R
  | [], st, k => k st
  | o :: os, st, k => opG E D all o st fun st' => opsK E D all os st' k

/-- On what a value hangs: slots with own slices, boxes. -/
def refs : SV → List Nat
  | .rf h => [h]
  | .rs h _ _ _ => [h]
  | .pe h _ _ _ _ => [h]
  | .pb s _ _ => [s]
  | .clo _ caps => caps.filterMap fun | .pb s _ _ => some s | _ => none
  | _ => []

/-- Is nothing frozen by handing these on? -/
def noHome (vs : List SV) : Bool := (homes vs).isEmpty
end
end Go.Own
