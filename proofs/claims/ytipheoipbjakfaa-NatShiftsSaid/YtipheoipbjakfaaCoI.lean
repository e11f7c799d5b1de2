/- What is proved: the evaluator and its invariant. Conditions: those that each theorem names. -/
import Derived.Test.YtipheoipbjakfaaCoA
set_option linter.unusedVariables false
set_option linter.unusedSimpArgs false
/- Operations as effects; regions whose order is drawn; code. -/
namespace Go.Own

/-- A small step of a state. -/
inductive Pm where
  | set (i : Nat) (v : SV)
  | off (h : Nat)
  | offE (h : Nat)
  | offB (s : Nat)
  | ren (h d : Nat)
  | ins (s : Nat) (d : DV)

def Pm.run : Pm → St → St
  | .set i v, st => { st with sl := st.sl.set i v }
  | .off h, st => { st with sl := st.sl.map (SV.off h) }
  | .offE h, st => { st with sl := st.sl.map (SV.offE h) }
  | .offB s, st => { st with sl := st.sl.map (SV.offB s) }
  | .ren h d, st => { st with sl := st.sl.map (SV.ren h d) }
  | .ins s d, st => st.setBox s d

def runPs : List Pm → St → St
  | [], st => st
  | p :: ps, st => runPs ps (p.run st)

/-- What an operation does: steps, and then a slot is put. -/
structure Ef where
  ps : List Pm
  v : Option SV

def Ef.run (dst : Option Nat) (e : Ef) (st : St) : St := match e.v with
  | some v => (runPs e.ps st).putO dst v
  | none => runPs e.ps st

/-- Own slices that are frozen. -/
def freezePs (st : St) : List Nat → List Nat → List Pm
  | _, [] => []
  | done, h :: hs => bif done.contains h then freezePs st done hs else match st.slot h with
    | .own t _ l => .offE h :: .set h (.p ⟨.sl t, l⟩) :: freezePs st (h :: done) hs
    | _ => freezePs st done hs

def insPs : List Nat → List DV → List Pm
  | s :: ss, d :: ds => .ins s d :: insPs ss ds
  | _, _ => []

def putCE (d : Option Nat) (c : Bool) (v : SV) : Option (Bool × Ef) :=
  match d, v.hang with
  | some d, some h => bif h == d then none else some (c, ⟨[], some v⟩)
  | _, _ => some (c, ⟨[], some v⟩)

def assignP (E : Env) (d : Nat) (T : TypeId) (v : SV) (st : St) : Option Ef :=
  match v with
  | .rf h =>
    if h = d then none else
    match st.slot h with
    | .own t nl l => some ⟨[.off d, .ren h d, .set h (.rf d), .set d (.own t nl l)], none⟩
    | .p x => some ⟨[], some (.p x)⟩
    | _ => none
  | .rs h _ lo n => match st.slot h with
    | .own t nl l => if h = d then some ⟨[.off d, .set d (.own t (nl && decide (n = 0)) ((l.drop lo).take n))], none⟩
      else some ⟨freezePs st [] [h], some (.p ⟨.sl t, (l.drop lo).take n⟩)⟩
    | .p ⟨.sl t, l⟩ => some ⟨[], some (.p ⟨.sl t, (l.drop lo).take n⟩)⟩
    | _ => none
  | .nil => match E.T T with
    | some (.sl t) => some ⟨[], some (.own t true [])⟩
    | _ => none
  | .nilp => match E.T T with
    | some (.ref t) => some ⟨[], some (.p ⟨.ref t, none⟩)⟩
    | _ => none
  | .tup _ => none
  | v => (putCE (some d) true v).map (·.2)

def appendToP (E : Env) (T : TypeId) (u : Ty) (ys : List u.den) (t : Ty) (nl : Bool) (l : List t.den) (ps : List Pm) : Option (Bool × Ef) :=
  if h : u = t then
    bif E.isT T (.sl t) then some (decide ((2 * (l.length + ys.length) + 512) * E.B T ≤ 70368744177664), ⟨ps, some (.own t (nl && ys.isEmpty) (l ++ (h ▸ ys)))⟩) else none
  else none
def appendP (E : Env) (T : TypeId) (x y : SV) (st : St) : Option (Bool × Ef) :=
  match moreOf E st T y with
  | some ⟨u, ys⟩ =>
    match x with
    | .rf g => match st.slot g with
      | .own t nl l => appendToP E T u ys t nl l [.off g, .set g .dead]
      | _ => none
    | .rs g _ lo n => match st.slot g with
      | .own t nl l => appendToP E T u ys t (nl && decide (n = 0)) ((l.drop lo).take n) [.off g, .set g .dead]
      | _ => none
    | .nil => match E.T T with | some (.sl t) => appendToP E T u ys t true [] [] | _ => none
    | _ => none
  | none => none

def builtinP (E : Env) (b : Builtin) (Ts : List TypeId) (vs : List SV) (st : St) : Option (Bool × Ef) :=
  match b, Ts, vs with
  | .len, T :: _, [v] => match lenS E st T v with | some d => some (true, ⟨[], some (.p d)⟩) | none => none
  | .append, [T, T2], [x, y] => match E.T T2 with
    | some (.sl _) => appendP E T x y st
    | some .str => appendP E T x y st
    | _ => none
  | .max, _, v :: r => match maxS true v r with | some d => some (true, ⟨[], some (.p d)⟩) | none => none
  | .min, _, v :: r => match maxS false v r with | some d => some (true, ⟨[], some (.p d)⟩) | none => none
  | _, _, _ => none

/-- A store: where, and what becomes of it. -/
def storeP (st : St) (d : DV) : SV → Option (List Pm)
  | .pb s _ pa => match st.box s with | some b => (setP b.1 b.2 pa d).map fun x => [.ins s ⟨b.1, x⟩] | none => none
  | .pe h _ i _ pa => match st.slot h with
    | .own t nl l => (setP t (l.getD i t.dflt) pa d).map fun x => [.set h (.own t nl (l.set i x))]
    | _ => none
  | _ => none

/-- An operation that is no call of a function, as an effect. -/
def opP (E : Env) (o : Oper) (st : St) : Option (Bool × Ef) :=
  match o.op with
  | .move x => match ev st x with
    | .tup l => bif l.all SV.isP then some (true, ⟨[], some (.tup l)⟩) else match x with
      | .tmp i => some (true, ⟨[.set i .dead], some (.tup l)⟩)
      | _ => none
    | .nil => match dataOf E st o.type .nil with
      | some d => some (true, ⟨[], some (.p d)⟩)
      | none => none
    | .nilp => match dataOf E st o.type .nilp with
      | some d => some (true, ⟨[], some (.p d)⟩)
      | none => none
    | v => putCE o.dst true v
  | .assign x => match o.dst with
    | some d => match assignP E d o.type (ev st x) st with | some e => some (true, e) | none => none
    | none => none
  | .pick c a b => match pickS (ev st c) (ev st a) (ev st b) with
    | some (c, d) => some (c, ⟨[], some (.p d)⟩)
    | none => none
  | .alloc T => match E.T T, o.dst with
    | some t, some d => some (true, ⟨[.offB d, .ins d ⟨t, t.dflt⟩], some (.pb d t [])⟩)
    | _, _ => none
  | .box T x => match dataOf E st T (ev st x), o.dst, E.T T with
    | some v, some d, some t =>
      if v.1 = t then some (true, ⟨freezePs st [] (homes [ev st x]) ++ [.offB d, .ins d v], some (.pb d t [])⟩) else none
    | _, _, _ => none
  | .build T parts => match E.T T with
    | some t => match bif t.isAgg then buildS t.isArr t t.dflt (partsOf E st parts.toList) else none with
      | some y => some (true, ⟨freezePs st [] (homes (parts.toList.map fun (_, x) => ev st x)), some (.p ⟨t, y⟩)⟩)
      | none => none
    | none => none
  | .buildSlice T n parts => match E.T T with
    | some (.sl t) => match bif decide (n * t.size ≤ 16777216) then buildS true (.arr n t) (Ty.arr n t).dflt (partsOf E st parts.toList) else none with
      | some l => some (true, ⟨freezePs st [] (homes (parts.toList.map fun (_, x) => ev st x)), some (.own t false l)⟩)
      | none => none
    | _ => none
  | .load T a => match loadS st (ev st a) with
    | some d => bif E.isT T d.1 then some (true, ⟨[], some (.p d)⟩) else none
    | none => none
  | .store T a x => match (match o.dst with | none => dataOf E st T (ev st x) | some _ => none) with
    | some d => bif E.isT T d.1 && noHome [ev st x] then
        match storeP st d (ev st a) with | some ps => some (true, ⟨ps, none⟩) | none => none
      else none
    | none => none
  | .nilCheck x => match ev st x with
    | .pb s t pa => some (true, ⟨[], some (.pb s t pa)⟩)
    | .pe h t0 i t pa => putCE o.dst true (.pe h t0 i t pa)
    | .clo f caps => some (true, ⟨[], some (.clo f caps)⟩)
    | .p ⟨.ref t, some x⟩ => some (true, ⟨[], some (.p ⟨.ref t, some x⟩)⟩)
    | _ => none
  | .binOp op T x y _ => match binop st (E.T T) op (ev st x) (ev st y) with
    | some (c, d) => some (c, ⟨[], some (.p d)⟩)
    | none => none
  | .unOp op _ x => match unop op (ev st x) with
    | some d => some (true, ⟨[], some (.p d)⟩)
    | none => none
  | .convert S T x => match E.T S, E.T T with
    | some .str, some .str => match ev st x with
      | .p ⟨.str, s⟩ => some (true, ⟨[], some (.p ⟨.str, s⟩)⟩)
      | _ => none
    | some (.sl (.int .u8)), some .str => match seqOf st (ev st x) with
      | some ⟨.int .u8, l⟩ => some (true, ⟨[], some (.p ⟨.str, bytesOf l⟩)⟩)
      | _ => none
    | some s, some t => match convS s t (ev st x) with
      | some v => some (true, ⟨[], some v⟩)
      | none => none
    | _, _ => none
  | .makeFunc (.func f) first caps => match bif first.toList.isEmpty then caps.toList.mapM (fun x => capS E st (ev st x)) else none with
    | some cs => some (true, ⟨freezePs st [] (homes (caps.toList.map (ev st))), some (.clo f cs)⟩)
    | none => none
  | .makeSlice T l c => match E.T T, ev st l, ev st c with
    | some (.sl t), .p ⟨.int _, l⟩, .p ⟨.int _, c⟩ =>
      some (decide (0 ≤ (l : Int)) && decide ((l : Int) ≤ c) && decide ((c : Int) * E.B T ≤ 70368744177664),
        ⟨[], some (.own t false (List.replicate (l : Int).toNat t.dflt))⟩)
    | _, _, _ => none
  | .slice T x lo hi none => match sliceS st (ev st x) (lo.map (ev st)) (hi.map (ev st)) with
    | some (c, v, t) => bif E.isT T t then putCE o.dst c v else none
    | none => none
  | .fieldAddr T x f => match partOf (fieldPath f) (ev st x), targetOf (ev st x) with
    | some v, some t => bif E.isT T t && nzT v then putCE o.dst true v else none
    | _, _ => none
  | .field T x f => match ev st x with
    | .p d => match getP d.1 d.2 (fieldPath f) with
      | some r => bif E.isT T d.1 then some (true, ⟨[], some (.p r)⟩) else none
      | none => none
    | _ => none
  | .indexAddr T x i => match idxAddr E st T (ev st x) (ev st i) with
    | some (c, v) => putCE o.dst c v
    | none => none
  | .index T x i => match ev st x, ev st i with
    | .p ⟨.str, s⟩, .p ⟨.int _, i⟩ => bif E.isT T .str then
        some (decide (0 ≤ (i : Int)) && decide ((i : Int) < s.size), ⟨[], some (.p ⟨.int .u8, ((s.data.getD (i : Int).toNat 0).toNat : Int)⟩)⟩) else none
    | .p ⟨.arr n t, l⟩, .p ⟨.int _, i⟩ => bif E.isT T (.arr n t) then
        some (decide (0 ≤ (i : Int)) && decide ((i : Int) < n), ⟨[], some (.p ⟨t, l.getD (i : Int).toNat t.dflt⟩)⟩) else none
    | _, _ => none
  | .extract (.tmp i) j => match st.slot i with
    | .tup l => match l[j]? with
      | some (.p d) => some (true, ⟨[], some (.p d)⟩)
      | some (.own t nl s) => some (true, ⟨[.set i (.tup (l.set j .dead))], some (.own t nl s)⟩)
      | _ => none
    | _ => none
  | .call c => match c.callee with
    | .builtin b => builtinP E b c.argTypes.toList (c.args.toList.map (ev st)) st
    | _ => none
  | _ => none

def callP (E : Env) (D : CallD) (f : FuncId) (Ts : List TypeId) (vs : List SV) (st : St) : Option (Bool × Ef) :=
  match argsOf E st (sitesOf vs []) Ts vs, (sitesOf vs []).mapM st.box with
  | some as, some bs => match D f as bs with
    | some (c, r) => some (c, ⟨(bif r.1.all RV.flat && r.2.all (·.1.flat) then [] else freezePs st [] (homes vs)) ++ insPs (sitesOf vs []) r.2, some (resOf r.1)⟩)
    | none => none
  | _, _ => none

def SV.capOK : SV → Bool
  | .pb .. => true
  | .p _ => true
  | _ => false
/-- What a function value took along is data, or pointers. -/
def capsOK (st : St) (o : Oper) : Bool :=
  match o.op with
  | .call c => match c.callee with
    | .value x => match ev st x with
      | .clo _ caps => caps.all SV.capOK
      | _ => true
    | _ => true
  | _ => true
def opPD (E : Env) (D : CallD) (o : Oper) (st : St) : Option (Bool × Ef) :=
  match calleeOf st o with
  | some (f, Ts, vs) => bif capsOK st o then callP E D f Ts vs st else none
  | none => opP E o st

/-! ### What an operation looks at, and what it turns -/
structure Rec where
  rd : List Nat      -- the slots at which it looks
  rb : List Nat      -- the boxes
  rv : List Nat      -- on what the values hang that it sees
  ded : Bool         -- does it see one of which nothing is known?
  ws : List Nat      -- the slots that it sets
  wb : List Nat
  wr : List Nat      -- on what the values hang that it sets
  tc : List Nat      -- what is no longer known to hang on these
  deriving Inhabited

def Pm.ws : Pm → List Nat
  | .set i _ => [i]
  | _ => []
def Pm.wb : Pm → List Nat
  | .ins s _ => [s]
  | _ => []
def Pm.wr : Pm → List Nat
  | .set _ v => refs v
  | _ => []
def Pm.tc : Pm → List Nat
  | .off h => [h]
  | .offE h => [h]
  | .offB s => [s]
  | .ren h d => [h, d]
  | _ => []

def tmpsIn (xs : List Operand) : List Nat := xs.filterMap fun | .tmp t => some t | _ => none
def SV.isData : SV → Bool
  | .p _ => true
  | _ => false
/-- The operands at which an operation looks. -/
def looks (o : Oper) (st : St) : List Operand :=
  match o.op with
  | .pick c a b => c :: [a, b].filter fun x => (ev st x).isData
  | op => op.operands.toList

def SV.isDead : SV → Bool
  | .dead => true
  | _ => false

/-- All steps of an effect. -/
def fullPs (dst : Option Nat) (e : Ef) (st : St) : List Pm := match e.v, dst with
  | some v, some d => e.ps ++ (bif ((runPs e.ps st).slot d).isHome then [.off d, .set d v] else [.set d v])
  | _, _ => e.ps

def recOf (o : Oper) (g : List Nat) (xs all : List Operand) (st : St) (ps : List Pm) : Rec :=
  let hs := xs.flatMap fun x => refs (ev st x)
  let sn := g ++ tmpsIn xs ++ hs
  { rd := o.dst.toList ++ g ++ tmpsIn all ++ hs, rb := hs, rv := sn.flatMap fun i => refs (st.slot i), ded := sn.any fun i => (st.slot i).isDead,
    ws := ps.flatMap Pm.ws, wb := ps.flatMap Pm.wb, wr := ps.flatMap Pm.wr, tc := ps.flatMap Pm.tc }

def disj (a b : List Nat) : Bool := a.all fun x => !b.any (Nat.beq x)

/-- Two operations, one behind the other, of which either may be the first. -/
def indep (j i : Rec) : Bool :=
  disj j.ws i.rd && disj j.ws i.ws && disj i.ws j.rd && disj j.wb i.rb && disj j.wb i.wb && disj i.wb j.rb &&
  disj j.tc i.rv && disj j.tc i.wr && disj j.tc i.tc && disj i.tc j.rv && disj i.tc j.wr && (j.tc.isEmpty || !i.ded)

/-- What stands ahead of each operation, by bits. -/
def aheads (ops : List Oper) : List Nat :=
  ops.foldl (fun acc o => acc ++ [o.after.toList.foldl (fun s e => bif Region.binds .any e then s ||| 2 ^ e.on ||| acc.getD e.on 0 else s) 0]) []

section
variable {R : Type}

/-- One operation of a region whose order is drawn. -/
def drawOp (E : Env) (D : CallD) (all : List Oper) (o : Oper) (st : St) (k : Rec → List Pm → St → Option R) : Option R :=
  let go (g : List Nat) (st : St) : Option R := match opPD E D o st with
    | some (c, e) => req c (k (recOf o g (looks o st) o.op.operands.toList st (fullPs o.dst e st)) (fullPs o.dst e st) st)
    | none => none
  let skip (g : Nat) (st : St) : Option R := k (recOf o [g] [] [] st (fullPs o.dst ⟨[], some .und⟩ st)) (fullPs o.dst ⟨[], some .und⟩ st) st
  match guardOf all o with
  | some none => go [] st
  | some (some (d, want)) => match st.slot d with
    | .p ⟨.bool, b⟩ =>
      bif b then
        bif want then go [d] { st with sl := st.sl.set d (.p ⟨.bool, true⟩) } else skip d { st with sl := st.sl.set d (.p ⟨.bool, true⟩) }
      else
        bif want then skip d { st with sl := st.sl.set d (.p ⟨.bool, false⟩) } else go [d] { st with sl := st.sl.set d (.p ⟨.bool, false⟩) }
    | .und => skip d st
    | _ => none
  | none => none

def drawK (E : Env) (D : CallD) (all : List Oper) (ah : List Nat) : List (Nat × Oper) → List (Nat × Rec) → St → (St → Option R) → Option R
  | [], _, st, k => k st
  | (i, o) :: os, acc, st, k => drawOp E D all o st fun r ps st' =>
      bif acc.all (fun p => (ah.getD i 0).testBit p.1 || indep p.2 r) then drawK E D all ah os ((i, r) :: acc) (runPs ps st') k else none

def numbered : Nat → List Oper → List (Nat × Oper)
  | _, [] => []
  | n, o :: os => (n, o) :: numbered (n + 1) os

/-- Edges that bind lead back. -/
def backs (ops : List (Nat × Oper)) : Bool := ops.all fun p => p.2.after.toList.all fun e => !Region.binds .any e || Nat.blt e.on p.1

def regionK (E : Env) (D : CallD) (ops : List Oper) (st : St) (k : St → Option R) : Option R :=
  bif backs (numbered 0 ops) then drawK E D ops (aheads ops) (numbered 0 ops) [] st k else none

inductive Ex where
  | normal
  | exit (id : Nat)
  | ret

/-- A loop is told by its body: what goes on behind it. -/
abbrev LoopK (R : Type) := Nat → Code → St → (Ex → St → Option R) → Option R

def codeK (E : Env) (D : CallD) (loop : LoopK R) : Code → St → (Ex → St → Option R) → Option R
  | .skip, st, k => k .normal st
  | .label _, st, k => k .normal st
  | .region _ ops drawn, st, k => bif drawn then regionK E D ops.toList st (k .normal) else opsK E D ops.toList ops.toList st (k .normal)
  | .seq a b, st, k => codeK E D loop a st fun ex st' => match ex with
    | .normal => codeK E D loop b st' k
    | ex => k ex st'
  | .cond c a b, st, k => match ev st c with
    | .p ⟨.bool, c⟩ => bif c then codeK E D loop a st k else codeK E D loop b st k
    | _ => none
  | .block id a, st, k => codeK E D loop a st fun ex st' => match ex with
    | .exit i => bif i == id then k .normal st' else k (.exit i) st'
    | ex => k ex st'
  | .loop a, st, k => loop 0 a st k
  | .scope a, st, k => codeK E D loop a st k
  | .exit id, st, k => k (.exit id) st
  | .ret, st, k => k .ret st
  | _, _, _ => none

def loopN (body : St → (Ex → St → Option R) → Option R) : Nat → St → (Ex → St → Option R) → Option R
  | 0, _, _ => none
  | n + 1, st, k => body st fun ex st' => match ex with
    | .normal => loopN body n st' k
    | ex => k ex st'
end
end Go.Own

/- The abstract interpreter, continued: a program's types as data types; a call's beginning and end; calls by running. -/
namespace Go.Own

/-- The data type of a program's type. -/
def tyFields (tyf : TypeId → Option Ty) : List Field → Nat → Option Ty
  | [], _ => some .unit
  | f :: fs, off =>
    if f.offset = off then
      match tyf f.type with
      | some a => match tyFields tyf fs (off + a.size) with
        | some b => some (.pair a b)
        | none => none
      | none => none
    else none

/-- The zero value's cells. -/
def Ty.zcells : Ty → List Value
  | .int k => [.int k 0]
  | .bool => [.bool false]
  | .str => [.string ⟨#[]⟩]
  | .flt => [.float .f64 0]
  | .unit => []
  | .pair a b => a.zcells ++ b.zcells
  | .arr n t => (List.replicate n t.zcells).flatten
  | .sl _ => [.slice none 0 0]
  | .ref _ => [.pointer none]

def zeroCell : Value → Value → Bool
  | .int k a, .int k' b => decide (k = k') && decide (a = b)
  | .bool a, .bool b => a == b
  | .string a, .string b => a.data.toList.isEmpty && b.data.toList.isEmpty
  | .float .f64 a, .float .f64 b => a == b
  | .slice none 0 0, .slice none 0 0 => true
  | .pointer none, .pointer none => true
  | _, _ => false
def zeroCells : List Value → List Value → Bool
  | [], [] => true
  | a :: as, b :: bs => zeroCell a b && zeroCells as bs
  | _, _ => false

/-- The type's size, and its zero value. -/
def infoOK (P : Program) (T : TypeId) (t : Ty) : Bool :=
  match P.info? T with
  | some i => i.size == t.size && match i.zero with | some z => zeroCells z.cells.toList t.zcells | none => false
  | none => false

def okTy (P : Program) (T : TypeId) (t : Ty) : Option Ty := bif infoOK P T t then some t else none

def tyOf (P : Program) : Nat → TypeId → Option Ty
  | 0, _ => none
  | n + 1, T =>
    match P.underlying T with
    | some (.int k) => okTy P T (.int k)
    | some .bool => okTy P T .bool
    | some .string => okTy P T .str
    | some (.float .f64) => okTy P T .flt
    | some (.array m e) => match tyOf P n e with | some a => okTy P T (.arr m a) | none => none
    | some (.struct fs) => match tyFields (tyOf P n) fs.toList 0 with
      | some a => bif P.stoodInHeld T || fs.toList.any (fun f => decide (f.name = "_")) then none else okTy P T a
      | none => none
    | some (.slice e) => match tyOf P n e with | some a => okTy P T (.sl a) | none => none
    | some (.pointer e) => match tyOf P n e with | some a => okTy P T (.ref a) | none => none
    | _ => none

def site (j : Nat) : Nat := 1000000 + j

def avSV : AV → SV
  | .val d => .p d
  | .xp j t pa => .pb (site j) t pa
  | .clo f caps => .clo f (caps.map fun (c : AV) => match c with | .val d => .p d | .xp j t pa => .pb (site j) t pa | .clo _ _ => .dead)

def boxesOf : Nat → List DV → List (Nat × DV)
  | _, [] => []
  | j, d :: ds => (site j, d) :: boxesOf (j + 1) ds

def st0 (n : Nat) (as : List AV) (bs : List DV) : St := ⟨as.map avSV ++ List.replicate (n - as.length) .dead, boxesOf 0 bs⟩

/-- A result variable: its own slice's slot, and what it is. -/
def resultOf (st : St) : ResultVar → Option (Option Nat × RV)
  | .tmp t => match st.slot t with
    | .p d => some (none, .val d)
    | .own u nl l => some (some t, .own u nl l)
    | .rf h => match st.slot h with
      | .own u nl l => some (some h, .own u nl l)
      | .p d => some (none, .val d)
      | _ => none
    | _ => none
  | .cell a T => match loadS st (st.slot a) with
    | some d => some (none, .val d)
    | none => none

def resultsOf (st : St) : List ResultVar → Option (List (Option Nat × RV))
  | [] => some []
  | r :: rs => match resultOf st r, resultsOf st rs with
    | some x, some xs => some (x :: xs)
    | _, _ => none

/-- No slot's own slice is handed on twice. -/
def apart : List (Option Nat × RV) → Bool
  | [] => true
  | (none, _) :: r => apart r
  | (some h, _) :: r => !(r.any fun x => x.1 == some h) && apart r

def extOf (st : St) : Nat → Nat → Option (List DV)
  | _, 0 => some []
  | j, n + 1 => match st.box (site j), extOf st (j + 1) n with
    | some d, some ds => some (d :: ds)
    | _, _ => none

section
variable {R : Type}

/-- A result variable that is a box: its type. -/
def cellOK (E : Env) (st : St) : ResultVar → Bool
  | .cell a T => match loadS st (st.slot a) with | some d => E.isT T d.1 | none => false
  | .tmp _ => true

def leaveK (E : Env) (results : List ResultVar) (bs : List DV) : Ex → St → Option Res
  | .exit _, _ => none
  | _, st => match resultsOf st results, extOf st 0 bs.length with
    | some rs, some ds => bif apart rs && decide (ds.map (·.1) = bs.map (·.1)) && results.all (cellOK E st) then some (rs.map (·.2), ds) else none
    | _, _ => none

def enterK (E : Env) (D : CallD) (loop : LoopK Res) (fn : Func) (c : Code) (as : List AV) (bs : List DV) : Option Res :=
  bif as.length ≤ fn.ntmps then codeK E D loop c (st0 fn.ntmps as bs) (leaveK E fn.results.toList bs) else none

/-- Functions without a text: the carry of a sum, of a difference. -/
def externD (name : String) (as : List AV) (bs : List DV) : Option (Bool × Res) :=
  match as with
  | [.val ⟨.int .u64, x⟩, .val ⟨.int .u64, y⟩, .val ⟨.int .u64, c⟩] =>
    bif name == "math/bits.Add64" then
      some (decide (0 ≤ (x : Int)) && decide (0 ≤ (y : Int)) && decide (0 ≤ (c : Int)) && decide ((c : Int) ≤ 1),
        ([.val ⟨.int .u64, ((x : Int) + y + c) % 18446744073709551616⟩, .val ⟨.int .u64, ((x : Int) + y + c) / 18446744073709551616⟩], bs))
    else bif name == "math/bits.Sub64" then
      some (decide (0 ≤ (x : Int)) && decide (0 ≤ (y : Int)) && decide ((y : Int) < 18446744073709551616) && decide (0 ≤ (c : Int)) && decide ((c : Int) ≤ 1),
        ([.val ⟨.int .u64, ((x : Int) - y - c) % 18446744073709551616⟩, .val ⟨.int .u64, (bif decide ((x : Int) < y + c) then (1 : Int) else 0)⟩], bs))
    else none
  | _ => none

/-! ### Loops -/
/-- The number of the first region of code, and one. -/
def rid : Code → Nat
  | .region id _ _ => id + 1
  | .seq a b => match rid a with | 0 => rid b | n + 1 => n + 1
  | .cond _ a b => match rid a with | 0 => rid b | n + 1 => n + 1
  | .block _ a => rid a
  | .loop a => rid a
  | .scope a => rid a
  | _ => 0

inductive LE (R : Type) where
  | typed (L : St → (Ex → St → Option R) → Option R)
  | unroll (q : Nat)

def findL {α : Type} : List (Nat × α) → Nat → Option α
  | [], _ => none
  | (i, a) :: r, n => bif Nat.beq i n then some a else findL r n

/-- The loops of a function: some are told, the others are run. -/
def loopX (E : Env) (D : CallD) (tab : List (Nat × LE R)) : Nat → LoopK R
  | 0 => fun _ _ _ _ => none
  | m + 1 => fun _ body st k => match findL tab (rid body) with
    | some (.typed L) => L st k
    | some (.unroll q) => loopN (fun st k => codeK E D (loopX E D tab m) body st k) q st k
    | none => loopN (fun st k => codeK E D (loopX E D tab m) body st k) 64 st k

end

def capIn (bs : List Nat) : SV → Bool
  | .pb s _ _ => bs.any (Nat.beq s)
  | _ => true
/-- What is kept of a state. -/
def keepV (ls bs : List Nat) : SV → SV
  | .rf h => bif ls.any (Nat.beq h) then .rf h else .dead
  | .rs h t lo n => bif ls.any (Nat.beq h) then .rs h t lo n else .dead
  | .pe h t0 i t pa => bif ls.any (Nat.beq h) then .pe h t0 i t pa else .dead
  | .pb s t pa => bif bs.any (Nat.beq s) then .pb s t pa else .dead
  | .clo f caps => bif caps.all (capIn bs) then .clo f caps else .dead
  | v => v
def forgetSl (ls bs : List Nat) : List SV → Nat → List SV
  | [], _ => []
  | v :: r, i => (bif ls.any (Nat.beq i) then keepV ls bs v else .dead) :: forgetSl ls bs r (i + 1)
def St.forget (ls bs : List Nat) (st : St) : St := ⟨forgetSl ls bs st.sl 0, bs.filterMap fun s => (st.box s).map fun d => (s, d)⟩

/-- What a slot holds at a loop's head. -/
inductive Sh where
  | p (t : Ty)
  | own (t : Ty)
  | rf (h : Nat)
  | pb (s : Nat) (t : Ty) (pa : Path)
  | clo (f : FuncId) (caps : List (Nat × Ty))

@[reducible] def Sh.den : Sh → Type
  | .p t => t.den
  | .own t => Bool × List t.den
  | _ => Unit
@[reducible] def ShX : List (Nat × Sh) → Type
  | [] => Unit
  | (_, s) :: r => s.den × ShX r
@[reducible] def BxX : List (Nat × Ty) → Type
  | [] => Unit
  | (_, t) :: r => t.den × BxX r

def Sh.inj : (s : Sh) → s.den → SV
  | .p t, x => .p ⟨t, x⟩
  | .own t, x => .own t x.1 x.2
  | .rf h, _ => .rf h
  | .pb s t pa, _ => .pb s t pa
  | .clo f caps, _ => .clo f (caps.map fun c => .pb c.1 c.2 [])
def injV : (sh : List (Nat × Sh)) → ShX sh → Nat → SV
  | [], _, _ => .dead
  | (i, s) :: r, x, j => bif Nat.beq i j then s.inj x.1 else injV r x.2 j
def injSl (sh : List (Nat × Sh)) (x : ShX sh) : Nat → Nat → List SV
  | 0, _ => []
  | n + 1, i => injV sh x i :: injSl sh x n (i + 1)
def injBx : (bx : List (Nat × Ty)) → BxX bx → List (Nat × DV)
  | [], _ => []
  | (s, t) :: r, y => (s, ⟨t, y.1⟩) :: injBx r y.2
def inj (n : Nat) (sh : List (Nat × Sh)) (bx : List (Nat × Ty)) (x : ShX sh) (y : BxX bx) : St := ⟨injSl sh x n 0, injBx bx y⟩

def sameCaps : List SV → List (Nat × Ty) → Bool
  | [], [] => true
  | .pb s t [] :: r, (s', t') :: q => Nat.beq s s' && decide (t = t') && sameCaps r q
  | _, _ => false
def Sh.proj : (s : Sh) → SV → Option s.den
  | .p t, .p ⟨u, x⟩ => if h : u = t then some (h ▸ x) else none
  | .own t, .own u nl l => if h : u = t then some (nl, h ▸ l) else none
  | .rf h, .rf g => bif Nat.beq h g then some () else none
  | .pb s t pa, .pb s' t' pa' => match pa, pa' with | [], [] => bif Nat.beq s s' && decide (t = t') then some () else none | _, _ => none
  | .clo f caps, .clo g cs => bif Nat.beq f g && sameCaps cs caps then some () else none
  | _, _ => none
def projS (st : St) : (sh : List (Nat × Sh)) → Option (ShX sh)
  | [] => some ()
  | (i, s) :: r => match s.proj (st.slot i), projS st r with
    | some x, some y => some (x, y)
    | _, _ => none
def projB (st : St) : (bx : List (Nat × Ty)) → Option (BxX bx)
  | [] => some ()
  | (s, t) :: r => match st.box s, projB st r with
    | some ⟨u, x⟩, some y => if h : u = t then some (h ▸ x, y) else none
    | _, _ => none

/-- A loop by what it comes to. -/
def loopT {R : Type} (n : Nat) (sh : List (Nat × Sh)) (bx : List (Nat × Ty)) (F : ShX sh → BxX bx → (Ex → ShX sh → BxX bx → Option R) → Option R) (st : St) (k : Ex → St → Option R) : Option R :=
  match projS st sh, projB st bx with
  | some x, some y => F x y fun ex x' y' => k ex (inj n sh bx x' y')
  | _, _ => none

/-- A call by its run. -/
def callF (P : Program) (E : Env) (q : Nat) : Nat → CallD
  | 0 => fun _ _ _ => none
  | n + 1 => fun f as bs => match P.funcs[f]? with
    | some fn => match fn.body with
      | some c => match enterK E (callF P E q n) (loopX E (callF P E q n) [] q) fn c as bs with | some r => some (true, r) | none => none
      | none => externD fn.name as bs
    | none => none
end Go.Own

/- How the abstract state stands to memory. -/
namespace Go.Own

/-- The tokens: which block is a box's, a slot's own slice's, a result's own slice's. -/
inductive Key where
  | box (s : Nat)
  | sl (i : Nat)
  | tc (i j : Nat)
  deriving DecidableEq
abbrev Tok := Key → Option Nat

/-- Block b holds these cells, none of which is frozen. -/
def Blk (w : World) (b : Nat) (cs : List Value) : Prop :=
  ∃ (c : Array Value) (e : TypeId) (fr : Nat × Nat), w.heap[b]? = some (.cells c e fr) ∧ c.toList = cs ∧ ∀ o, o < c.size → ¬ (fr.1 ≤ o ∧ o < fr.2)

def BoxRep (w : World) (I : Nat → Prop) (b : Nat) (d : DV) : Prop := ∃ cs, Blk w b cs ∧ cellsRep w I d.1 d.2 cs

/-- A row of elements in a block, from o on, with room for cap. -/
def OwnRep (w : World) (I : Nat → Prop) (b o cap : Nat) (t : Ty) (l : List t.den) : Prop :=
  ∃ cs, Blk w b cs ∧ o + cap * t.size ≤ cs.length ∧ ∀ i x, l[i]? = some x → ∃ c, cellsRep w I t x c ∧ ∀ j v, c[j]? = some v → cs[o + i * t.size + j]? = some v

/-- Where the part at a path lies, in cells. -/
def pathAt : Ty → Path → Option (Nat × Ty)
  | t, [] => some (0, t)
  | .pair a _, .fst :: p => pathAt a p
  | .pair a b, .snd :: p => (pathAt b p).map fun r => (a.size + r.1, r.2)
  | .arr _ t, .ix i :: p => (pathAt t p).map fun r => (i * t.size + r.1, r.2)
  | _, _ => none
/-- Each index is in its range. -/
def pathIn : Ty → Path → Prop
  | _, [] => True
  | .pair a _, .fst :: p => pathIn a p
  | .pair _ b, .snd :: p => pathIn b p
  | .arr n t, .ix i :: p => i < n ∧ pathIn t p
  | _, _ => False

/-- A slot's own slice. -/
def ownVal (w : World) (I : Nat → Prop) (tk : Option Nat) (t : Ty) (nl : Bool) (l : List t.den) (v : Value) : Prop :=
  ∃ ad cap, v = .slice ad l.length cap ∧ (nl = true ↔ ad = none) ∧ l.length ≤ cap ∧
    ((tk = none ∧ cap = 0) ∨ ∃ b o, tk = some b ∧ ad = some ⟨b, o, none⟩ ∧ OwnRep w I b o cap t l)

/-- A captured value. -/
def capRep (w : World) (I : Nat → Prop) (tok : Tok) (st : St) : SV → Value → Prop
  | .p d, v => valRep w I d.1 d.2 v
  | .pb s t pa, v => ∃ b off d, tok (.box s) = some b ∧ st.box s = some d ∧ pathAt d.1 pa = some (off, t) ∧ pathIn d.1 pa ∧ v = .pointer (some ⟨b, off, none⟩)
  | _, _ => False

/-- A result among several. -/
def compRep (w : World) (I : Nat → Prop) (tok : Tok) (i j : Nat) : SV → Value → Prop
  | .p d, v => valRep w I d.1 d.2 v
  | .own t nl l, v => ownVal w I (tok (.tc i j)) t nl l v
  | .dead, _ => True
  | _, _ => False

/-- What a slot holds, and the value there. -/
def SRep (w : World) (I : Nat → Prop) (tok : Tok) (st : St) (tm : Array Value) (i : Nat) : SV → Value → Prop
  | .p d, v => valRep w I d.1 d.2 v
  | .own t nl l, v => ownVal w I (tok (.sl i)) t nl l v
  | .rf h, v => (st.slot h).isHome = true ∧ v = tm.getD h undef
  | .rs h t lo n, v => (st.slot h).isHome = true ∧ (∀ u nl l, st.slot h = .own u nl l → u = t ∧ lo + n ≤ l.length) ∧ (∀ u l, st.slot h = .p ⟨.sl u, l⟩ → u = t ∧ lo + n ≤ l.length) ∧
      ∃ ad len cap ad', tm.getD h undef = .slice ad len cap ∧ v = .slice ad' n (cap - lo) ∧ (lo < cap → ad' = ad.map (·.add (lo * t.size))) ∧ (ad' = none ↔ ad = none)
  | .pb s t pa, v => capRep w I tok st (.pb s t pa) v
  | .pe h t0 k t pa, v => (∃ nl l, st.slot h = .own t0 nl l ∧ k < l.length) ∧ ∃ b o len cap off, tok (.sl h) = some b ∧ tm.getD h undef = .slice (some ⟨b, o, none⟩) len cap ∧
      pathAt t0 pa = some (off, t) ∧ pathIn t0 pa ∧ v = .pointer (some ⟨b, o + k * t0.size + off, none⟩)
  | .clo f caps, v => ∃ vs : Array Value, v = .func (.func f) #[] vs ∧ vs.size = caps.length ∧ ∀ (j : Nat) (c : SV) (x : Value), caps[j]? = some c → vs[j]? = some x → capRep w I tok st c x
  | .tup l, v => ∃ vs : Array Value, v = .tuple vs ∧ vs.size = l.length ∧ ∀ (j : Nat) (c : SV) (x : Value), l[j]? = some c → vs[j]? = some x → compRep w I tok i j c x
  | .nil, _ => False
  | .nilp, _ => False
  | .dead, _ => True
  | .und, v => v = undef

/-- The world of a call: from w0 on, with the boxes xs that were handed on; I0 was frozen. -/
structure Inv (w0 : World) (I0 : Nat → Prop) (xs : List Nat) (st : St) (tm : Array Value) (w : World) (I : Nat → Prop) (tok : Tok) : Prop where
  len : st.sl.length = tm.size
  small : st.sl.length ≤ 1000000
  slots : ∀ i, i < st.sl.length → SRep w I tok st tm i (st.slot i) (tm.getD i undef)
  boxes : ∀ s d, st.box s = some d → ∃ b, tok (.box s) = some b ∧ BoxRep w I b d
  inj : ∀ k k' b, tok k = some b → tok k' = some b → k = k'
  tokLt : ∀ k b, tok k = some b → b < w.heap.size
  tokI : ∀ k b, tok k = some b → ¬ I b
  ilt : ∀ b, I b → b < w.heap.size
  fresh : ∀ k b, tok k = some b → w0.heap.size ≤ b ∨ b ∈ xs
  ext : ∀ j x, xs[j]? = some x → tok (.box (site j)) = some x
  keep : ∀ b, b < w0.heap.size → b ∉ xs → w.heap[b]? = w0.heap[b]?
  size : w0.heap.size ≤ w.heap.size
  os : w.os = w0.os
  output : w.output = w0.output
  tape : w.tape = w0.tape
  sub : ∀ b, I0 b → I b
  new : ∀ b, I b → I0 b ∨ w0.heap.size ≤ b

theorem slot_set (st : St) (d i : Nat) (v : SV) (hd : d < st.sl.length) : ({ st with sl := st.sl.set d v } : St).slot i = if i = d then v else st.slot i := by
  unfold St.slot
  simp only [List.getD_eq_getElem?_getD, List.getElem?_set]
  by_cases h : d = i
  · subst h; simp [hd]
  · have h' : ¬ i = d := fun e => h e.symm
    simp [h, h']

theorem slot_map (st : St) (f : SV → SV) (hf : f .dead = .dead) (i : Nat) : ({ st with sl := st.sl.map f } : St).slot i = f (st.slot i) := by
  unfold St.slot
  simp only [List.getD_eq_getElem?_getD, List.getElem?_map]
  cases st.sl[i]? <;> simp [hf]

theorem slot_ge (st : St) (i : Nat) (h : st.sl.length ≤ i) : st.slot i = .dead := by
  unfold St.slot
  simp [List.getD_eq_getElem?_getD, List.getElem?_eq_none h]

theorem getD_set (tm : Array Value) (d i : Nat) (v : Value) (hd : d < tm.size) : (tm.setIfInBounds d v).getD i undef = if i = d then v else tm.getD i undef := by
  by_cases h : i = d
  · subst h; simp [hd]
  · have h' : ¬ d = i := fun e => h e.symm
    simp [Array.getElem?_setIfInBounds_ne h', h]

/-- A slot that hangs on d. -/
def SV.onH (d : Nat) : SV → Prop
  | .rf h => h = d
  | .rs h _ _ _ => h = d
  | .pe h _ _ _ _ => h = d
  | _ => False

theorem off_not_on (d : Nat) (v : SV) : ¬ (SV.off d v).onH d := by
  cases v <;> simp only [SV.off] <;> (try split) <;> simp only [SV.onH, not_false_eq_true] <;> assumption

theorem off_eq (d : Nat) (v : SV) : SV.off d v = v ∨ (SV.off d v = .dead ∧ v.onH d) := by
  cases v <;> simp only [SV.off, true_or] <;> split <;> simp only [SV.onH, true_or] <;> (right; exact ⟨trivial, by assumption⟩)

/-- A slot turns where nothing hangs on it: the others stand. -/
theorem SRep.other {w : World} {I : Nat → Prop} {tok tok' : Tok} {st st' : St} {tm tm' : Array Value} {i : Nat} {s : SV} {v : Value} (d : Nat)
    (hslot : ∀ h, h ≠ d → st'.slot h = st.slot h) (hbx : st'.bx = st.bx) (htm : ∀ h, h ≠ d → tm'.getD h undef = tm.getD h undef)
    (htb : ∀ s, tok' (.box s) = tok (.box s)) (htc : ∀ j, tok' (.tc i j) = tok (.tc i j)) (hts : ∀ h, h ≠ d → tok' (.sl h) = tok (.sl h)) (hid : i ≠ d)
    (hon : ¬ s.onH d) (h : SRep w I tok st tm i s v) : SRep w I tok' st' tm' i s v := by
  have hbox : ∀ s, st'.box s = st.box s := fun s => by simp [St.box, hbx]
  have hcap : ∀ c x, capRep w I tok st c x → capRep w I tok' st' c x := by
    intro c x hc
    cases c <;> simp only [capRep] at hc ⊢ <;> first | exact hc | skip
    simpa [htb, hbox] using hc
  cases s with
  | p e => simp only [SRep] at h ⊢; exact h
  | own t nl l => simp only [SRep] at h ⊢; rwa [hts i hid]
  | rf g => simp only [SRep] at h ⊢; simp only [SV.onH] at hon; rw [hslot g hon, htm g hon]; exact h
  | rs g t lo n => simp only [SRep] at h ⊢; simp only [SV.onH] at hon; rw [hslot g hon, htm g hon]; exact h
  | pb s t pa => simp only [SRep] at h ⊢; exact hcap _ _ h
  | pe g t0 k t pa => simp only [SRep] at h ⊢; simp only [SV.onH] at hon; rw [hslot g hon, htm g hon, hts g hon]; exact h
  | nil => simp only [SRep] at h
  | nilp => simp only [SRep] at h
  | clo f caps => simp only [SRep] at h ⊢; obtain ⟨vs, e, hl, hc⟩ := h; exact ⟨vs, e, hl, fun j c x h1 h2 => hcap c x (hc j c x h1 h2)⟩
  | tup l =>
    simp only [SRep] at h ⊢
    obtain ⟨vs, e, hl, hc⟩ := h
    refine ⟨vs, e, hl, fun j c x h1 h2 => ?_⟩
    have := hc j c x h1 h2
    cases c <;> simp only [compRep] at this ⊢ <;> first | exact this | skip
    rwa [htc j]
  | dead => simp only [SRep]
  | und => first | exact this | exact h | exact hr | exact hs | exact hv | (simp only [SRep] at *; assumption)
end Go.Own

/- The invariant: a slot is put; the world grows. -/
namespace Go.Own

theorem Blk.of_block {w w' : World} {b : Nat} {cs : List Value} (h : Blk w b cs) (hb : w'.heap[b]? = w.heap[b]?) : Blk w' b cs := by
  unfold Blk at *; rw [hb]; exact h

theorem OwnRep.world {w w' : World} {I I' : Nat → Prop} {b o cap : Nat} {t : Ty} {l : List t.den} (hI : ∀ b, I b → I' b) (hw : ∀ b, I b → w'.heap[b]? = w.heap[b]?)
    (hb : w'.heap[b]? = w.heap[b]?) (h : OwnRep w I b o cap t l) : OwnRep w' I' b o cap t l := by
  obtain ⟨cs, h1, h2, h3⟩ := h
  refine ⟨cs, h1.of_block hb, h2, fun i x hx => ?_⟩
  obtain ⟨c, hc, hv⟩ := h3 i x hx
  exact ⟨c, hc.mono hI hw, hv⟩

theorem ownVal.world {w w' : World} {I I' : Nat → Prop} {tk : Option Nat} {t : Ty} {nl : Bool} {l : List t.den} {v : Value} (hI : ∀ b, I b → I' b) (hw : ∀ b, I b → w'.heap[b]? = w.heap[b]?)
    (hb : ∀ b, tk = some b → w'.heap[b]? = w.heap[b]?) (h : ownVal w I tk t nl l v) : ownVal w' I' tk t nl l v := by
  obtain ⟨ad, cap, e, h1, h2, h3⟩ := h
  refine ⟨ad, cap, e, h1, h2, h3.imp id ?_⟩
  rintro ⟨b, o, h4, h5, h6⟩
  exact ⟨b, o, h4, h5, h6.world hI hw (hb b h4)⟩

theorem capRep.world {w w' : World} {I I' : Nat → Prop} {tok : Tok} {st : St} {c : SV} {x : Value} (hI : ∀ b, I b → I' b) (hw : ∀ b, I b → w'.heap[b]? = w.heap[b]?)
    (h : capRep w I tok st c x) : capRep w' I' tok st c x := by
  cases c <;> simp only [capRep] at h ⊢
  · exact h.mono hI hw
  · exact h

theorem SRep.world {w w' : World} {I I' : Nat → Prop} {tok : Tok} {st : St} {tm : Array Value} {i : Nat} {s : SV} {v : Value} (hI : ∀ b, I b → I' b) (hw : ∀ b, I b → w'.heap[b]? = w.heap[b]?)
    (hb : ∀ k b, tok k = some b → w'.heap[b]? = w.heap[b]?) (h : SRep w I tok st tm i s v) : SRep w' I' tok st tm i s v := by
  cases s <;> simp only [SRep] at h ⊢
  · exact h.mono hI hw
  · exact h.world hI hw (fun b => hb _ b)
  · exact h
  · exact h
  · exact h.world hI hw
  · exact h
  · obtain ⟨vs, e, hl, hc⟩ := h
    exact ⟨vs, e, hl, fun j c x h1 h2 => (hc j c x h1 h2).world hI hw⟩
  · obtain ⟨vs, e, hl, hc⟩ := h
    refine ⟨vs, e, hl, fun j c x h1 h2 => ?_⟩
    have := hc j c x h1 h2
    cases c <;> simp only [compRep] at this ⊢
    · exact this.mono hI hw
    · exact this.world hI hw (fun b => hb _ b)
  · exact h

theorem BoxRep.world {w w' : World} {I I' : Nat → Prop} {b : Nat} {d : DV} (hI : ∀ b, I b → I' b) (hw : ∀ b, I b → w'.heap[b]? = w.heap[b]?)
    (hb : w'.heap[b]? = w.heap[b]?) (h : BoxRep w I b d) : BoxRep w' I' b d := by
  obtain ⟨cs, h1, h2⟩ := h
  exact ⟨cs, h1.of_block hb, h2.mono hI hw⟩

/-- The world grows: what was there is as it was. -/
structure Grew (w w' : World) : Prop where
  block : ∀ b, b < w.heap.size → w'.heap[b]? = w.heap[b]?
  size : w.heap.size ≤ w'.heap.size
  os : w'.os = w.os
  output : w'.output = w.output
  tape : w'.tape = w.tape

theorem Grew.refl (w : World) : Grew w w := ⟨fun _ _ => rfl, Nat.le_refl _, rfl, rfl, rfl⟩
theorem Grew.trans {a b c : World} (h : Grew a b) (k : Grew b c) : Grew a c :=
  ⟨fun x hx => (k.block x (Nat.lt_of_lt_of_le hx h.size)).trans (h.block x hx), Nat.le_trans h.size k.size, k.os.trans h.os, k.output.trans h.output, k.tape.trans h.tape⟩
theorem Grew.alloc (w : World) (o : Obj) : Grew w (w.alloc o) :=
  ⟨fun b hb => RowKit.Below.heap_alloc w o b hb, by simp, rfl, rfl, rfl⟩
theorem Grew.drew (w : World) : Grew w w.drew := ⟨fun _ _ => rfl, Nat.le_refl _, rfl, rfl, rfl⟩

theorem Inv.grow {w0 w w' : World} {I0 I : Nat → Prop} {xs : List Nat} {st : St} {tm : Array Value} {tok : Tok} (h : Inv w0 I0 xs st tm w I tok) (g : Grew w w') :
    Inv w0 I0 xs st tm w' I tok where
  len := h.len
  small := h.small
  slots := fun i hi => (h.slots i hi).world (fun _ hb => hb) (fun b hb => g.block b (h.ilt b hb)) (fun k b hb => g.block b (h.tokLt k b hb))
  boxes := fun s d hs => by
    obtain ⟨b, hb, hr⟩ := h.boxes s d hs
    exact ⟨b, hb, hr.world (fun _ hb => hb) (fun b hb => g.block b (h.ilt b hb)) (g.block b (h.tokLt _ b hb))⟩
  inj := h.inj
  tokLt := fun k b hb => Nat.lt_of_lt_of_le (h.tokLt k b hb) g.size
  tokI := h.tokI
  ilt := fun b hb => Nat.lt_of_lt_of_le (h.ilt b hb) g.size
  fresh := h.fresh
  ext := h.ext
  keep := fun b hb hx => (g.block b (Nat.lt_of_lt_of_le hb h.size)).trans (h.keep b hb hx)
  size := Nat.le_trans h.size g.size
  os := g.os.trans h.os
  output := g.output.trans h.output
  tape := g.tape.trans h.tape
  sub := h.sub
  new := h.new

/-- Is a token one of slot d? -/
def Key.at (d : Nat) : Key → Prop
  | .sl i => i = d
  | .tc i _ => i = d
  | .box _ => False

theorem SRep.onHome {w : World} {I : Nat → Prop} {tok : Tok} {st : St} {tm : Array Value} {i d : Nat} {s : SV} {v : Value} (h : SRep w I tok st tm i s v) (hon : s.onH d) :
    (st.slot d).isHome = true := by
  cases s <;> simp only [SV.onH] at hon
  · simp only [SRep] at h; rw [← hon]; exact h.1
  · simp only [SRep] at h; rw [← hon]; exact h.1
  · simp only [SRep] at h
    obtain ⟨⟨nl, l, hs, _⟩, _⟩ := h
    rw [← hon, hs]; rfl

theorem put_bx (st : St) (d : Nat) (v : SV) : (st.put d v).bx = st.bx := by
  unfold St.put; cases (st.slot d).isHome <;> rfl
theorem put_len (st : St) (d : Nat) (v : SV) : (st.put d v).sl.length = st.sl.length := by
  unfold St.put; cases (st.slot d).isHome <;> simp
theorem put_same (st : St) (d : Nat) (v : SV) (hd : d < st.sl.length) : (st.put d v).slot d = v := by
  unfold St.put
  cases (st.slot d).isHome <;> simp only [cond_false, cond_true]
  · rw [slot_set st d d v hd]; simp
  · have := slot_set { st with sl := st.sl.map (SV.off d) } d d v (by simpa using hd)
    simpa using this
theorem put_other (st : St) (d i : Nat) (v : SV) (hd : d < st.sl.length) (hi : i ≠ d) :
    (st.put d v).slot i = if (st.slot d).isHome then SV.off d (st.slot i) else st.slot i := by
  unfold St.put
  cases (st.slot d).isHome <;> simp only [cond_false, cond_true]
  · rw [slot_set st d i v hd]; simp [hi]
  · have := slot_set { st with sl := st.sl.map (SV.off d) } d i v (by simpa using hd)
    simp only [hi, if_false] at this
    rw [slot_map st (SV.off d) rfl] at this
    simpa using this

/-- A slot is put. -/
theorem Inv.put {w0 w : World} {I0 I : Nat → Prop} {xs : List Nat} {st : St} {tm : Array Value} {tok tok' : Tok} {d : Nat} {s : SV} {v : Value}
    (h : Inv w0 I0 xs st tm w I tok) (hd : d < st.sl.length)
    (hk : ∀ k, ¬ k.at d → tok' k = tok k)
    (hn : ∀ k b, k.at d → tok' k = some b → b < w.heap.size ∧ ¬ I b ∧ w0.heap.size ≤ b ∧ ∀ k', tok' k' = some b → k = k')
    (hv : SRep w I tok' (st.put d s) (tm.setIfInBounds d v) d s v) :
    Inv w0 I0 xs (st.put d s) (tm.setIfInBounds d v) w I tok' := by
  have hd' : d < tm.size := h.len ▸ hd
  have hbox : ∀ x, tok' (.box x) = tok (.box x) := fun x => hk _ (by simp [Key.at])
  have hother : ∀ i, i ≠ d → ∀ s0, (st.put d s).slot i = s0 → SRep w I tok st tm i s0 (tm.getD i undef) → ¬ s0.onH d →
      SRep w I tok' (st.put d s) (tm.setIfInBounds d v) i s0 ((tm.setIfInBounds d v).getD i undef) := by
    intro i hi s0 _ hr hon
    rw [getD_set tm d i v hd']
    simp only [hi, if_false]
    -- the homes on which s0 hangs are not d; they hold the same, or were turned off by nothing
    cases hh : (st.slot d).isHome with
    | false =>
      refine SRep.other d (fun h' hne => ?_) (put_bx st d s) (fun h' hne => ?_) hbox (fun j => hk _ (by simp [Key.at, hi])) (fun h' hne => hk _ (by simp [Key.at, hne])) hi hon hr
      · rw [put_other st d h' s hd hne]; simp [hh]
      · rw [getD_set tm d h' v hd']; simp [hne]
    | true =>
      -- slots that are homes are not turned by 'off'
      have keep : ∀ h', h' ≠ d → (st.slot h').isHome = true → (st.put d s).slot h' = st.slot h' := by
        intro h' hne hho
        rw [put_other st d h' s hd hne]
        simp only [hh, if_true]
        rcases off_eq d (st.slot h') with e | ⟨_, e⟩
        · exact e
        · cases hs : st.slot h' <;> rw [hs] at hho e <;> simp only [SV.isHome, SV.onH] at hho e <;> cases hho
      have hhome : ∀ h', s0.onH h' → (st.slot h').isHome = true := fun h' hon' => hr.onHome hon'
      have htm : ∀ h', h' ≠ d → (tm.setIfInBounds d v).getD h' undef = tm.getD h' undef := by
        intro h' hne; rw [getD_set tm d h' v hd']; simp [hne]
      have hcap : ∀ c x, capRep w I tok st c x → capRep w I tok' (st.put d s) c x := by
        intro c x hc
        cases c <;> simp only [capRep] at hc ⊢ <;> first | exact hc | skip
        simpa [hbox, St.box, put_bx] using hc
      cases s0 with
      | p e => simp only [SRep] at hr ⊢; exact hr
      | own t nl l => simp only [SRep] at hr ⊢; rwa [hk (.sl i) (by simp [Key.at, hi])]
      | rf g =>
        simp only [SRep] at hr ⊢; simp only [SV.onH] at hon
        rw [keep g hon hr.1, htm g hon]; exact hr
      | rs g t lo n =>
        simp only [SRep] at hr ⊢; simp only [SV.onH] at hon
        rw [keep g hon hr.1, htm g hon]; exact hr
      | pb x t pa => simp only [SRep] at hr ⊢; exact hcap _ _ hr
      | pe g t0 k t pa =>
        have hg := hhome g rfl
        simp only [SRep] at hr ⊢; simp only [SV.onH] at hon
        rw [keep g hon hg, htm g hon, hk (.sl g) (by simp [Key.at, hon])]; exact hr
      | nil => simp only [SRep] at hr
      | nilp => simp only [SRep] at hr
      | clo f caps => simp only [SRep] at hr ⊢; obtain ⟨vs, e, hl, hc⟩ := hr; exact ⟨vs, e, hl, fun j c x h1 h2 => hcap c x (hc j c x h1 h2)⟩
      | tup l =>
        simp only [SRep] at hr ⊢
        obtain ⟨vs, e, hl, hc⟩ := hr
        refine ⟨vs, e, hl, fun j c x h1 h2 => ?_⟩
        have := hc j c x h1 h2
        cases c <;> simp only [compRep] at this ⊢ <;> first | exact this | skip
        rwa [hk (.tc i j) (by simp [Key.at, hi])]
      | dead => simp only [SRep]
      | und => first | exact this | exact h | exact hr | exact hs | exact hv | (simp only [SRep] at *; assumption)
  constructor
  case len => rw [put_len]; simpa using h.len
  case small => rw [put_len]; exact h.small
  case slots =>
    intro i hi
    rw [put_len] at hi
    by_cases hid : i = d
    · subst hid
      rw [put_same st i s hd, getD_set tm i i v hd']
      simpa using hv
    · refine hother i hid _ rfl ?_ ?_
      · rw [put_other st d i s hd hid]
        split
        · rcases off_eq d (st.slot i) with e | ⟨e, _⟩
          · rw [e]; exact h.slots i hi
          · rw [e]; simp only [SRep]
        · exact h.slots i hi
      · rw [put_other st d i s hd hid]
        split
        · exact off_not_on d _
        · rename_i hh
          intro hon
          exact hh ((h.slots i hi).onHome hon)
  case boxes =>
    intro x e hx
    have : st.box x = some e := by simpa [St.box, put_bx] using hx
    rw [hbox]; exact h.boxes x e this
  case inj =>
    intro k k' b h1 h2
    by_cases hkd : k.at d
    · exact (hn k b hkd h1).2.2.2 k' h2
    · by_cases hkd' : k'.at d
      · exact ((hn k' b hkd' h2).2.2.2 k h1).symm
      · rw [hk k hkd] at h1; rw [hk k' hkd'] at h2; exact h.inj k k' b h1 h2
  case tokLt =>
    intro k b h1
    by_cases hkd : k.at d
    · exact (hn k b hkd h1).1
    · rw [hk k hkd] at h1; exact h.tokLt k b h1
  case tokI =>
    intro k b h1
    by_cases hkd : k.at d
    · exact (hn k b hkd h1).2.1
    · rw [hk k hkd] at h1; exact h.tokI k b h1
  case ilt => exact h.ilt
  case fresh =>
    intro k b h1
    by_cases hkd : k.at d
    · exact .inl (hn k b hkd h1).2.2.1
    · rw [hk k hkd] at h1; exact h.fresh k b h1
  case ext => intro j x hx; rw [hbox]; exact h.ext j x hx
  case keep => exact h.keep
  case size => exact h.size
  case os => exact h.os
  case output => exact h.output
  case tape => exact h.tape
  case sub => exact h.sub
  case new => exact h.new

/-- Slot d's tokens are dropped. -/
def Tok.drop (tok : Tok) (d : Nat) : Tok
  | .sl i => if i = d then none else tok (.sl i)
  | .tc i j => if i = d then none else tok (.tc i j)
  | .box s => tok (.box s)

theorem drop_other (tok : Tok) (d : Nat) (k : Key) (h : ¬ k.at d) : tok.drop d k = tok k := by
  cases k <;> simp_all [Tok.drop, Key.at]
theorem drop_at (tok : Tok) (d : Nat) (k : Key) (h : k.at d) : tok.drop d k = none := by
  cases k <;> simp_all [Tok.drop, Key.at]

/-- Data is put. -/
theorem Inv.put_p {w0 w : World} {I0 I : Nat → Prop} {xs : List Nat} {st : St} {tm : Array Value} {tok : Tok} {d : Nat} {x : DV} {v : Value}
    (h : Inv w0 I0 xs st tm w I tok) (hd : d < st.sl.length) (hv : valRep w I x.1 x.2 v) :
    Inv w0 I0 xs (st.put d (.p x)) (tm.setIfInBounds d v) w I (tok.drop d) :=
  h.put hd (drop_other tok d) (fun k b hk hb => by rw [drop_at tok d k hk] at hb; cases hb) (by simpa only [SRep] using hv)

theorem Inv.put_dead {w0 w : World} {I0 I : Nat → Prop} {xs : List Nat} {st : St} {tm : Array Value} {tok : Tok} {d : Nat} {v : Value}
    (h : Inv w0 I0 xs st tm w I tok) (hd : d < st.sl.length) :
    Inv w0 I0 xs (st.put d .dead) (tm.setIfInBounds d v) w I (tok.drop d) :=
  h.put hd (drop_other tok d) (fun k b hk hb => by rw [drop_at tok d k hk] at hb; cases hb) (by simp only [SRep])

/-- What was passed by leaves nothing. -/
theorem Inv.put_und {w0 w : World} {I0 I : Nat → Prop} {xs : List Nat} {st : St} {tm : Array Value} {tok : Tok} {d : Nat}
    (h : Inv w0 I0 xs st tm w I tok) (hd : d < st.sl.length) :
    Inv w0 I0 xs (st.put d .und) (tm.setIfInBounds d undef) w I (tok.drop d) :=
  h.put hd (drop_other tok d) (fun k b hk hb => by rw [drop_at tok d k hk] at hb; cases hb) (by simp only [SRep])
end Go.Own

/- What a data type says of the program's type. -/
namespace Go.Own

/-- A type's size, and its zero value. -/
structure Base (P : Program) (T : TypeId) (t : Ty) : Prop where
  size : (P.info? T).map (·.size) = some t.size
  zero : ∃ i z, P.info? T = some i ∧ i.zero = some z ∧ z.cells.toList = t.zcells

def tyAF (P : Program) : Ty → (TypeId → Prop) × (List Field → Nat → Prop)
  | .int k => (fun T => Base P T (.int k) ∧ P.underlying T = some (.int k), fun _ _ => False)
  | .bool => (fun T => Base P T .bool ∧ P.underlying T = some .bool, fun _ _ => False)
  | .str => (fun T => Base P T .str ∧ P.underlying T = some .string, fun _ _ => False)
  | .flt => (fun T => Base P T .flt ∧ P.underlying T = some (.float .f64), fun _ _ => False)
  | .unit => (fun T => Base P T .unit ∧ P.stoodInHeld T = false ∧ ∃ fs, P.underlying T = some (.struct fs) ∧ fs.toList = [], fun fs _ => fs = [])
  | .pair a b => (fun T => Base P T (.pair a b) ∧ P.stoodInHeld T = false ∧ ∃ fs, P.underlying T = some (.struct fs) ∧ (∀ f ∈ fs.toList, f.name ≠ "_") ∧ ∃ f r, fs.toList = f :: r ∧ f.offset = 0 ∧ (tyAF P a).1 f.type ∧ (tyAF P b).2 r a.size,
      fun fs off => ∃ f r, fs = f :: r ∧ f.offset = off ∧ (tyAF P a).1 f.type ∧ (tyAF P b).2 r (off + a.size))
  | .arr n t => (fun T => Base P T (.arr n t) ∧ ∃ e, P.underlying T = some (.array n e) ∧ (tyAF P t).1 e, fun _ _ => False)
  | .sl t => (fun T => Base P T (.sl t) ∧ ∃ e, P.underlying T = some (.slice e) ∧ (tyAF P t).1 e, fun _ _ => False)
  | .ref t => (fun T => Base P T (.ref t) ∧ ∃ e, P.underlying T = some (.pointer e) ∧ (tyAF P t).1 e, fun _ _ => False)

/-- The program's type T is of this data type. -/
def TyAt (P : Program) (T : TypeId) (t : Ty) : Prop := (tyAF P t).1 T
def FieldsAt (P : Program) (fs : List Field) (off : Nat) (t : Ty) : Prop := (tyAF P t).2 fs off

theorem TyAt.base {P : Program} {T : TypeId} {t : Ty} (h : TyAt P T t) : Base P T t := by
  cases t <;> exact h.1

theorem zeroCell_eq {a b : Value} (h : zeroCell a b = true) : a = b := by
  unfold zeroCell at h
  split at h
  · simp at h; rw [h.1, h.2]
  · simp at h; rw [h]
  · rename_i x y
    simp only [Bool.and_eq_true, List.isEmpty_iff] at h
    cases x with | mk x => cases y with | mk y =>
    have hx : x = #[] := by simpa using h.1
    have hy : y = #[] := by simpa using h.2
    rw [hx, hy]
  · simp at h; rw [h]
  · rfl
  · rfl
  · cases h

theorem zeroCells_eq : ∀ {a b : List Value}, zeroCells a b = true → a = b
  | [], [], _ => rfl
  | a :: as, b :: bs, h => by
    simp only [zeroCells, Bool.and_eq_true] at h
    rw [zeroCell_eq h.1, zeroCells_eq h.2]
  | [], _ :: _, h => by simp [zeroCells] at h
  | _ :: _, [], h => by simp [zeroCells] at h

theorem Base.of_ok {P : Program} {T : TypeId} {t u : Ty} (h : okTy P T t = some u) : u = t ∧ Base P T t := by
  unfold okTy at h
  cases hi : infoOK P T t with
  | false => simp [hi] at h
  | true =>
    simp only [hi, cond_true, Option.some.injEq] at h
    refine ⟨h.symm, ?_⟩
    unfold infoOK at hi
    cases hq : P.info? T with
    | none => simp [hq] at hi
    | some i =>
      simp only [hq, Bool.and_eq_true, beq_iff_eq] at hi
      cases hz : i.zero with
      | none => simp [hz] at hi
      | some z =>
        simp only [hz] at hi
        exact ⟨by simp [hq, hi.1], i, z, hq, hz, zeroCells_eq hi.2⟩

theorem tyFields_at {P : Program} {f : TypeId → Option Ty} (hf : ∀ T t, f T = some t → TyAt P T t) :
    ∀ {fs : List Field} {off : Nat} {t : Ty}, tyFields f fs off = some t → FieldsAt P fs off t := by
  intro fs
  induction fs with
  | nil => intro off t h; simp only [tyFields, Option.some.injEq] at h; subst h; simp [FieldsAt, tyAF]
  | cons g r ih =>
    intro off t h
    simp only [tyFields] at h
    split at h
    · rename_i ho
      cases ha : f g.type with
      | none => simp [ha] at h
      | some a =>
        simp only [ha] at h
        cases hb : tyFields f r (off + a.size) with
        | none => simp [hb] at h
        | some b =>
          simp only [hb, Option.some.injEq] at h
          subst h
          exact ⟨g, r, rfl, ho, hf _ _ ha, ih hb⟩
    · cases h

theorem tyOf_at {P : Program} : ∀ {n : Nat} {T : TypeId} {t : Ty}, tyOf P n T = some t → TyAt P T t := by
  intro n
  induction n with
  | zero => intro T t h; simp [tyOf] at h
  | succ n ih =>
    intro T t h
    simp only [tyOf] at h
    split at h
    case h_1 k hu => obtain ⟨rfl, hb⟩ := Base.of_ok h; exact ⟨hb, hu⟩
    case h_2 hu => obtain ⟨rfl, hb⟩ := Base.of_ok h; exact ⟨hb, hu⟩
    case h_3 hu => obtain ⟨rfl, hb⟩ := Base.of_ok h; exact ⟨hb, hu⟩
    case h_4 hu => obtain ⟨rfl, hb⟩ := Base.of_ok h; exact ⟨hb, hu⟩
    case h_5 m e hu =>
      cases he : tyOf P n e with
      | none => simp [he] at h
      | some a => simp only [he] at h; obtain ⟨rfl, hb⟩ := Base.of_ok h; exact ⟨hb, e, hu, ih he⟩
    case h_6 fs hu =>
      cases he : tyFields (tyOf P n) fs.toList 0 with
      | none => simp [he] at h
      | some a =>
        simp only [he] at h
        cases hst : P.stoodInHeld T || fs.toList.any (fun f => decide (f.name = "_")) with
        | true => rw [hst] at h; cases h
        | false =>
        rw [hst] at h
        simp only [cond_false] at h
        obtain ⟨rfl, hb⟩ := Base.of_ok h
        simp only [Bool.or_eq_false_iff, List.any_eq_false, decide_eq_true_eq] at hst
        have hf := tyFields_at (P := P) (fun T t => ih (T := T) (t := t)) he
        cases hfs : fs.toList with
        | nil =>
          rw [hfs] at he
          simp only [tyFields, Option.some.injEq] at he
          subst he
          exact ⟨hb, hst.1, fs, hu, hfs⟩
        | cons g r =>
          rw [hfs] at he hf
          simp only [tyFields] at he
          split at he
          · cases ha : tyOf P n g.type with
            | none => simp [ha] at he
            | some a =>
              simp only [ha] at he
              cases hb' : tyFields (tyOf P n) r (0 + a.size) with
              | none => rw [hb'] at he; cases he
              | some b =>
                simp only [hb', Option.some.injEq] at he
                subst he
                obtain ⟨g', r', e, ho, h1, h2⟩ := hf
                refine ⟨hb, hst.1, fs, hu, fun f hf => hst.2 f hf, g', r', ?_, ho, h1, ?_⟩
                · rw [hfs, e]
                · simpa [FieldsAt] using h2
          · cases he
    case h_7 e hu =>
      cases he : tyOf P n e with
      | none => simp [he] at h
      | some a => simp only [he] at h; obtain ⟨rfl, hb⟩ := Base.of_ok h; exact ⟨hb, e, hu, ih he⟩
    case h_8 e hu =>
      cases he : tyOf P n e with
      | none => simp [he] at h
      | some a => simp only [he] at h; obtain ⟨rfl, hb⟩ := Base.of_ok h; exact ⟨hb, e, hu, ih he⟩
    case h_9 => cases h

/-- How deep a type nests. -/
def Ty.lev : Ty → Nat
  | .pair a b => max (a.lev + 1) b.lev
  | .arr _ t => t.lev + 1
  | .sl t => t.lev + 1
  | .ref t => t.lev + 1
  | _ => 1

/-- The environment tells the truth. -/
structure EnvOK (P : Program) (E : Env) : Prop where
  ty : ∀ T t, E.T T = some t → TyAt P T t
  bytes : ∀ T e i, P.underlying T = some (.slice e) → (E.T T).isSome → P.info? e = some i → i.bytes ≤ E.B T ∧ 0 < E.B T
  mixed : P.follows .mixedOrders = true
  depth : 64 ≤ P.depth
  lev : ∀ T t, E.T T = some t → t.lev ≤ 64

/-- The zero value's cells read as the zero value. -/
theorem zcells_rep (w : World) (I : Nat → Prop) : ∀ t : Ty, cellsRep w I t t.dflt t.zcells := by
  intro t
  induction t with
  | int k => simp [cellsRep, Ty.zcells, Ty.dflt]
  | bool => simp [cellsRep, Ty.zcells, Ty.dflt]
  | str => simp [cellsRep, Ty.zcells, Ty.dflt]; rfl
  | flt => simp [cellsRep, Ty.zcells, Ty.dflt]
  | unit => simp [cellsRep, Ty.zcells]
  | pair a b iha ihb => exact ⟨_, _, rfl, iha, ihb⟩
  | arr n t ih =>
    have hl : t.zcells.length = t.size := ih.length
    have hlen : ∀ n, (List.replicate n t.zcells).flatten.length = n * t.size := by
      intro n; induction n with
      | zero => simp
      | succ n ihn => simp [List.replicate_succ, ihn, hl, Nat.succ_mul, Nat.add_comm]
    have hpart : ∀ n i, i < n → (((List.replicate n t.zcells).flatten).drop (i * t.size)).take t.size = t.zcells := by
      intro n; induction n with
      | zero => intro i hi; omega
      | succ n ihn =>
        intro i hi
        cases i with
        | zero => simp [List.replicate_succ, ← hl]
        | succ i =>
          have : (i + 1) * t.size = t.zcells.length + i * t.size := by rw [hl, Nat.succ_mul, Nat.add_comm]
          rw [List.replicate_succ, List.flatten_cons, this, List.drop_append, List.drop_eq_nil_of_le (by omega), List.nil_append, Nat.add_sub_cancel_left]
          exact ihn i (by omega)
    refine ⟨by simp [Ty.dflt], by simpa [Ty.zcells] using hlen n, fun i x hx => ?_⟩
    simp only [Ty.dflt, List.getElem?_replicate] at hx
    split at hx
    · rename_i hi
      simp only [Option.some.injEq] at hx
      subst hx
      simp only [Ty.zcells]
      rw [hpart n i hi]
      exact ih
    · cases hx
  | sl t ih => exact ⟨none, 0, rfl, Nat.le_refl _, .inl rfl⟩
  | ref t ih => simp [cellsRep, Ty.zcells, Ty.dflt]
end Go.Own
