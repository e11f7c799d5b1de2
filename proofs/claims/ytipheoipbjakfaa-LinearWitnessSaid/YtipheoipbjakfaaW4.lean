/- What is proved: the evaluator of the translated code, and that it is sound, part 4. Conditions: those that each theorem names. -/
import Derived.Test.YtipheoipbjakfaaW3
import Derived.Below
import Derived.Test.YtipheoipbjakfaaW0
set_option linter.unusedVariables false
set_option linter.unusedSimpArgs false
/- The second abstract interpreter: regions, whose order may be drawn; code; a call's beginning and end; loops. -/
namespace Go.Own

/-! ### What an operation looks at, and what it turns -/
structure Rec where
  ks : List Nat      -- the slots at which it looks
  kb : List Nat      -- the boxes
  rv : List Nat      -- the sites that stand in what it sees
  ws : List Nat      -- the slots that it sets
  wb : List Nat      -- the boxes that it sets
  wr : List Nat      -- the sites that stand in what it sets
  tc : List Nat      -- the sites that it gives up, or freezes
  ts : List Nat      -- the slots in which these stand
  tb : List Nat      -- the boxes
  fz : Bool          -- does it freeze?
  deriving Inhabited

def Pm.ws : Pm → List Nat
  | .set i _ => [i]
  | _ => []
def Pm.wb : Pm → List Nat
  | .ins s _ => [s]
  | .del s => [s]
  | .frz s _ => [s]
  | _ => []
def Pm.wr : Pm → List Nat
  | .set _ v => v.sites1
  | .ins _ d => mentions d.1
  | _ => []
def Pm.tc : Pm → List Nat
  | .kill s => [s]
  | .frz s _ => [s]
  | _ => []
def Pm.fz : Pm → Bool
  | .frz _ _ => true
  | _ => false

def tmpsIn (xs : List Operand) : List Nat := xs.filterMap fun | .tmp t => some t | _ => none
/-- The operands at which an operation looks. -/
def looks (o : Oper) : List Operand := o.op.operands.toList

/-- All steps of an effect. -/
def fullPs (dst : Option Nat) (e : Ef) : List Pm := match e.v, dst with
  | some v, some d => e.ps ++ [.set d v]
  | _, _ => e.ps

/-- What an operation sees of a state: some slots, some boxes. -/
def viewS (keep : List Nat) : Nat → List SV → List SV
  | _, [] => []
  | i, v :: r => (bif keep.any (Nat.beq i) then v else .dead) :: viewS keep (i + 1) r
def viewB (keep : List Nat) (l : List (Nat × DV)) : List (Nat × DV) := l.filter fun x => keep.any (Nat.beq x.1)
def St.view (ks kb : List Nat) (st : St) : St := ⟨viewS ks 0 st.sl, viewB kb st.bx⟩

def meets (a b : List Nat) : Bool := a.any fun x => b.any (Nat.beq x)
def slotsIn (tc : List Nat) : Nat → List SV → List Nat
  | _, [] => []
  | i, v :: r => bif meets v.sites1 tc then i :: slotsIn tc (i + 1) r else slotsIn tc (i + 1) r
def boxesIn (tc : List Nat) (l : List (Nat × DV)) : List Nat := (l.filter fun x => meets (mentions x.2.1) tc).map (·.1)

/-- The slots, and the boxes, at which an operation looks. -/
def sees (o : Oper) (g : List Nat) (st : St) : List Nat × List Nat :=
  let sn := g ++ tmpsIn (looks o)
  (sn, reachK st 1000 (sn.flatMap fun i => (st.slot i).sites1) [])
def recOf (v : List Nat × List Nat) (st : St) (ps : List Pm) : Rec :=
  let tc := ps.flatMap Pm.tc
  { ks := v.1, kb := v.2, rv := (v.1.flatMap fun i => (st.slot i).sites1) ++ v.2.flatMap fun s => oMen (st.box s),
    ws := ps.flatMap Pm.ws, wb := ps.flatMap Pm.wb, wr := ps.flatMap Pm.wr, tc := tc,
    ts := bif tc.isEmpty then [] else slotsIn tc 0 st.sl, tb := bif tc.isEmpty then [] else boxesIn tc st.bx, fz := ps.any Pm.fz }

/-- Two operations, one behind the other, of which either may be the first. -/
def indep (j i : Rec) : Bool :=
  disj j.ws i.ks && disj j.ws i.ws && disj i.ws j.ks && disj j.wb i.kb && disj j.wb i.wb && disj i.wb j.kb &&
  disj j.ts i.ks && disj j.tb i.kb && disj i.tc j.rv &&
  disj j.tc i.wr && disj i.tc j.wr && disj j.tc i.tc && disj j.tc i.wb && disj i.tc j.wb && (!j.fz || i.tc.isEmpty) && (!i.fz || j.tc.isEmpty)

/-- What stands ahead of each operation, by bits. -/
def aheads (ops : List Oper) : List Nat :=
  ops.foldl (fun acc o => acc ++ [o.after.toList.foldl (fun s e => bif Region.binds .any e then s ||| 2 ^ e.on ||| acc.getD e.on 0 else s) 0]) []

/-- The slot on which an operation's guard looks. -/
def guardOf (all : List Oper) (o : Oper) : Option (Option (Nat × Bool)) :=
  match o.guard with
  | none => some none
  | some (j, want) => match (all[j]?).bind (·.dst) with
    | some d => some (some (d, want))
    | none => none

section
variable {R : Type}
def req (c : Bool) (x : Option R) : Option R := bif c then x else none

/-- One of several effects. -/
def Brn.k (k : Ef → Option R) : Brn Ef → Option R
  | .one c e => req c (k e)
  | .ite b l r => bif b then l.k k else r.k k
/-- One operation under its guard. -/
def opG (E : Env) (D : CallD) (all : List Oper) (o : Oper) (st : St) (k : St → Option R) : Option R :=
  let go (st : St) : Option R := match opPD E D o st with
    | some b => b.k fun e => k (e.run o.dst st)
    | none => none
  match guardOf all o with
  | some none => go st
  | some (some (d, want)) => match st.slot d with
    | .p ⟨.bool, b⟩ =>
      bif b then
        bif want then go { st with sl := st.sl.set d (.p ⟨.bool, true⟩) } else k ({ st with sl := st.sl.set d (.p ⟨.bool, true⟩) }.putO o.dst .und)
      else
        bif want then k ({ st with sl := st.sl.set d (.p ⟨.bool, false⟩) }.putO o.dst .und) else go { st with sl := st.sl.set d (.p ⟨.bool, false⟩) }
    | .und => k (st.putO o.dst .und)
    | _ => none
  | none => none
def opsK (E : Env) (D : CallD) (all : List Oper) : List Oper → St → (St → Option R) → Option R
  | [], st, k => k st
  | o :: os, st, k => opG E D all o st fun st' => opsK E D all os st' k

/-- One operation of a region whose order is drawn. -/
def drawOp (E : Env) (D : CallD) (all : List Oper) (o : Oper) (st : St) (k : Rec → List Pm → St → Option R) : Option R :=
  let go (g : List Nat) (st : St) : Option R :=
    let v := sees o g st
    match opPD E D o (st.view v.1 v.2) with
    | some b => b.k fun e => k (recOf v st (fullPs o.dst e)) (fullPs o.dst e) st
    | none => none
  let skip (g : Nat) (st : St) : Option R := k (recOf ([g], []) st (fullPs o.dst ⟨[], some .und⟩)) (fullPs o.dst ⟨[], some .und⟩) st
  match guardOf all o with
  | some none => go [] st
  | some (some (d, want)) => match st.slot d with
    | .p ⟨.bool, b⟩ =>
      bif b then
        bif want then go [d] { st with sl := st.sl.set d (.p ⟨.bool, true⟩) } else skip d { st with sl := st.sl.set d (.p ⟨.bool, true⟩) }
      else
        bif want then skip d { st with sl := st.sl.set d (.p ⟨.bool, false⟩) } else go [d] { st with sl := st.sl.set d (.p ⟨.bool, false⟩) }
    | .und => skip d st
    | _ => none
  | none => none
def drawK (E : Env) (D : CallD) (all : List Oper) (ah : List Nat) : List (Nat × Oper) → List (Nat × Rec) → St → (St → Option R) → Option R
  | [], _, st, k => k st
  | (i, o) :: os, acc, st, k => drawOp E D all o st fun r ps st' =>
      bif acc.all (fun p => (ah.getD i 0).testBit p.1 || indep p.2 r) then drawK E D all ah os ((i, r) :: acc) (runPs ps st') k else none
def numbered : Nat → List Oper → List (Nat × Oper)
  | _, [] => []
  | n, o :: os => (n, o) :: numbered (n + 1) os
/-- Edges that bind lead back. -/
def backs (ops : List (Nat × Oper)) : Bool := ops.all fun p => p.2.after.toList.all fun e => !Region.binds .any e || Nat.blt e.on p.1
def regionK (E : Env) (D : CallD) (ops : List Oper) (st : St) (k : St → Option R) : Option R :=
  bif backs (numbered 0 ops) then drawK E D ops (aheads ops) (numbered 0 ops) [] st k else none

inductive Ex where
  | normal
  | exit (id : Nat)
  | ret
/-- A loop is told by its body: what goes on behind it. -/
abbrev LoopK (R : Type) := Nat → Code → St → (Ex → St → Option R) → Option R
def codeK (E : Env) (D : CallD) (loop : LoopK R) : Code → St → (Ex → St → Option R) → Option R
  | .skip, st, k => k .normal st
  | .label _, st, k => k .normal st
  | .region _ ops drawn, st, k => bif drawn then regionK E D ops.toList st (k .normal) else opsK E D ops.toList ops.toList st (k .normal)
  | .seq a b, st, k => codeK E D loop a st fun ex st' => match ex with
    | .normal => codeK E D loop b st' k
    | ex => k ex st'
  | .cond c a b, st, k => match ev st c with
    | .p ⟨.bool, c⟩ => bif c then codeK E D loop a st k else codeK E D loop b st k
    | _ => none
  | .block id a, st, k => codeK E D loop a st fun ex st' => match ex with
    | .exit i => bif i == id then k .normal st' else k (.exit i) st'
    | ex => k ex st'
  | .loop a, st, k => loop 0 a st k
  | .scope a, st, k => codeK E D loop a st k
  | .exit id, st, k => k (.exit id) st
  | .ret, st, k => k .ret st
  | _, _, _ => none
def loopN (body : St → (Ex → St → Option R) → Option R) : Nat → St → (Ex → St → Option R) → Option R
  | 0, _, _ => none
  | n + 1, st, k => body st fun ex st' => match ex with
    | .normal => loopN body n st' k
    | ex => k ex st'
end

/-! ### A call's beginning and end -/
def avSV1 : AV → SV
  | .val d => .p d
  | .va s t => .va s t
  | .vs s t pa lo n => .vs s t pa lo n
  | .pb s t pa => .pb s t pa
  | .mp s k v => .mp s k v
  | .nil => .nil
  | .nilp => .nilp
  | .clo _ _ => .dead
def avSV : AV → SV
  | .clo f caps => .clo f (caps.map avSV1)
  | v => avSV1 v
def boxesOf : Nat → List DV → List (Nat × DV)
  | _, [] => []
  | j, d :: ds => (site j, d) :: boxesOf (j + 1) ds
def st0 (n : Nat) (as : List AV) (bs : List DV) : St := ⟨as.map avSV ++ List.replicate (n - as.length) .dead, boxesOf 0 bs⟩

/-- What a result variable holds. -/
def resultOf (E : Env) (st : St) : ResultVar → Option SV
  | .tmp t => some (match st.slot t with | .und => .dead | v => v)
  | .cell a T => match loadP st (st.slot a) with
    | some (t, v) => bif E.isT T t then some v else none
    | _ => none
def isExt (n s : Nat) : Bool := Nat.ble 1000000 s && Nat.blt s (1000000 + n)
/-- A result: as data, or as it is. -/
def resRV (ρ : Nat → Nat) : SV → Option RV
  | .p d => some (.val d)
  | .sd d => some (.sd (d.ren ρ))
  | .va s t => some (.va (ρ s) t)
  | .vs s t pa lo n => some (.vs (ρ s) t pa lo n)
  | .pb s t pa => some (.pb (ρ s) t pa)
  | .mp s k v => some (.mp (ρ s) k v)
  | .nil => some .nil
  | .nilp => some .nilp
  | _ => none
def extOf (ρ : Nat → Nat) (st : St) : Nat → Nat → List (Option DV)
  | _, 0 => []
  | j, n + 1 => ((st.box (site j)).map (DV.ren ρ)) :: extOf ρ st (j + 1) n

section
/-- Results with their types, and whether each is to be data. -/
def resVs (E : Env) (ρ : Nat → Nat) (fs : List Pm) : List TypeId → List Bool → List SV → Option (List RV)
  | _, _, [] => some []
  | Ts, fz, v :: vs => match (bif fz.headD true then (toData (E.T (Ts.headD 0)) (runV fs v)).map .val else resRV ρ (runV fs v)), resVs E ρ fs Ts.tail fz.tail vs with
    | some r, some rs => some (r :: rs)
    | _, _ => none
def flagged : List Bool → List SV → List SV
  | _, [] => []
  | fz, v :: vs => bif fz.headD true then v :: flagged fz.tail vs else flagged fz.tail vs
def unflagged : List Bool → List SV → List SV
  | _, [] => []
  | fz, v :: vs => bif fz.headD true then unflagged fz.tail vs else v :: unflagged fz.tail vs
/-- Which results are frozen data, whatever they are, is told by `fz`. -/
def leaveK (E : Env) (fz : List Bool) (results : List ResultVar) (Ts : List TypeId) (n : Nat) : Ex → St → Option Res
  | .exit _, _ => none
  | _, st => match results.mapM (resultOf E st) with
    | some vs => match freezeV st (flagged fz vs) with
      | some fs =>
        let st := runPs fs st
        let own := (reachK st 1000 (((unflagged fz vs).flatMap fun v => (runV fs v).sites1) ++ (List.range n).flatMap fun j => match st.box (site j) with | some d => mentions d.1 | none => []) []).filter fun s => !isExt n s
        let ρ : Nat → Nat := fun s => bif isExt n s then s else site (n + idxOf s own)
        match resVs E ρ fs Ts fz vs, own.mapM st.box with
        | some rs, some ds => bif nodupB own && closedR ⟨rs, extOf ρ st 0 n, ds.map (DV.ren ρ)⟩ then some ⟨rs, extOf ρ st 0 n, ds.map (DV.ren ρ)⟩ else none
        | _, _ => none
      | none => none
    | none => none

def enterK (E : Env) (fz : List Bool) (D : CallD) (loop : LoopK Res) (fn : Func) (c : Code) (as : List AV) (bs : List DV) : Option Res :=
  bif as.length ≤ fn.ntmps then codeK E D loop c (st0 fn.ntmps as bs) (leaveK E fz fn.results.toList fn.resultTypes.toList bs.length) else none
end

/-! ### Loops: what is kept at their heads -/
/-- What a slot holds at a loop's head. -/
inductive Sh where
  | p (t : Ty)
  | sd (t : Ty)
  | va (s : Nat) (t : Ty)
  | vs (s : Nat) (t : Ty) (pa : Path)
  | pb (s : Nat) (t : Ty) (pa : Path)
  | mp (s : Nat) (k v : Ty)
  | nil
  | nilp
  | clo (f : FuncId) (caps : List (Nat × Ty))
@[reducible] def Sh.den : Sh → Type
  | .p t => t.den
  | .sd t => t.den
  | .vs _ _ _ => Nat × Nat
  | _ => Unit
@[reducible] def ShX : List (Nat × Sh) → Type
  | [] => Unit
  | (_, s) :: r => s.den × ShX r
@[reducible] def BxX : List (Nat × Ty) → Type
  | [] => Unit
  | (_, t) :: r => t.den × BxX r
def Sh.inj : (s : Sh) → s.den → SV
  | .p t, x => .p ⟨t, x⟩
  | .sd t, x => .sd ⟨t, x⟩
  | .va s t, _ => .va s t
  | .vs s t pa, x => .vs s t pa x.1 x.2
  | .pb s t pa, _ => .pb s t pa
  | .mp s k v, _ => .mp s k v
  | .nil, _ => .nil
  | .nilp, _ => .nilp
  | .clo f caps, _ => .clo f (caps.map fun c => .pb c.1 c.2 [])
def injV : (sh : List (Nat × Sh)) → ShX sh → Nat → SV
  | [], _, _ => .dead
  | (i, s) :: r, x, j => bif Nat.beq i j then s.inj x.1 else injV r x.2 j
def injSl (sh : List (Nat × Sh)) (x : ShX sh) : Nat → Nat → List SV
  | 0, _ => []
  | n + 1, i => injV sh x i :: injSl sh x n (i + 1)
def injBx : (bx : List (Nat × Ty)) → BxX bx → List (Nat × DV)
  | [], _ => []
  | (s, t) :: r, y => (s, ⟨t, y.1⟩) :: injBx r y.2
def inj (n : Nat) (sh : List (Nat × Sh)) (bx : List (Nat × Ty)) (x : ShX sh) (y : BxX bx) : St := ⟨injSl sh x n 0, injBx bx y⟩

/-! #### A state is brought to a head's shape: nil slices turn to own arrays, what is to be data is frozen -/
/-- The sites of own arrays, and of pointers, that are to be data. -/
def toFrz : Ty → Ty → List Nat
  | .pair a b, .pair c d => toFrz a c ++ toFrz b d
  | .sl _, .vw s _ => [s]
  | .ref _, .pt s _ _ => [s]
  | _, _ => []
/-- Data, as another type has it. -/
def coT (self : Nat) : Ty → (t : Ty) → t.den → List Pm × DV
  | .pair a b, .pair c d, x => ((coT self a c x.1).1 ++ (coT self b d x.2).1, ⟨.pair (coT self a c x.1).2.1 (coT self b d x.2).2.1, ((coT self a c x.1).2.2, (coT self b d x.2).2.2)⟩)
  | .sl _, .nsl t, _ => ([], ⟨.sl t, []⟩)
  | .vw s _, .nsl t, _ => (newPs s ⟨.dyn t, (true, [])⟩, ⟨.vw s t, ()⟩)
  | .sf _ t pa, .slf, _ => ([], ⟨.sf self t pa, true⟩)
  | _, t, x => ([], ⟨t, x⟩)
/-- New boxes at sites that stand nowhere else. -/
def newOK (av : List Nat) (ps : List Pm) : Bool := nodupB (ps.flatMap Pm.tc) && disj (ps.flatMap Pm.tc) av && ps.all fun p => match p with
  | .kill s => Nat.blt s 1000000
  | .ins _ ⟨.dyn t, _⟩ => t.plain
  | _ => false
/-- A slot. -/
def coS (st : St) (i : Nat) : Sh → Option (List Pm)
  | .p t => match st.slot i with
    | .p _ => some []
    | v => (dataF st (some t) v).map fun r => r.1 ++ [.set i (.p r.2)]
  | .sd t => match st.slot i with
    | .sd d => match freezePs frzFuel st (toFrz t d.1) with
      | some fs => match (runPs fs st).slot i with
        | .sd d => bif newOK (0 :: mentions d.1) (coT 0 t d.1 d.2).1 then some (fs ++ (coT 0 t d.1 d.2).1 ++ [.set i (.sd (coT 0 t d.1 d.2).2)]) else none
        | _ => none
      | none => none
    | _ => none
  | .va b t => match st.slot i with
    | .nil => bif newOK [] (newPs b ⟨.dyn t, (true, [])⟩) then some (newPs b ⟨.dyn t, (true, [])⟩ ++ [.set i (.va b t)]) else none
    | _ => some []
  | .vs b t _ => match st.slot i with
    | .nil => bif newOK [] (newPs b ⟨.dyn t, (true, [])⟩) then some (newPs b ⟨.dyn t, (true, [])⟩ ++ [.set i (.vs b t [] 0 0)]) else none
    | .va a u => match st.box a with
      | some ⟨.dyn _, x⟩ => some [.set i (.vs a u [] 0 x.2.length)]
      | _ => some []
    | _ => some []
  | _ => some []
def coSs : St → List (Nat × Sh) → Option (List Pm)
  | _, [] => some []
  | st, (i, s) :: r => match coS st i s with
    | some ps => (coSs (runPs ps st) r).map fun qs => ps ++ qs
    | none => none
/-- Site a of the state is site b of the shape. -/
abbrev Mt := List (Nat × Nat)
def mtOf (m : Mt) (b : Nat) : Option Nat := (m.find? fun p => Nat.beq p.2 b).map (·.1)
/-- Pairs of sites out of values and of types. -/
def pairSV : Sh → SV → Mt
  | .va b _, .va a _ => [(a, b)]
  | .vs b _ _, .vs a _ _ _ _ => [(a, b)]
  | .pb b _ _, .pb a _ _ => [(a, b)]
  | .mp b _ _, .mp a _ _ => [(a, b)]
  | .clo _ caps, .clo _ cs => (caps.zip cs).filterMap fun | (c, .pb a _ _) => some (a, c.1) | _ => none
  | .sd t, .sd d => pairTy t d.1
  | _, _ => []
where pairTy : Ty → Ty → Mt
  | .pair a b, .pair c d => pairTy a c ++ pairTy b d
  | .arr _ a, .arr _ b => pairTy a b
  | .sf b _ _, .sf a _ _ => [(a, b)]
  | .vw b _, .vw a _ => [(a, b)]
  | .pt b _ _, .pt a _ _ => [(a, b)]
  | .mp b _ _, .mp a _ _ => [(a, b)]
  | _, _ => []
/-- Boxes, those first that point to others. -/
def coBs : St → List (Nat × Ty) → Mt → Option (List Pm × Mt)
  | _, [], m => some ([], m)
  | st, (b, t) :: r, m => match mtOf m b with
    | some a => match st.box a with
      | some d => match freezePs frzFuel st (toFrz t d.1) with
        | some fs => match (runPs fs st).box a with
          | some d =>
            let q := coT a t d.1 d.2
            let ps := fs ++ q.1 ++ [.ins a q.2]
            bif newOK (a :: mentions d.1) q.1 then (coBs (runPs ps st) r (m ++ pairSV.pairTy t q.2.1)).map fun z => (ps ++ z.1, z.2) else none
          | none => none
        | none => none
      | none => none
    | none => none
/-- One site to one site; only a box that was handed on has the name of one. -/
def mtOK : Mt → Bool
  | [] => true
  | (a, b) :: r => (r.all fun p => bif Nat.beq p.1 a then Nat.beq p.2 b else !Nat.beq p.2 b) && (bif Nat.ble 1000000 b then Nat.beq a b else true) && mtOK r
def mtTo (m : Mt) (a : Nat) : Nat := match m.find? (fun p => Nat.beq p.1 a) with | some p => p.2 | none => 900000 + a

def inM (m : Mt) (a b : Nat) : Bool := m.any fun p => Nat.beq p.1 a && Nat.beq p.2 b
/-- All sites to which a type points have a name. -/
def allM (m : Mt) (t : Ty) : Bool := (mentions t).all fun s => m.any fun p => Nat.beq p.1 s
def sameCaps (m : Mt) : List SV → List (Nat × Ty) → Bool
  | [], [] => true
  | .pb s t [] :: r, (s', t') :: q => inM m s s' && decide (t = t') && sameCaps m r q
  | _, _ => false
def Sh.proj (m : Mt) : (s : Sh) → SV → Option s.den
  | .p t, .p ⟨u, x⟩ => if h : u = t then some (h ▸ x) else none
  | .sd t, .sd d => bif allM m d.1 then (match d.ren (mtTo m) with | ⟨u, x⟩ => if h : u = t then some (h ▸ x) else none) else none
  | .va b t, .va a u => bif inM m a b && decide (t = u) then some () else none
  | .vs b t pa, .vs a u qa lo n => bif inM m a b && decide (t = u) && decide (pa = qa) then some (lo, n) else none
  | .pb b t pa, .pb a u qa => bif inM m a b && decide (t = u) && decide (pa = qa) then some () else none
  | .mp b k v, .mp a k' v' => bif inM m a b && decide (k = k') && decide (v = v') then some () else none
  | .nil, .nil => some ()
  | .nilp, .nilp => some ()
  | .clo f caps, .clo g cs => bif Nat.beq f g && sameCaps m cs caps then some () else none
  | _, _ => none
def projS (m : Mt) (st : St) : (sh : List (Nat × Sh)) → Option (ShX sh)
  | [] => some ()
  | (i, s) :: r => match s.proj m (st.slot i), projS m st r with
    | some x, some y => some (x, y)
    | _, _ => none
def projB (m : Mt) (st : St) : (bx : List (Nat × Ty)) → Option (BxX bx)
  | [] => some ()
  | (b, t) :: r => match (mtOf m b).bind st.box, projB m st r with
    | some d, some y => bif allM m d.1 then (match d.ren (mtTo m) with
      | ⟨u, x⟩ => if h : u = t then some (h ▸ x, y) else none) else none
    | _, _ => none
/-- `ord`: the boxes, those first that point to others. -/
def projL (st : St) (sh : List (Nat × Sh)) (bx ord : List (Nat × Ty)) : Option (ShX sh × BxX bx) :=
  match coSs st sh with
  | some ps =>
    let st := runPs ps st
    match coBs st ord ((sh.flatMap fun p => pairSV p.2 (st.slot p.1)) ++ (bx.filterMap fun p => bif Nat.ble 1000000 p.1 then some (p.1, p.1) else none)) with
    | some (qs, m) =>
      let st := runPs qs st
      bif mtOK m then
        match projS m st sh, projB m st bx with
        | some x, some y => some (x, y)
        | _, _ => none
      else none
    | none => none
  | none => none

/-- The number of the first region of code, and one. -/
def rid : Code → Nat
  | .region id _ _ => id + 1
  | .seq a b => match rid a with | 0 => rid b | n + 1 => n + 1
  | .cond _ a b => match rid a with | 0 => rid b | n + 1 => n + 1
  | .block _ a => rid a
  | .loop a => rid a
  | .scope a => rid a
  | _ => 0
inductive LE (R : Type) where
  | typed (L : St → (Ex → St → Option R) → Option R)
  | unroll (q : Nat)
def findL {α : Type} : List (Nat × α) → Nat → Option α
  | [], _ => none
  | (i, a) :: r, n => bif Nat.beq i n then some a else findL r n
/-- The loops of a function: some are told, the others are run. -/
def loopX {R : Type} (E : Env) (D : CallD) (tab : List (Nat × LE R)) : Nat → LoopK R
  | 0 => fun _ _ _ _ => none
  | m + 1 => fun _ body st k => match findL tab (rid body) with
    | some (.typed L) => L st k
    | some (.unroll q) => loopN (fun st k => codeK E D (loopX E D tab m) body st k) q st k
    | none => loopN (fun st k => codeK E D (loopX E D tab m) body st k) 64 st k
/-- A loop by what it comes to: behind it, a round's shape is kept; where the function ends, another one. -/
def loopT {R : Type} (n : Nat) (sh : List (Nat × Sh)) (bx ord : List (Nat × Ty)) (shR : List (Nat × Sh)) (bxR : List (Nat × Ty)) (F : ShX sh → BxX bx → (Nat → ShX sh → BxX bx → Option R) → (ShX shR → BxX bxR → Option R) → Option R) (st : St) (k : Ex → St → Option R) : Option R :=
  match projL st sh bx ord with
  | some (x, y) => F x y (fun id x' y' => k (.exit id) (inj n sh bx x' y')) (fun x' y' => k .ret (inj n shR bxR x' y'))
  | none => none

end Go.Own

/- How the abstract state stands to memory. -/
namespace Go.Own

/-- Block b, of variables of type e, holds these cells, none of which is frozen. -/
def Blk (w : World) (b : Nat) (e : TypeId) (cs : List Value) : Prop :=
  ∃ (c : Array Value) (fr : Nat × Nat), w.heap[b]? = some (.cells c e fr) ∧ c.toList = cs ∧ ∀ o, o < c.size → ¬ (fr.1 ≤ o ∧ o < fr.2)

/-- A row of elements in a block, from o on, with room for cap. -/
def OwnRep (w : World) (I : Nat → Prop) (tk : Toks) (b : Nat) (e : TypeId) (o cap : Nat) (t : Ty) (l : List t.den) : Prop :=
  ∃ cs, Blk w b e cs ∧ o + cap * t.size ≤ cs.length ∧ ∀ i x, l[i]? = some x → ∃ c, cellsRep w I tk t x c ∧ ∀ j v, c[j]? = some v → cs[o + i * t.size + j]? = some v

/-- A map's entries: as the list has them. -/
def MapRep (w : World) (I : Nat → Prop) (tk : Toks) (b : Nat) (k v : Ty) (l : List (k.den × v.den)) : Prop :=
  ∃ (es : Array MapEntry) (clock : Nat), w.heap[b]? = some (.map es clock) ∧ k.mkOK = true ∧ k.plain = true ∧ v.plain = true ∧ es.size = l.length ∧
    ∀ (i : Nat) (e : MapEntry) (p : k.den × v.den), es[i]? = some e → l[i]? = some p → valRep w I tk k p.1 e.key ∧ valRep w I tk v p.2 e.val

/-- What a box holds. -/
def BoxRep (w : World) (I : Nat → Prop) (tk : Toks) (q : Tk) : DV → Prop
  | ⟨.dyn t, x⟩ => q.ty = .dyn t ∧ t.plain = true ∧ q.len = x.2.length ∧ x.2.length ≤ q.cap ∧ (x.1 = true ↔ q.ad = none) ∧
      ((q.blk = none ∧ q.cap = 0) ∨ ∃ b, q.blk = some b ∧ q.ad = some ⟨b, q.off, none⟩ ∧ OwnRep w I tk b q.tid q.off q.cap t x.2)
  | ⟨.map k v, l⟩ => q.ty = .map k v ∧ ∃ b, q.blk = some b ∧ MapRep w I tk b k v l
  | d => q.ty = d.1.frz ∧ q.off = 0 ∧ ∃ b cs, q.blk = some b ∧ Blk w b q.tid cs ∧ cellsRep w I tk d.1 d.2 cs

/-- A part of an array: of the own array that a box is, or of an array in a struct. -/
def vsRep (q : Tk) (t : Ty) (pa : Path) (lo n : Nat) (v : Value) : Prop :=
  (pa = [] ∧ q.ty = .dyn t ∧ (lo + n ≤ q.len ∧ q.len ≤ q.cap) ∧ ∃ ad', v = .slice ad' n (q.cap - lo) ∧ (lo < q.cap → ad' = q.ad.map (·.add (lo * t.size))) ∧ (ad' = none ↔ q.ad = none)) ∨
  (∃ b off m, q.at pa = some (b, off, .arr m t) ∧ pathIn q.len q.ty pa ∧ lo + n ≤ m ∧ ∃ ad', v = .slice (some ad') n (m - lo) ∧ (lo < m → ad' = ⟨b, off + lo * t.size, none⟩))

/-- What a slot holds, but for function values and several results. -/
def SRep1 (w : World) (I : Nat → Prop) (tk : Toks) : SV → Value → Prop
  | .p d, v => d.1.plain = true ∧ valRep w I tk d.1 d.2 v
  | .sd d, v => d.1.isTop = false ∧ valRep w I tk d.1 d.2 v
  | .va s t, v => ∃ q, tk s = some q ∧ q.ty = .dyn t ∧ v = q.hdr
  | .vs s t pa lo n, v => ∃ q, tk s = some q ∧ vsRep q t pa lo n v
  | .pb s t pa, v => ptRep tk s t pa v
  | .mp s k x, v => ∃ q b, tk s = some q ∧ q.ty = .map k x ∧ q.blk = some b ∧ v = .map (some b)
  | .ud s t, v => ∃ q, tk s = some q ∧ q.ty = .dyn t ∧ ∃ p, v = .pointer p ∧ (0 < q.len → p = q.ad) ∧ (q.ad = none → p = none)
  | .nil, v => v = .slice none 0 0
  | .nilp, v => v = .pointer none
  | .nilm, v => v = .map none
  | .clo _ _, _ => False
  | .tup _, _ => False
  | .dead, _ => True
  | .und, v => v = undef
/-- What a slot holds, and the value there. -/
def SRep (w : World) (I : Nat → Prop) (tk : Toks) : SV → Value → Prop
  | .clo f caps, v => ∃ vs : Array Value, v = .func (.func f) #[] vs ∧ vs.size = caps.length ∧ ∀ (j : Nat) (c : SV) (x : Value), caps[j]? = some c → vs[j]? = some x → SRep1 w I tk c x
  | .tup l, v => ∃ vs : Array Value, v = .tuple vs ∧ vs.size = l.length ∧ ∀ (j : Nat) (c : SV) (x : Value), l[j]? = some c → vs[j]? = some x → SRep1 w I tk c x
  | s, v => SRep1 w I tk s v

/-- A call's surroundings: the program, the world from which on it runs, what was frozen then, the boxes that were handed on. -/
structure Cx where
  P : Program
  w0 : World
  I0 : Nat → Prop
  xs : List Tk
/-- The type of a block's variables, and the box's. -/
def TokTy (P : Program) (q : Tk) : Prop := match q.ty with
  | .dyn t => TyAt P q.tid t
  | .map _ _ => True
  | t => TyAt P q.tid t
/-- Boxes are kept by their sites, the least one first. -/
def St.srt (st : St) : Prop := (st.bx.map (·.1)).Pairwise (· < ·)

/-- How a state stands to memory. -/
structure Inv (C : Cx) (st : St) (tm : Array Value) (w : World) (I : Nat → Prop) (tk : Toks) : Prop where
  len : st.sl.length = tm.size
  small : st.sl.length ≤ 900000
  srt : st.srt
  slots : ∀ i, i < st.sl.length → SRep w I tk (st.slot i) (tm.getD i undef)
  boxes : ∀ s d, st.box s = some d → ∃ q, tk s = some q ∧ BoxRep w I tk q d
  inj : ∀ s s' q q' b, tk s = some q → tk s' = some q' → q.blk = some b → q'.blk = some b → s = s'
  tokLt : ∀ s q b, tk s = some q → q.blk = some b → b < w.heap.size
  tokI : ∀ s q b, tk s = some q → q.blk = some b → ¬ I b
  tys : ∀ s q b, tk s = some q → q.blk = some b → TokTy C.P q
  ilt : ∀ b, I b → b < w.heap.size
  fresh : ∀ s q b, tk s = some q → q.blk = some b → C.w0.heap.size ≤ b ∨ ∃ (j : Nat) (q' : Tk), C.xs[j]? = some q' ∧ q'.blk = some b
  ext : ∀ (j : Nat) (q : Tk), C.xs[j]? = some q → ∀ d, st.box (site j) = some d → tk (site j) = some q
  keep : ∀ b, b < C.w0.heap.size → (∀ (j : Nat) (q : Tk), C.xs[j]? = some q → q.blk ≠ some b) → w.heap[b]? = C.w0.heap[b]?
  size : C.w0.heap.size ≤ w.heap.size
  os : w.os = C.w0.os
  output : w.output = C.w0.output
  tape : w.tape = C.w0.tape
  sub : ∀ b, C.I0 b → I b
  new : ∀ b, I b → C.I0 b ∨ C.w0.heap.size ≤ b ∨ ∃ (j : Nat) (q : Tk), C.xs[j]? = some q ∧ q.blk = some b

/-! ### The world moves on -/
theorem Blk.of_block {w w' : World} {b : Nat} {e : TypeId} {cs : List Value} (h : Blk w b e cs) (hb : w'.heap[b]? = w.heap[b]?) : Blk w' b e cs := by
  unfold Blk at *; rw [hb]; exact h
theorem OwnRep.world {w w' : World} {I I' : Nat → Prop} {tk tk' : Toks} {b o cap : Nat} {e : TypeId} {t : Ty} {l : List t.den} (hI : ∀ b, I b → I' b) (hw : ∀ b, I b → w'.heap[b]? = w.heap[b]?) (ht : tk.le tk')
    (hb : w'.heap[b]? = w.heap[b]?) (h : OwnRep w I tk b e o cap t l) : OwnRep w' I' tk' b e o cap t l := by
  obtain ⟨cs, h1, h2, h3⟩ := h
  refine ⟨cs, h1.of_block hb, h2, fun i x hx => ?_⟩
  obtain ⟨c, hc, hv⟩ := h3 i x hx
  exact ⟨c, hc.mono hI hw ht, hv⟩
theorem BoxRep.world {w w' : World} {I I' : Nat → Prop} {tk tk' : Toks} {q : Tk} {d : DV} (hI : ∀ b, I b → I' b) (hw : ∀ b, I b → w'.heap[b]? = w.heap[b]?) (ht : tk.le tk')
    (hb : ∀ b, q.blk = some b → w'.heap[b]? = w.heap[b]?) (h : BoxRep w I tk q d) : BoxRep w' I' tk' q d := by
  obtain ⟨t, x⟩ := d
  have str : (q.ty = t.frz ∧ q.off = 0 ∧ ∃ b cs, q.blk = some b ∧ Blk w b q.tid cs ∧ cellsRep w I tk t x cs) → (q.ty = t.frz ∧ q.off = 0 ∧ ∃ b cs, q.blk = some b ∧ Blk w' b q.tid cs ∧ cellsRep w' I' tk' t x cs) := by
    rintro ⟨h1, h2, b, cs, h3, h4, h5⟩
    exact ⟨h1, h2, b, cs, h3, h4.of_block (hb b h3), h5.mono hI hw ht⟩
  cases t <;> simp only [BoxRep] at h ⊢ <;> first | exact str h | skip
  · obtain ⟨h1, hp, h2, h3, h4, h5⟩ := h
    refine ⟨h1, hp, h2, h3, h4, h5.imp id ?_⟩
    rintro ⟨b, e1, e2, e3⟩
    exact ⟨b, e1, e2, e3.world hI hw ht (hb b e1)⟩
  · obtain ⟨h1, b, h2, es, clock, h3, h4, h5, h6, h7, h8⟩ := h
    exact ⟨h1, b, h2, es, clock, by rw [hb b h2]; exact h3, h4, h5, h6, h7, fun i e p he hp => ⟨(h8 i e p he hp).1.mono hI hw ht, (h8 i e p he hp).2.mono hI hw ht⟩⟩
theorem SRep1.world {w w' : World} {I I' : Nat → Prop} {tk tk' : Toks} {s : SV} {v : Value} (hI : ∀ b, I b → I' b) (hw : ∀ b, I b → w'.heap[b]? = w.heap[b]?) (ht : tk.le tk')
    (h : SRep1 w I tk s v) : SRep1 w' I' tk' s v := by
  cases s with
  | p d => exact ⟨h.1, h.2.mono hI hw ht⟩
  | sd d => exact ⟨h.1, h.2.mono hI hw ht⟩
  | va s t => obtain ⟨q, h1, h2⟩ := h; exact ⟨q, ht _ _ h1, h2⟩
  | vs s t pa lo n => obtain ⟨q, h1, h2⟩ := h; exact ⟨q, ht _ _ h1, h2⟩
  | pb s t pa => exact ptRep.mono ht h
  | mp s k v => obtain ⟨q, b, h1, h2⟩ := h; exact ⟨q, b, ht _ _ h1, h2⟩
  | ud s t => obtain ⟨q, h1, h2⟩ := h; exact ⟨q, ht _ _ h1, h2⟩
  | _ => exact h
theorem SRep.world {w w' : World} {I I' : Nat → Prop} {tk tk' : Toks} {s : SV} {v : Value} (hI : ∀ b, I b → I' b) (hw : ∀ b, I b → w'.heap[b]? = w.heap[b]?) (ht : tk.le tk')
    (h : SRep w I tk s v) : SRep w' I' tk' s v := by
  cases s with
  | clo f caps => obtain ⟨vs, e, hl, hc⟩ := h; exact ⟨vs, e, hl, fun j c x h1 h2 => (hc j c x h1 h2).world hI hw ht⟩
  | tup l => obtain ⟨vs, e, hl, hc⟩ := h; exact ⟨vs, e, hl, fun j c x h1 h2 => (hc j c x h1 h2).world hI hw ht⟩
  | p d => exact SRep1.world (s := .p d) hI hw ht h
  | sd d => exact SRep1.world (s := .sd d) hI hw ht h
  | va s t => exact SRep1.world (s := .va s t) hI hw ht h
  | vs s t pa lo n => exact SRep1.world (s := .vs s t pa lo n) hI hw ht h
  | pb s t pa => exact SRep1.world (s := .pb s t pa) hI hw ht h
  | mp s k v => exact SRep1.world (s := .mp s k v) hI hw ht h
  | ud s t => exact SRep1.world (s := .ud s t) hI hw ht h
  | nil => exact h
  | nilp => exact h
  | nilm => exact h
  | dead => exact h
  | und => exact h

/-- The world grows: what was there is as it was. -/
structure Grew (w w' : World) : Prop where
  block : ∀ b, b < w.heap.size → w'.heap[b]? = w.heap[b]?
  size : w.heap.size ≤ w'.heap.size
  os : w'.os = w.os
  output : w'.output = w.output
  tape : w'.tape = w.tape
theorem Grew.refl (w : World) : Grew w w := ⟨fun _ _ => rfl, Nat.le_refl _, rfl, rfl, rfl⟩
theorem Grew.trans {a b c : World} (h : Grew a b) (k : Grew b c) : Grew a c :=
  ⟨fun x hx => (k.block x (Nat.lt_of_lt_of_le hx h.size)).trans (h.block x hx), Nat.le_trans h.size k.size, k.os.trans h.os, k.output.trans h.output, k.tape.trans h.tape⟩
theorem Grew.alloc (w : World) (o : Obj) : Grew w (w.alloc o) :=
  ⟨fun b hb => RowKit.Below.heap_alloc w o b hb, by simp, rfl, rfl, rfl⟩
theorem Grew.drew (w : World) : Grew w w.drew := ⟨fun _ _ => rfl, Nat.le_refl _, rfl, rfl, rfl⟩

variable {C : Cx} {w w' : World} {I I' : Nat → Prop} {st : St} {tm : Array Value} {tk : Toks}

theorem Inv.grow (h : Inv C st tm w I tk) (g : Grew w w') : Inv C st tm w' I tk where
  len := h.len
  small := h.small
  srt := h.srt
  slots := fun i hi => (h.slots i hi).world (fun _ hb => hb) (fun b hb => g.block b (h.ilt b hb)) (Toks.le.refl _)
  boxes := fun s d hs => by
    obtain ⟨q, hq, hr⟩ := h.boxes s d hs
    exact ⟨q, hq, hr.world (fun _ hb => hb) (fun b hb => g.block b (h.ilt b hb)) (Toks.le.refl _) fun b hb => g.block b (h.tokLt _ _ b hq hb)⟩
  inj := h.inj
  tokLt := fun s q b h1 h2 => Nat.lt_of_lt_of_le (h.tokLt s q b h1 h2) g.size
  tokI := h.tokI
  tys := h.tys
  ilt := fun b hb => Nat.lt_of_lt_of_le (h.ilt b hb) g.size
  fresh := h.fresh
  ext := h.ext
  keep := fun b hb hx => (g.block b (Nat.lt_of_lt_of_le hb h.size)).trans (h.keep b hb hx)
  size := Nat.le_trans h.size g.size
  os := g.os.trans h.os
  output := g.output.trans h.output
  tape := g.tape.trans h.tape
  sub := h.sub
  new := h.new

theorem slot_set (st : St) (d i : Nat) (v : SV) (hd : d < st.sl.length) : ({ st with sl := st.sl.set d v } : St).slot i = if i = d then v else st.slot i := by
  unfold St.slot
  simp only [List.getD_eq_getElem?_getD, List.getElem?_set]
  by_cases h : d = i
  · subst h; simp [hd]
  · have h' : ¬ i = d := fun e => h e.symm
    simp [h, h']
theorem slot_map (st : St) (bx : List (Nat × DV)) (f : SV → SV) (hf : f .dead = .dead) (i : Nat) : (⟨st.sl.map f, bx⟩ : St).slot i = f (st.slot i) := by
  unfold St.slot
  simp only [List.getD_eq_getElem?_getD, List.getElem?_map]
  cases st.sl[i]? <;> simp [hf]
theorem getD_set (tm : Array Value) (d i : Nat) (v : Value) (hd : d < tm.size) : (tm.setIfInBounds d v).getD i undef = if i = d then v else tm.getD i undef := by
  by_cases h : i = d
  · subst h; simp [hd]
  · have h' : ¬ d = i := fun e => h e.symm
    simp [Array.getElem?_setIfInBounds_ne h', h]

/-- A slot is put. -/
theorem Inv.put (h : Inv C st tm w I tk) {d : Nat} {s : SV} {v : Value} (hd : d < st.sl.length) (hs : SRep w I tk s v) :
    Inv C { st with sl := st.sl.set d s } (tm.setIfInBounds d v) w I tk where
  len := by simp [h.len]
  small := by simpa using h.small
  srt := h.srt
  slots := fun i hi => by
    rw [slot_set st d i s hd, getD_set tm d i v (h.len ▸ hd)]
    split
    · exact hs
    · exact h.slots i (by simpa using hi)
  boxes := h.boxes
  inj := h.inj
  tokLt := h.tokLt
  tokI := h.tokI
  tys := h.tys
  ilt := h.ilt
  fresh := h.fresh
  ext := h.ext
  keep := h.keep
  size := h.size
  os := h.os
  output := h.output
  tape := h.tape
  sub := h.sub
  new := h.new

end Go.Own

/- The invariant: a site is given up; boxes come and go. -/
namespace Go.Own
variable {C : Cx} {w w' : World} {I I' : Nat → Prop} {st : St} {tm : Array Value} {tk tk' : Toks}

theorem kill_size (s : Nat) : ∀ t : Ty, (t.kill s).size = t.size
  | .int _ => rfl
  | .bool => rfl
  | .str => rfl
  | .flt => rfl
  | .unit => rfl
  | .eos _ => rfl
  | .pair a b => by simp only [Ty.kill, Ty.size, kill_size s a, kill_size s b]
  | .arr n t => by simp only [Ty.kill, Ty.size, kill_size s t]
  | .sl _ => rfl
  | .ref _ => rfl
  | .nif => rfl
  | .slf => rfl
  | .nsl _ => rfl
  | .sf r t pa => by simp only [Ty.kill]; unfold kv; cases Nat.beq r s <;> rfl
  | .vw r t => by simp only [Ty.kill]; unfold kv; cases Nat.beq r s <;> rfl
  | .pt r t pa => by simp only [Ty.kill]; unfold kv; cases Nat.beq r s <;> rfl
  | .mp r k v => by simp only [Ty.kill]; unfold kv; cases Nat.beq r s <;> rfl
  | .junk _ => rfl
  | .dyn _ => rfl
  | .map _ _ => rfl
theorem kill_frz (s : Nat) : ∀ t : Ty, (t.kill s).frz = t.frz
  | .int _ => rfl
  | .bool => rfl
  | .str => rfl
  | .flt => rfl
  | .unit => rfl
  | .eos _ => rfl
  | .pair a b => by simp only [Ty.kill, Ty.frz, kill_frz s a, kill_frz s b]
  | .arr n t => by simp only [Ty.kill, Ty.frz, kill_frz s t]
  | .sl _ => rfl
  | .ref _ => rfl
  | .nif => rfl
  | .slf => rfl
  | .nsl _ => rfl
  | .sf r t pa => by simp only [Ty.kill]; unfold kv; cases Nat.beq r s <;> rfl
  | .vw r t => by simp only [Ty.kill]; unfold kv; cases Nat.beq r s <;> rfl
  | .pt r t pa => by simp only [Ty.kill]; unfold kv; cases Nat.beq r s <;> rfl
  | .mp r k v => by simp only [Ty.kill]; unfold kv; cases Nat.beq r s <;> rfl
  | .junk _ => rfl
  | .dyn _ => rfl
  | .map _ _ => rfl

theorem kv_rep (b : Bool) {u v : Ty} {x : v.den} {cs : List Value} (hs : u.size = v.size) (h : cellsRep w I tk v x cs) : cellsRep w I tk (kv b u v) (kvX b u v x) cs := by
  cases b
  · exact h
  · exact h.length.trans hs.symm

theorem cellsRep.kill (s : Nat) : ∀ {t : Ty} {x : t.den} {cs : List Value}, cellsRep w I tk t x cs → cellsRep w I tk (t.kill s) (killX s t x) cs := by
  intro t
  induction t with
  | int k => intro x cs h; exact h
  | bool => intro x cs h; exact h
  | str => intro x cs h; exact h
  | flt => intro x cs h; exact h
  | unit => intro x cs h; exact h
  | eos u => intro x cs h; exact h
  | pair a b iha ihb =>
    intro x cs h
    obtain ⟨c1, c2, e, h1, h2⟩ := h
    exact ⟨c1, c2, e, iha h1, ihb h2⟩
  | arr n t ih =>
    intro x cs h
    obtain ⟨h1, h2, h3⟩ := h
    refine ⟨by simp only [killX, List.length_map]; exact h1, by rw [kill_size]; exact h2, fun i y hy => ?_⟩
    simp only [killX, List.getElem?_map] at hy
    cases hx : x[i]? with
    | none => rw [hx] at hy; cases hy
    | some z =>
      rw [hx] at hy
      simp only [Option.map_some, Option.some.injEq] at hy
      subst hy
      rw [kill_size]
      exact ih (h3 i z hx)
  | sl t ih => intro x cs h; exact h
  | ref t ih => intro x cs h; exact h
  | nif => intro x cs h; exact h
  | slf => intro x cs h; exact h
  | nsl t => intro x cs h; exact h
  | sf r t pa => intro x cs h; exact kv_rep (Nat.beq r s) (u := .slf) (v := .sf r t pa) rfl h
  | vw r t => intro x cs h; exact kv_rep (Nat.beq r s) (u := .sl t) (v := .vw r t) rfl h
  | pt r t pa => intro x cs h; exact kv_rep (Nat.beq r s) (u := .ref t) (v := .pt r t pa) rfl h
  | mp r k v => intro x cs h; exact kv_rep (Nat.beq r s) (u := .mp 0 k v) (v := .mp r k v) rfl h
  | junk t => intro x cs h; exact h
  | dyn t => intro x cs h; exact h
  | map k v => intro x cs h; exact h

theorem BoxRep.str {q : Tk} {t : Ty} {x : t.den} (ht : t.isTop = false) : BoxRep w I tk q ⟨t, x⟩ ↔ (q.ty = t.frz ∧ q.off = 0 ∧ ∃ b cs, q.blk = some b ∧ Blk w b q.tid cs ∧ cellsRep w I tk t x cs) := by
  cases t <;> first | exact Iff.rfl | cases ht
theorem kv_top (b : Bool) {u v : Ty} (h : v.isTop = false) : (kv b u v).isTop = false := by
  cases b
  · exact h
  · rfl
theorem kill_top (s : Nat) {t : Ty} (h : t.isTop = false) : (t.kill s).isTop = false := by
  cases t <;> first | rfl | exact h | exact kv_top _ rfl

theorem BoxRep.kill (s : Nat) {q : Tk} {d : DV} (h : BoxRep w I tk q d) : BoxRep w I tk q (d.kill s) := by
  obtain ⟨t, x⟩ := d
  cases ht : t.isTop with
  | true => cases t <;> first | cases ht; done | exact h
  | false =>
    obtain ⟨h1, h2, b, cs, h3, h4, h5⟩ := (BoxRep.str ht).1 h
    exact (BoxRep.str (kill_top s ht)).2 ⟨by rw [kill_frz]; exact h1, h2, b, cs, h3, h4, h5.kill s⟩

theorem SRep.of1 {v : SV} {x : Value} (h : SRep1 w I tk v x) : SRep w I tk v x := by
  cases v <;> first | exact h | exact h.elim
theorem DV.kill_frz (s : Nat) (d : DV) : (d.kill s).1.frz = d.1.frz := Go.Own.kill_frz s d.1
theorem isAgg_of_frz {t u : Ty} (h : t.frz = u.frz) : t.isAgg = u.isAgg := by rw [← Ty.frz_isAgg t, h, Ty.frz_isAgg]
theorem valRep.kill (s : Nat) {d : DV} {v : Value} (h : valRep w I tk d.1 d.2 v) : valRep w I tk (d.kill s).1 (d.kill s).2 v := by
  unfold valRep at *
  have ha : (d.kill s).1.isAgg = d.1.isAgg := isAgg_of_frz (DV.kill_frz s d)
  rw [ha]
  split
  · rename_i ht
    simp only [ht, if_true] at h
    obtain ⟨cs, e, h⟩ := h
    exact ⟨cs, e, h.kill s⟩
  · rename_i ht
    simp only [ht] at h
    exact cellsRep.kill s h
theorem SRep1.kill (s : Nat) {v : SV} {x : Value} (h : SRep1 w I tk v x) : SRep1 w I tk (v.kill1 s) x := by
  cases v with
  | sd d => exact ⟨kill_top s h.1, h.2.kill s⟩
  | va r t => simp only [SV.kill1]; cases Nat.beq r s <;> first | exact h | exact trivial
  | vs r t pa lo n => simp only [SV.kill1]; cases Nat.beq r s <;> first | exact h | exact trivial
  | pb r t pa => simp only [SV.kill1]; cases Nat.beq r s <;> first | exact h | exact trivial
  | mp r k x => simp only [SV.kill1]; cases Nat.beq r s <;> first | exact h | exact trivial
  | ud r t => simp only [SV.kill1]; cases Nat.beq r s <;> first | exact h | exact trivial
  | _ => exact h
theorem kill1_all {l : List SV} {vs : Array Value} (s : Nat) (hc : ∀ (j : Nat) (c : SV) (x : Value), l[j]? = some c → vs[j]? = some x → SRep1 w I tk c x) :
    ∀ (j : Nat) (c : SV) (x : Value), (l.map (SV.kill1 s))[j]? = some c → vs[j]? = some x → SRep1 w I tk c x := by
  intro j c y h1 h2
  rw [List.getElem?_map] at h1
  cases hj : l[j]? with
  | none => rw [hj] at h1; cases h1
  | some c0 => rw [hj] at h1; simp only [Option.map_some, Option.some.injEq] at h1; subst h1; exact (hc j c0 y hj h2).kill s
/-- Neither a function value nor several results. -/
def SV.isOne : SV → Bool
  | .clo _ _ => false
  | .tup _ => false
  | _ => true
theorem SRep.one {v : SV} {x : Value} (hv : v.isOne = true) : SRep w I tk v x ↔ SRep1 w I tk v x := by
  cases v <;> first | exact Iff.rfl | cases hv
theorem kill_one {v : SV} (hv : v.isOne = true) (s : Nat) : v.kill s = v.kill1 s := by
  cases v <;> first | rfl | cases hv
theorem SRep.kill (s : Nat) {v : SV} {x : Value} (h : SRep w I tk v x) : SRep w I tk (v.kill s) x := by
  cases hv : v.isOne with
  | true => rw [kill_one hv]; exact SRep.of1 (((SRep.one hv).1 h).kill s)
  | false =>
    cases v with
    | clo f caps => obtain ⟨vs, e, hl, hc⟩ := h; exact ⟨vs, e, by simpa using hl, kill1_all s hc⟩
    | tup l => obtain ⟨vs, e, hl, hc⟩ := h; exact ⟨vs, e, by simpa using hl, kill1_all s hc⟩
    | _ => cases hv

/-! ### Boxes by site -/
theorem findB_map (f : DV → DV) (s : Nat) : ∀ l : List (Nat × DV), findB (l.map fun x => (x.1, f x.2)) s = (findB l s).map f
  | [] => rfl
  | (i, a) :: r => by
    simp only [List.map_cons, findB]
    cases Nat.beq i s
    · exact findB_map f s r
    · rfl
theorem box_kill (s r : Nat) (st : St) : (st.kill s).box r = (st.box r).map (DV.kill s) := findB_map (DV.kill s) r st.bx
theorem slot_kill (s i : Nat) (st : St) : (st.kill s).slot i = (st.slot i).kill s := slot_map st _ (SV.kill s) rfl i

/-- A site is given up. -/
theorem Inv.kill (h : Inv C st tm w I tk) (s : Nat) : Inv C (st.kill s) tm w I tk where
  len := by simpa [St.kill] using h.len
  small := by simpa [St.kill] using h.small
  srt := by have := h.srt; unfold St.srt at *; simpa [St.kill, List.map_map, Function.comp_def] using this
  slots := fun i hi => by rw [slot_kill]; exact (h.slots i (by simpa [St.kill] using hi)).kill s
  boxes := fun r d hr => by
    rw [box_kill] at hr
    cases hb : st.box r with
    | none => rw [hb] at hr; cases hr
    | some d0 =>
      rw [hb] at hr
      simp only [Option.map_some, Option.some.injEq] at hr
      subst hr
      obtain ⟨q, hq, hd⟩ := h.boxes r d0 hb
      exact ⟨q, hq, hd.kill s⟩
  inj := h.inj
  tokLt := h.tokLt
  tokI := h.tokI
  tys := h.tys
  ilt := h.ilt
  fresh := h.fresh
  ext := fun j q hj d hd => by
    rw [box_kill] at hd
    cases hb : st.box (site j) with
    | none => rw [hb] at hd; cases hd
    | some d0 => exact h.ext j q hj d0 hb
  keep := h.keep
  size := h.size
  os := h.os
  output := h.output
  tape := h.tape
  sub := h.sub
  new := h.new
end Go.Own

/- The invariant: new boxes, boxes that are written, taken away, frozen. -/
namespace Go.Own
variable {C : Cx} {w w' : World} {I I' : Nat → Prop} {st : St} {tm : Array Value} {tk tk' : Toks}

theorem beq_iff {a b : Nat} : Nat.beq a b = true ↔ a = b := by rw [Nat.beq_eq]
theorem beq_no {a b : Nat} : Nat.beq a b = false ↔ a ≠ b := by
  cases h : Nat.beq a b
  · simp; intro e; rw [beq_iff.2 e] at h; cases h
  · simp [beq_iff.1 h]

theorem findB_insB (s r : Nat) (d : DV) : ∀ l : List (Nat × DV), findB (insB s d l) r = if r = s then some d else findB l r
  | [] => by
    simp only [insB, findB]
    cases h : Nat.beq s r
    · rw [if_neg (fun e => beq_no.1 h e.symm)]; rfl
    · rw [if_pos (beq_iff.1 h).symm]; rfl
  | (i, a) :: l => by
    simp only [insB]
    cases h1 : Nat.beq i s
    · simp only [cond_false]
      cases h2 : Nat.blt s i
      · simp only [cond_false, findB]
        cases h3 : Nat.beq i r
        · simp only [cond_false]; exact findB_insB s r d l
        · simp only [cond_true]
          rw [if_neg (fun e => beq_no.1 h1 ((beq_iff.1 h3).trans e))]
      · simp only [cond_true, findB]
        cases h : Nat.beq s r
        · simp only [cond_false]; rw [if_neg (fun e => beq_no.1 h e.symm)]
        · simp only [cond_true]; rw [if_pos (beq_iff.1 h).symm]
    · simp only [cond_true, findB]
      have e1 := beq_iff.1 h1
      cases h : Nat.beq s r
      · simp only [cond_false]
        rw [if_neg (fun e => beq_no.1 h e.symm)]
        have : Nat.beq i r = false := by rw [e1]; exact h
        rw [this]; rfl
      · simp only [cond_true]; rw [if_pos (beq_iff.1 h).symm]
theorem box_setBox (st : St) (s r : Nat) (d : DV) : (st.setBox s d).box r = if r = s then some d else st.box r := findB_insB s r d st.bx
theorem findB_delB (s r : Nat) : ∀ l : List (Nat × DV), findB (delB s l) r = if r = s then none else findB l r
  | [] => by simp [delB, findB]
  | (i, a) :: l => by
    have ih := findB_delB s r l
    unfold delB at ih ⊢
    rw [List.filter_cons]
    cases h1 : Nat.beq i s
    · simp only [Bool.not_false, if_true, findB]
      cases h3 : Nat.beq i r
      · simp only [cond_false]; exact ih
      · simp only [cond_true]; rw [if_neg (fun e => beq_no.1 h1 ((beq_iff.1 h3).trans e))]
    · simp only [Bool.not_true, Bool.false_eq_true, if_false, findB]
      rw [ih]
      by_cases hr : r = s
      · simp [hr]
      · rw [if_neg hr, if_neg hr, beq_no.2 (fun e => hr (e.symm.trans (beq_iff.1 h1)))]; rfl
theorem box_del (st : St) (s r : Nat) : (⟨st.sl, delB s st.bx⟩ : St).box r = if r = s then none else st.box r := findB_delB s r st.bx

theorem insB_keys (s : Nat) (d : DV) : ∀ l : List (Nat × DV), (l.map (·.1)).Pairwise (· < ·) → ((insB s d l).map (·.1)).Pairwise (· < ·) ∧ ∀ x ∈ (insB s d l).map (·.1), x = s ∨ x ∈ l.map (·.1)
  | [], _ => by simp [insB]
  | (i, a) :: l, h => by
    simp only [List.map_cons, List.pairwise_cons] at h
    obtain ⟨ih1, ih2⟩ := insB_keys s d l h.2
    simp only [insB]
    cases h1 : Nat.beq i s
    · simp only [cond_false]
      cases h2 : Nat.blt s i
      · simp only [cond_false, List.map_cons, List.pairwise_cons]
        have h3 : i < s := by
          have h4 := beq_no.1 h1
          have h5 : ¬ s < i := fun hlt => by have : Nat.blt s i = true := Nat.ble_eq_true_of_le hlt; rw [this] at h2; cases h2
          omega
        refine ⟨⟨fun x hx => ?_, ih1⟩, fun x hx => ?_⟩
        · rcases ih2 x hx with rfl | hx
          · exact h3
          · exact h.1 x hx
        · rcases List.mem_cons.1 hx with rfl | hx
          · right; simp
          · exact (ih2 x hx).imp id fun h => List.mem_cons_of_mem _ h
      · have h3 : s < i := Nat.le_of_ble_eq_true h2
        simp only [cond_true, List.map_cons, List.pairwise_cons]
        refine ⟨⟨fun x hx => ?_, h.1, h.2⟩, fun x hx => ?_⟩
        · rcases List.mem_cons.1 hx with rfl | hx
          · exact h3
          · exact Nat.lt_trans h3 (h.1 x hx)
        · rcases List.mem_cons.1 hx with rfl | hx
          · exact .inl rfl
          · exact .inr hx
    · have e := beq_iff.1 h1
      simp only [cond_true, List.map_cons, List.pairwise_cons]
      refine ⟨⟨fun x hx => ?_, h.2⟩, fun x hx => ?_⟩
      · rw [← e]; exact h.1 x hx
      · rcases List.mem_cons.1 hx with rfl | hx
        · exact .inl rfl
        · exact .inr (List.mem_cons_of_mem _ hx)
theorem srt_setBox {st : St} (h : st.srt) (s : Nat) (d : DV) : (st.setBox s d).srt := (insB_keys s d st.bx h).1
theorem srt_sub {l l' : List (Nat × DV)} (h : (l.map (·.1)).Pairwise (· < ·)) (hs : l'.Sublist l) : (l'.map (·.1)).Pairwise (· < ·) := h.sublist (hs.map _)
theorem srt_del {st : St} (h : st.srt) (s : Nat) : St.srt ⟨st.sl, delB s st.bx⟩ := srt_sub h List.filter_sublist

/-- Nothing points to box s, but perhaps what it holds itself. -/
def St.free (st : St) (s : Nat) : Prop := (∀ i, i < st.sl.length → s ∉ (st.slot i).sites1) ∧ ∀ r d, r ≠ s → st.box r = some d → s ∉ mentions d.1

theorem kv_no (b : Bool) {u v : Ty} {s : Nat} (h : b = false → s ∉ mentions v) : s ∉ mentions (kv b u v) := by
  cases b
  · exact h rfl
  · simp [kv, mentions]
theorem mentions_kill (s : Nat) : ∀ t : Ty, s ∉ mentions (t.kill s)
  | .int _ => by simp [Ty.kill, mentions]
  | .bool => by simp [Ty.kill, mentions]
  | .str => by simp [Ty.kill, mentions]
  | .flt => by simp [Ty.kill, mentions]
  | .unit => by simp [Ty.kill, mentions]
  | .eos _ => by simp [Ty.kill, mentions]
  | .pair a b => by
    simp only [Ty.kill, mentions, List.mem_append, not_or]
    exact ⟨mentions_kill s a, mentions_kill s b⟩
  | .arr n t => mentions_kill s t
  | .sl _ => by simp [Ty.kill, mentions]
  | .ref _ => by simp [Ty.kill, mentions]
  | .nif => by simp [Ty.kill, mentions]
  | .slf => by simp [Ty.kill, mentions]
  | .nsl _ => by simp [Ty.kill, mentions]
  | .sf r t pa => kv_no _ fun h => by simp only [mentions, List.mem_singleton]; exact fun e => beq_no.1 h e.symm
  | .vw r t => kv_no _ fun h => by simp only [mentions, List.mem_singleton]; exact fun e => beq_no.1 h e.symm
  | .pt r t pa => kv_no _ fun h => by simp only [mentions, List.mem_singleton]; exact fun e => beq_no.1 h e.symm
  | .mp r k v => kv_no _ fun h => by simp only [mentions, List.mem_singleton]; exact fun e => beq_no.1 h e.symm
  | .junk _ => by simp [Ty.kill, mentions]
  | .dyn _ => by simp [Ty.kill, mentions]
  | .map _ _ => by simp [Ty.kill, mentions]
theorem kill1_no (s : Nat) (v : SV) : s ∉ (v.kill1 s).sites := by
  cases v with
  | sd d => exact mentions_kill s d.1
  | va r t => simp only [SV.kill1]; cases h : Nat.beq r s <;> simp only [cond_true, cond_false, SV.sites, List.not_mem_nil, not_false_eq_true, List.mem_singleton]; exact fun e => beq_no.1 h e.symm
  | vs r t pa lo n => simp only [SV.kill1]; cases h : Nat.beq r s <;> simp only [cond_true, cond_false, SV.sites, List.not_mem_nil, not_false_eq_true, List.mem_singleton]; exact fun e => beq_no.1 h e.symm
  | pb r t pa => simp only [SV.kill1]; cases h : Nat.beq r s <;> simp only [cond_true, cond_false, SV.sites, List.not_mem_nil, not_false_eq_true, List.mem_singleton]; exact fun e => beq_no.1 h e.symm
  | mp r k x => simp only [SV.kill1]; cases h : Nat.beq r s <;> simp only [cond_true, cond_false, SV.sites, List.not_mem_nil, not_false_eq_true, List.mem_singleton]; exact fun e => beq_no.1 h e.symm
  | ud r t => simp only [SV.kill1]; cases h : Nat.beq r s <;> simp only [cond_true, cond_false, SV.sites, List.not_mem_nil, not_false_eq_true, List.mem_singleton]; exact fun e => beq_no.1 h e.symm
  | _ => simp [SV.kill1, SV.sites]
theorem sites1_one {v : SV} (hv : v.isOne = true) : v.sites1 = v.sites := by cases v <;> first | rfl | cases hv
theorem kill1_one {v : SV} (hv : v.isOne = true) (s : Nat) : (v.kill1 s).isOne = true := by
  cases v <;> first | rfl | cases hv; done | (simp only [SV.kill1]; cases Nat.beq _ s <;> rfl)
theorem kill_no (s : Nat) (v : SV) : s ∉ (v.kill s).sites1 := by
  have flat : ∀ l : List SV, s ∉ (l.map (SV.kill1 s)).flatMap SV.sites := by
    intro l h
    rw [List.mem_flatMap] at h
    obtain ⟨a, ha, hs⟩ := h
    rw [List.mem_map] at ha
    obtain ⟨b, _, rfl⟩ := ha
    exact kill1_no s b hs
  cases hv : v.isOne with
  | true => rw [kill_one hv, sites1_one (kill1_one hv s)]; exact kill1_no s v
  | false =>
    cases v with
    | clo f caps => exact flat caps
    | tup l => exact flat l
    | _ => cases hv
theorem free_kill (st : St) (s : Nat) : (st.kill s).free s := by
  refine ⟨fun i _ => by rw [slot_kill]; exact kill_no s _, fun r d _ hr => ?_⟩
  rw [box_kill] at hr
  cases hb : st.box r with
  | none => rw [hb] at hr; cases hr
  | some d0 =>
    rw [hb] at hr
    simp only [Option.map_some, Option.some.injEq] at hr
    subst hr
    exact mentions_kill s d0.1

theorem valRep.congr {d : DV} {v : Value} (hm : ∀ s, s ∈ mentions d.1 → tk' s = tk s) (h : valRep w I tk d.1 d.2 v) : valRep w I tk' d.1 d.2 v := by
  unfold valRep at *
  split
  · rename_i ht
    simp only [ht, if_true] at h
    obtain ⟨cs, e, h⟩ := h
    exact ⟨cs, e, h.congr hm⟩
  · rename_i ht
    simp only [ht] at h
    exact cellsRep.congr hm h
theorem valRep.plain {d : DV} {v : Value} (hp : d.1.plain = true) (h : valRep w I tk d.1 d.2 v) : valRep w I tk' d.1 d.2 v := by
  unfold valRep at *
  split
  · rename_i ht
    simp only [ht, if_true] at h
    obtain ⟨cs, e, h⟩ := h
    exact ⟨cs, e, h.plain hp⟩
  · rename_i ht
    simp only [ht] at h
    exact cellsRep.plain hp h
theorem SRep1.congr {v : SV} {x : Value} (hm : ∀ s, s ∈ v.sites → tk' s = tk s) (h : SRep1 w I tk v x) : SRep1 w I tk' v x := by
  cases v with
  | p d => exact ⟨h.1, h.2.plain h.1⟩
  | sd d => exact ⟨h.1, h.2.congr hm⟩
  | va s t => obtain ⟨q, h1, h2⟩ := h; exact ⟨q, (hm _ (by simp [SV.sites])).trans h1, h2⟩
  | vs s t pa lo n => obtain ⟨q, h1, h2⟩ := h; exact ⟨q, (hm _ (by simp [SV.sites])).trans h1, h2⟩
  | pb s t pa => obtain ⟨k, b, off, h1, h2⟩ := h; exact ⟨k, b, off, (hm _ (by simp [SV.sites])).trans h1, h2⟩
  | mp s k v => obtain ⟨q, b, h1, h2⟩ := h; exact ⟨q, b, (hm _ (by simp [SV.sites])).trans h1, h2⟩
  | ud s t => obtain ⟨q, h1, h2⟩ := h; exact ⟨q, (hm _ (by simp [SV.sites])).trans h1, h2⟩
  | _ => exact h
theorem SRep.congr {v : SV} {x : Value} (hm : ∀ s, s ∈ v.sites1 → tk' s = tk s) (h : SRep w I tk v x) : SRep w I tk' v x := by
  have all : ∀ {l : List SV} {vs : Array Value}, (∀ s, s ∈ l.flatMap SV.sites → tk' s = tk s) → (∀ (j : Nat) (c : SV) (x : Value), l[j]? = some c → vs[j]? = some x → SRep1 w I tk c x) →
      ∀ (j : Nat) (c : SV) (x : Value), l[j]? = some c → vs[j]? = some x → SRep1 w I tk' c x := by
    intro l vs h1 h2 j c x h3 h4
    exact (h2 j c x h3 h4).congr fun s hs => h1 s (List.mem_flatMap.2 ⟨c, List.mem_of_getElem? h3, hs⟩)
  cases hv : v.isOne with
  | true => exact SRep.of1 (((SRep.one hv).1 h).congr (by rw [← sites1_one hv]; exact hm))
  | false =>
    cases v with
    | clo f caps => obtain ⟨vs, e, hl, hc⟩ := h; exact ⟨vs, e, hl, all hm hc⟩
    | tup l => obtain ⟨vs, e, hl, hc⟩ := h; exact ⟨vs, e, hl, all hm hc⟩
    | _ => cases hv
theorem OwnRep.plain {b o cap : Nat} {e : TypeId} {t : Ty} {l : List t.den} (hp : t.plain = true) (h : OwnRep w I tk b e o cap t l) : OwnRep w I tk' b e o cap t l := by
  obtain ⟨cs, h1, h2, h3⟩ := h
  refine ⟨cs, h1, h2, fun i x hx => ?_⟩
  obtain ⟨c, hc, hv⟩ := h3 i x hx
  exact ⟨c, hc.plain hp, hv⟩
theorem BoxRep.congr {q : Tk} {d : DV} (hm : ∀ s, s ∈ mentions d.1 → tk' s = tk s) (h : BoxRep w I tk q d) : BoxRep w I tk' q d := by
  obtain ⟨t, x⟩ := d
  cases ht : t.isTop with
  | true =>
    cases t <;> first | cases ht; done | skip
    · obtain ⟨h1, hp, h2, h3, h4, h5⟩ := h
      refine ⟨h1, hp, h2, h3, h4, h5.imp id ?_⟩
      rintro ⟨b, e1, e2, e3⟩
      exact ⟨b, e1, e2, e3.plain hp⟩
    · obtain ⟨h1, b, h2, es, clock, h3, h4, h5, h6, h7, h8⟩ := h
      exact ⟨h1, b, h2, es, clock, h3, h4, h5, h6, h7, fun i e p he hp => ⟨valRep.plain (d := ⟨_, p.1⟩) h5 (h8 i e p he hp).1, valRep.plain (d := ⟨_, p.2⟩) h6 (h8 i e p he hp).2⟩⟩
  | false =>
    obtain ⟨h1, h2, b, cs, h3, h4, h5⟩ := (BoxRep.str ht).1 h
    exact (BoxRep.str ht).2 ⟨h1, h2, b, cs, h3, h4, h5.congr hm⟩

def Toks.upd (tk : Toks) (s : Nat) (q : Tk) : Toks := fun r => if r = s then some q else tk r
theorem upd_same (tk : Toks) (s : Nat) (q : Tk) : tk.upd s q s = some q := if_pos rfl
theorem upd_other (tk : Toks) (s : Nat) (q : Tk) {r : Nat} (h : r ≠ s) : tk.upd s q r = tk r := if_neg h

/-- A new box at a site to which nothing points. -/
theorem Inv.newBox (h : Inv C st tm w I tk) {s : Nat} (hs : ∀ j, s ≠ site j) (hf : st.free s) {d : DV} {q : Tk} (hno : s ∉ mentions d.1)
    (hq : ∀ b, q.blk = some b → (C.w0.heap.size ≤ b ∨ ∃ (j : Nat) (q' : Tk), C.xs[j]? = some q' ∧ q'.blk = some b) ∧ b < w.heap.size ∧ ¬ I b ∧ ∀ s' q', s' ≠ s → tk s' = some q' → q'.blk ≠ some b) (hty : ∀ b, q.blk = some b → TokTy C.P q) (hd : BoxRep w I tk q d) :
    Inv C (st.setBox s d) tm w I (tk.upd s q) where
  len := h.len
  small := h.small
  srt := srt_setBox h.srt s d
  slots := fun i hi => (h.slots i hi).congr fun r hr => upd_other _ _ _ fun e => hf.1 i hi (e ▸ hr)
  boxes := fun r e hr => by
    rw [box_setBox] at hr
    by_cases hrs : r = s
    · rw [if_pos hrs] at hr
      cases hr
      exact ⟨q, hrs ▸ upd_same tk s q, hd.congr fun p hp => upd_other _ _ _ fun e => hno (e ▸ hp)⟩
    · rw [if_neg hrs] at hr
      obtain ⟨q', h1, h2⟩ := h.boxes r e hr
      exact ⟨q', (upd_other _ _ _ hrs).trans h1, h2.congr fun p hp => upd_other _ _ _ fun e => hf.2 r _ hrs hr (e ▸ hp)⟩
  inj := fun a b qa qb k h1 h2 h3 h4 => by
    unfold Toks.upd at h1 h2
    split at h1 <;> split at h2
    · rename_i e1 e2; rw [e1, e2]
    · rename_i e1 e2; cases h1; exact absurd h4 ((hq k h3).2.2.2 b qb e2 h2)
    · rename_i e1 e2; cases h2; exact absurd h3 ((hq k h4).2.2.2 a qa e1 h1)
    · exact h.inj a b qa qb k h1 h2 h3 h4
  tokLt := fun a qa b h1 h2 => by
    unfold Toks.upd at h1
    split at h1
    · cases h1; exact (hq b h2).2.1
    · exact h.tokLt a qa b h1 h2
  tokI := fun a qa b h1 h2 => by
    unfold Toks.upd at h1
    split at h1
    · cases h1; exact (hq b h2).2.2.1
    · exact h.tokI a qa b h1 h2
  tys := fun a qa b h1 h2 => by
    unfold Toks.upd at h1
    split at h1
    · cases h1; exact hty b h2
    · exact h.tys a qa b h1 h2
  ilt := h.ilt
  fresh := fun a qa b h1 h2 => by
    unfold Toks.upd at h1
    split at h1
    · cases h1; exact (hq b h2).1
    · exact h.fresh a qa b h1 h2
  ext := fun j q' hj e he => by
    have hne : site j ≠ s := fun e => hs j e.symm
    rw [box_setBox, if_neg hne] at he
    exact (upd_other _ _ _ hne).trans (h.ext j q' hj e he)
  keep := h.keep
  size := h.size
  os := h.os
  output := h.output
  tape := h.tape
  sub := h.sub
  new := h.new

/-- A box is taken away. -/
theorem Inv.delBox (h : Inv C st tm w I tk) (s : Nat) : Inv C ⟨st.sl, delB s st.bx⟩ tm w I tk where
  len := h.len
  small := h.small
  srt := srt_del h.srt s
  slots := h.slots
  boxes := fun r e hr => by
    rw [box_del] at hr
    split at hr
    · cases hr
    · exact h.boxes r e hr
  inj := h.inj
  tokLt := h.tokLt
  tokI := h.tokI
  tys := h.tys
  ilt := h.ilt
  fresh := h.fresh
  ext := fun j q' hj e he => by
    rw [box_del] at he
    split at he
    · cases he
    · exact h.ext j q' hj e he
  keep := h.keep
  size := h.size
  os := h.os
  output := h.output
  tape := h.tape
  sub := h.sub
  new := h.new
end Go.Own

/- The invariant: a box is written; a box is frozen. -/
namespace Go.Own
variable {C : Cx} {w w' : World} {I I' : Nat → Prop} {st : St} {tm : Array Value} {tk tk' : Toks}

/-- Block b alone was written. -/
structure Wrote (b : Nat) (w w' : World) : Prop where
  other : ∀ k, k ≠ b → w'.heap[k]? = w.heap[k]?
  size : w'.heap.size = w.heap.size
  os : w'.os = w.os
  output : w'.output = w.output
  tape : w'.tape = w.tape
theorem Wrote.refl (b : Nat) (w : World) : Wrote b w w := ⟨fun _ _ => rfl, rfl, rfl, rfl, rfl⟩

/-- A box is written. -/
theorem Inv.writeBox (h : Inv C st tm w I tk) {s b : Nat} {q : Tk} {d d' : DV} (hs : st.box s = some d) (hq : tk s = some q) (hb : q.blk = some b) (hw : Wrote b w w') (hd : BoxRep w' I tk q d') :
    Inv C (st.setBox s d') tm w' I tk where
  len := h.len
  small := h.small
  srt := srt_setBox h.srt s d'
  slots := fun i hi => (h.slots i hi).world (fun _ hb => hb) (fun k hk => hw.other k fun e => h.tokI s q b hq hb (e ▸ hk)) (Toks.le.refl _)
  boxes := fun r e hr => by
    rw [box_setBox] at hr
    by_cases hrs : r = s
    · rw [if_pos hrs] at hr
      cases hr
      exact ⟨q, hrs ▸ hq, hd⟩
    · rw [if_neg hrs] at hr
      obtain ⟨q', h1, h2⟩ := h.boxes r e hr
      exact ⟨q', h1, h2.world (fun _ hb => hb) (fun k hk => hw.other k fun e => h.tokI s q b hq hb (e ▸ hk)) (Toks.le.refl _)
        fun k hk => hw.other k fun e => hrs (h.inj r s q' q b h1 hq (e ▸ hk) hb)⟩
  inj := h.inj
  tokLt := fun a qa k h1 h2 => hw.size ▸ h.tokLt a qa k h1 h2
  tokI := h.tokI
  tys := h.tys
  ilt := fun k hk => hw.size ▸ h.ilt k hk
  fresh := h.fresh
  ext := fun j q' hj e he => by
    rw [box_setBox] at he
    by_cases hjs : site j = s
    · exact h.ext j q' hj d (hjs ▸ hs)
    · rw [if_neg hjs] at he
      exact h.ext j q' hj e he
  keep := fun k hk hx => by
    rw [hw.other k ?_]
    · exact h.keep k hk hx
    · intro e
      subst e
      rcases h.fresh s q k hq hb with h1 | ⟨j, q', h1, h2⟩
      · omega
      · exact hx j q' h1 h2
  size := hw.size ▸ h.size
  os := hw.os.trans h.os
  output := hw.output.trans h.output
  tape := hw.tape.trans h.tape
  sub := h.sub
  new := h.new

/-- A box's data alone is told anew (nothing is written). -/
theorem Inv.tellBox (h : Inv C st tm w I tk) {s : Nat} {q : Tk} {d d' : DV} (hs : st.box s = some d) (hq : tk s = some q) (hd : BoxRep w I tk q d') :
    Inv C (st.setBox s d') tm w I tk where
  len := h.len
  small := h.small
  srt := srt_setBox h.srt s d'
  slots := h.slots
  boxes := fun r e hr => by
    rw [box_setBox] at hr
    by_cases hrs : r = s
    · rw [if_pos hrs] at hr
      cases hr
      exact ⟨q, hrs ▸ hq, hd⟩
    · rw [if_neg hrs] at hr
      exact h.boxes r e hr
  inj := h.inj
  tokLt := h.tokLt
  tokI := h.tokI
  tys := h.tys
  ilt := h.ilt
  fresh := h.fresh
  ext := fun j q' hj e he => by
    rw [box_setBox] at he
    by_cases hjs : site j = s
    · exact h.ext j q' hj d (hjs ▸ hs)
    · rw [if_neg hjs] at he
      exact h.ext j q' hj e he
  keep := h.keep
  size := h.size
  os := h.os
  output := h.output
  tape := h.tape
  sub := h.sub
  new := h.new

/-- What was known of a box that is gone, and to which nothing points, is forgotten. -/
def Toks.drop (tk : Toks) (g : Nat) : Toks := fun r => if r = g then none else tk r
theorem drop_some {g r : Nat} {q : Tk} (h : tk.drop g r = some q) : r ≠ g ∧ tk r = some q := by
  unfold Toks.drop at h
  split at h
  · cases h
  · rename_i e; exact ⟨e, h⟩
theorem drop_other {g r : Nat} (h : r ≠ g) : tk.drop g r = tk r := if_neg h
theorem Inv.dropTok (h : Inv C st tm w I tk) {g : Nat} (hf : st.free g) (hb : st.box g = none) : Inv C st tm w I (tk.drop g) where
  len := h.len
  small := h.small
  srt := h.srt
  slots := fun i hi => (h.slots i hi).congr fun r hr => drop_other fun e => hf.1 i hi (e ▸ hr)
  boxes := fun r e hr => by
    obtain ⟨q, h1, h2⟩ := h.boxes r e hr
    have hrg : r ≠ g := fun e => by rw [e, hb] at hr; cases hr
    exact ⟨q, (drop_other hrg).trans h1, h2.congr fun p hp => drop_other fun e => hf.2 r _ hrg hr (e ▸ hp)⟩
  inj := fun a b qa qb k h1 h2 => h.inj a b qa qb k (drop_some h1).2 (drop_some h2).2
  tokLt := fun a qa k h1 => h.tokLt a qa k (drop_some h1).2
  tokI := fun a qa k h1 => h.tokI a qa k (drop_some h1).2
  tys := fun a qa k h1 => h.tys a qa k (drop_some h1).2
  ilt := h.ilt
  fresh := fun a qa k h1 => h.fresh a qa k (drop_some h1).2
  ext := fun j q' hj e he => (drop_other fun hg => by rw [hg, hb] at he; cases he).trans (h.ext j q' hj e he)
  keep := h.keep
  size := h.size
  os := h.os
  output := h.output
  tape := h.tape
  sub := h.sub
  new := h.new

/-- A block that nobody owns is written. -/
theorem Inv.writeFree (h : Inv C st tm w I tk) {b : Nat} (hb : ∀ s q, tk s = some q → q.blk ≠ some b) (hI : ¬ I b) (hn : C.w0.heap.size ≤ b ∨ ∃ (j : Nat) (q' : Tk), C.xs[j]? = some q' ∧ q'.blk = some b) (hw : Wrote b w w') : Inv C st tm w' I tk where
  len := h.len
  small := h.small
  srt := h.srt
  slots := fun i hi => (h.slots i hi).world (fun _ hb => hb) (fun k hk => hw.other k fun e => hI (e ▸ hk)) (Toks.le.refl _)
  boxes := fun r e hr => by
    obtain ⟨q, h1, h2⟩ := h.boxes r e hr
    exact ⟨q, h1, h2.world (fun _ hb => hb) (fun k hk => hw.other k fun e => hI (e ▸ hk)) (Toks.le.refl _) fun k hk => hw.other k fun e => hb r q h1 (e ▸ hk)⟩
  inj := h.inj
  tokLt := fun a qa k h1 h2 => hw.size ▸ h.tokLt a qa k h1 h2
  tokI := h.tokI
  tys := h.tys
  ilt := fun k hk => hw.size ▸ h.ilt k hk
  fresh := h.fresh
  ext := h.ext
  keep := fun k hk hx => by
    rw [hw.other k ?_]
    · exact h.keep k hk hx
    · intro e
      subst e
      rcases hn with h1 | ⟨j, q', h1, h2⟩
      · omega
      · exact hx j q' h1 h2
  size := hw.size ▸ h.size
  os := hw.os.trans h.os
  output := hw.output.trans h.output
  tape := hw.tape.trans h.tape
  sub := h.sub
  new := h.new
end Go.Own

/- Paths into data, and the cells there. -/
namespace Go.Own
variable {w : World} {I : Nat → Prop} {tk : Toks}

theorem pathAt_nil (t : Ty) : pathAt t [] = some (0, t) := by cases t <;> rfl
/-- Cells with others laid over, from a place on. -/
def splice (cs : List Value) (off : Nat) (c : List Value) : List Value := cs.take off ++ c ++ cs.drop (off + c.length)

theorem splice_length (cs : List Value) (off : Nat) (c : List Value) (h : off + c.length ≤ cs.length) : (splice cs off c).length = cs.length := by
  unfold splice; simp; omega

theorem splice_get (cs : List Value) (off : Nat) (c : List Value) (h : off + c.length ≤ cs.length) (k : Nat) :
    (splice cs off c)[k]? = if off ≤ k ∧ k < off + c.length then c[k - off]? else cs[k]? := by
  unfold splice
  have hl : (cs.take off).length = off := by simp; omega
  rw [List.append_assoc]
  rcases Nat.lt_or_ge k off with h1 | h1
  · rw [List.getElem?_append_left (by omega), List.getElem?_take_of_lt h1, if_neg (by omega)]
  · rw [List.getElem?_append_right (by omega), hl]
    rcases Nat.lt_or_ge k (off + c.length) with h2 | h2
    · rw [List.getElem?_append_left (by omega), if_pos ⟨h1, h2⟩]
    · rw [List.getElem?_append_right (by omega), List.getElem?_drop, if_neg (by omega)]
      congr 1; omega

theorem seg_get (cs : List Value) (a n k : Nat) : ((cs.drop a).take n)[k]? = if k < n then cs[a + k]? else none := by
  rw [List.getElem?_take]
  split
  · rw [List.getElem?_drop]
  · rfl

theorem list_ext {a b : List Value} (h : ∀ k : Nat, a[k]? = b[k]?) : a = b := List.ext_getElem? h

/-- A part of an array. -/
theorem arr_sub {n lo k : Nat} {t : Ty} {x : List t.den} {cs : List Value} (h : cellsRep w I tk (.arr n t) x cs) (hlo : lo + k ≤ n) :
    cellsRep w I tk (.arr k t) ((x.drop lo).take k) ((cs.drop (lo * t.size)).take (k * t.size)) := by
  obtain ⟨hl, hc, h1⟩ := h
  have hm : (lo + k) * t.size ≤ n * t.size := Nat.mul_le_mul_right _ hlo
  rw [Nat.add_mul] at hm
  refine ⟨by simp; omega, by simp; omega, fun i y hy => ?_⟩
  rw [List.getElem?_take] at hy
  split at hy
  · rename_i hi
    rw [List.getElem?_drop] at hy
    have := h1 _ _ hy
    have h2 : (i + 1) * t.size ≤ k * t.size := Nat.mul_le_mul_right _ hi
    rw [Nat.add_mul, Nat.one_mul] at h2
    have e : (((cs.drop (lo * t.size)).take (k * t.size)).drop (i * t.size)).take t.size = (cs.drop ((lo + i) * t.size)).take t.size := by
      apply list_ext; intro j
      rw [seg_get _ (i * t.size), seg_get _ ((lo + i) * t.size)]
      split
      · rw [seg_get, if_pos (by omega)]; congr 1; rw [Nat.add_mul]; omega
      · rfl
    rw [e]; exact this
  · cases hy

/-- The part at a path. -/
theorem getP_cells (n0 : Nat) : ∀ {pa : Path} {t u : Ty} {x : t.den} {y : u.den} {cs : List Value}, cellsRep w I tk t x cs → getP t x pa = some ⟨u, y⟩ → pathIn n0 t.frz pa →
    ∃ off, pathAt t.frz pa = some (off, u.frz) ∧ cellsRep w I tk u y ((cs.drop off).take u.size) ∧ off + u.size ≤ t.size := by
  intro pa
  induction pa with
  | nil =>
    intro t u x y cs h hg _
    have : (⟨t, x⟩ : DV) = ⟨u, y⟩ := by cases t <;> simpa [getP] using hg
    cases this
    refine ⟨0, pathAt_nil _, ?_, by omega⟩
    have hl := h.length
    rw [List.drop_zero, ← hl, List.take_length]
    exact h
  | cons s pa ih =>
    intro t u x y cs h hg hp
    cases t <;> cases s <;> simp only [getP, reduceCtorEq] at hg <;> simp only [Ty.frz, pathIn] at hp
    case pair.fst a b =>
      obtain ⟨c1, c2, rfl, h1, h2⟩ := h
      obtain ⟨off, h3, h4, h5⟩ := ih h1 hg hp
      have l1 := h1.length
      refine ⟨off, h3, ?_, by simp only [Ty.size]; omega⟩
      have : ((c1 ++ c2).drop off).take u.size = (c1.drop off).take u.size := by
        apply list_ext; intro k
        rw [seg_get, seg_get]
        split
        · rw [List.getElem?_append_left (by omega)]
        · rfl
      rw [this]; exact h4
    case pair.snd a b =>
      obtain ⟨c1, c2, rfl, h1, h2⟩ := h
      obtain ⟨off, h3, h4, h5⟩ := ih h2 hg hp
      have l1 := h1.length
      refine ⟨a.size + off, by simp [Ty.frz, pathAt, h3, Ty.frz_size], ?_, by simp only [Ty.size]; omega⟩
      have : ((c1 ++ c2).drop (a.size + off)).take u.size = (c2.drop off).take u.size := by
        apply list_ext; intro k
        rw [seg_get, seg_get]
        split
        · rw [List.getElem?_append_right (by omega)]; congr 1; omega
        · rfl
      rw [this]; exact h4
    case arr.ix n t i =>
      obtain ⟨hl, hc, h1⟩ := h
      have hi : i < x.length := by omega
      have hxi : x[i]? = some (List.getD x i t.dflt) := by
        rw [List.getD_eq_getElem?_getD, List.getElem?_eq_getElem hi]; rfl
      obtain ⟨off, h3, h4, h5⟩ := ih (h1 i _ hxi) hg hp.2
      have hm : (i + 1) * t.size ≤ n * t.size := Nat.mul_le_mul_right _ hp.1
      rw [Nat.add_mul, Nat.one_mul] at hm
      refine ⟨i * t.size + off, by simp [Ty.frz, pathAt, h3, Ty.frz_size], ?_, by simp only [Ty.size]; omega⟩
      have : (cs.drop (i * t.size + off)).take u.size = (((cs.drop (i * t.size)).take t.size).drop off).take u.size := by
        apply list_ext; intro k
        rw [seg_get, seg_get]
        split
        · rw [seg_get, if_pos (by omega)]; congr 1; omega
        · rfl
      rw [this]; exact h4

    case dyn.ix t i => exact h.elim
    case dyn.sub t lo k => exact h.elim
    case arr.sub n t lo k =>
      obtain ⟨off, h3, h4, h5⟩ := ih (t := .arr k t) (arr_sub h hp.1) hg hp.2
      have hm : (lo + k) * t.size ≤ n * t.size := Nat.mul_le_mul_right _ hp.1
      rw [Nat.add_mul] at hm
      simp only [Ty.size] at h5 ⊢
      simp only [Ty.frz] at h3
      refine ⟨lo * t.size + off, by simp [Ty.frz, pathAt, h3, Ty.frz_size], ?_, by omega⟩
      have : (cs.drop (lo * t.size + off)).take u.size = (((cs.drop (lo * t.size)).take (k * t.size)).drop off).take u.size := by
        apply list_ext; intro j
        rw [seg_get _ (lo * t.size + off), seg_get _ off]
        split
        · rw [seg_get, if_pos (by omega)]; congr 1; omega
        · rfl
      rw [this]; exact h4


end Go.Own

/- A part of data is set: the cells. -/
namespace Go.Own
variable {w : World} {I : Nat → Prop} {tk : Toks}

/-- The part at a path is set; a struct's field may change its type. -/
theorem setP_cells (n0 : Nat) : ∀ {pa : Path} {t u t' : Ty} {x : t.den} {x' : t'.den} {y : u.den} {cs c : List Value} {off : Nat}, cellsRep w I tk t x cs → setP t x pa ⟨u, y⟩ = some ⟨t', x'⟩ → pathIn n0 t.frz pa → cellsRep w I tk u y c →
    pathAt t.frz pa = some (off, u.frz) → cellsRep w I tk t' x' (splice cs off c) ∧ off + u.size ≤ t.size ∧ t'.frz = t.frz := by
  intro pa
  induction pa with
  | nil =>
    intro t u t' x x' y cs c off h hs _ hc ho
    rw [pathAt_nil] at ho
    simp only [Option.some.injEq, Prod.mk.injEq] at ho
    obtain ⟨rfl, e⟩ := ho
    have hs' : (⟨u, y⟩ : DV) = ⟨t', x'⟩ := by cases t <;> simpa [setP] using hs
    cases hs'
    have l1 := h.length
    have l2 := hc.length
    have l3 : u.size = t.size := by rw [← Ty.frz_size u, ← Ty.frz_size t, e]
    have : splice cs 0 c = c := by unfold splice; simp [l1, l2, l3]
    rw [this]; exact ⟨hc, by omega, e.symm⟩
  | cons s pa ih =>
    intro t u t' x x' y cs c off h hs hp hc ho
    have l2 := hc.length
    cases t <;> cases s <;> simp only [setP, reduceCtorEq] at hs <;> simp only [Ty.frz, pathIn] at hp
    case dyn.ix t i => exact h.elim
    case pair.fst a b =>
      obtain ⟨⟨z1, z2⟩, hz, e⟩ := Option.map_eq_some_iff.1 hs
      cases e
      obtain ⟨c1, c2, rfl, h1, h2⟩ := h
      obtain ⟨h4, h5, h6⟩ := ih h1 hz hp hc ho
      have l1 := h1.length
      refine ⟨⟨splice c1 off c, c2, ?_, h4, h2⟩, by simp only [Ty.size]; omega, by simp only [Ty.frz, h6]⟩
      apply list_ext; intro k
      have hsl : (splice c1 off c).length = c1.length := splice_length _ _ _ (by omega)
      rw [splice_get _ _ _ (by simp; omega)]
      rcases Nat.lt_or_ge k c1.length with hk | hk
      · rw [List.getElem?_append_left (l₁ := splice c1 off c) (by omega), splice_get _ _ _ (by omega), List.getElem?_append_left hk]
      · rw [List.getElem?_append_right (l₁ := splice c1 off c) (by omega), hsl, List.getElem?_append_right hk, if_neg (by omega)]
    case pair.snd a b =>
      obtain ⟨⟨z1, z2⟩, hz, e⟩ := Option.map_eq_some_iff.1 hs
      cases e
      obtain ⟨c1, c2, rfl, h1, h2⟩ := h
      simp only [Ty.frz, pathAt] at ho
      obtain ⟨⟨o1, u1⟩, ho1, e⟩ := Option.map_eq_some_iff.1 ho
      simp only [Prod.mk.injEq] at e
      obtain ⟨rfl, rfl⟩ := e
      obtain ⟨h4, h5, h6⟩ := ih h2 hz hp hc ho1
      have l1 := h1.length
      have l3 := h2.length
      have l4 := Ty.frz_size a
      refine ⟨⟨c1, splice c2 o1 c, ?_, h1, h4⟩, by simp only [Ty.size]; omega, by simp only [Ty.frz, h6]⟩
      apply list_ext; intro k
      rw [splice_get _ _ _ (by simp; omega)]
      rcases Nat.lt_or_ge k c1.length with hk | hk
      · rw [List.getElem?_append_left hk, List.getElem?_append_left hk, if_neg (by omega)]
      · rw [List.getElem?_append_right hk, List.getElem?_append_right hk, splice_get _ _ _ (by omega)]
        by_cases hq : a.frz.size + o1 ≤ k ∧ k < a.frz.size + o1 + c.length
        · rw [if_pos hq, if_pos (by omega)]; congr 1; omega
        · rw [if_neg hq, if_neg (by omega)]
    case arr.ix n t i =>
      obtain ⟨⟨z1, z2⟩, hz, e⟩ := Option.bind_eq_some_iff.1 hs
      split at e
      case isFalse => cases e
      rename_i hzt
      dsimp only at hzt
      subst hzt
      cases e
      obtain ⟨hl, hcl, h1⟩ := h
      simp only [Ty.frz, pathAt] at ho
      obtain ⟨⟨o1, u1⟩, ho1, e⟩ := Option.map_eq_some_iff.1 ho
      simp only [Prod.mk.injEq] at e
      obtain ⟨rfl, rfl⟩ := e
      have l4 := Ty.frz_size z1
      rw [l4]
      have hi : i < x.length := by omega
      have hxi : x[i]? = some (List.getD x i z1.dflt) := by
        rw [List.getD_eq_getElem?_getD, List.getElem?_eq_getElem hi]; rfl
      obtain ⟨h4, h5, h6⟩ := ih (h1 i _ hxi) hz hp.2 hc ho1
      have hm : (i + 1) * z1.size ≤ n * z1.size := Nat.mul_le_mul_right _ hp.1
      rw [Nat.add_mul, Nat.one_mul] at hm
      refine ⟨⟨by simpa using hl, by rw [splice_length _ _ _ (by omega)]; exact hcl, ?_⟩, by simp only [Ty.size]; omega, rfl⟩
      intro j v hj
      rw [List.getElem?_set] at hj
      by_cases hij : i = j
      · subst hij
        rw [if_pos rfl, if_pos hi] at hj
        simp only [Option.some.injEq] at hj
        subst hj
        have : ((splice cs (i * z1.size + o1) c).drop (i * z1.size)).take z1.size = splice ((cs.drop (i * z1.size)).take z1.size) o1 c := by
          apply list_ext; intro k
          have hlen : ((cs.drop (i * z1.size)).take z1.size).length = z1.size := by simp; omega
          rw [seg_get, splice_get _ _ _ (by omega), splice_get _ _ _ (by omega), seg_get]
          by_cases hk : k < z1.size
          · rw [if_pos hk, if_pos hk]
            by_cases hq : o1 ≤ k ∧ k < o1 + c.length
            · rw [if_pos hq, if_pos (by omega)]; congr 1; omega
            · rw [if_neg hq, if_neg (by omega)]
          · rw [if_neg hk, if_neg hk, if_neg (by omega)]
        rw [this]; exact h4
      · rw [if_neg hij] at hj
        have hjl : j < n := by
          have := (List.getElem?_eq_some_iff.1 hj).1; omega
        have h7 := h1 j v hj
        have : ((splice cs (i * z1.size + o1) c).drop (j * z1.size)).take z1.size = (cs.drop (j * z1.size)).take z1.size := by
          apply list_ext; intro k
          rw [seg_get, seg_get]
          by_cases hk : k < z1.size
          · rw [if_pos hk, if_pos hk, splice_get _ _ _ (by omega), if_neg]
            rintro ⟨q1, q2⟩
            rcases Nat.lt_or_gt_of_ne hij with hlt | hgt
            · have := Nat.mul_le_mul_right z1.size (show i + 1 ≤ j by omega)
              rw [Nat.add_mul, Nat.one_mul] at this; omega
            · have := Nat.mul_le_mul_right z1.size (show j + 1 ≤ i by omega)
              rw [Nat.add_mul, Nat.one_mul] at this; omega
          · rw [if_neg hk, if_neg hk]
        rw [this]; exact h7
end Go.Own

/- What a frozen box gives. -/
namespace Go.Own
variable {C : Cx} {w w' : World} {I I' : Nat → Prop} {st : St} {tm : Array Value} {tk tk' : Toks}

theorem Blk.cell {b : Nat} {e : TypeId} {cs : List Value} (h : Blk w b e cs) (o : Nat) : w.cell? ⟨b, o, none⟩ = cs[o]? := by
  obtain ⟨c, fr, h1, h2, h3⟩ := h
  subst h2
  simp [World.cell?, h1]
theorem getP_plain : ∀ {pa : Path} {t : Ty} {x : t.den} {d : DV}, t.plain = true → getP t x pa = some d → d.1.plain = true := by
  intro pa
  induction pa with
  | nil =>
    intro t x d hp h
    have : (⟨t, x⟩ : DV) = d := by cases t <;> simpa [getP] using h
    subst this; exact hp
  | cons s pa ih =>
    intro t x d hp h
    cases t <;> cases s <;> simp only [getP, reduceCtorEq] at h <;> simp only [Ty.plain, Bool.and_eq_true, Bool.false_eq_true] at hp
    · exact ih hp.1 h
    · exact ih hp.2 h
    · exact ih hp h
    · exact ih (t := .arr _ _) hp h
theorem cellsAt_seg {b o n : Nat} {e : TypeId} {cs : List Value} (h : Blk w b e cs) : cellsAt w b o ((cs.drop o).take n) := by
  intro j v hj
  rw [h.cell]
  rw [seg_get] at hj
  split at hj
  · exact hj
  · cases hj

/-- A part of an own array, as an array. -/
theorem own_sub {o cap lo k : Nat} {t : Ty} {l : List t.den} {cs : List Value} (hl : o + cap * t.size ≤ cs.length) (hc : l.length ≤ cap) (hlo : lo + k ≤ l.length)
    (h : ∀ i x, l[i]? = some x → ∃ c, cellsRep w I tk t x c ∧ ∀ j v, c[j]? = some v → cs[o + i * t.size + j]? = some v) :
    cellsRep w I tk (.arr k t) ((l.drop lo).take k) ((cs.drop (o + lo * t.size)).take (k * t.size)) := by
  have hm : (lo + k) * t.size ≤ cap * t.size := Nat.mul_le_mul_right _ (by omega)
  rw [Nat.add_mul] at hm
  refine ⟨by simp; omega, by simp; omega, fun i y hy => ?_⟩
  rw [List.getElem?_take] at hy
  split at hy
  · rename_i hi
    rw [List.getElem?_drop] at hy
    obtain ⟨c, hc1, hc2⟩ := h _ _ hy
    have h2 : (i + 1) * t.size ≤ k * t.size := Nat.mul_le_mul_right _ hi
    rw [Nat.add_mul, Nat.one_mul] at h2
    have hcl := hc1.length
    have e : (((cs.drop (o + lo * t.size)).take (k * t.size)).drop (i * t.size)).take t.size = c := by
      apply list_ext; intro j
      rw [seg_get _ (i * t.size)]
      split
      · rename_i hj
        rw [seg_get, if_pos (by omega)]
        have hj' : c[j]? = some c[j] := List.getElem?_eq_getElem (by omega)
        rw [hj', ← hc2 j _ hj']; congr 1; rw [Nat.add_mul]; omega
      · rename_i hj
        rw [List.getElem?_eq_none (by omega)]
    rw [e]; exact hc1
  · cases hy

/-- A part of what a frozen box holds, behind a pointer. -/
theorem frz_ref {q : Tk} {d x : DV} {pa : Path} {b off : Nat} {t : Ty} (hd : BoxRep w I tk q d) (hok : d.frzOK = true) (hI : ∀ b, I b → I' b) (hb : ∀ b, q.blk = some b → I' b)
    (hg : getP d.1 d.2 pa = some x) (hx : x.1.plain = true) (hat : q.at pa = some (b, off, t)) (hin : pathIn q.len q.ty pa) :
    x.1 = t ∧ cellsRep w I' tk' (.ref x.1) (some x.2) [.pointer (some ⟨b, off, none⟩)] := by
  obtain ⟨dt, dx⟩ := d
  have at' : ∃ o, q.blk = some b ∧ pathAt q.ty pa = some (o, t) ∧ off = q.off + o := by
    unfold Tk.at at hat
    cases hq : q.blk with
    | none => simp [hq] at hat
    | some b' =>
      cases hp : pathAt q.ty pa with
      | none => simp [hq, hp] at hat
      | some p =>
        obtain ⟨o, t'⟩ := p
        simp only [hq, hp, Option.some.injEq, Prod.mk.injEq] at hat
        obtain ⟨rfl, rfl, rfl⟩ := hat
        exact ⟨o, rfl, rfl, rfl⟩
  obtain ⟨o, hq, hp, rfl⟩ := at'
  cases ht : dt.isTop with
  | false =>
    obtain ⟨h1, h2, b', cs, h3, h4, h5⟩ := (BoxRep.str ht).1 hd
    rw [hq] at h3; cases h3
    have hpl : dt.plain = true := by unfold DV.frzOK at hok; cases dt <;> first | exact hok | cases ht
    have hfr : dt.frz = dt := Ty.frz_plain hpl
    rw [h1] at hp hin
    obtain ⟨o', e1, e2, e3⟩ := getP_cells q.len (u := x.1) (y := x.2) h5 hg hin
    rw [hp] at e1
    simp only [Option.some.injEq, Prod.mk.injEq] at e1
    obtain ⟨rfl, e1⟩ := e1
    rw [Ty.frz_plain hx] at e1
    refine ⟨e1.symm, hx, b, q.off + o, _, rfl, hb b hq, (e2.plain hx).mono hI (fun _ _ => rfl) (Toks.le.refl _), ?_⟩
    rw [h2, Nat.zero_add]
    exact cellsAt_seg h4
  | true =>
    cases dt <;> first | cases ht; done | skip
    · rename_i t0
      obtain ⟨h1, hp0, h2, h3, h4, h5⟩ := hd
      rw [h1] at hp hin
      cases pa with
      | nil =>
        simp only [getP, Option.some.injEq] at hg
        subst hg; cases hx
      | cons s pa =>
        cases s <;> simp only [getP, reduceCtorEq] at hg
        · rename_i i
          simp only [pathIn] at hin
          simp only [pathAt] at hp
          obtain ⟨⟨o1, t1⟩, hp1, e⟩ := Option.map_eq_some_iff.1 hp
          simp only [Prod.mk.injEq] at e
          obtain ⟨rfl, rfl⟩ := e
          rcases h5 with ⟨h5, _⟩ | ⟨b', e1, e2, cs, e3, e4, e5⟩
          · rw [hq] at h5; cases h5
          · rw [hq] at e1; cases e1
            have hi : i < dx.2.length := by omega
            have hxi : dx.2[i]? = some (List.getD dx.2 i t0.dflt) := by
              rw [List.getD_eq_getElem?_getD, List.getElem?_eq_getElem hi]; rfl
            obtain ⟨c, hc, hv⟩ := e5 i _ hxi
            have hfr : t0.frz = t0 := Ty.frz_plain hp0
            obtain ⟨o', f1, f2, f3⟩ := getP_cells q.len (u := x.1) (y := x.2) hc hg (by rw [hfr]; exact hin.2)
            rw [hfr, hp1] at f1
            simp only [Option.some.injEq, Prod.mk.injEq] at f1
            obtain ⟨rfl, f1⟩ := f1
            rw [Ty.frz_plain hx] at f1
            refine ⟨f1.symm, hx, b, _, _, rfl, hb b hq, (f2.plain hx).mono hI (fun _ _ => rfl) (Toks.le.refl _), ?_⟩
            intro j v hj
            rw [e3.cell]
            rw [seg_get] at hj
            split at hj
            · have := hv _ _ hj
              rw [← this]; congr 1; omega
            · cases hj
        · rename_i lo k
          simp only [pathIn] at hin
          simp only [pathAt] at hp
          obtain ⟨⟨o1, t1⟩, hp1, e⟩ := Option.map_eq_some_iff.1 hp
          simp only [Prod.mk.injEq] at e
          obtain ⟨rfl, rfl⟩ := e
          rcases h5 with ⟨h5, _⟩ | ⟨b', e1, e2, cs, e3, e4, e5⟩
          · rw [hq] at h5; cases h5
          · rw [hq] at e1; cases e1
            have hc := own_sub (lo := lo) (k := k) e4 h3 (by omega) e5
            have hfr : (Ty.arr k t0).frz = .arr k t0 := Ty.frz_plain (by simpa [Ty.plain] using hp0)
            obtain ⟨o', f1, f2, f3⟩ := getP_cells q.len (t := .arr k t0) (u := x.1) (y := x.2) hc hg (by rw [hfr]; exact hin.2)
            rw [hfr, hp1] at f1
            simp only [Option.some.injEq, Prod.mk.injEq] at f1
            obtain ⟨rfl, f1⟩ := f1
            rw [Ty.frz_plain hx] at f1
            refine ⟨f1.symm, hx, b, _, _, rfl, hb b hq, (f2.plain hx).mono hI (fun _ _ => rfl) (Toks.le.refl _), ?_⟩
            intro j v hj
            rw [e3.cell]
            rw [seg_get] at hj
            split at hj
            · rw [seg_get] at hj
              split at hj
              · rw [← hj]; congr 1; omega
              · cases hj
            · cases hj
    · simp only [DV.frzOK] at hok; cases hok
end Go.Own
