/- What is proved: the evaluator of the translated code, and that it is sound, part 3. Conditions: those that each theorem names. -/
import Derived.Test.YtipheoipbjakfaaW2
set_option linter.unusedVariables false
set_option linter.unusedSimpArgs false
/- The second abstract interpreter: calls. -/
namespace Go.Own

/-- The sites of boxes that are handed on. -/
def site (j : Nat) : Nat := 1000000 + j

/-- An argument: data; a slice, a pointer, a map of a box that is handed on; nil; a function value. Sites are those of `site`. -/
inductive AV where
  | val (d : DV)
  | va (s : Nat) (t : Ty)
  | vs (s : Nat) (t : Ty) (pa : Path) (lo n : Nat)
  | pb (s : Nat) (t : Ty) (pa : Path)
  | mp (s : Nat) (k v : Ty)
  | nil
  | nilp
  | clo (f : FuncId) (caps : List AV)
  deriving Inhabited
/-- A result. -/
inductive RV where
  | val (d : DV)
  | sd (d : DV)
  | va (s : Nat) (t : Ty)
  | vs (s : Nat) (t : Ty) (pa : Path) (lo n : Nat)
  | pb (s : Nat) (t : Ty) (pa : Path)
  | mp (s : Nat) (k v : Ty)
  | nil
  | nilp
  deriving Inhabited
/-- What a call comes to: results; what the boxes hold that were handed on (none: it was taken away); new boxes, whose sites go on behind those. -/
structure Res where
  rs : List RV
  bs : List (Option DV)
  fs : List DV

/-- One of several, by what is told: what must hold, and what comes. -/
inductive Brn (α : Type) where
  | one (c : Bool) (x : α)
  | ite (b : Bool) (l r : Brn α)
def Brn.res {α : Type} : Brn α → Bool × α
  | .one c x => (c, x)
  | .ite b l r => bif b then l.res else r.res
def Brn.map {α β : Type} (f : α → Option β) : Brn α → Option (Brn β)
  | .one c x => (f x).map fun y => .one c y
  | .ite b l r => match l.map f, r.map f with
    | some x, some y => some (.ite b x y)
    | _, _ => none
theorem Brn.map_res {α β : Type} {f : α → Option β} : ∀ {x : Brn α} {y : Brn β}, x.map f = some y → y.res.1 = x.res.1 ∧ f x.res.2 = some y.res.2 := by
  intro x
  induction x with
  | one c x =>
    intro y h
    simp only [Brn.map, Option.map_eq_some_iff] at h
    obtain ⟨z, hz, rfl⟩ := h
    exact ⟨rfl, hz⟩
  | ite b l r ihl ihr =>
    intro y h
    simp only [Brn.map] at h
    split at h
    · rename_i u v hu hv
      cases h
      cases b
      · have := ihr hv; exact this
      · have := ihl hu; exact this
    · cases h

/-- Is there no pointer, and no slice, in a type? -/
def Ty.flat : Ty → Bool
  | .pair a b => a.flat && b.flat
  | .arr _ t => t.flat
  | .sl _ => false
  | .ref _ => false
  | .dyn t => t.flat
  | .map k v => k.flat && v.flat
  | _ => true
def RV.flat : RV → Bool
  | .val d => d.1.flat
  | .sd d => d.1.flat
  | _ => true
def Res.flat (r : Res) : Bool := r.rs.all RV.flat && r.bs.all (fun b => match b with | some d => d.1.flat | none => true) && r.fs.all (·.1.flat)
def Brn.all {α : Type} (p : α → Bool) : Brn α → Bool
  | .one _ x => p x
  | .ite _ l r => l.all p && r.all p
theorem Brn.all_res {α : Type} {p : α → Bool} : ∀ {x : Brn α}, x.all p = true → p x.res.2 = true
  | .one _ _, h => h
  | .ite b l r, h => by
    simp only [Brn.all, Bool.and_eq_true] at h
    cases b
    · exact Brn.all_res (x := r) h.2
    · exact Brn.all_res (x := l) h.1

/-! ### Sites are named anew -/
def Ty.ren (ρ : Nat → Nat) : Ty → Ty
  | .pair a b => .pair (a.ren ρ) (b.ren ρ)
  | .arr n t => .arr n (t.ren ρ)
  | .sf s t pa => .sf (ρ s) t pa
  | .vw s t => .vw (ρ s) t
  | .pt s t pa => .pt (ρ s) t pa
  | .mp s k v => .mp (ρ s) k v
  | t => t
def renX (ρ : Nat → Nat) : (t : Ty) → t.den → (t.ren ρ).den
  | .pair a b, x => (renX ρ a x.1, renX ρ b x.2)
  | .arr _ t, l => l.map (renX ρ t)
  | .sf _ _ _, x => x
  | .vw _ _, x => x
  | .pt _ _ _, x => x
  | .mp _ _ _, x => x
  | .int _, x => x
  | .bool, x => x
  | .str, x => x
  | .flt, x => x
  | .unit, x => x
  | .eos _, x => x
  | .sl _, x => x
  | .ref _, x => x
  | .nif, x => x
  | .slf, x => x
  | .nsl _, x => x
  | .junk _, x => x
  | .dyn _, x => x
  | .map _ _, x => x
def DV.ren (ρ : Nat → Nat) (d : DV) : DV := bif (mentions d.1).isEmpty then d else ⟨d.1.ren ρ, renX ρ d.1 d.2⟩

def reachK (st : St) : Nat → List Nat → List Nat → List Nat
  | 0, _, acc => acc
  | _, [], acc => acc
  | n + 1, s :: r, acc => bif acc.any (Nat.beq s) then reachK st n r acc
    else reachK st n (r ++ (match st.box s with | some d => mentions d.1 | none => [])) (acc ++ [s])
def idxOf (s : Nat) : List Nat → Nat
  | [] => 0
  | x :: r => bif Nat.beq x s then 0 else idxOf s r + 1
/-- Caller's site to callee's, and back. -/
def toC (sites : List Nat) (s : Nat) : Nat := site (idxOf s sites)
def ofC (sites : List Nat) (dst : Nat) (q : Nat) : Nat := match sites[q - 1000000]? with
  | some s => s
  | none => 4096 * (q - 1000000 + 1 - sites.length) + dst

def isOwnArg (own : Bool) : SV → Bool
  | .va .. => own
  | .vs .. => own
  | .pb .. => own
  | .nil => own
  | .nilp => own
  | .mp .. => true
  | _ => false
def argOwn (ρ : Nat → Nat) : SV → Option AV
  | .p d => some (.val d)
  | .va s t => some (.va (ρ s) t)
  | .vs s t pa lo n => some (.vs (ρ s) t pa lo n)
  | .pb s t pa => some (.pb (ρ s) t pa)
  | .mp s k v => some (.mp (ρ s) k v)
  | .nil => some .nil
  | .nilp => some .nilp
  | _ => none
def argsOwn (ρ : Nat → Nat) : List SV → Option (List AV)
  | [] => some []
  | v :: vs => match argOwn ρ v, argsOwn ρ vs with
    | some a, some r => some (a :: r)
    | _, _ => none
def argV (E : Env) (ρ : Nat → Nat) (fs : List Pm) (own : Bool) (T : TypeId) : SV → Option AV
  | .clo f caps => (argsOwn ρ caps).map fun cs => .clo f cs
  | v => bif isOwnArg own v then argOwn ρ v else (toData (E.T T) (runV fs v)).map .val
/-- Arguments with their numbers. -/
def argsV (E : Env) (ρ : Nat → Nat) (fs : List Pm) (f : FuncId) : Nat → List TypeId → List SV → Option (List AV)
  | _, _, [] => some []
  | i, Ts, v :: vs => match argV E ρ fs (E.own f i) (Ts.headD 0) v, argsV E ρ fs f (i + 1) Ts.tail vs with
    | some a, some r => some (a :: r)
    | _, _ => none
/-- The sites that are handed on by their arguments; and on what the others, as data, rest. -/
def ownSites (E : Env) (f : FuncId) : Nat → List SV → List Nat
  | _, [] => []
  | i, .clo _ caps :: r => caps.flatMap SV.sites ++ ownSites E f (i + 1) r
  | i, v :: r => bif isOwnArg (E.own f i) v then v.sites ++ ownSites E f (i + 1) r else ownSites E f (i + 1) r
def dataVs (E : Env) (f : FuncId) : Nat → List SV → List SV
  | _, [] => []
  | i, .clo _ _ :: r => dataVs E f (i + 1) r
  | i, v :: r => bif isOwnArg (E.own f i) v then dataVs E f (i + 1) r else v :: dataVs E f (i + 1) r

/-- A call: what must hold, and what comes. -/
abbrev CallD := FuncId → List AV → List DV → Option (Brn Res)

def resV (σ : Nat → Nat) : RV → SV
  | .val d => .p d
  | .sd d => .sd (d.ren σ)
  | .va s t => .va (σ s) t
  | .vs s t pa lo n => .vs (σ s) t pa lo n
  | .pb s t pa => .pb (σ s) t pa
  | .mp s k v => .mp (σ s) k v
  | .nil => .nil
  | .nilp => .nilp
def resOf (σ : Nat → Nat) : List RV → SV
  | [r] => resV σ r
  | rs => .tup (rs.map (resV σ))
def takenPs : List Nat → List (Option DV) → List Pm
  | s :: ss, none :: ds => .kill s :: .del s :: takenPs ss ds
  | _ :: ss, some _ :: ds => takenPs ss ds
  | _, _ => []
def backPs (σ : Nat → Nat) : List Nat → List (Option DV) → List Pm
  | s :: ss, some d :: ds => .ins s (d.ren σ) :: backPs σ ss ds
  | _ :: ss, none :: ds => backPs σ ss ds
  | _, _ => []
/-- New boxes, from number j on. -/
def freshPs (σ : Nat → Nat) : Nat → List DV → List Pm
  | _, [] => []
  | j, d :: r => .ins (σ (site j)) (d.ren σ) :: freshPs σ (j + 1) r
def freshKill (σ : Nat → Nat) : Nat → List DV → List Pm
  | _, [] => []
  | j, _ :: r => .kill (σ (site j)) :: freshKill σ (j + 1) r
/-- The sites in a result. -/
def rvSites : RV → List Nat
  | .sd d => mentions d.1
  | .va s _ => [s]
  | .vs s _ _ _ _ => [s]
  | .pb s _ _ => [s]
  | .mp s _ _ => [s]
  | _ => []
/-- Is this one of the boxes that a call leaves? -/
def inR (r : Res) (p : Nat) : Bool := Nat.ble 1000000 p && match r.bs[p - 1000000]? with
  | some (some _) => true
  | some none => false
  | none => Nat.blt p (site (r.bs.length + r.fs.length))
def oMen : Option DV → List Nat
  | some d => mentions d.1
  | none => []
/-- Do results, and boxes, point to boxes that are left, and to no others? -/
def closedR (r : Res) : Bool := (r.rs.flatMap rvSites).all (inR r) && (r.bs.flatMap oMen).all (inR r) && (r.fs.flatMap fun d => mentions d.1).all (inR r)
def backSites : List Nat → List (Option DV) → List Nat
  | s :: ss, some _ :: ds => s :: backSites ss ds
  | _ :: ss, none :: ds => backSites ss ds
  | _, _ => []
def freshOK (sites : List Nat) (σ : Nat → Nat) (r : Res) : Bool := (List.range r.fs.length).all fun i => Nat.blt (σ (site (sites.length + i))) 1000000 && !(backSites sites r.bs).any (Nat.beq (σ (site (sites.length + i))))
def resEf (sites : List Nat) (σ : Nat → Nat) (hasDst : Bool) (fs : List Pm) (r : Res) : Option Ef :=
  bif Nat.beq r.bs.length sites.length && (hasDst || r.fs.isEmpty) && freshOK sites σ r && closedR r then
    some ⟨fs ++ takenPs sites r.bs ++ freshKill σ sites.length r.fs ++ backPs σ sites r.bs ++ freshPs σ sites.length r.fs, some (resOf σ r.rs)⟩ else none
def nodupB : List Nat → Bool
  | [] => true
  | s :: r => !r.any (Nat.beq s) && nodupB r
def avSites1 : AV → List Nat
  | .va s _ => [s]
  | .vs s _ _ _ _ => [s]
  | .pb s _ _ => [s]
  | .mp s _ _ => [s]
  | _ => []
def avSites : AV → List Nat
  | .clo _ caps => caps.flatMap avSites1
  | a => avSites1 a
/-- Do arguments, and boxes, point to boxes that are handed on, and to no others? -/
def closedA (n : Nat) (as : List AV) (bs : List DV) : Bool := (as.flatMap avSites).all (fun p => Nat.blt p (site n)) && (bs.flatMap fun d => mentions d.1).all fun p => Nat.blt p (site n)
def callP (E : Env) (D : CallD) (dst : Option Nat) (f : FuncId) (Ts : List TypeId) (vs : List SV) (st : St) : Option (Brn Ef) :=
  let sites := reachK st 1000 (ownSites E f 0 vs) []
  let ρ := toC sites
  let σ := ofC sites (dst.getD 0)
  match freezeV st (dataVs E f 0 vs) with
  | some fs => bif disj (fs.flatMap Pm.fs) sites && nodupB sites && Nat.ble vs.length 1000 then
    match argsV E ρ fs f 0 Ts vs, sites.mapM (runPs fs st).box with
    | some as, some bs => bif closedA sites.length as (bs.map (DV.ren ρ)) then (match D f as (bs.map (DV.ren ρ)) with
      | some b => b.map (resEf sites σ dst.isSome (bif b.all Res.flat then [] else fs))
      | none => none) else none
    | _, _ => none
    else none
  | none => none

/-- The function that a call enters, its types, its arguments: the captured ones behind the others. -/
def calleeOf (st : St) (o : Oper) : Option (FuncId × List TypeId × List SV) :=
  match o.op with
  | .call c => match c.callee with
    | .value (.func f) => some (f, c.argTypes.toList, c.args.toList.map (ev st))
    | .value x => match ev st x with
      | .clo f caps => some (f, c.argTypes.toList, c.args.toList.map (ev st) ++ caps)
      | _ => none
    | _ => none
  | _ => none
def SV.capOK : SV → Bool
  | .pb .. => true
  | .p _ => true
  | _ => false
/-- What a function value took along is data, or pointers. -/
def capsOK (st : St) (o : Oper) : Bool :=
  match o.op with
  | .call c => match c.callee with
    | .value x => match ev st x with
      | .clo _ caps => caps.all SV.capOK
      | _ => true
    | _ => true
  | _ => true
def opPD (E : Env) (D : CallD) (o : Oper) (st : St) : Option (Brn Ef) :=
  match calleeOf st o with
  | some (f, Ts, vs) => bif capsOK st o then callP E D o.dst f Ts vs st else none
  | none => (opP E o st).map fun r => .one r.1 r.2

end Go.Own
