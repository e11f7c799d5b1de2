/- What is proved: the evaluator of the translated code, and that it is sound, part 12. Conditions: those that each theorem names. -/
import Derived.Test.YtipheoipbjakfaaW11
import Derived.KernelRfl
import Derived.Sort.Grow
import Derived.Sort.Row
import Derived.Sort.EncStr
set_option linter.unusedVariables false
set_option linter.unusedSimpArgs false
/- What the printed texts lean on. -/
set_option linter.unusedVariables false
namespace Go.Own
variable {P : Program} {E : Env}

def lt {α Z : Type} (e : α) (f : α → Z) : Z := f e
/-- What is told, and whether all that must hold does. -/
def chk {W : Type} (c : Bool) (z : Bool × W) : Bool × W := (c && z.1, z.2)
def J {W Z : Type} (φ : W → Option Z → Prop) (z1 : Bool × W) (z2 : Option Z) : Prop := z1.1 = true → φ z1.2 z2
section
variable {W Z : Type} {φ : W → Option Z → Prop}
theorem J.lt {α : Type} {e : α} {f1 : α → Bool × W} {f2 : α → Option Z} (h : ∀ v, J φ (f1 v) (f2 v)) : J φ (lt e f1) (lt e f2) := h e
theorem J.rq {c : Bool} {z1 : Bool × W} {z2 : Option Z} (h : J φ z1 z2) : J φ (chk c z1) (req c z2) := by
  intro hc
  simp only [chk, Bool.and_eq_true] at hc
  rw [hc.1]
  exact h hc.2
theorem J.bif {c : Bool} {a1 b1 : Bool × W} {a2 b2 : Option Z} (ha : J φ a1 a2) (hb : J φ b1 b2) : J φ (cond c a1 b1) (cond c a2 b2) := by
  cases c
  · exact hb
  · exact ha
theorem J.rt {w : W} {z : Option Z} (h : φ w z) : J φ (true, w) z := fun _ => h
end

/-! ### Loops -/
section
variable {X Y U V : Type}
/-- A loop's rounds, one by one: code 0 is the function's end, e + 1 is exit e. -/
def rounds (g : (Bool → Bool × Nat × X × Y × U × V → Bool × Nat × X × Y × U × V) → (X → Y → Bool × Nat × X × Y × U × V) → (Nat → X → Y → Bool × Nat × X × Y × U × V) → (U → V → Bool × Nat × X × Y × U × V) → X → Y → Bool × Nat × X × Y × U × V) (u0 : U) (v0 : V) : Nat → X → Y → Bool × Nat × X × Y × U × V
  | 0, x, y => (false, 0, x, y, u0, v0)
  | q + 1, x, y => g chk (fun x y => rounds g u0 v0 q x y) (fun e x y => (true, e + 1, x, y, u0, v0)) (fun u v => (true, 0, x, y, u, v)) x y
/-- What goes on behind a code. -/
def onCode {Z : Type} (ke : Nat → X → Y → Z) (kr : U → V → Z) (w : X × Y × U × V) : Nat → Z
  | 0 => kr w.2.2.1 w.2.2.2
  | e + 1 => ke e w.1 w.2.1
/-- Which exit it was. -/
def sel {Z : Type} (ke : Nat → X → Y → Z) (kr : U → V → Z) (w : Nat × X × Y × U × V) : List Nat → Z
  | [] => onCode ke kr w.2 w.1
  | [e] => onCode ke kr w.2 e
  | e :: es => bif Nat.beq w.1 e then onCode ke kr w.2 e else sel ke kr w es
theorem sel_eq {Z : Type} {ke : Nat → X → Y → Z} {kr : U → V → Z} {w : Nat × X × Y × U × V} : ∀ {es : List Nat}, w.1 ∈ es → sel ke kr w es = onCode ke kr w.2 w.1
  | [], h => by cases h
  | [e], h => by simp only [sel]; rw [List.mem_singleton.1 h]
  | e :: e' :: es, h => by
    simp only [sel]
    cases hb : Nat.beq w.1 e with
    | true => simp only [cond_true]; rw [Nat.eq_of_beq_eq_true hb]
    | false =>
      simp only [cond_false]
      refine sel_eq ?_
      rcases List.mem_cons.1 h with h | h
      · rw [h] at hb; simp at hb
      · exact h
def loopF' {R : Type} (es : List Nat) (r : Nat → X → Y → Bool × Nat × X × Y × U × V) (fuel : X → Y → Nat) (x : X) (y : Y) (ke : Nat → X → Y → Option R) (kr : U → V → Option R) : Option R :=
  lt (r (fuel x y) x y) fun w => req w.1 (sel ke kr w.2 es)
end

/-- A loop is told by its round. -/
theorem told_of {R : Type} {D : CallD} {tab : List (Nat × LE R)} {N : Nat} {body : Code} {n : Nat} {sh : List (Nat × Sh)} {bx ord : List (Nat × Ty)} {shR : List (Nat × Sh)} {bxR : List (Nat × Ty)} (ordR : List (Nat × Ty)) (m : Nat) (hn : n = N) (hok : shOK n sh bx = true) (hokR : shOK n shR bxR = true) (es : List Nat) (fuel : ShX sh → BxX bx → Nat) (u0 : ShX shR) (v0 : BxX bxR)
    (g1 : (Bool → Bool × Nat × ShX sh × BxX bx × ShX shR × BxX bxR → Bool × Nat × ShX sh × BxX bx × ShX shR × BxX bxR) → (ShX sh → BxX bx → Bool × Nat × ShX sh × BxX bx × ShX shR × BxX bxR) → (Nat → ShX sh → BxX bx → Bool × Nat × ShX sh × BxX bx × ShX shR × BxX bxR) → (ShX shR → BxX bxR → Bool × Nat × ShX sh × BxX bx × ShX shR × BxX bxR) → ShX sh → BxX bx → Bool × Nat × ShX sh × BxX bx × ShX shR × BxX bxR)
    (g2 : (Bool → Option R → Option R) → (ShX sh → BxX bx → Option R) → (Nat → ShX sh → BxX bx → Option R) → (ShX shR → BxX bxR → Option R) → ShX sh → BxX bx → Option R)
    (round : ∀ x y kn ke kr, codeK E D (loopX E D tab m) body (inj n sh bx x y) (roundK sh bx ord shR bxR ordR kn ke kr) = g2 req kn ke kr x y)
    (hJ : ∀ (φ : Nat × ShX sh × BxX bx × ShX shR × BxX bxR → Option R → Prop) kn1 kn2 ke1 ke2 kr1 kr2,
      (∀ x y, J φ (kn1 x y) (kn2 x y)) → (∀ e, e + 1 ∈ es → ∀ x y, J φ (ke1 e x y) (ke2 e x y)) → (0 ∈ es → ∀ u v, J φ (kr1 u v) (kr2 u v)) → ∀ x y, J φ (g1 chk kn1 ke1 kr1 x y) (g2 req kn2 ke2 kr2 x y)) :
    Nonempty (Told E D tab N body n sh bx ord shR bxR (loopF' es (rounds g1 u0 v0) fuel)) := by
  refine ⟨{ m := m, hn := hn, ok := hok, okR := hokR, ordR := ordR, step := fun x y kn ke kr => g2 req kn ke kr x y, round := round, comes := ?_ }⟩
  intro x y ke kr r hf
  refine ⟨fuel x y, ?_⟩
  have key : ∀ (q : Nat) (x : ShX sh) (y : BxX bx), J (fun (w : Nat × ShX sh × BxX bx × ShX shR × BxX bxR) z => w.1 ∈ es ∧ z = onCode ke kr w.2 w.1) (rounds g1 u0 v0 q x y)
      (iterS (fun x y kn ke kr => g2 req kn ke kr x y) q x y ke kr) := by
    intro q
    induction q with
    | zero => intro x y h; cases h
    | succ q ih =>
      intro x y
      simp only [rounds, iterS]
      exact hJ _ _ _ _ _ _ _ (fun x y => ih x y) (fun e he x y => J.rt ⟨he, rfl⟩) (fun h0 u v => J.rt ⟨h0, rfl⟩) x y
  simp only [loopF', lt] at hf
  cases hw : (rounds g1 u0 v0 (fuel x y) x y).1 with
  | false => rw [hw] at hf; cases hf
  | true =>
    rw [hw] at hf
    obtain ⟨h1, h2⟩ := key (fuel x y) x y hw
    rw [h2]
    have hf' : sel ke kr (rounds g1 u0 v0 (fuel x y) x y).2 es = some r := hf
    rw [sel_eq h1] at hf'
    exact hf'

/-! ### A function's contract out of its run -/
/-- The run ends in a result of one shape. -/
theorem ent_good {D : CallD} (hE : EnvOK P E) (hD : SoundD P D) {fz : List Bool} {f : FuncId} {fn : Func} (hf : P.funcs[f]? = some fn) (hk : fnOK fn = true) {tab : List (Nat × LE Res)} (hT : TabOK E D tab fn.ntmps (codeOf fn)) {m : Nat} {as : List AV} {bs : List DV}
    {X : Type} {res : X → Res} {w : Bool × X} {z : Option Res} (hrun : enterK E fz D (loopX E D tab m) fn (codeOf fn) as bs = z) (hJ : J (fun w z => z = some (res w)) w z) (hw : w.1 = true) : Good P f as bs (res w.2) :=
  good_of hE hD hf hk hT m (hrun.trans (hJ hw))

theorem tabOK_nil {D : CallD} {N : Nat} {c : Code} : TabOK (R := Res) E D [] N c := by
  intro body _ L hL
  cases hL
/-- The loops of a function, one by one: those that are told. -/
def ToldAt (E : Env) (D : CallD) (tab : List (Nat × LE Res)) (N : Nat) (b : Code) : Prop :=
  ∀ L, findL tab (rid b) = some (.typed L) → ∃ n sh bx ord shR bxR F, L = loopT n sh bx ord shR bxR F ∧ Nonempty (Told E D tab N b n sh bx ord shR bxR F)
def AllTold (E : Env) (D : CallD) (tab : List (Nat × LE Res)) (N : Nat) : List Code → Prop
  | [] => True
  | b :: bs => ToldAt E D tab N b ∧ AllTold E D tab N bs
theorem tabOK_of {D : CallD} {tab : List (Nat × LE Res)} {N : Nat} {c : Code} {bs : List Code} (hbs : subLoops c = bs) (h : AllTold E D tab N bs) : TabOK E D tab N c := by
  intro body hb
  rw [hbs] at hb
  clear hbs
  induction bs with
  | nil => cases hb
  | cons b bs ih =>
    rcases List.mem_cons.1 hb with rfl | hb
    · exact h.1
    · exact ih h.2 hb
theorem allTold_nil {D : CallD} {tab : List (Nat × LE Res)} {N : Nat} : AllTold E D tab N [] := trivial
theorem allTold_cons {D : CallD} {tab : List (Nat × LE Res)} {N : Nat} {b : Code} {bs : List Code} (h : ToldAt E D tab N b) (h2 : AllTold E D tab N bs) : AllTold E D tab N (b :: bs) := ⟨h, h2⟩
theorem typedAt {D : CallD} {tab : List (Nat × LE Res)} {N n : Nat} {b : Code} {sh : List (Nat × Sh)} {bx ord : List (Nat × Ty)} {shR : List (Nat × Sh)} {bxR : List (Nat × Ty)} {F : ShX sh → BxX bx → (Nat → ShX sh → BxX bx → Option Res) → (ShX shR → BxX bxR → Option Res) → Option Res}
    (h : findL tab (rid b) = some (.typed (loopT n sh bx ord shR bxR F))) (t : Nonempty (Told E D tab N b n sh bx ord shR bxR F)) : ToldAt E D tab N b := by
  intro L hL
  rw [h] at hL
  cases hL
  exact ⟨n, sh, bx, ord, shR, bxR, F, rfl, t⟩
theorem rawAt {D : CallD} {tab : List (Nat × LE Res)} {N : Nat} {b : Code} (h : findL tab (rid b) = none) : ToldAt E D tab N b := by
  intro L hL; rw [h] at hL; cases hL
theorem unrollAt {D : CallD} {tab : List (Nat × LE Res)} {N q : Nat} {b : Code} (h : findL tab (rid b) = some (.unroll q)) : ToldAt E D tab N b := by
  intro L hL; rw [h] at hL; cases hL
def nthLoop (c : Code) (j : Nat) : Code := (subLoops c).getD j .skip
end Go.Own

/- What the printed texts lean on: arguments' shapes; contracts with several shapes of results. -/
set_option linter.unusedVariables false
namespace Go.Own
variable {P : Program} {E : Env}

/-- Enough rounds for any loop over machine numbers. -/
def bigFuel : Nat := 36893488147419103232

/-- Comparisons, without instances. -/
def ilt (a b : Int) : Bool := decide (a < b)
def ile (a b : Int) : Bool := decide (a ≤ b)
def ieq (a b : Int) : Bool := decide (a = b)
def nlt (a b : Nat) : Bool := decide (a < b)
def nle (a b : Nat) : Bool := decide (a ≤ b)
def neq (a b : Nat) : Bool := decide (a = b)

/-! ### Arguments' shapes -/
inductive AS1 where
  | val (t : Ty)
  | va (s : Nat) (t : Ty)
  | vs (s : Nat) (t : Ty) (pa : Path)
  | pb (s : Nat) (t : Ty) (pa : Path)
  | mp (s : Nat) (k v : Ty)
  | nil
  | nilp
inductive AS where
  | one (a : AS1)
  | clo (f : FuncId) (caps : List AS1)
@[reducible] def AS1.den : AS1 → Type
  | .val t => t.den
  | .vs _ _ _ => Nat × Nat
  | _ => Unit
@[reducible] def AS1s : List AS1 → Type
  | [] => Unit
  | a :: r => a.den × AS1s r
@[reducible] def AS.den : AS → Type
  | .one a => a.den
  | .clo _ caps => AS1s caps
@[reducible] def ASs : List AS → Type
  | [] => Unit
  | a :: r => a.den × ASs r
@[reducible] def Bs : List Ty → Type
  | [] => Unit
  | t :: r => t.den × Bs r
def AS1.mk : (a : AS1) → a.den → AV
  | .val t, x => .val ⟨t, x⟩
  | .va s t, _ => .va s t
  | .vs s t pa, x => .vs s t pa x.1 x.2
  | .pb s t pa, _ => .pb s t pa
  | .mp s k v, _ => .mp s k v
  | .nil, _ => .nil
  | .nilp, _ => .nilp
def AS1s.mk : (l : List AS1) → AS1s l → List AV
  | [], _ => []
  | a :: r, x => a.mk x.1 :: AS1s.mk r x.2
def AS.mk : (a : AS) → a.den → AV
  | .one a, x => a.mk x
  | .clo f caps, x => .clo f (AS1s.mk caps x)
def ASs.mk : (l : List AS) → ASs l → List AV
  | [], _ => []
  | a :: r, x => a.mk x.1 :: ASs.mk r x.2
def Bs.mk : (l : List Ty) → Bs l → List DV
  | [], _ => []
  | t :: r, x => ⟨t, x.1⟩ :: Bs.mk r x.2
def AS1.get : (a : AS1) → AV → Option a.den
  | .val t, .val ⟨u, x⟩ => if h : u = t then some (h ▸ x) else none
  | .va s t, .va s' t' => if s' = s ∧ t' = t then some () else none
  | .vs s t pa, .vs s' t' pa' lo n => if s' = s ∧ t' = t ∧ pa' = pa then some (lo, n) else none
  | .pb s t pa, .pb s' t' pa' => if s' = s ∧ t' = t ∧ pa' = pa then some () else none
  | .mp s k v, .mp s' k' v' => if s' = s ∧ k' = k ∧ v' = v then some () else none
  | .nil, .nil => some ()
  | .nilp, .nilp => some ()
  | _, _ => none
def AS1s.get : (l : List AS1) → List AV → Option (AS1s l)
  | [], [] => some ()
  | a :: r, v :: vs => match a.get v, AS1s.get r vs with | some x, some y => some (x, y) | _, _ => none
  | _, _ => none
def AS.get : (a : AS) → AV → Option a.den
  | .one a, v => a.get v
  | .clo f caps, .clo g vs => if g = f then AS1s.get caps vs else none
  | _, _ => none
def ASs.get : (l : List AS) → List AV → Option (ASs l)
  | [], [] => some ()
  | a :: r, v :: vs => match a.get v, ASs.get r vs with | some x, some y => some (x, y) | _, _ => none
  | _, _ => none
def Bs.get : (l : List Ty) → List DV → Option (Bs l)
  | [], [] => some ()
  | t :: r, ⟨u, x⟩ :: vs => if h : u = t then (match Bs.get r vs with | some y => some (h ▸ x, y) | none => none) else none
  | _, _ => none
theorem AS1.get_eq {a : AS1} {v : AV} {x : a.den} (h : a.get v = some x) : v = a.mk x := by
  unfold AS1.get at h
  split at h
  · split at h
    · rename_i e; subst e; cases h; rfl
    · cases h
  · split at h
    · rename_i e; obtain ⟨rfl, rfl⟩ := e; rfl
    · cases h
  · split at h
    · rename_i e; obtain ⟨rfl, rfl, rfl⟩ := e; cases h; rfl
    · cases h
  · split at h
    · rename_i e; obtain ⟨rfl, rfl, rfl⟩ := e; rfl
    · cases h
  · split at h
    · rename_i e; obtain ⟨rfl, rfl, rfl⟩ := e; rfl
    · cases h
  · rfl
  · rfl
  · cases h
theorem AS1s.get_eq : ∀ {l : List AS1} {vs : List AV} {x : AS1s l}, AS1s.get l vs = some x → vs = AS1s.mk l x
  | [], [], _, _ => rfl
  | [], _ :: _, _, h => by cases h
  | _ :: _, [], _, h => by cases h
  | a :: r, v :: vs, x, h => by
    simp only [AS1s.get] at h
    split at h
    · rename_i y z hy hz
      cases h
      rw [AS1.get_eq hy, AS1s.get_eq hz]; rfl
    · cases h
theorem AS.get_eq {a : AS} {v : AV} {x : a.den} (h : a.get v = some x) : v = a.mk x := by
  cases a with
  | one a => exact AS1.get_eq h
  | clo f caps =>
    cases v <;> simp only [AS.get, reduceCtorEq] at h
    rename_i g vs
    split at h
    · rename_i e; subst e
      rw [AS1s.get_eq h]; rfl
    · cases h
theorem ASs.get_eq : ∀ {l : List AS} {vs : List AV} {x : ASs l}, ASs.get l vs = some x → vs = ASs.mk l x
  | [], [], _, _ => rfl
  | [], _ :: _, _, h => by cases h
  | _ :: _, [], _, h => by cases h
  | a :: r, v :: vs, x, h => by
    simp only [ASs.get] at h
    split at h
    · rename_i y z hy hz
      cases h
      rw [AS.get_eq hy, ASs.get_eq hz]; rfl
    · cases h
theorem Bs.get_eq : ∀ {l : List Ty} {vs : List DV} {x : Bs l}, Bs.get l vs = some x → vs = Bs.mk l x
  | [], [], _, _ => rfl
  | [], _ :: _, _, h => by cases h
  | _ :: _, [], _, h => by cases h
  | t :: r, ⟨u, x⟩ :: vs, z, h => by
    simp only [Bs.get] at h
    split at h
    · rename_i e
      subst e
      split at h
      · rename_i y hy
        cases h
        rw [Bs.get_eq hy]; rfl
      · cases h
    · cases h

/-- A contract at arguments of one shape. -/
def shF (as : List AS) (bs : List Ty) (F : ASs as → Bs bs → Brn Res) (ar : List AV) (br : List DV) : Option (Brn Res) :=
  match ASs.get as ar, Bs.get bs br with
  | some x, some y => some (F x y)
  | _, _ => none
theorem shF_good {f : FuncId} {as : List AS} {bs : List Ty} {F : ASs as → Bs bs → Brn Res} (h : ∀ x y, (F x y).res.1 = true → Good P f (ASs.mk as x) (Bs.mk bs y) (F x y).res.2)
    (ar : List AV) (br : List DV) (b : Brn Res) (hb : shF as bs F ar br = some b) (hc : b.res.1 = true) : Good P f ar br b.res.2 := by
  unfold shF at hb
  split at hb
  · rename_i x y hx hy
    cases hb
    rw [ASs.get_eq hx, Bs.get_eq hy]
    exact h x y hc
  · cases hb
/-- Two contracts of one function. -/
def orEnt (a b : Ent P) (h : a.f = b.f) : Ent P where
  f := a.f
  F := fun as bs => match a.F as bs with | some x => some x | none => b.F as bs
  good := by
    intro as bs q hq hc
    split at hq
    · rename_i x hx
      cases hq
      exact a.good as bs _ hx hc
    · rw [h]; exact b.good as bs _ hq hc

/-- The run ends in one of several shapes of results. -/
theorem good_run {D : CallD} (hE : EnvOK P E) (hD : SoundD P D) {fz : List Bool} {f : FuncId} {fn : Func} (hf : P.funcs[f]? = some fn) (hk : fnOK fn = true) {tab : List (Nat × LE Res)} (hT : TabOK E D tab fn.ntmps (codeOf fn)) {m : Nat} {as : List AV} {bs : List DV}
    {X : Type} {res : X → Res} {brn : Bool × X → Brn Res} (hb : ∀ w, (brn w).res = (w.1, res w.2)) {w : Bool × X} {z : Option Res} (hrun : enterK E fz D (loopX E D tab m) fn (codeOf fn) as bs = z) (hJ : J (fun w z => z = some (res w)) w z) (hw : (brn w).res.1 = true) : Good P f as bs (brn w).res.2 := by
  rw [hb] at hw ⊢
  exact ent_good hE hD hf hk hT hrun hJ hw
end Go.Own

/- Library functions: sorting (by the kit's contracts); pointers that do not escape. -/
set_option linter.unusedVariables false
namespace Go.Own
open Go.Sort Go.Proofs
variable {P : Program} {E : Env}

theorem leftB_some : ∀ (l : List DV) (j : Nat), leftB j (l.map some) = boxesOf j l
  | [], _ => rfl
  | d :: l, j => by simp only [List.map_cons, leftB, boxesOf, leftB_some l]
/-- What comes in goes out. -/
def same1 : Array Value → Sem Value := Extern.AbiNoEscape.same
def noescapeF (as : List AV) (bs : List DV) : Option (Brn Res) := match as with
  | [.pb s t pa] => some (.one true ⟨[.pb s t pa], bs.map some, []⟩)
  | _ => none
theorem noescape_good {f : FuncId} {fn : Func} (hf : P.funcs[f]? = some fn) (hname : (fn.name == "runtime.NumGoroutine") = false) (hb : fn.body.isNone = true) (hn : Extern.findNext fn = none) (he : Extern.find fn = some same1) (as : List AV) (bs : List DV) (b : Brn Res)
    (h : noescapeF as bs = some b) (hc : b.res.1 = true) : Good P f as bs b.res.2 := by
  unfold noescapeF at h
  split at h
  · rename_i s t pa
    cases h
    intro w I xs args hxl hg
    right
    have hsz : args.size = 1 := by have := hg.len; simpa [stIn] using this.symm
    obtain ⟨v, rfl⟩ : ∃ v, args = #[v] := by
      obtain ⟨l⟩ := args
      match l, hsz with
      | [v], _ => exact ⟨v, rfl⟩
    refine ⟨v, w, ?_, I, xtk xs, #[v], rfl, ?_⟩
    · rw [run_callFunc_extern hf hname hb hn he #[v] w]; rfl
    · have e : stOf (Brn.one true (⟨[.pb s t pa], bs.map some, []⟩ : Res)).res.2 = stIn [.pb s t pa] bs := by
        show (⟨[SV.pb s t pa], leftB 0 (bs.map some) ++ boxesOf (bs.map some).length []⟩ : St) = ⟨[SV.pb s t pa], boxesOf 0 bs⟩
        rw [leftB_some]
        show (⟨[SV.pb s t pa], boxesOf 0 bs ++ []⟩ : St) = _
        rw [List.append_nil]
      rw [e]; exact hg
  · cases h

/-! ### Sorting -/
theorem Wrote.ahead (b : Nat) (w : World) (n : Nat) : Wrote b w (Sort.ahead w n) := ⟨fun _ _ => rfl, rfl, rfl, rfl, rfl⟩
theorem Wrote.trans {b : Nat} {w1 w2 w3 : World} (h : Wrote b w1 w2) (k : Wrote b w2 w3) : Wrote b w1 w3 :=
  ⟨fun x hx => (k.other x hx).trans (h.other x hx), k.size.trans h.size, k.os.trans h.os, k.output.trans h.output, k.tape.trans h.tape⟩
theorem Wrote.mapBlock (b : Nat) (w : World) (f : Array Value → Array Value) : Wrote b w (mapBlock w b f) :=
  ⟨fun k hk => by show (w.heap.modify b (onCells f))[k]? = w.heap[k]?; rw [Array.getElem?_modify, if_neg (fun e => hk e.symm)], by show (w.heap.modify b (onCells f)).size = w.heap.size; simp, rfl, rfl, rfl⟩
theorem Grew.grow (w : World) (os : Array Obj) : Grew w (Go.Sort.grow w os) :=
  ⟨fun b hb => by show (w.heap ++ os)[b]? = w.heap[b]?; rw [Array.getElem?_append_left hb], by show w.heap.size ≤ (w.heap ++ os).size; simp, rfl, rfl, rfl⟩

/-- A function that turns the elements of a slice, each of one cell. -/
theorem rowTurn_good {α : Type} [Inhabited α] {f : FuncId} {fn : Func} (hf : P.funcs[f]? = some fn) (hname : (fn.name == "runtime.NumGoroutine") = false) (hb : fn.body.isSome = true) {t : Ty} (ht : t.size = 1) (enc : α → Value) (of : t.den → α) (to : α → t.den)
    (hrep : ∀ (w : World) (I : Nat → Prop) (tk : Toks) (x : t.den) (c : List Value), cellsRep w I tk t x c ↔ c = [enc (of x)]) (hto : ∀ a, of (to a) = a) (turn : List α → List α) (hturn : ∀ l, (turn l).length = l.length)
    (hC : ∀ (blk off cap : Nat) (zs : List α) (w : World), Holds enc w blk off zs.toArray → blk < w.heap.size → zs.length < 4611686018427387904 → Calls P f #[.slice (some ⟨blk, off, none⟩) zs.length cap] w fun e w' => e = .returned (.tuple #[]) ∧ ∃ n os, w' = Go.Sort.grow (putRow enc (Sort.ahead w n) blk off (turn zs).toArray) os)
    (hN : ∀ (p : Option Addr) (cap : Nat) (w : World), Calls P f #[.slice p 0 cap] w fun e w' => e = .returned (.tuple #[]) ∧ w' = w)
    (nl : Bool) (l : List t.den) (hl : l.length < 4611686018427387904) : Good P f [.va 1000000 t] [⟨.dyn t, (nl, l)⟩] ⟨[], [some ⟨.dyn t, (nl, (turn (l.map of)).map to)⟩], []⟩ := by
  intro w I xs args hxl hg
  left
  refine ⟨fn, hf, by simpa using hname, hb, ?_⟩
  have hsz : args.size = 1 := by have := hg.len; simpa [stIn] using this.symm
  obtain ⟨v, rfl⟩ : ∃ v, args = #[v] := by
    obtain ⟨l⟩ := args
    match l, hsz with
    | [v], _ => exact ⟨v, rfl⟩
  obtain ⟨q, hq, hqt, hv⟩ : ∃ q, xtk xs 1000000 = some q ∧ q.ty = .dyn t ∧ v = q.hdr := hg.slots 0 (by simp [stIn])
  subst hv
  obtain ⟨q', hq', hbox⟩ := hg.boxes 1000000 ⟨.dyn t, (nl, l)⟩ rfl
  rw [hq] at hq'; cases hq'
  obtain ⟨b1, b2, b3, b4, b5, b6⟩ := hbox
  have hlen : q.len = l.length := b3
  have done : ∀ {w' : World}, Inv ⟨P, w, I, xs⟩ ((stIn [.va 1000000 t] [⟨.dyn t, (nl, l)⟩]).setBox 1000000 ⟨.dyn t, (nl, (turn (l.map of)).map to)⟩) #[q.hdr] w' I (xtk xs) →
      Inv ⟨P, w, I, xs⟩ (stOf ⟨[], [some ⟨.dyn t, (nl, (turn (l.map of)).map to)⟩], []⟩) #[] w' I (xtk xs) := by
    intro w' h
    refine h.into (fun s => s) rfl (by simp [stOf]) ?_ (fun i hi => by simp [stOf] at hi) (fun s d hs => h.boxes s d hs) (fun s q h => h) (fun s s' q q' _ _ h => h) (fun j q hj d hd => h.ext j q hj d hd)
    exact h.srt
  have dR : (∀ (e : Ending) (w' : World), (e = Ending.returned (.tuple #[]) ∧ Inv ⟨P, w, I, xs⟩ ((stIn [.va 1000000 t] [⟨.dyn t, (nl, l)⟩]).setBox 1000000 ⟨.dyn t, (nl, (turn (l.map of)).map to)⟩) #[q.hdr] w' I (xtk xs)) →
      ∃ v, e = Ending.returned v ∧ ∃ I' tk' vs, v = retVal vs ∧ Inv ⟨P, w, I, xs⟩ (stOf ⟨[], [some ⟨.dyn t, (nl, (turn (l.map of)).map to)⟩], []⟩) vs w' I' tk') := by
    rintro e w' ⟨rfl, h⟩
    exact ⟨_, rfl, I, xtk xs, #[], rfl, done h⟩
  rcases Nat.eq_zero_or_pos l.length with h0 | hpos
  · have hl0 : l = [] := List.length_eq_zero_iff.1 h0
    subst hl0
    have ht0 : turn (([] : List t.den).map of) = [] := List.length_eq_zero_iff.1 (by rw [hturn]; rfl)
    have : q.hdr = .slice q.ad 0 q.cap := by unfold Tk.hdr; rw [hlen]; rfl
    rw [this]
    refine (hN _ _ _).mono ?_
    rintro e w' ⟨rfl, rfl⟩
    refine dR _ _ ⟨rfl, ?_⟩
    rw [ht0]
    exact hg
  · rcases b6 with ⟨_, hc⟩ | ⟨b, e1, e2, hown⟩
    · omega
    have hlt : b < w.heap.size := hg.tokLt _ q b hq e1
    have hnI : ¬ I b := hg.tokI _ q b hq e1
    obtain ⟨cs, ⟨c, fr, hbk, hcs, hfr⟩, g2, g3⟩ := hown
    rw [ht, Nat.mul_one] at g2
    have hcsz : c.size = cs.length := by rw [← hcs, Array.length_toList]
    have hcell : ∀ i x, l[i]? = some x → c[q.off + i]? = some (enc (of x)) := by
      intro i x hx
      obtain ⟨d, hd, hdv⟩ := g3 i x hx
      have := (hrep _ _ _ _ _).1 hd
      subst this
      have := hdv 0 _ rfl
      rw [ht, Nat.mul_one, Nat.add_zero, ← hcs] at this
      simpa using this
    have hH : Holds enc w b q.off (l.map of).toArray := by
      intro j hj
      have hj' : j < l.length := by simpa using hj
      refine ⟨?_, ?_⟩
      · have := hcell j l[j] (List.getElem?_eq_getElem hj')
        unfold World.cell?
        simp only [hbk]
        rw [this]
        simp [hj']
      · unfold World.frozen?
        simp only [hbk]
        have := hfr (q.off + j) (by omega)
        simpa using this
    have hhdr : q.hdr = .slice (some ⟨b, q.off, none⟩) (l.map of).length q.cap := by unfold Tk.hdr; rw [hlen, e2]; simp
    rw [hhdr]
    refine (hC b q.off q.cap (l.map of) w hH hlt (by simpa using hl)).mono ?_
    rintro e w' ⟨rfl, n, os, rfl⟩
    refine dR _ _ ⟨rfl, ?_⟩
    have hW : Wrote b w (putRow enc (Sort.ahead w n) b q.off (turn (l.map of)).toArray) := (Wrote.ahead b w n).trans (Wrote.mapBlock b _ _)
    have hbk' : (putRow enc (Sort.ahead w n) b q.off (turn (l.map of)).toArray).heap[b]? = some (.cells (putCells enc q.off (turn (l.map of)).toArray c) q.tid fr) := by
      show ((Sort.ahead w n).heap.modify b (onCells (putCells enc q.off (turn (l.map of)).toArray)))[b]? = _
      rw [Array.getElem?_modify, if_pos rfl]
      show (w.heap[b]?).map _ = _
      rw [hbk]; rfl
    have hts : (turn (l.map of)).length = l.length := by rw [hturn, List.length_map]
    refine (hg.writeBox (s := 1000000) (d := ⟨.dyn t, (nl, l)⟩) rfl hq e1 hW ?_).grow (Grew.grow _ os)
    refine ⟨b1, b2, ?_, ?_, b5, .inr ⟨b, e1, e2, ?_⟩⟩
    · show q.len = ((turn (l.map of)).map to).length
      rw [List.length_map, hts, hlen]
    · show ((turn (l.map of)).map to).length ≤ q.cap
      rw [List.length_map, hts]; exact b4
    · refine ⟨_, ⟨_, fr, hbk', rfl, ?_⟩, ?_, ?_⟩
      · intro o ho
        refine hfr o ?_
        simpa [putCells] using ho
      · rw [ht, Nat.mul_one]
        simp only [putCells, Array.length_toList, Array.size_mapIdx]
        omega
      · intro i x hx
        rw [List.getElem?_map] at hx
        obtain ⟨a, ha, rfl⟩ := Option.map_eq_some_iff.1 hx
        have hi : i < (turn (l.map of)).length := (List.getElem?_eq_some_iff.1 ha).1
        refine ⟨[enc (of (to a))], (hrep _ _ _ _ _).2 rfl, ?_⟩
        intro j v hj
        have hj0 : j = 0 := by have := (List.getElem?_eq_some_iff.1 hj).1; simpa using this
        subst hj0
        simp only [List.getElem?_cons_zero, Option.some.injEq] at hj
        subst hj
        rw [hto, ht, Nat.mul_one, Nat.add_zero]
        have hlt2 : q.off + i < c.size := by omega
        simp only [putCells, Array.getElem?_toList, Array.getElem?_mapIdx, Array.getElem?_eq_getElem hlt2, Option.map_some]
        rw [if_pos ⟨by omega, by simp only [List.size_toArray]; omega⟩]
        have : q.off + i - q.off = i := by omega
        rw [this]
        have hg2 := (List.getElem?_eq_some_iff.1 ha).2
        simp [hi, hg2]

/-- Texts in order. -/
def sortS (l : List ByteArray) : List ByteArray := ((l.map fun s => s.data.toList).mergeSort fun x y => decide (x ≤ y)).map fun a => ⟨a.toArray⟩
def sortI (l : List Int) : List Int := l.mergeSort fun x y => decide (x ≤ y)
abbrev sortAs (t : Ty) : List AS := [.one (.va 1000000 t)]
abbrev sortBs (t : Ty) : List Ty := [.dyn t]
def sortSF (_ : ASs (sortAs .str)) (y : Bs (sortBs .str)) : Brn Res := .one (decide (y.1.2.length < 4611686018427387904)) ⟨[], [some ⟨.dyn .str, (y.1.1, sortS y.1.2)⟩], []⟩
def sortIF (_ : ASs (sortAs (.int .i64))) (y : Bs (sortBs (.int .i64))) : Brn Res := .one (decide (y.1.2.length < 4611686018427387904)) ⟨[], [some ⟨.dyn (.int .i64), (y.1.1, sortI y.1.2)⟩], []⟩
theorem sortS_good {f : FuncId} {fn : Func} (hf : P.funcs[f]? = some fn) (hname : (fn.name == "runtime.NumGoroutine") = false) (hb : fn.body.isSome = true)
    (hC : ∀ (blk off cap : Nat) (zs : List (List UInt8)) (w : World), Holds encStr w blk off zs.toArray → blk < w.heap.size → zs.length < 4611686018427387904 → Calls P f #[.slice (some ⟨blk, off, none⟩) zs.length cap] w fun e w' => e = .returned (.tuple #[]) ∧ ∃ n os, w' = Go.Sort.grow (putRow encStr (Sort.ahead w n) blk off (zs.mergeSort fun x y => decide (x ≤ y)).toArray) os)
    (hN : ∀ (p : Option Addr) (cap : Nat) (w : World), Calls P f #[.slice p 0 cap] w fun e w' => e = .returned (.tuple #[]) ∧ w' = w)
    (x : ASs (sortAs .str)) (y : Bs (sortBs .str)) (h : (sortSF x y).res.1 = true) : Good P f (ASs.mk _ x) (Bs.mk _ y) (sortSF x y).res.2 :=
  rowTurn_good (t := .str) hf hname hb rfl encStr (fun s => s.data.toList) (fun a => ⟨a.toArray⟩) (fun w I tk x c => by simp [cellsRep]) (fun a => by simp) (fun l => l.mergeSort fun x y => decide (x ≤ y)) (fun l => List.length_mergeSort l) hC hN y.1.1 y.1.2 (of_decide_eq_true h)
theorem sortI_good {f : FuncId} {fn : Func} (hf : P.funcs[f]? = some fn) (hname : (fn.name == "runtime.NumGoroutine") = false) (hb : fn.body.isSome = true)
    (hC : ∀ (blk off cap : Nat) (zs : List Int) (w : World), Holds (Value.int .i64) w blk off zs.toArray → blk < w.heap.size → zs.length < 4611686018427387904 → Calls P f #[.slice (some ⟨blk, off, none⟩) zs.length cap] w fun e w' => e = .returned (.tuple #[]) ∧ ∃ n os, w' = Go.Sort.grow (putRow (Value.int .i64) (Sort.ahead w n) blk off (zs.mergeSort fun x y => decide (x ≤ y)).toArray) os)
    (hN : ∀ (p : Option Addr) (cap : Nat) (w : World), Calls P f #[.slice p 0 cap] w fun e w' => e = .returned (.tuple #[]) ∧ w' = w)
    (x : ASs (sortAs (.int .i64))) (y : Bs (sortBs (.int .i64))) (h : (sortIF x y).res.1 = true) : Good P f (ASs.mk _ x) (Bs.mk _ y) (sortIF x y).res.2 := by
  have := rowTurn_good (t := .int .i64) hf hname hb rfl (Value.int .i64) (fun s => s) (fun a => a) (fun w I tk x c => Iff.rfl) (fun a => rfl) (fun l => l.mergeSort fun x y => decide (x ≤ y)) (fun l => List.length_mergeSort l) hC hN y.1.1 y.1.2 (of_decide_eq_true h)
  simp only [List.map_id'] at this
  exact this
theorem sortNil_good {f : FuncId} {fn : Func} (hf : P.funcs[f]? = some fn) (hname : (fn.name == "runtime.NumGoroutine") = false) (hb : fn.body.isSome = true)
    (hN : ∀ (p : Option Addr) (cap : Nat) (w : World), Calls P f #[.slice p 0 cap] w fun e w' => e = .returned (.tuple #[]) ∧ w' = w) : Good P f [.nil] [] ⟨[], [], []⟩ := by
  intro w I xs args hxl hg
  left
  refine ⟨fn, hf, by simpa using hname, hb, ?_⟩
  have hsz : args.size = 1 := by have := hg.len; simpa [stIn] using this.symm
  obtain ⟨v, rfl⟩ : ∃ v, args = #[v] := by
    obtain ⟨l⟩ := args
    match l, hsz with
    | [v], _ => exact ⟨v, rfl⟩
  have hv : v = .slice none 0 0 := hg.slots 0 (by simp [stIn])
  subst hv
  refine (hN none 0 w).mono ?_
  rintro e w' ⟨rfl, rfl⟩
  refine ⟨_, rfl, I, xtk xs, #[], rfl, ?_⟩
  exact hg.into (fun s => s) rfl (by simp [stOf]) hg.srt (fun i hi => by simp [stOf] at hi) (fun s d hs => hg.boxes s d hs) (fun s q h => h) (fun s s' q q' _ _ h => h) (fun j q hj d hd => hg.ext j q hj d hd)
/-! ### A copy of a slice of which nobody knows whether it is nil -/
theorem cloneEmpty_good {f : FuncId} {fn : Func} (hf : P.funcs[f]? = some fn) (hname : (fn.name == "runtime.NumGoroutine") = false) (hb : fn.body.isSome = true) {t : Ty} (ht : t.plain = true)
    (he : ∀ (ad : Option Addr) (cap : Nat) (w : World), Calls P f #[.slice ad 0 cap] w fun e w' => (∃ ad' cap', e = .returned (.slice ad' 0 cap')) ∧ Grew w w') : Good P f [.val ⟨.sl t, []⟩] [] ⟨[.val ⟨.sl t, []⟩], [], []⟩ := by
  intro w I xs args hxl hg
  left
  refine ⟨fn, hf, by simpa using hname, hb, ?_⟩
  have hsz : args.size = 1 := by have := hg.len; simpa [stIn] using this.symm
  obtain ⟨v, rfl⟩ : ∃ v, args = #[v] := by
    obtain ⟨l⟩ := args
    match l, hsz with
    | [v], _ => exact ⟨v, rfl⟩
  have hv : valRep w I (xtk xs) (.sl t) [] v := (hg.slots 0 (by simp [stIn])).2
  obtain ⟨ad, cap, e1, -, -⟩ : ∃ ad cap, [v] = [Value.slice ad 0 cap] ∧ _ ∧ _ := hv
  obtain rfl : v = Value.slice ad 0 cap := by simpa using e1
  refine (he ad cap w).mono ?_
  rintro e w' ⟨⟨ad', cap', rfl⟩, hgr⟩
  refine ⟨_, rfl, I, xtk xs, #[.slice ad' 0 cap'], rfl, ?_⟩
  refine (hg.grow hgr).into (fun s => s) rfl (by simp [stOf]) hg.srt ?_ (fun s d hs => hg.boxes s d hs |>.elim fun q hq => absurd hs (by intro h; cases h)) (fun s q h => h) (fun s s' q q' _ _ h => h) (fun j q hj d hd => hg.ext j q hj d hd)
  intro i hi
  have hi0 : i = 0 := by simp [stOf] at hi; omega
  subst hi0
  exact ⟨ht, ad', cap', rfl, Nat.zero_le _, .inl rfl⟩
def cloneF (t : Ty) (F : ASs [.one (.val (.sl t))] → Bs [] → Brn Res) (x : ASs [.one (.val (.sl t))]) (y : Bs []) : Brn Res := .ite x.1.isEmpty (.one true ⟨[.val ⟨.sl t, []⟩], [], []⟩) (F x y)
theorem cloneF_good {f : FuncId} {t : Ty} {F : ASs [.one (.val (.sl t))] → Bs [] → Brn Res} (h0 : Good P f [.val ⟨.sl t, []⟩] [] ⟨[.val ⟨.sl t, []⟩], [], []⟩)
    (h : ∀ x y, (F x y).res.1 = true → Good P f (ASs.mk _ x) (Bs.mk _ y) (F x y).res.2) (x : ASs [.one (.val (.sl t))]) (y : Bs []) (hc : (cloneF t F x y).res.1 = true) : Good P f (ASs.mk _ x) (Bs.mk _ y) (cloneF t F x y).res.2 := by
  obtain ⟨l, x⟩ := x
  cases l with
  | nil => exact h0
  | cons a l => exact h (a :: l, x) y hc
def sortNilF (_ : ASs [.one .nil]) (_ : Bs []) : Brn Res := .one true ⟨[], [], []⟩
end Go.Own
