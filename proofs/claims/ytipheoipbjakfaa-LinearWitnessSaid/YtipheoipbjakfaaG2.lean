/- What functions compute, printed by wip/gen/gen2.py. -/
import Derived.Test.YtipheoipbjakfaaG1
set_option linter.unusedVariables false
set_option linter.unusedSimpArgs false
namespace Go.Own
open Go.Proofs Go.Proofs.Ytipheoipbjakfaa

/-! sacristy/sacristyref22.Same -/
namespace Sacristyref22_Same
abbrev X : Type := Bool
def res (x : Bool) : Res := ⟨[.val ⟨.bool, x⟩], [], []⟩
def brn (w : Bool × X) : Brn Res := .one w.1 (res w.2)
theorem brn_res (w : Bool × X) : (brn w).res = (w.1, res w.2) := rfl
abbrev sh0 : List (Nat × Sh) := [(0, .p (.sl .str)), (1, .p (.sl .str)), (4, .p .bool), (5, .p (.int .i64))]
abbrev bx0 : List (Nat × Ty) := []
abbrev ord0 : List (Nat × Ty) := []
abbrev shR0 : List (Nat × Sh) := [(4, .p .bool)]
abbrev bxR0 : List (Nat × Ty) := []
abbrev ordR0 : List (Nat × Ty) := []
abbrev X0 : Type := (List ByteArray) × (List ByteArray) × Bool × Int × Unit
abbrev Y0 : Type := Unit
abbrev U0 : Type := Bool × Unit
abbrev V0 : Type := Unit
def g0 {Z : Type} (rq : Bool → Z → Z) (kn : X0 → Y0 → Z) (ke : Nat → X0 → Y0 → Z) (kr : U0 → V0 → Z) (x : X0) (y : Y0) : Z :=
  lt ((x.1.length : Int)) fun (v171 : Int) =>
  lt ((ilt x.2.2.2.1 v171)) fun (v172 : Bool) =>
  bif v172 then
    lt ((x.1.getD x.2.2.2.1.toNat (⟨#[]⟩ : ByteArray))) fun (v173 : ByteArray) =>
    rq (ile (0 : Int) x.2.2.2.1 && ilt x.2.2.2.1 (x.1.length : Int)) <|
    lt ((x.2.1.getD x.2.2.2.1.toNat (⟨#[]⟩ : ByteArray))) fun (v174 : ByteArray) =>
    rq (ile (0 : Int) x.2.2.2.1 && ilt x.2.2.2.1 (x.2.1.length : Int)) <|
    lt ((!(v173.toList == v174.toList))) fun (v175 : Bool) =>
    bif v175 then
      kr (false, ()) ()
    else
      lt (IntKind.i64.wrap (x.2.2.2.1 + 1)) fun (v176 : Int) =>
      kn (x.1, x.2.1, x.2.2.1, v176, ()) ()
  else
    ke 0 (x.1, x.2.1, x.2.2.1, x.2.2.2.1, ()) ()

def fu0 (x : X0) (y : Y0) : Nat := ((x.1.length : Int) - x.2.2.2.1).toNat + 1
def l0 (x : X0) (y : Y0) : Bool × Nat × X0 × Y0 × U0 × V0 := rounds (fun rq kn ke kr x y => g0 rq kn ke kr x y) (false, ()) () (fu0 x y) x y
def g {Z : Type} (rq : Bool → Z → Z) (rt : X → Z) (a : (List ByteArray)) (b : (List ByteArray)) : Z :=
  lt ((a.length : Int)) fun (v166 : Int) =>
  lt ((b.length : Int)) fun (v167 : Int) =>
  lt ((v166 != v167)) fun (v168 : Bool) =>
  bif v168 then
    rt false
  else
    lt (Sacristyref22_Same.l0 (a, b, false, 0, ()) ()) fun w177 =>
    rq w177.1 <|
    bif Nat.beq w177.2.1 0 then
      rt w177.2.2.2.2.1.1
    else
      rt true

def r (a : (List ByteArray)) (b : (List ByteArray)) : Bool × X := g chk (fun x => (true, x)) a b
noncomputable def D : CallD := Dof (P := Try.prog) []
noncomputable def tab : List (Nat × LE Res) := [(5, .typed (loopT 26 sh0 bx0 ord0 shR0 bxR0 (loopF' [0, 1] (rounds (fun rq kn ke kr x y => g0 rq kn ke kr x y) (false, ()) ()) fu0)))]
set_option maxRecDepth 100000 in
theorem run (a : (List ByteArray)) (b : (List ByteArray)) : enterK E0 [true] D (loopX E0 D tab 9) Try.f53 (codeOf Try.f53) [.val ⟨.sl .str, a⟩, .val ⟨.sl .str, b⟩] [] = g (fun c z => req c z) (fun x => some (res x)) a b := by kernel_rfl
theorem rel (a : (List ByteArray)) (b : (List ByteArray)) : J (fun w z => z = some (res w)) (g chk (fun x => (true, x)) a b) (g (fun c z => req c z) (fun x => some (res x)) a b) := by
  unfold g
  with_reducible repeat (first | (apply J.lt; intro _) | apply J.rq | apply J.bif | exact J.rt rfl)
set_option maxRecDepth 100000 in
theorem round0 (x : ShX sh0) (y : BxX bx0) (kn : ShX sh0 → BxX bx0 → Option Res) (ke : Nat → ShX sh0 → BxX bx0 → Option Res) (kr : ShX shR0 → BxX bxR0 → Option Res) : codeK E0 D (loopX E0 D tab 8) (nthLoop (codeOf Try.f53) 0) (inj 26 sh0 bx0 x y) (roundK sh0 bx0 ord0 shR0 bxR0 ordR0 kn ke kr) = g0 (fun c z => req c z) kn ke kr x y := by kernel_rfl
theorem told0 : Nonempty (Told E0 D tab Try.f53.ntmps (nthLoop (codeOf Try.f53) 0) 26 sh0 bx0 ord0 shR0 bxR0 (loopF' [0, 1] (rounds (fun rq kn ke kr x y => g0 rq kn ke kr x y) (false, ()) ()) fu0)) :=
  told_of (sh := sh0) (bx := bx0) (ord := ord0) (shR := shR0) (bxR := bxR0) ordR0 8 (by kernel_rfl) (by kernel_rfl) (by kernel_rfl) [0, 1] fu0 (false, ()) () (fun rq kn ke kr x y => g0 rq kn ke kr x y) (fun rq kn ke kr x y => g0 rq kn ke kr x y) (round0) (by
    intro φ kn1 kn2 ke1 ke2 kr1 kr2 h1 h2 h3 x y
    simp only [g0]
    with_reducible repeat (first | (apply J.lt; intro _) | apply J.rq | apply J.bif | exact h1 _ _ | exact h2 _ (by decide) _ _ | exact h3 (by decide) _ _))
theorem tabOK : TabOK E0 D tab Try.f53.ntmps (codeOf Try.f53) := tabOK_of (bs := [nthLoop (codeOf Try.f53) 0]) (by kernel_rfl) (allTold_cons (typedAt (by kernel_rfl) (told0)) allTold_nil)
theorem ok : fnOK Try.f53 = true := by kernel_rfl
abbrev aS : List AS := [.one (.val (.sl .str)), .one (.val (.sl .str))]
abbrev bS : List Ty := []
def F (x : ASs aS) (y : Bs bS) : Brn Res := brn (r x.1 x.2.1)
theorem good (x : ASs aS) (y : Bs bS) (h : (F x y).res.1 = true) : Good Try.prog 53 (ASs.mk aS x) (Bs.mk bS y) (F x y).res.2 :=
  good_run hE0 (Dof_sound _) Try.func53 ok tabOK brn_res (run x.1 x.2.1) (rel x.1 x.2.1) h
noncomputable def ent : Ent Try.prog := ⟨53, shF aS bS F, shF_good good⟩
end Sacristyref22_Same

/-! sacristy/sacristylaw28.awake -/
namespace Sacristylaw28_awake
abbrev X : Type := Bool
def res (x : Bool) : Res := ⟨[.val ⟨.bool, x⟩], [], []⟩
def brn (w : Bool × X) : Brn Res := .one w.1 (res w.2)
theorem brn_res (w : Bool × X) : (brn w).res = (w.1, res w.2) := rfl
def g {Z : Type} (rq : Bool → Z → Z) (rt : X → Z)  : Z :=
  lt (History_Check.r [(1, (1, ((⟨#[107]⟩ : ByteArray), ((⟨#[]⟩ : ByteArray), (1, (3, ((0, (0, ((⟨#[]⟩ : ByteArray), (false, ((0, (0, ())), ()))))), ()))))))), (1, (3, ((⟨#[107]⟩ : ByteArray), ((⟨#[]⟩ : ByteArray), (4, (0, ((0, (0, ((⟨#[]⟩ : ByteArray), (false, ((0, (0, ())), ()))))), ())))))))]) fun w54 =>
  rq w54.1 <|
  lt ((w54.2 == 0)) fun (v55 : Bool) =>
  bif v55 then
    lt (History_Check.r [(1, (3, ((⟨#[107]⟩ : ByteArray), ((⟨#[]⟩ : ByteArray), (4, (0, ((0, (0, ((⟨#[]⟩ : ByteArray), (false, ((0, (0, ())), ()))))), ()))))))), (1, (1, ((⟨#[107]⟩ : ByteArray), ((⟨#[]⟩ : ByteArray), (1, (3, ((0, (0, ((⟨#[]⟩ : ByteArray), (false, ((0, (0, ())), ()))))), ())))))))]) fun w56 =>
    rq w56.1 <|
    lt ((w56.2 == 1)) fun (v57 : Bool) =>
    bif v57 then
      lt (History_Before.r (1, (1, ((⟨#[107]⟩ : ByteArray), ((⟨#[]⟩ : ByteArray), (1, (3, ((0, (0, ((⟨#[]⟩ : ByteArray), (false, ((0, (0, ())), ()))))), ()))))))) (1, (3, ((⟨#[107]⟩ : ByteArray), ((⟨#[]⟩ : ByteArray), (4, (0, ((0, (0, ((⟨#[]⟩ : ByteArray), (false, ((0, (0, ())), ()))))), ())))))))) fun w58 =>
      rq w58.1 <|
      bif w58.2 then
        lt (History_Before.r (1, (3, ((⟨#[107]⟩ : ByteArray), ((⟨#[]⟩ : ByteArray), (4, (0, ((0, (0, ((⟨#[]⟩ : ByteArray), (false, ((0, (0, ())), ()))))), ()))))))) (1, (1, ((⟨#[107]⟩ : ByteArray), ((⟨#[]⟩ : ByteArray), (1, (3, ((0, (0, ((⟨#[]⟩ : ByteArray), (false, ((0, (0, ())), ()))))), ())))))))) fun w59 =>
        rq w59.1 <|
        lt ((!w59.2)) fun (v60 : Bool) =>
        bif v60 then
          lt (History_Must.r (1, (1, ((⟨#[107]⟩ : ByteArray), ((⟨#[]⟩ : ByteArray), (1, (3, ((0, (0, ((⟨#[]⟩ : ByteArray), (false, ((0, (0, ())), ()))))), ())))))))) fun w63 =>
          rq w63.1 <|
          bif w63.2 then
            lt (History_Of.r [(1, (1, ((⟨#[107]⟩ : ByteArray), ((⟨#[]⟩ : ByteArray), (1, (3, ((0, (0, ((⟨#[]⟩ : ByteArray), (false, ((0, (0, ())), ()))))), ()))))))), (1, (3, ((⟨#[107]⟩ : ByteArray), ((⟨#[]⟩ : ByteArray), (4, (0, ((0, (0, ((⟨#[]⟩ : ByteArray), (false, ((0, (0, ())), ()))))), ())))))))] (⟨#[107]⟩ : ByteArray)) fun w116 =>
            rq w116.1 <|
            lt ((w116.2.length : Int)) fun (v117 : Int) =>
            lt ((v117 == 1)) fun (v118 : Bool) =>
            bif v118 then
              lt (History_Keys.r [(1, (1, ((⟨#[107]⟩ : ByteArray), ((⟨#[]⟩ : ByteArray), (1, (3, ((0, (0, ((⟨#[]⟩ : ByteArray), (false, ((0, (0, ())), ()))))), ()))))))), (1, (3, ((⟨#[107]⟩ : ByteArray), ((⟨#[]⟩ : ByteArray), (4, (0, ((0, (0, ((⟨#[]⟩ : ByteArray), (false, ((0, (0, ())), ()))))), ())))))))]) fun w165 =>
              rq w165.1 <|
              lt (Sacristyref22_Same.r w165.2 [(⟨#[107]⟩ : ByteArray)]) fun w178 =>
              rq w178.1 <|
              rt w178.2
            else
              rt false
          else
            rt false
        else
          rt false
      else
        rt false
    else
      rt false
  else
    rt false

def r  : Bool × X := g chk (fun x => (true, x)) 
noncomputable def D : CallD := Dof (P := Try.prog) [History_Check.ent, History_Before.ent, History_Must.ent, History_Of.ent, History_Keys.ent, Sacristyref22_Same.ent]
noncomputable def tab : List (Nat × LE Res) := []
set_option maxRecDepth 100000 in
theorem run  : enterK E0 [true] D (loopX E0 D tab 9) Try.f50 (codeOf Try.f50) [] [] = g (fun c z => req c z) (fun x => some (res x))  := by kernel_rfl
theorem rel  : J (fun w z => z = some (res w)) (g chk (fun x => (true, x)) ) (g (fun c z => req c z) (fun x => some (res x)) ) := by
  unfold g
  with_reducible repeat (first | (apply J.lt; intro _) | apply J.rq | apply J.bif | exact J.rt rfl)
theorem ok : fnOK Try.f50 = true := by kernel_rfl
abbrev aS : List AS := []
abbrev bS : List Ty := []
def F (_ : ASs aS) (_ : Bs bS) : Brn Res := brn r
theorem good (x : ASs aS) (y : Bs bS) (h : (F x y).res.1 = true) : Good Try.prog 50 (ASs.mk aS x) (Bs.mk bS y) (F x y).res.2 :=
  good_run hE0 (Dof_sound _) Try.func50 ok tabOK_nil brn_res (run ) (rel ) h
noncomputable def ent : Ent Try.prog := ⟨50, shF aS bS F, shF_good good⟩
end Sacristylaw28_awake

/-! sacristy/sacristyref28.Before -/
namespace Sacristyref28_Before
abbrev X : Type := Bool
def res (x : Bool) : Res := ⟨[.val ⟨.bool, x⟩], [], []⟩
def brn (w : Bool × X) : Brn Res := .one w.1 (res w.2)
theorem brn_res (w : Bool × X) : (brn w).res = (w.1, res w.2) := rfl
def g {Z : Type} (rq : Bool → Z → Z) (rt : X → Z) (a : Api_Event) (b : Api_Event) : Z :=
  lt ((a.2.2.2.2.2.1 != 0)) fun (v204 : Bool) =>
  bif v204 then
    lt ((ilt a.2.2.2.2.2.1 b.2.2.2.2.1)) fun (v205 : Bool) =>
    rt v205
  else
    rt false

def r (a : Api_Event) (b : Api_Event) : Bool × X := g chk (fun x => (true, x)) a b
noncomputable def D : CallD := Dof (P := Try.prog) []
noncomputable def tab : List (Nat × LE Res) := []
set_option maxRecDepth 100000 in
theorem run (a : Api_Event) (b : Api_Event) : enterK E0 [true] D (loopX E0 D tab 9) Try.f60 (codeOf Try.f60) [.val ⟨tApi_Event, a⟩, .val ⟨tApi_Event, b⟩] [] = g (fun c z => req c z) (fun x => some (res x)) a b := by kernel_rfl
theorem rel (a : Api_Event) (b : Api_Event) : J (fun w z => z = some (res w)) (g chk (fun x => (true, x)) a b) (g (fun c z => req c z) (fun x => some (res x)) a b) := by
  unfold g
  with_reducible repeat (first | (apply J.lt; intro _) | apply J.rq | apply J.bif | exact J.rt rfl)
theorem ok : fnOK Try.f60 = true := by kernel_rfl
abbrev aS : List AS := [.one (.val tApi_Event), .one (.val tApi_Event)]
abbrev bS : List Ty := []
def F (x : ASs aS) (y : Bs bS) : Brn Res := brn (r x.1 x.2.1)
theorem good (x : ASs aS) (y : Bs bS) (h : (F x y).res.1 = true) : Good Try.prog 60 (ASs.mk aS x) (Bs.mk bS y) (F x y).res.2 :=
  good_run hE0 (Dof_sound _) Try.func60 ok tabOK_nil brn_res (run x.1 x.2.1) (rel x.1 x.2.1) h
noncomputable def ent : Ent Try.prog := ⟨60, shF aS bS F, shF_good good⟩
end Sacristyref28_Before

/-! sacristy/sacristyref28.May -/
namespace Sacristyref28_May
abbrev X : Type := Bool
def res (x : Bool) : Res := ⟨[.val ⟨.bool, x⟩], [], []⟩
def brn (w : Bool × X) : Brn Res := .one w.1 (res w.2)
theorem brn_res (w : Bool × X) : (brn w).res = (w.1, res w.2) := rfl
abbrev sh1 : List (Nat × Sh) := [(0, .p (.sl tApi_Event)), (2, .p .bool), (3, .p (.int .i64)), (4, .pb 501000 tApi_Event []), (5, .p (.int .i64))]
abbrev bx1 : List (Nat × Ty) := [(501000, tApi_Event)]
abbrev ord1 : List (Nat × Ty) := [(501000, tApi_Event)]
abbrev shR1 : List (Nat × Sh) := [(2, .p .bool)]
abbrev bxR1 : List (Nat × Ty) := []
abbrev ordR1 : List (Nat × Ty) := []
abbrev X1 : Type := (List Api_Event) × Bool × Int × Unit × Int × Unit
abbrev Y1 : Type := Api_Event × Unit
abbrev U1 : Type := Bool × Unit
abbrev V1 : Type := Unit
def g1 {Z : Type} (rq : Bool → Z → Z) (kn : X1 → Y1 → Z) (ke : Nat → X1 → Y1 → Z) (kr : U1 → V1 → Z) (x : X1) (y : Y1) : Z :=
  lt ((ilt x.2.2.2.2.1 x.2.2.1)) fun (v200 : Bool) =>
  bif v200 then
    lt ((x.1.getD x.2.2.2.2.1.toNat zApi_Event)) fun (v201 : Api_Event) =>
    rq (ile (0 : Int) x.2.2.2.2.1 && ilt x.2.2.2.2.1 (x.1.length : Int)) <|
    lt ((v201.1 == y.1.1)) fun (v202 : Bool) =>
    bif v202 then
      lt ((x.1.getD x.2.2.2.2.1.toNat zApi_Event)) fun (v203 : Api_Event) =>
      rq (ile (0 : Int) x.2.2.2.2.1 && ilt x.2.2.2.2.1 (x.1.length : Int)) <|
      lt (Sacristyref28_Before.r v203 y.1) fun w206 =>
      rq w206.1 <|
      lt ((!w206.2)) fun (v207 : Bool) =>
      bif v207 then
        kr (false, ()) ()
      else
        lt (IntKind.i64.wrap (x.2.2.2.2.1 + 1)) fun (v208 : Int) =>
        kn (x.1, x.2.1, x.2.2.1, (), v208, ()) (y.1, ())
    else
      lt (IntKind.i64.wrap (x.2.2.2.2.1 + 1)) fun (v209 : Int) =>
      kn (x.1, x.2.1, x.2.2.1, (), v209, ()) (y.1, ())
  else
    ke 2 (x.1, x.2.1, x.2.2.1, (), x.2.2.2.2.1, ()) (y.1, ())

def fu1 (x : X1) (y : Y1) : Nat := (x.2.2.1 - x.2.2.2.2.1).toNat + 1
def l1 (x : X1) (y : Y1) : Bool × Nat × X1 × Y1 × U1 × V1 := rounds (fun rq kn ke kr x y => g1 rq kn ke kr x y) (false, ()) () (fu1 x y) x y
abbrev sh0 : List (Nat × Sh) := [(0, .p (.sl tApi_Event)), (2, .p .bool), (3, .p (.int .i64))]
abbrev bx0 : List (Nat × Ty) := []
abbrev ord0 : List (Nat × Ty) := []
abbrev shR0 : List (Nat × Sh) := [(2, .p .bool)]
abbrev bxR0 : List (Nat × Ty) := []
abbrev ordR0 : List (Nat × Ty) := []
abbrev X0 : Type := (List Api_Event) × Bool × Int × Unit
abbrev Y0 : Type := Unit
abbrev U0 : Type := Bool × Unit
abbrev V0 : Type := Unit
def g0 {Z : Type} (rq : Bool → Z → Z) (kn : X0 → Y0 → Z) (ke : Nat → X0 → Y0 → Z) (kr : U0 → V0 → Z) (x : X0) (y : Y0) : Z :=
  lt ((x.1.length : Int)) fun (v187 : Int) =>
  lt ((ilt x.2.2.1 v187)) fun (v188 : Bool) =>
  bif v188 then
    lt ((x.1.getD x.2.2.1.toNat zApi_Event)) fun (v189 : Api_Event) =>
    rq (ile (0 : Int) x.2.2.1 && ilt x.2.2.1 (x.1.length : Int)) <|
    lt ((ilt v189.2.1 1)) fun (v190 : Bool) =>
    bif v190 then
      kr (false, ()) ()
    else
      lt ((ilt 3 v189.2.1)) fun (v191 : Bool) =>
      bif v191 then
        kr (false, ()) ()
      else
        lt ((ilt v189.2.2.2.2.1 1)) fun (v192 : Bool) =>
        bif v192 then
          kr (false, ()) ()
        else
          lt ((v189.2.2.2.2.2.1 != 0)) fun (v193 : Bool) =>
          bif v193 then
            lt ((ilt v189.2.2.2.2.2.1 v189.2.2.2.2.1)) fun (v194 : Bool) =>
            bif v194 then
              kr (false, ()) ()
            else
              lt ((ilt 0 x.2.2.1)) fun (v195 : Bool) =>
              bif v195 then
                lt (IntKind.i64.wrap (x.2.2.1 - 1)) fun (v196 : Int) =>
                lt ((x.1.getD v196.toNat zApi_Event)) fun (v197 : Api_Event) =>
                rq (ile (0 : Int) v196 && ilt v196 (x.1.length : Int)) <|
                lt ((ile v189.2.2.2.2.1 v197.2.2.2.2.1)) fun (v198 : Bool) =>
                bif v198 then
                  kr (false, ()) ()
                else
                  lt (Sacristyref28_May.l1 (x.1, x.2.1, x.2.2.1, (), 0, ()) (v189, ())) fun w210 =>
                  rq w210.1 <|
                  bif Nat.beq w210.2.1 0 then
                    kr (w210.2.2.2.2.1.1, ()) ()
                  else
                    lt (IntKind.i64.wrap (w210.2.2.1.2.2.1 + 1)) fun (v211 : Int) =>
                    kn (w210.2.2.1.1, w210.2.2.1.2.1, v211, ()) ()
              else
                lt (Sacristyref28_May.l1 (x.1, x.2.1, x.2.2.1, (), 0, ()) (v189, ())) fun w212 =>
                rq w212.1 <|
                bif Nat.beq w212.2.1 0 then
                  kr (w212.2.2.2.2.1.1, ()) ()
                else
                  lt (IntKind.i64.wrap (w212.2.2.1.2.2.1 + 1)) fun (v213 : Int) =>
                  kn (w212.2.2.1.1, w212.2.2.1.2.1, v213, ()) ()
          else
            lt ((ilt 0 x.2.2.1)) fun (v214 : Bool) =>
            bif v214 then
              lt (IntKind.i64.wrap (x.2.2.1 - 1)) fun (v215 : Int) =>
              lt ((x.1.getD v215.toNat zApi_Event)) fun (v216 : Api_Event) =>
              rq (ile (0 : Int) v215 && ilt v215 (x.1.length : Int)) <|
              lt ((ile v189.2.2.2.2.1 v216.2.2.2.2.1)) fun (v217 : Bool) =>
              bif v217 then
                kr (false, ()) ()
              else
                lt (Sacristyref28_May.l1 (x.1, x.2.1, x.2.2.1, (), 0, ()) (v189, ())) fun w218 =>
                rq w218.1 <|
                bif Nat.beq w218.2.1 0 then
                  kr (w218.2.2.2.2.1.1, ()) ()
                else
                  lt (IntKind.i64.wrap (w218.2.2.1.2.2.1 + 1)) fun (v219 : Int) =>
                  kn (w218.2.2.1.1, w218.2.2.1.2.1, v219, ()) ()
            else
              lt (Sacristyref28_May.l1 (x.1, x.2.1, x.2.2.1, (), 0, ()) (v189, ())) fun w220 =>
              rq w220.1 <|
              bif Nat.beq w220.2.1 0 then
                kr (w220.2.2.2.2.1.1, ()) ()
              else
                lt (IntKind.i64.wrap (w220.2.2.1.2.2.1 + 1)) fun (v221 : Int) =>
                kn (w220.2.2.1.1, w220.2.2.1.2.1, v221, ()) ()
  else
    ke 0 (x.1, x.2.1, x.2.2.1, ()) ()

def fu0 (x : X0) (y : Y0) : Nat := ((x.1.length : Int) - x.2.2.1).toNat + 1
def l0 (x : X0) (y : Y0) : Bool × Nat × X0 × Y0 × U0 × V0 := rounds (fun rq kn ke kr x y => g0 rq kn ke kr x y) (false, ()) () (fu0 x y) x y
def g {Z : Type} (rq : Bool → Z → Z) (rt : X → Z) (l : (List Api_Event)) : Z :=
  lt (Sacristyref28_May.l0 (l, false, 0, ()) ()) fun w222 =>
  rq w222.1 <|
  bif Nat.beq w222.2.1 0 then
    rt w222.2.2.2.2.1.1
  else
    rt true

def r (l : (List Api_Event)) : Bool × X := g chk (fun x => (true, x)) l
noncomputable def D : CallD := Dof (P := Try.prog) [Sacristyref28_Before.ent]
noncomputable def tab : List (Nat × LE Res) := [(9, .typed (loopT 78 sh1 bx1 ord1 shR1 bxR1 (loopF' [0, 3] (rounds (fun rq kn ke kr x y => g1 rq kn ke kr x y) (false, ()) ()) fu1))), (3, .typed (loopT 78 sh0 bx0 ord0 shR0 bxR0 (loopF' [0, 1] (rounds (fun rq kn ke kr x y => g0 rq kn ke kr x y) (false, ()) ()) fu0)))]
set_option maxRecDepth 100000 in
theorem run (l : (List Api_Event)) : enterK E0 [true] D (loopX E0 D tab 9) Try.f52 (codeOf Try.f52) [.val ⟨.sl tApi_Event, l⟩] [] = g (fun c z => req c z) (fun x => some (res x)) l := by kernel_rfl
theorem rel (l : (List Api_Event)) : J (fun w z => z = some (res w)) (g chk (fun x => (true, x)) l) (g (fun c z => req c z) (fun x => some (res x)) l) := by
  unfold g
  with_reducible repeat (first | (apply J.lt; intro _) | apply J.rq | apply J.bif | exact J.rt rfl)
set_option maxRecDepth 100000 in
theorem round1 (x : ShX sh1) (y : BxX bx1) (kn : ShX sh1 → BxX bx1 → Option Res) (ke : Nat → ShX sh1 → BxX bx1 → Option Res) (kr : ShX shR1 → BxX bxR1 → Option Res) : codeK E0 D (loopX E0 D tab 8) (nthLoop (codeOf Try.f52) 1) (inj 78 sh1 bx1 x y) (roundK sh1 bx1 ord1 shR1 bxR1 ordR1 kn ke kr) = g1 (fun c z => req c z) kn ke kr x y := by kernel_rfl
theorem told1 : Nonempty (Told E0 D tab Try.f52.ntmps (nthLoop (codeOf Try.f52) 1) 78 sh1 bx1 ord1 shR1 bxR1 (loopF' [0, 3] (rounds (fun rq kn ke kr x y => g1 rq kn ke kr x y) (false, ()) ()) fu1)) :=
  told_of (sh := sh1) (bx := bx1) (ord := ord1) (shR := shR1) (bxR := bxR1) ordR1 8 (by kernel_rfl) (by kernel_rfl) (by kernel_rfl) [0, 3] fu1 (false, ()) () (fun rq kn ke kr x y => g1 rq kn ke kr x y) (fun rq kn ke kr x y => g1 rq kn ke kr x y) (round1) (by
    intro φ kn1 kn2 ke1 ke2 kr1 kr2 h1 h2 h3 x y
    simp only [g1]
    with_reducible repeat (first | (apply J.lt; intro _) | apply J.rq | apply J.bif | exact h1 _ _ | exact h2 _ (by decide) _ _ | exact h3 (by decide) _ _))
set_option maxRecDepth 100000 in
theorem round0 (x : ShX sh0) (y : BxX bx0) (kn : ShX sh0 → BxX bx0 → Option Res) (ke : Nat → ShX sh0 → BxX bx0 → Option Res) (kr : ShX shR0 → BxX bxR0 → Option Res) : codeK E0 D (loopX E0 D tab 8) (nthLoop (codeOf Try.f52) 0) (inj 78 sh0 bx0 x y) (roundK sh0 bx0 ord0 shR0 bxR0 ordR0 kn ke kr) = g0 (fun c z => req c z) kn ke kr x y := by kernel_rfl
theorem told0 : Nonempty (Told E0 D tab Try.f52.ntmps (nthLoop (codeOf Try.f52) 0) 78 sh0 bx0 ord0 shR0 bxR0 (loopF' [0, 1] (rounds (fun rq kn ke kr x y => g0 rq kn ke kr x y) (false, ()) ()) fu0)) :=
  told_of (sh := sh0) (bx := bx0) (ord := ord0) (shR := shR0) (bxR := bxR0) ordR0 8 (by kernel_rfl) (by kernel_rfl) (by kernel_rfl) [0, 1] fu0 (false, ()) () (fun rq kn ke kr x y => g0 rq kn ke kr x y) (fun rq kn ke kr x y => g0 rq kn ke kr x y) (round0) (by
    intro φ kn1 kn2 ke1 ke2 kr1 kr2 h1 h2 h3 x y
    simp only [g0]
    with_reducible repeat (first | (apply J.lt; intro _) | apply J.rq | apply J.bif | exact h1 _ _ | exact h2 _ (by decide) _ _ | exact h3 (by decide) _ _))
theorem tabOK : TabOK E0 D tab Try.f52.ntmps (codeOf Try.f52) := tabOK_of (bs := [nthLoop (codeOf Try.f52) 0, nthLoop (codeOf Try.f52) 1]) (by kernel_rfl) (allTold_cons (typedAt (by kernel_rfl) (told0)) (allTold_cons (typedAt (by kernel_rfl) (told1)) allTold_nil))
theorem ok : fnOK Try.f52 = true := by kernel_rfl
abbrev aS : List AS := [.one (.val (.sl tApi_Event))]
abbrev bS : List Ty := []
def F (x : ASs aS) (y : Bs bS) : Brn Res := brn (r x.1)
theorem good (x : ASs aS) (y : Bs bS) (h : (F x y).res.1 = true) : Good Try.prog 52 (ASs.mk aS x) (Bs.mk bS y) (F x y).res.2 :=
  good_run hE0 (Dof_sound _) Try.func52 ok tabOK brn_res (run x.1) (rel x.1) h
noncomputable def ent : Ent Try.prog := ⟨52, shF aS bS F, shF_good good⟩
end Sacristyref28_May

/-! sacristy/sacristyref28.Keys -/
namespace Sacristyref28_Keys
abbrev X : Type := (List ByteArray)
def res (x : (List ByteArray)) : Res := ⟨[.val ⟨.sl .str, x⟩], [], []⟩
def brn (w : Bool × X) : Brn Res := .one w.1 (res w.2)
theorem brn_res (w : Bool × X) : (brn w).res = (w.1, res w.2) := rfl
abbrev sh1 : List (Nat × Sh) := [(0, .p (.sl tApi_Event)), (2, .nil), (3, .va 501000 .str), (4, .p (.int .i64)), (5, .p (.int .i64))]
abbrev bx1 : List (Nat × Ty) := [(501000, .dyn .str)]
abbrev ord1 : List (Nat × Ty) := [(501000, .dyn .str)]
abbrev shR1 : List (Nat × Sh) := []
abbrev bxR1 : List (Nat × Ty) := []
abbrev ordR1 : List (Nat × Ty) := []
abbrev X1 : Type := (List Api_Event) × Unit × Unit × Int × Int × Unit
abbrev Y1 : Type := (Bool × List ByteArray) × Unit
abbrev U1 : Type := Unit
abbrev V1 : Type := Unit
def g1 {Z : Type} (rq : Bool → Z → Z) (kn : X1 → Y1 → Z) (ke : Nat → X1 → Y1 → Z) (kr : U1 → V1 → Z) (x : X1) (y : Y1) : Z :=
  lt ((y.1.2.length : Int)) fun (v242 : Int) =>
  lt ((ilt x.2.2.2.2.1 v242)) fun (v243 : Bool) =>
  bif v243 then
    rq (ile (0 : Int) x.2.2.2.2.1 && ilt x.2.2.2.2.1 (y.1.2.length : Int)) <|
    lt ((y.1.2.getD x.2.2.2.2.1.toNat (⟨#[]⟩ : ByteArray))) fun (v244 : ByteArray) =>
    lt ((x.1.getD x.2.2.2.1.toNat zApi_Event)) fun (v245 : Api_Event) =>
    rq (ile (0 : Int) x.2.2.2.1 && ilt x.2.2.2.1 (x.1.length : Int)) <|
    lt ((Op.bytesLess v244.toList v245.2.2.1.toList)) fun (v246 : Bool) =>
    bif v246 then
      lt (IntKind.i64.wrap (x.2.2.2.2.1 + 1)) fun (v247 : Int) =>
      kn (x.1, (), (), x.2.2.2.1, v247, ()) (y.1, ())
    else
      ke 2 (x.1, (), (), x.2.2.2.1, x.2.2.2.2.1, ()) (y.1, ())
  else
    ke 2 (x.1, (), (), x.2.2.2.1, x.2.2.2.2.1, ()) (y.1, ())

def fu1 (x : X1) (y : Y1) : Nat := ((y.1.2.length : Int) - x.2.2.2.2.1).toNat + 1
def l1 (x : X1) (y : Y1) : Bool × Nat × X1 × Y1 × U1 × V1 := rounds (fun rq kn ke kr x y => g1 rq kn ke kr x y) () () (fu1 x y) x y
abbrev sh0 : List (Nat × Sh) := [(0, .p (.sl tApi_Event)), (2, .nil), (3, .va 500000 .str), (4, .p (.int .i64))]
abbrev bx0 : List (Nat × Ty) := [(500000, .dyn .str)]
abbrev ord0 : List (Nat × Ty) := [(500000, .dyn .str)]
abbrev shR0 : List (Nat × Sh) := []
abbrev bxR0 : List (Nat × Ty) := []
abbrev ordR0 : List (Nat × Ty) := []
abbrev X0 : Type := (List Api_Event) × Unit × Unit × Int × Unit
abbrev Y0 : Type := (Bool × List ByteArray) × Unit
abbrev U0 : Type := Unit
abbrev V0 : Type := Unit
def g0 {Z : Type} (rq : Bool → Z → Z) (kn : X0 → Y0 → Z) (ke : Nat → X0 → Y0 → Z) (kr : U0 → V0 → Z) (x : X0) (y : Y0) : Z :=
  lt ((x.1.length : Int)) fun (v240 : Int) =>
  lt ((ilt x.2.2.2.1 v240)) fun (v241 : Bool) =>
  bif v241 then
    lt (Sacristyref28_Keys.l1 (x.1, (), (), x.2.2.2.1, 0, ()) (y.1, ())) fun w248 =>
    rq w248.1 <|
    lt ((w248.2.2.2.1.1.2.length : Int)) fun (v249 : Int) =>
    lt ((ilt w248.2.2.1.2.2.2.2.1 v249)) fun (v250 : Bool) =>
    bif v250 then
      rq (ile (0 : Int) w248.2.2.1.2.2.2.2.1 && ilt w248.2.2.1.2.2.2.2.1 (w248.2.2.2.1.1.2.length : Int)) <|
      lt ((w248.2.2.2.1.1.2.getD w248.2.2.1.2.2.2.2.1.toNat (⟨#[]⟩ : ByteArray))) fun (v251 : ByteArray) =>
      lt ((w248.2.2.1.1.getD w248.2.2.1.2.2.2.1.toNat zApi_Event)) fun (v252 : Api_Event) =>
      rq (ile (0 : Int) w248.2.2.1.2.2.2.1 && ilt w248.2.2.1.2.2.2.1 (w248.2.2.1.1.length : Int)) <|
      lt ((v251.toList == v252.2.2.1.toList)) fun (v253 : Bool) =>
      bif v253 then
        lt (IntKind.i64.wrap (w248.2.2.1.2.2.2.1 + 1)) fun (v254 : Int) =>
        kn (w248.2.2.1.1, (), (), v254, ()) (w248.2.2.2.1.1, ())
      else
        rq (ile (0 : Int) w248.2.2.1.2.2.2.2.1 && ile w248.2.2.1.2.2.2.2.1 (w248.2.2.2.1.1.2.length : Int)) <|
        lt (((w248.2.2.2.1.1.2.take w248.2.2.1.2.2.2.2.1.toNat).isEmpty)) fun (v255 : Bool) =>
        lt ((w248.2.2.2.1.1.2.take w248.2.2.1.2.2.2.2.1.toNat)) fun (v256 : (List ByteArray)) =>
        rq (nle ((2 * (0 + (w248.2.2.2.1.1.2.take w248.2.2.1.2.2.2.2.1.toNat).length) + 512) * 16) 70368744177664) <|
        lt ((w248.2.2.1.1.getD w248.2.2.1.2.2.2.1.toNat zApi_Event)) fun (v257 : Api_Event) =>
        rq (ile (0 : Int) w248.2.2.1.2.2.2.1 && ilt w248.2.2.1.2.2.2.1 (w248.2.2.1.1.length : Int)) <|
        lt ((v255 && false)) fun (v258 : Bool) =>
        lt ((v256 ++ [v257.2.2.1])) fun (v259 : (List ByteArray)) =>
        rq (nle ((2 * (v256.length + 1) + 512) * 16) 70368744177664) <|
        lt (((w248.2.2.2.1.1.2.length : Int).toNat - w248.2.2.1.2.2.2.2.1.toNat)) fun (n260 : Nat) =>
        rq ((ile (0 : Int) w248.2.2.1.2.2.2.2.1 && ile w248.2.2.1.2.2.2.2.1 (w248.2.2.2.1.1.2.length : Int)) && ile (w248.2.2.2.1.1.2.length : Int) (w248.2.2.2.1.1.2.length : Int)) <|
        lt ((v258 && ((w248.2.2.2.1.1.2.drop w248.2.2.1.2.2.2.2.1.toNat).take n260).isEmpty)) fun (v261 : Bool) =>
        lt ((v259 ++ ((w248.2.2.2.1.1.2.drop w248.2.2.1.2.2.2.2.1.toNat).take n260))) fun (v262 : (List ByteArray)) =>
        rq (nle ((2 * (v259.length + ((w248.2.2.2.1.1.2.drop w248.2.2.1.2.2.2.2.1.toNat).take n260).length) + 512) * 16) 70368744177664) <|
        lt (IntKind.i64.wrap (w248.2.2.1.2.2.2.1 + 1)) fun (v263 : Int) =>
        kn (w248.2.2.1.1, (), (), v263, ()) ((v261, v262), ())
    else
      rq (ile (0 : Int) w248.2.2.1.2.2.2.2.1 && ile w248.2.2.1.2.2.2.2.1 (w248.2.2.2.1.1.2.length : Int)) <|
      lt (((w248.2.2.2.1.1.2.take w248.2.2.1.2.2.2.2.1.toNat).isEmpty)) fun (v264 : Bool) =>
      lt ((w248.2.2.2.1.1.2.take w248.2.2.1.2.2.2.2.1.toNat)) fun (v265 : (List ByteArray)) =>
      rq (nle ((2 * (0 + (w248.2.2.2.1.1.2.take w248.2.2.1.2.2.2.2.1.toNat).length) + 512) * 16) 70368744177664) <|
      lt ((w248.2.2.1.1.getD w248.2.2.1.2.2.2.1.toNat zApi_Event)) fun (v266 : Api_Event) =>
      rq (ile (0 : Int) w248.2.2.1.2.2.2.1 && ilt w248.2.2.1.2.2.2.1 (w248.2.2.1.1.length : Int)) <|
      lt ((v264 && false)) fun (v267 : Bool) =>
      lt ((v265 ++ [v266.2.2.1])) fun (v268 : (List ByteArray)) =>
      rq (nle ((2 * (v265.length + 1) + 512) * 16) 70368744177664) <|
      lt (((w248.2.2.2.1.1.2.length : Int).toNat - w248.2.2.1.2.2.2.2.1.toNat)) fun (n269 : Nat) =>
      rq ((ile (0 : Int) w248.2.2.1.2.2.2.2.1 && ile w248.2.2.1.2.2.2.2.1 (w248.2.2.2.1.1.2.length : Int)) && ile (w248.2.2.2.1.1.2.length : Int) (w248.2.2.2.1.1.2.length : Int)) <|
      lt ((v267 && ((w248.2.2.2.1.1.2.drop w248.2.2.1.2.2.2.2.1.toNat).take n269).isEmpty)) fun (v270 : Bool) =>
      lt ((v268 ++ ((w248.2.2.2.1.1.2.drop w248.2.2.1.2.2.2.2.1.toNat).take n269))) fun (v271 : (List ByteArray)) =>
      rq (nle ((2 * (v268.length + ((w248.2.2.2.1.1.2.drop w248.2.2.1.2.2.2.2.1.toNat).take n269).length) + 512) * 16) 70368744177664) <|
      lt (IntKind.i64.wrap (w248.2.2.1.2.2.2.1 + 1)) fun (v272 : Int) =>
      kn (w248.2.2.1.1, (), (), v272, ()) ((v270, v271), ())
  else
    ke 0 (x.1, (), (), x.2.2.2.1, ()) (y.1, ())

def fu0 (x : X0) (y : Y0) : Nat := ((x.1.length : Int) - x.2.2.2.1).toNat + 1
def l0 (x : X0) (y : Y0) : Bool × Nat × X0 × Y0 × U0 × V0 := rounds (fun rq kn ke kr x y => g0 rq kn ke kr x y) () () (fu0 x y) x y
def g {Z : Type} (rq : Bool → Z → Z) (rt : X → Z) (l : (List Api_Event)) : Z :=
  lt (Sacristyref28_Keys.l0 (l, (), (), 0, ()) ((true, []), ())) fun w273 =>
  rq w273.1 <|
  rt w273.2.2.2.1.1.2

def r (l : (List Api_Event)) : Bool × X := g chk (fun x => (true, x)) l
noncomputable def D : CallD := Dof (P := Try.prog) []
noncomputable def tab : List (Nat × LE Res) := [(7, .typed (loopT 67 sh1 bx1 ord1 shR1 bxR1 (loopF' [3] (rounds (fun rq kn ke kr x y => g1 rq kn ke kr x y) () ()) fu1))), (4, .typed (loopT 67 sh0 bx0 ord0 shR0 bxR0 (loopF' [1] (rounds (fun rq kn ke kr x y => g0 rq kn ke kr x y) () ()) fu0)))]
set_option maxRecDepth 100000 in
theorem run (l : (List Api_Event)) : enterK E0 [true] D (loopX E0 D tab 9) Try.f55 (codeOf Try.f55) [.val ⟨.sl tApi_Event, l⟩] [] = g (fun c z => req c z) (fun x => some (res x)) l := by kernel_rfl
theorem rel (l : (List Api_Event)) : J (fun w z => z = some (res w)) (g chk (fun x => (true, x)) l) (g (fun c z => req c z) (fun x => some (res x)) l) := by
  unfold g
  with_reducible repeat (first | (apply J.lt; intro _) | apply J.rq | apply J.bif | exact J.rt rfl)
set_option maxRecDepth 100000 in
theorem round1 (x : ShX sh1) (y : BxX bx1) (kn : ShX sh1 → BxX bx1 → Option Res) (ke : Nat → ShX sh1 → BxX bx1 → Option Res) (kr : ShX shR1 → BxX bxR1 → Option Res) : codeK E0 D (loopX E0 D tab 8) (nthLoop (codeOf Try.f55) 1) (inj 67 sh1 bx1 x y) (roundK sh1 bx1 ord1 shR1 bxR1 ordR1 kn ke kr) = g1 (fun c z => req c z) kn ke kr x y := by kernel_rfl
theorem told1 : Nonempty (Told E0 D tab Try.f55.ntmps (nthLoop (codeOf Try.f55) 1) 67 sh1 bx1 ord1 shR1 bxR1 (loopF' [3] (rounds (fun rq kn ke kr x y => g1 rq kn ke kr x y) () ()) fu1)) :=
  told_of (sh := sh1) (bx := bx1) (ord := ord1) (shR := shR1) (bxR := bxR1) ordR1 8 (by kernel_rfl) (by kernel_rfl) (by kernel_rfl) [3] fu1 () () (fun rq kn ke kr x y => g1 rq kn ke kr x y) (fun rq kn ke kr x y => g1 rq kn ke kr x y) (round1) (by
    intro φ kn1 kn2 ke1 ke2 kr1 kr2 h1 h2 h3 x y
    simp only [g1]
    with_reducible repeat (first | (apply J.lt; intro _) | apply J.rq | apply J.bif | exact h1 _ _ | exact h2 _ (by decide) _ _ | exact h3 (by decide) _ _))
set_option maxRecDepth 100000 in
theorem round0 (x : ShX sh0) (y : BxX bx0) (kn : ShX sh0 → BxX bx0 → Option Res) (ke : Nat → ShX sh0 → BxX bx0 → Option Res) (kr : ShX shR0 → BxX bxR0 → Option Res) : codeK E0 D (loopX E0 D tab 8) (nthLoop (codeOf Try.f55) 0) (inj 67 sh0 bx0 x y) (roundK sh0 bx0 ord0 shR0 bxR0 ordR0 kn ke kr) = g0 (fun c z => req c z) kn ke kr x y := by kernel_rfl
theorem told0 : Nonempty (Told E0 D tab Try.f55.ntmps (nthLoop (codeOf Try.f55) 0) 67 sh0 bx0 ord0 shR0 bxR0 (loopF' [1] (rounds (fun rq kn ke kr x y => g0 rq kn ke kr x y) () ()) fu0)) :=
  told_of (sh := sh0) (bx := bx0) (ord := ord0) (shR := shR0) (bxR := bxR0) ordR0 8 (by kernel_rfl) (by kernel_rfl) (by kernel_rfl) [1] fu0 () () (fun rq kn ke kr x y => g0 rq kn ke kr x y) (fun rq kn ke kr x y => g0 rq kn ke kr x y) (round0) (by
    intro φ kn1 kn2 ke1 ke2 kr1 kr2 h1 h2 h3 x y
    simp only [g0]
    with_reducible repeat (first | (apply J.lt; intro _) | apply J.rq | apply J.bif | exact h1 _ _ | exact h2 _ (by decide) _ _ | exact h3 (by decide) _ _))
theorem tabOK : TabOK E0 D tab Try.f55.ntmps (codeOf Try.f55) := tabOK_of (bs := [nthLoop (codeOf Try.f55) 0, nthLoop (codeOf Try.f55) 1]) (by kernel_rfl) (allTold_cons (typedAt (by kernel_rfl) (told0)) (allTold_cons (typedAt (by kernel_rfl) (told1)) allTold_nil))
theorem ok : fnOK Try.f55 = true := by kernel_rfl
abbrev aS : List AS := [.one (.val (.sl tApi_Event))]
abbrev bS : List Ty := []
def F (x : ASs aS) (y : Bs bS) : Brn Res := brn (r x.1)
theorem good (x : ASs aS) (y : Bs bS) (h : (F x y).res.1 = true) : Good Try.prog 55 (ASs.mk aS x) (Bs.mk bS y) (F x y).res.2 :=
  good_run hE0 (Dof_sound _) Try.func55 ok tabOK brn_res (run x.1) (rel x.1) h
noncomputable def ent : Ent Try.prog := ⟨55, shF aS bS F, shF_good good⟩
end Sacristyref28_Keys

/-! sacristy/sacristyref28.Must -/
namespace Sacristyref28_Must
abbrev X : Type := Bool
def res (x : Bool) : Res := ⟨[.val ⟨.bool, x⟩], [], []⟩
def brn (w : Bool × X) : Brn Res := .one w.1 (res w.2)
theorem brn_res (w : Bool × X) : (brn w).res = (w.1, res w.2) := rfl
def g {Z : Type} (rq : Bool → Z → Z) (rt : X → Z) (e : Api_Event) : Z :=
  lt ((e.2.2.2.2.2.1 != 0)) fun (v283 : Bool) =>
  bif v283 then
    lt ((e.2.2.2.2.2.2.1.2.1 == 0)) fun (v284 : Bool) =>
    rt v284
  else
    rt false

def r (e : Api_Event) : Bool × X := g chk (fun x => (true, x)) e
noncomputable def D : CallD := Dof (P := Try.prog) []
noncomputable def tab : List (Nat × LE Res) := []
set_option maxRecDepth 100000 in
theorem run (e : Api_Event) : enterK E0 [true] D (loopX E0 D tab 9) Try.f62 (codeOf Try.f62) [.val ⟨tApi_Event, e⟩] [] = g (fun c z => req c z) (fun x => some (res x)) e := by kernel_rfl
theorem rel (e : Api_Event) : J (fun w z => z = some (res w)) (g chk (fun x => (true, x)) e) (g (fun c z => req c z) (fun x => some (res x)) e) := by
  unfold g
  with_reducible repeat (first | (apply J.lt; intro _) | apply J.rq | apply J.bif | exact J.rt rfl)
theorem ok : fnOK Try.f62 = true := by kernel_rfl
abbrev aS : List AS := [.one (.val tApi_Event)]
abbrev bS : List Ty := []
def F (x : ASs aS) (y : Bs bS) : Brn Res := brn (r x.1)
theorem good (x : ASs aS) (y : Bs bS) (h : (F x y).res.1 = true) : Good Try.prog 62 (ASs.mk aS x) (Bs.mk bS y) (F x y).res.2 :=
  good_run hE0 (Dof_sound _) Try.func62 ok tabOK_nil brn_res (run x.1) (rel x.1) h
noncomputable def ent : Ent Try.prog := ⟨62, shF aS bS F, shF_good good⟩
end Sacristyref28_Must

/-! sacristy/sacristyref28.Of -/
namespace Sacristyref28_Of
abbrev X : Type := (List Api_Event)
def res (x : (List Api_Event)) : Res := ⟨[.val ⟨.sl tApi_Event, x⟩], [], []⟩
def brn (w : Bool × X) : Brn Res := .one w.1 (res w.2)
theorem brn_res (w : Bool × X) : (brn w).res = (w.1, res w.2) := rfl
abbrev sh0 : List (Nat × Sh) := [(0, .p (.sl tApi_Event)), (1, .p .str), (4, .nil), (5, .va 500000 tApi_Event), (6, .p (.int .i64))]
abbrev bx0 : List (Nat × Ty) := [(500000, .dyn tApi_Event)]
abbrev ord0 : List (Nat × Ty) := [(500000, .dyn tApi_Event)]
abbrev shR0 : List (Nat × Sh) := []
abbrev bxR0 : List (Nat × Ty) := []
abbrev ordR0 : List (Nat × Ty) := []
abbrev X0 : Type := (List Api_Event) × ByteArray × Unit × Unit × Int × Unit
abbrev Y0 : Type := (Bool × List Api_Event) × Unit
abbrev U0 : Type := Unit
abbrev V0 : Type := Unit
def g0 {Z : Type} (rq : Bool → Z → Z) (kn : X0 → Y0 → Z) (ke : Nat → X0 → Y0 → Z) (kr : U0 → V0 → Z) (x : X0) (y : Y0) : Z :=
  lt ((x.1.length : Int)) fun (v295 : Int) =>
  lt ((ilt x.2.2.2.2.1 v295)) fun (v296 : Bool) =>
  bif v296 then
    lt ((x.1.getD x.2.2.2.2.1.toNat zApi_Event)) fun (v297 : Api_Event) =>
    rq (ile (0 : Int) x.2.2.2.2.1 && ilt x.2.2.2.2.1 (x.1.length : Int)) <|
    lt ((v297.2.1 == 3)) fun (v298 : Bool) =>
    bif v298 then
      lt (Sacristyref28_Must.r v297) fun w299 =>
      rq w299.1 <|
      lt ((!w299.2)) fun (v300 : Bool) =>
      bif v300 then
        lt ((v297.2.2.1.toList == x.2.1.toList)) fun (v301 : Bool) =>
        bif v301 then
          lt (IntKind.i64.wrap (x.2.2.2.2.1 + 1)) fun (v302 : Int) =>
          kn (x.1, x.2.1, (), (), v302, ()) (y.1, ())
        else
          lt (IntKind.i64.wrap (x.2.2.2.2.1 + 1)) fun (v303 : Int) =>
          kn (x.1, x.2.1, (), (), v303, ()) (y.1, ())
      else
        lt ((v297.2.2.2.2.2.2.1.2.1 != 0)) fun (v304 : Bool) =>
        bif v304 then
          lt ((v297.2.2.2.2.2.2.1.1 == 0)) fun (v305 : Bool) =>
          lt ((v297.2.2.1.toList == x.2.1.toList)) fun (v306 : Bool) =>
          bif v306 then
            lt ((!v305)) fun (v307 : Bool) =>
            bif v307 then
              lt ((y.1.1 && false)) fun (v308 : Bool) =>
              lt ((y.1.2 ++ [v297])) fun (v309 : (List Api_Event)) =>
              rq (nle ((2 * (y.1.2.length + 1) + 512) * 120) 70368744177664) <|
              lt (IntKind.i64.wrap (x.2.2.2.2.1 + 1)) fun (v310 : Int) =>
              kn (x.1, x.2.1, (), (), v310, ()) ((v308, v309), ())
            else
              lt (IntKind.i64.wrap (x.2.2.2.2.1 + 1)) fun (v311 : Int) =>
              kn (x.1, x.2.1, (), (), v311, ()) (y.1, ())
          else
            lt (IntKind.i64.wrap (x.2.2.2.2.1 + 1)) fun (v312 : Int) =>
            kn (x.1, x.2.1, (), (), v312, ()) (y.1, ())
        else
          lt ((v297.2.2.1.toList == x.2.1.toList)) fun (v313 : Bool) =>
          bif v313 then
            lt ((y.1.1 && false)) fun (v314 : Bool) =>
            lt ((y.1.2 ++ [v297])) fun (v315 : (List Api_Event)) =>
            rq (nle ((2 * (y.1.2.length + 1) + 512) * 120) 70368744177664) <|
            lt (IntKind.i64.wrap (x.2.2.2.2.1 + 1)) fun (v316 : Int) =>
            kn (x.1, x.2.1, (), (), v316, ()) ((v314, v315), ())
          else
            lt (IntKind.i64.wrap (x.2.2.2.2.1 + 1)) fun (v317 : Int) =>
            kn (x.1, x.2.1, (), (), v317, ()) (y.1, ())
    else
      lt ((v297.2.2.2.2.2.2.1.2.1 != 0)) fun (v318 : Bool) =>
      bif v318 then
        lt ((v297.2.2.2.2.2.2.1.1 == 0)) fun (v319 : Bool) =>
        lt ((v297.2.2.1.toList == x.2.1.toList)) fun (v320 : Bool) =>
        bif v320 then
          lt ((!v319)) fun (v321 : Bool) =>
          bif v321 then
            lt ((y.1.1 && false)) fun (v322 : Bool) =>
            lt ((y.1.2 ++ [v297])) fun (v323 : (List Api_Event)) =>
            rq (nle ((2 * (y.1.2.length + 1) + 512) * 120) 70368744177664) <|
            lt (IntKind.i64.wrap (x.2.2.2.2.1 + 1)) fun (v324 : Int) =>
            kn (x.1, x.2.1, (), (), v324, ()) ((v322, v323), ())
          else
            lt (IntKind.i64.wrap (x.2.2.2.2.1 + 1)) fun (v325 : Int) =>
            kn (x.1, x.2.1, (), (), v325, ()) (y.1, ())
        else
          lt (IntKind.i64.wrap (x.2.2.2.2.1 + 1)) fun (v326 : Int) =>
          kn (x.1, x.2.1, (), (), v326, ()) (y.1, ())
      else
        lt ((v297.2.2.1.toList == x.2.1.toList)) fun (v327 : Bool) =>
        bif v327 then
          lt ((y.1.1 && false)) fun (v328 : Bool) =>
          lt ((y.1.2 ++ [v297])) fun (v329 : (List Api_Event)) =>
          rq (nle ((2 * (y.1.2.length + 1) + 512) * 120) 70368744177664) <|
          lt (IntKind.i64.wrap (x.2.2.2.2.1 + 1)) fun (v330 : Int) =>
          kn (x.1, x.2.1, (), (), v330, ()) ((v328, v329), ())
        else
          lt (IntKind.i64.wrap (x.2.2.2.2.1 + 1)) fun (v331 : Int) =>
          kn (x.1, x.2.1, (), (), v331, ()) (y.1, ())
  else
    ke 0 (x.1, x.2.1, (), (), x.2.2.2.2.1, ()) (y.1, ())

def fu0 (x : X0) (y : Y0) : Nat := ((x.1.length : Int) - x.2.2.2.2.1).toNat + 1
def l0 (x : X0) (y : Y0) : Bool × Nat × X0 × Y0 × U0 × V0 := rounds (fun rq kn ke kr x y => g0 rq kn ke kr x y) () () (fu0 x y) x y
def g {Z : Type} (rq : Bool → Z → Z) (rt : X → Z) (l : (List Api_Event)) (key : ByteArray) : Z :=
  lt (Sacristyref28_Of.l0 (l, key, (), (), 0, ()) ((true, []), ())) fun w332 =>
  rq w332.1 <|
  rt w332.2.2.2.1.1.2

def r (l : (List Api_Event)) (key : ByteArray) : Bool × X := g chk (fun x => (true, x)) l key
noncomputable def D : CallD := Dof (P := Try.prog) [Sacristyref28_Must.ent]
noncomputable def tab : List (Nat × LE Res) := [(4, .typed (loopT 52 sh0 bx0 ord0 shR0 bxR0 (loopF' [1] (rounds (fun rq kn ke kr x y => g0 rq kn ke kr x y) () ()) fu0)))]
set_option maxRecDepth 100000 in
theorem run (l : (List Api_Event)) (key : ByteArray) : enterK E0 [true] D (loopX E0 D tab 9) Try.f58 (codeOf Try.f58) [.val ⟨.sl tApi_Event, l⟩, .val ⟨.str, key⟩] [] = g (fun c z => req c z) (fun x => some (res x)) l key := by kernel_rfl
theorem rel (l : (List Api_Event)) (key : ByteArray) : J (fun w z => z = some (res w)) (g chk (fun x => (true, x)) l key) (g (fun c z => req c z) (fun x => some (res x)) l key) := by
  unfold g
  with_reducible repeat (first | (apply J.lt; intro _) | apply J.rq | apply J.bif | exact J.rt rfl)
set_option maxRecDepth 100000 in
theorem round0 (x : ShX sh0) (y : BxX bx0) (kn : ShX sh0 → BxX bx0 → Option Res) (ke : Nat → ShX sh0 → BxX bx0 → Option Res) (kr : ShX shR0 → BxX bxR0 → Option Res) : codeK E0 D (loopX E0 D tab 8) (nthLoop (codeOf Try.f58) 0) (inj 52 sh0 bx0 x y) (roundK sh0 bx0 ord0 shR0 bxR0 ordR0 kn ke kr) = g0 (fun c z => req c z) kn ke kr x y := by kernel_rfl
theorem told0 : Nonempty (Told E0 D tab Try.f58.ntmps (nthLoop (codeOf Try.f58) 0) 52 sh0 bx0 ord0 shR0 bxR0 (loopF' [1] (rounds (fun rq kn ke kr x y => g0 rq kn ke kr x y) () ()) fu0)) :=
  told_of (sh := sh0) (bx := bx0) (ord := ord0) (shR := shR0) (bxR := bxR0) ordR0 8 (by kernel_rfl) (by kernel_rfl) (by kernel_rfl) [1] fu0 () () (fun rq kn ke kr x y => g0 rq kn ke kr x y) (fun rq kn ke kr x y => g0 rq kn ke kr x y) (round0) (by
    intro φ kn1 kn2 ke1 ke2 kr1 kr2 h1 h2 h3 x y
    simp only [g0]
    with_reducible repeat (first | (apply J.lt; intro _) | apply J.rq | apply J.bif | exact h1 _ _ | exact h2 _ (by decide) _ _ | exact h3 (by decide) _ _))
theorem tabOK : TabOK E0 D tab Try.f58.ntmps (codeOf Try.f58) := tabOK_of (bs := [nthLoop (codeOf Try.f58) 0]) (by kernel_rfl) (allTold_cons (typedAt (by kernel_rfl) (told0)) allTold_nil)
theorem ok : fnOK Try.f58 = true := by kernel_rfl
abbrev aS : List AS := [.one (.val (.sl tApi_Event)), .one (.val .str)]
abbrev bS : List Ty := []
def F (x : ASs aS) (y : Bs bS) : Brn Res := brn (r x.1 x.2.1)
theorem good (x : ASs aS) (y : Bs bS) (h : (F x y).res.1 = true) : Good Try.prog 58 (ASs.mk aS x) (Bs.mk bS y) (F x y).res.2 :=
  good_run hE0 (Dof_sound _) Try.func58 ok tabOK brn_res (run x.1 x.2.1) (rel x.1 x.2.1) h
noncomputable def ent : Ent Try.prog := ⟨58, shF aS bS F, shF_good good⟩
end Sacristyref28_Of

/-! sacristy/sacristyref27.SameEvents -/
namespace Sacristyref27_SameEvents
abbrev X : Type := Bool
def res (x : Bool) : Res := ⟨[.val ⟨.bool, x⟩], [], []⟩
def brn (w : Bool × X) : Brn Res := .one w.1 (res w.2)
theorem brn_res (w : Bool × X) : (brn w).res = (w.1, res w.2) := rfl
abbrev sh0 : List (Nat × Sh) := [(0, .p (.sl tApi_Event)), (1, .p (.sl tApi_Event)), (4, .p .bool), (5, .p (.int .i64))]
abbrev bx0 : List (Nat × Ty) := []
abbrev ord0 : List (Nat × Ty) := []
abbrev shR0 : List (Nat × Sh) := [(4, .p .bool)]
abbrev bxR0 : List (Nat × Ty) := []
abbrev ordR0 : List (Nat × Ty) := []
abbrev X0 : Type := (List Api_Event) × (List Api_Event) × Bool × Int × Unit
abbrev Y0 : Type := Unit
abbrev U0 : Type := Bool × Unit
abbrev V0 : Type := Unit
def g0 {Z : Type} (rq : Bool → Z → Z) (kn : X0 → Y0 → Z) (ke : Nat → X0 → Y0 → Z) (kr : U0 → V0 → Z) (x : X0) (y : Y0) : Z :=
  lt ((x.1.length : Int)) fun (v339 : Int) =>
  lt ((ilt x.2.2.2.1 v339)) fun (v340 : Bool) =>
  bif v340 then
    lt ((x.1.getD x.2.2.2.1.toNat zApi_Event)) fun (v341 : Api_Event) =>
    rq (ile (0 : Int) x.2.2.2.1 && ilt x.2.2.2.1 (x.1.length : Int)) <|
    lt ((x.2.1.getD x.2.2.2.1.toNat zApi_Event)) fun (v342 : Api_Event) =>
    rq (ile (0 : Int) x.2.2.2.1 && ilt x.2.2.2.1 (x.2.1.length : Int)) <|
    lt ((!(ieq v341.1 v342.1 && (ieq v341.2.1 v342.2.1 && ((v341.2.2.1 == v342.2.2.1) && ((v341.2.2.2.1 == v342.2.2.2.1) && (ieq v341.2.2.2.2.1 v342.2.2.2.2.1 && (ieq v341.2.2.2.2.2.1 v342.2.2.2.2.2.1 && ((ieq v341.2.2.2.2.2.2.1.1 v342.2.2.2.2.2.2.1.1 && (ieq v341.2.2.2.2.2.2.1.2.1 v342.2.2.2.2.2.2.1.2.1 && ((v341.2.2.2.2.2.2.1.2.2.1 == v342.2.2.2.2.2.2.1.2.2.1) && ((v341.2.2.2.2.2.2.1.2.2.2.1 == v342.2.2.2.2.2.2.1.2.2.2.1) && ((ieq v341.2.2.2.2.2.2.1.2.2.2.2.1.1 v342.2.2.2.2.2.2.1.2.2.2.2.1.1 && (ieq v341.2.2.2.2.2.2.1.2.2.2.2.1.2.1 v342.2.2.2.2.2.2.1.2.2.2.2.1.2.1 && true)) && true))))) && true))))))))) fun (v343 : Bool) =>
    bif v343 then
      kr (false, ()) ()
    else
      lt (IntKind.i64.wrap (x.2.2.2.1 + 1)) fun (v344 : Int) =>
      kn (x.1, x.2.1, x.2.2.1, v344, ()) ()
  else
    ke 0 (x.1, x.2.1, x.2.2.1, x.2.2.2.1, ()) ()

def fu0 (x : X0) (y : Y0) : Nat := ((x.1.length : Int) - x.2.2.2.1).toNat + 1
def l0 (x : X0) (y : Y0) : Bool × Nat × X0 × Y0 × U0 × V0 := rounds (fun rq kn ke kr x y => g0 rq kn ke kr x y) (false, ()) () (fu0 x y) x y
def g {Z : Type} (rq : Bool → Z → Z) (rt : X → Z) (a : (List Api_Event)) (b : (List Api_Event)) : Z :=
  lt ((a.length : Int)) fun (v334 : Int) =>
  lt ((b.length : Int)) fun (v335 : Int) =>
  lt ((v334 != v335)) fun (v336 : Bool) =>
  bif v336 then
    rt false
  else
    lt (Sacristyref27_SameEvents.l0 (a, b, false, 0, ()) ()) fun w345 =>
    rq w345.1 <|
    bif Nat.beq w345.2.1 0 then
      rt w345.2.2.2.2.1.1
    else
      rt true

def r (a : (List Api_Event)) (b : (List Api_Event)) : Bool × X := g chk (fun x => (true, x)) a b
noncomputable def D : CallD := Dof (P := Try.prog) []
noncomputable def tab : List (Nat × LE Res) := [(5, .typed (loopT 26 sh0 bx0 ord0 shR0 bxR0 (loopF' [0, 1] (rounds (fun rq kn ke kr x y => g0 rq kn ke kr x y) (false, ()) ()) fu0)))]
set_option maxRecDepth 100000 in
theorem run (a : (List Api_Event)) (b : (List Api_Event)) : enterK E0 [true] D (loopX E0 D tab 9) Try.f56 (codeOf Try.f56) [.val ⟨.sl tApi_Event, a⟩, .val ⟨.sl tApi_Event, b⟩] [] = g (fun c z => req c z) (fun x => some (res x)) a b := by kernel_rfl
theorem rel (a : (List Api_Event)) (b : (List Api_Event)) : J (fun w z => z = some (res w)) (g chk (fun x => (true, x)) a b) (g (fun c z => req c z) (fun x => some (res x)) a b) := by
  unfold g
  with_reducible repeat (first | (apply J.lt; intro _) | apply J.rq | apply J.bif | exact J.rt rfl)
set_option maxRecDepth 100000 in
theorem round0 (x : ShX sh0) (y : BxX bx0) (kn : ShX sh0 → BxX bx0 → Option Res) (ke : Nat → ShX sh0 → BxX bx0 → Option Res) (kr : ShX shR0 → BxX bxR0 → Option Res) : codeK E0 D (loopX E0 D tab 8) (nthLoop (codeOf Try.f56) 0) (inj 26 sh0 bx0 x y) (roundK sh0 bx0 ord0 shR0 bxR0 ordR0 kn ke kr) = g0 (fun c z => req c z) kn ke kr x y := by kernel_rfl
theorem told0 : Nonempty (Told E0 D tab Try.f56.ntmps (nthLoop (codeOf Try.f56) 0) 26 sh0 bx0 ord0 shR0 bxR0 (loopF' [0, 1] (rounds (fun rq kn ke kr x y => g0 rq kn ke kr x y) (false, ()) ()) fu0)) :=
  told_of (sh := sh0) (bx := bx0) (ord := ord0) (shR := shR0) (bxR := bxR0) ordR0 8 (by kernel_rfl) (by kernel_rfl) (by kernel_rfl) [0, 1] fu0 (false, ()) () (fun rq kn ke kr x y => g0 rq kn ke kr x y) (fun rq kn ke kr x y => g0 rq kn ke kr x y) (round0) (by
    intro φ kn1 kn2 ke1 ke2 kr1 kr2 h1 h2 h3 x y
    simp only [g0]
    with_reducible repeat (first | (apply J.lt; intro _) | apply J.rq | apply J.bif | exact h1 _ _ | exact h2 _ (by decide) _ _ | exact h3 (by decide) _ _))
theorem tabOK : TabOK E0 D tab Try.f56.ntmps (codeOf Try.f56) := tabOK_of (bs := [nthLoop (codeOf Try.f56) 0]) (by kernel_rfl) (allTold_cons (typedAt (by kernel_rfl) (told0)) allTold_nil)
theorem ok : fnOK Try.f56 = true := by kernel_rfl
abbrev aS : List AS := [.one (.val (.sl tApi_Event)), .one (.val (.sl tApi_Event))]
abbrev bS : List Ty := []
def F (x : ASs aS) (y : Bs bS) : Brn Res := brn (r x.1 x.2.1)
theorem good (x : ASs aS) (y : Bs bS) (h : (F x y).res.1 = true) : Good Try.prog 56 (ASs.mk aS x) (Bs.mk bS y) (F x y).res.2 :=
  good_run hE0 (Dof_sound _) Try.func56 ok tabOK brn_res (run x.1 x.2.1) (rel x.1 x.2.1) h
noncomputable def ent : Ent Try.prog := ⟨56, shF aS bS F, shF_good good⟩
end Sacristyref27_SameEvents

/-! sacristy/sacristylaw28.HistoryChecks -/
namespace Sacristylaw28_HistoryChecks
abbrev X : Type := Bool
def res (x : Bool) : Res := ⟨[.val ⟨.bool, x⟩], [], []⟩
def brn (w : Bool × X) : Brn Res := .one w.1 (res w.2)
theorem brn_res (w : Bool × X) : (brn w).res = (w.1, res w.2) := rfl
def g {Z : Type} (rq : Bool → Z → Z) (rt : X → Z) (l : (List Api_Event)) (key : ByteArray) : Z :=
  lt (Sacristyref28_Few.r l 20) fun w20 =>
  rq w20.1 <|
  lt ((!w20.2)) fun (v21 : Bool) =>
  bif v21 then
    lt Sacristylaw28_awake.r fun w179 =>
    rq w179.1 <|
    rt w179.2
  else
    lt ((key.size : Int)) fun (v180 : Int) =>
    lt ((ilt 40 v180)) fun (v181 : Bool) =>
    bif v181 then
      lt Sacristylaw28_awake.r fun w182 =>
      rq w182.1 <|
      rt w182.2
    else
      lt (History_Check.r l) fun w183 =>
      rq w183.1 <|
      lt ((w183.2 == 0)) fun (v184 : Bool) =>
      lt (Sacristyref28_May.r l) fun w223 =>
      rq w223.1 <|
      lt ((v184 == w223.2)) fun (v224 : Bool) =>
      bif v224 then
        lt ((w183.2 == 0)) fun (v225 : Bool) =>
        bif v225 then
          lt (History_Keys.r l) fun w226 =>
          rq w226.1 <|
          lt (Sacristyref28_Keys.r l) fun w274 =>
          rq w274.1 <|
          lt (Sacristyref22_Same.r w226.2 w274.2) fun w275 =>
          rq w275.1 <|
          bif w275.2 then
            lt (History_Of.r l key) fun w276 =>
            rq w276.1 <|
            lt (Sacristyref28_Of.r l key) fun w333 =>
            rq w333.1 <|
            lt (Sacristyref27_SameEvents.r w276.2 w333.2) fun w346 =>
            rq w346.1 <|
            bif w346.2 then
              lt Sacristylaw28_awake.r fun w347 =>
              rq w347.1 <|
              rt w347.2
            else
              rt false
          else
            rt false
        else
          lt ((w183.2 == 1)) fun (v348 : Bool) =>
          bif v348 then
            lt (History_Keys.r l) fun w349 =>
            rq w349.1 <|
            lt (Sacristyref28_Keys.r l) fun w350 =>
            rq w350.1 <|
            lt (Sacristyref22_Same.r w349.2 w350.2) fun w351 =>
            rq w351.1 <|
            bif w351.2 then
              lt (History_Of.r l key) fun w352 =>
              rq w352.1 <|
              lt (Sacristyref28_Of.r l key) fun w353 =>
              rq w353.1 <|
              lt (Sacristyref27_SameEvents.r w352.2 w353.2) fun w354 =>
              rq w354.1 <|
              bif w354.2 then
                lt Sacristylaw28_awake.r fun w355 =>
                rq w355.1 <|
                rt w355.2
              else
                rt false
            else
              rt false
          else
            rt false
      else
        rt false

def r (l : (List Api_Event)) (key : ByteArray) : Bool × X := g chk (fun x => (true, x)) l key
noncomputable def D : CallD := Dof (P := Try.prog) [Sacristyref28_Few.ent, Sacristylaw28_awake.ent, History_Check.ent, Sacristyref28_May.ent, History_Keys.ent, Sacristyref28_Keys.ent, Sacristyref22_Same.ent, History_Of.ent, Sacristyref28_Of.ent, Sacristyref27_SameEvents.ent]
noncomputable def tab : List (Nat × LE Res) := []
set_option maxRecDepth 100000 in
theorem run (l : (List Api_Event)) (key : ByteArray) : enterK E0 [true] D (loopX E0 D tab 9) Try.f11 (codeOf Try.f11) [.val ⟨.sl tApi_Event, l⟩, .val ⟨.str, key⟩] [] = g (fun c z => req c z) (fun x => some (res x)) l key := by kernel_rfl
theorem rel (l : (List Api_Event)) (key : ByteArray) : J (fun w z => z = some (res w)) (g chk (fun x => (true, x)) l key) (g (fun c z => req c z) (fun x => some (res x)) l key) := by
  unfold g
  with_reducible repeat (first | (apply J.lt; intro _) | apply J.rq | apply J.bif | exact J.rt rfl)
theorem ok : fnOK Try.f11 = true := by kernel_rfl
abbrev aS : List AS := [.one (.val (.sl tApi_Event)), .one (.val .str)]
abbrev bS : List Ty := []
def F (x : ASs aS) (y : Bs bS) : Brn Res := brn (r x.1 x.2.1)
theorem good (x : ASs aS) (y : Bs bS) (h : (F x y).res.1 = true) : Good Try.prog 11 (ASs.mk aS x) (Bs.mk bS y) (F x y).res.2 :=
  good_run hE0 (Dof_sound _) Try.func11 ok tabOK_nil brn_res (run x.1 x.2.1) (rel x.1 x.2.1) h
noncomputable def ent : Ent Try.prog := ⟨11, shF aS bS F, shF_good good⟩
end Sacristylaw28_HistoryChecks

/-! sacristy/sacristylaw28.HistoryOrders -/
namespace Sacristylaw28_HistoryOrders
abbrev X : Type := Bool
def res (x : Bool) : Res := ⟨[.val ⟨.bool, x⟩], [], []⟩
def brn (w : Bool × X) : Brn Res := .one w.1 (res w.2)
theorem brn_res (w : Bool × X) : (brn w).res = (w.1, res w.2) := rfl
def g {Z : Type} (rq : Bool → Z → Z) (rt : X → Z) (a : Api_Event) (b : Api_Event) : Z :=
  lt (Sacristyref28_Few.r [a, b] 2) fun w356 =>
  rq w356.1 <|
  lt ((!w356.2)) fun (v357 : Bool) =>
  bif v357 then
    lt Sacristylaw28_awake.r fun w358 =>
    rq w358.1 <|
    rt w358.2
  else
    lt (History_Before.r a b) fun w359 =>
    rq w359.1 <|
    lt (Sacristyref28_Before.r a b) fun w360 =>
    rq w360.1 <|
    lt ((w359.2 == w360.2)) fun (v361 : Bool) =>
    bif v361 then
      lt (History_Must.r a) fun w362 =>
      rq w362.1 <|
      lt (Sacristyref28_Must.r a) fun w363 =>
      rq w363.1 <|
      lt ((w362.2 == w363.2)) fun (v364 : Bool) =>
      bif v364 then
        lt Sacristylaw28_awake.r fun w365 =>
        rq w365.1 <|
        rt w365.2
      else
        rt false
    else
      rt false

def r (a : Api_Event) (b : Api_Event) : Bool × X := g chk (fun x => (true, x)) a b
noncomputable def D : CallD := Dof (P := Try.prog) [Sacristyref28_Few.ent, Sacristylaw28_awake.ent, History_Before.ent, Sacristyref28_Before.ent, History_Must.ent, Sacristyref28_Must.ent]
noncomputable def tab : List (Nat × LE Res) := []
set_option maxRecDepth 100000 in
theorem run (a : Api_Event) (b : Api_Event) : enterK E0 [true] D (loopX E0 D tab 9) Try.f12 (codeOf Try.f12) [.val ⟨tApi_Event, a⟩, .val ⟨tApi_Event, b⟩] [] = g (fun c z => req c z) (fun x => some (res x)) a b := by kernel_rfl
theorem rel (a : Api_Event) (b : Api_Event) : J (fun w z => z = some (res w)) (g chk (fun x => (true, x)) a b) (g (fun c z => req c z) (fun x => some (res x)) a b) := by
  unfold g
  with_reducible repeat (first | (apply J.lt; intro _) | apply J.rq | apply J.bif | exact J.rt rfl)
theorem ok : fnOK Try.f12 = true := by kernel_rfl
abbrev aS : List AS := [.one (.val tApi_Event), .one (.val tApi_Event)]
abbrev bS : List Ty := []
def F (x : ASs aS) (y : Bs bS) : Brn Res := brn (r x.1 x.2.1)
theorem good (x : ASs aS) (y : Bs bS) (h : (F x y).res.1 = true) : Good Try.prog 12 (ASs.mk aS x) (Bs.mk bS y) (F x y).res.2 :=
  good_run hE0 (Dof_sound _) Try.func12 ok tabOK_nil brn_res (run x.1 x.2.1) (rel x.1 x.2.1) h
noncomputable def ent : Ent Try.prog := ⟨12, shF aS bS F, shF_good good⟩
end Sacristylaw28_HistoryOrders
end Go.Own
