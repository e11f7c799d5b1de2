/- What functions compute, printed by wip/gen/gen2.py. -/
import Derived.Test.YtipheoipbjakfaaG0
set_option linter.unusedVariables false
set_option linter.unusedSimpArgs false
namespace Go.Own
open Go.Proofs Go.Proofs.Ytipheoipbjakfaa

/-! sacristy/sacristyref28.Few -/
namespace Sacristyref28_Few
abbrev X : Type := Bool
def res (x : Bool) : Res := ⟨[.val ⟨.bool, x⟩], [], []⟩
def brn (w : Bool × X) : Brn Res := .one w.1 (res w.2)
theorem brn_res (w : Bool × X) : (brn w).res = (w.1, res w.2) := rfl
abbrev sh0 : List (Nat × Sh) := [(0, .p (.sl tApi_Event)), (1, .p (.int .i64)), (4, .p .bool), (5, .p (.int .i64))]
abbrev bx0 : List (Nat × Ty) := []
abbrev ord0 : List (Nat × Ty) := []
abbrev shR0 : List (Nat × Sh) := [(4, .p .bool)]
abbrev bxR0 : List (Nat × Ty) := []
abbrev ordR0 : List (Nat × Ty) := []
abbrev X0 : Type := (List Api_Event) × Int × Bool × Int × Unit
abbrev Y0 : Type := Unit
abbrev U0 : Type := Bool × Unit
abbrev V0 : Type := Unit
def g0 {Z : Type} (rq : Bool → Z → Z) (kn : X0 → Y0 → Z) (ke : Nat → X0 → Y0 → Z) (kr : U0 → V0 → Z) (x : X0) (y : Y0) : Z :=
  lt ((x.1.length : Int)) fun (v4 : Int) =>
  lt ((ilt x.2.2.2.1 v4)) fun (v5 : Bool) =>
  bif v5 then
    lt ((ilt x.2.2.2.1 x.2.1)) fun (v6 : Bool) =>
    bif v6 then
      lt ((x.1.getD x.2.2.2.1.toNat zApi_Event)) fun (v7 : Api_Event) =>
      rq (ile (0 : Int) x.2.2.2.1 && ilt x.2.2.2.1 (x.1.length : Int)) <|
      lt ((v7.2.2.1.size : Int)) fun (v8 : Int) =>
      lt ((ilt 40 v8)) fun (v9 : Bool) =>
      bif v9 then
        kr (false, ()) ()
      else
        lt ((x.1.getD x.2.2.2.1.toNat zApi_Event)) fun (v10 : Api_Event) =>
        rq (ile (0 : Int) x.2.2.2.1 && ilt x.2.2.2.1 (x.1.length : Int)) <|
        lt ((v10.2.2.2.1.size : Int)) fun (v11 : Int) =>
        lt ((ilt 40 v11)) fun (v12 : Bool) =>
        bif v12 then
          kr (false, ()) ()
        else
          lt ((x.1.getD x.2.2.2.1.toNat zApi_Event)) fun (v13 : Api_Event) =>
          rq (ile (0 : Int) x.2.2.2.1 && ilt x.2.2.2.1 (x.1.length : Int)) <|
          lt ((v13.2.2.2.2.2.2.1.2.2.1.size : Int)) fun (v14 : Int) =>
          lt ((ilt 40 v14)) fun (v15 : Bool) =>
          bif v15 then
            kr (false, ()) ()
          else
            lt (IntKind.i64.wrap (x.2.2.2.1 + 1)) fun (v16 : Int) =>
            kn (x.1, x.2.1, x.2.2.1, v16, ()) ()
    else
      ke 0 (x.1, x.2.1, x.2.2.1, x.2.2.2.1, ()) ()
  else
    ke 0 (x.1, x.2.1, x.2.2.1, x.2.2.2.1, ()) ()

def fu0 (x : X0) (y : Y0) : Nat := ((x.1.length : Int) - x.2.2.2.1).toNat + 1
def l0 (x : X0) (y : Y0) : Bool × Nat × X0 × Y0 × U0 × V0 := rounds (fun rq kn ke kr x y => g0 rq kn ke kr x y) (false, ()) () (fu0 x y) x y
def g {Z : Type} (rq : Bool → Z → Z) (rt : X → Z) (l : (List Api_Event)) (most : Int) : Z :=
  lt (Sacristyref28_Few.l0 (l, most, false, 0, ()) ()) fun w17 =>
  rq w17.1 <|
  bif Nat.beq w17.2.1 0 then
    rt w17.2.2.2.2.1.1
  else
    lt ((w17.2.2.1.1.length : Int)) fun (v18 : Int) =>
    lt ((ile v18 w17.2.2.1.2.1)) fun (v19 : Bool) =>
    rt v19

def r (l : (List Api_Event)) (most : Int) : Bool × X := g chk (fun x => (true, x)) l most
noncomputable def D : CallD := Dof (P := Try.prog) []
noncomputable def tab : List (Nat × LE Res) := [(3, .typed (loopT 47 sh0 bx0 ord0 shR0 bxR0 (loopF' [0, 1] (rounds (fun rq kn ke kr x y => g0 rq kn ke kr x y) (false, ()) ()) fu0)))]
set_option maxRecDepth 100000 in
theorem run (l : (List Api_Event)) (most : Int) : enterK E0 [true] D (loopX E0 D tab 9) Try.f49 (codeOf Try.f49) [.val ⟨.sl tApi_Event, l⟩, .val ⟨.int .i64, most⟩] [] = g (fun c z => req c z) (fun x => some (res x)) l most := by kernel_rfl
theorem rel (l : (List Api_Event)) (most : Int) : J (fun w z => z = some (res w)) (g chk (fun x => (true, x)) l most) (g (fun c z => req c z) (fun x => some (res x)) l most) := by
  unfold g
  with_reducible repeat (first | (apply J.lt; intro _) | apply J.rq | apply J.bif | exact J.rt rfl)
set_option maxRecDepth 100000 in
theorem round0 (x : ShX sh0) (y : BxX bx0) (kn : ShX sh0 → BxX bx0 → Option Res) (ke : Nat → ShX sh0 → BxX bx0 → Option Res) (kr : ShX shR0 → BxX bxR0 → Option Res) : codeK E0 D (loopX E0 D tab 8) (nthLoop (codeOf Try.f49) 0) (inj 47 sh0 bx0 x y) (roundK sh0 bx0 ord0 shR0 bxR0 ordR0 kn ke kr) = g0 (fun c z => req c z) kn ke kr x y := by kernel_rfl
theorem told0 : Nonempty (Told E0 D tab Try.f49.ntmps (nthLoop (codeOf Try.f49) 0) 47 sh0 bx0 ord0 shR0 bxR0 (loopF' [0, 1] (rounds (fun rq kn ke kr x y => g0 rq kn ke kr x y) (false, ()) ()) fu0)) :=
  told_of (sh := sh0) (bx := bx0) (ord := ord0) (shR := shR0) (bxR := bxR0) ordR0 8 (by kernel_rfl) (by kernel_rfl) (by kernel_rfl) [0, 1] fu0 (false, ()) () (fun rq kn ke kr x y => g0 rq kn ke kr x y) (fun rq kn ke kr x y => g0 rq kn ke kr x y) (round0) (by
    intro φ kn1 kn2 ke1 ke2 kr1 kr2 h1 h2 h3 x y
    simp only [g0]
    with_reducible repeat (first | (apply J.lt; intro _) | apply J.rq | apply J.bif | exact h1 _ _ | exact h2 _ (by decide) _ _ | exact h3 (by decide) _ _))
theorem tabOK : TabOK E0 D tab Try.f49.ntmps (codeOf Try.f49) := tabOK_of (bs := [nthLoop (codeOf Try.f49) 0]) (by kernel_rfl) (allTold_cons (typedAt (by kernel_rfl) (told0)) allTold_nil)
theorem ok : fnOK Try.f49 = true := by kernel_rfl
abbrev aS : List AS := [.one (.val (.sl tApi_Event)), .one (.val (.int .i64))]
abbrev bS : List Ty := []
def F (x : ASs aS) (y : Bs bS) : Brn Res := brn (r x.1 x.2.1)
theorem good (x : ASs aS) (y : Bs bS) (h : (F x y).res.1 = true) : Good Try.prog 49 (ASs.mk aS x) (Bs.mk bS y) (F x y).res.2 :=
  good_run hE0 (Dof_sound _) Try.func49 ok tabOK brn_res (run x.1 x.2.1) (rel x.1 x.2.1) h
noncomputable def ent : Ent Try.prog := ⟨49, shF aS bS F, shF_good good⟩
end Sacristyref28_Few

/-! sacristy/history.fine -/
namespace History_fine
abbrev X : Type := Bool
def res (x : Bool) : Res := ⟨[.val ⟨.bool, x⟩], [], []⟩
def brn (w : Bool × X) : Brn Res := .one w.1 (res w.2)
theorem brn_res (w : Bool × X) : (brn w).res = (w.1, res w.2) := rfl
def g {Z : Type} (rq : Bool → Z → Z) (rt : X → Z) (e : Api_Event) : Z :=
  lt ((ile 1 e.2.1)) fun (v28 : Bool) =>
  bif v28 then
    lt ((ile e.2.1 3)) fun (v29 : Bool) =>
    bif v29 then
      lt ((ile 1 e.2.2.2.2.1)) fun (v30 : Bool) =>
      bif v30 then
        lt ((e.2.2.2.2.2.1 == 0)) fun (v31 : Bool) =>
        bif v31 then
          rt true
        else
          lt ((ile e.2.2.2.2.1 e.2.2.2.2.2.1)) fun (v32 : Bool) =>
          rt v32
      else
        rt false
    else
      rt false
  else
    rt false

def r (e : Api_Event) : Bool × X := g chk (fun x => (true, x)) e
noncomputable def D : CallD := Dof (P := Try.prog) []
noncomputable def tab : List (Nat × LE Res) := []
set_option maxRecDepth 100000 in
theorem run (e : Api_Event) : enterK E0 [true] D (loopX E0 D tab 9) Try.f93 (codeOf Try.f93) [.val ⟨tApi_Event, e⟩] [] = g (fun c z => req c z) (fun x => some (res x)) e := by kernel_rfl
theorem rel (e : Api_Event) : J (fun w z => z = some (res w)) (g chk (fun x => (true, x)) e) (g (fun c z => req c z) (fun x => some (res x)) e) := by
  unfold g
  with_reducible repeat (first | (apply J.lt; intro _) | apply J.rq | apply J.bif | exact J.rt rfl)
theorem ok : fnOK Try.f93 = true := by kernel_rfl
abbrev aS : List AS := [.one (.val tApi_Event)]
abbrev bS : List Ty := []
def F (x : ASs aS) (y : Bs bS) : Brn Res := brn (r x.1)
theorem good (x : ASs aS) (y : Bs bS) (h : (F x y).res.1 = true) : Good Try.prog 93 (ASs.mk aS x) (Bs.mk bS y) (F x y).res.2 :=
  good_run hE0 (Dof_sound _) Try.func93 ok tabOK_nil brn_res (run x.1) (rel x.1) h
noncomputable def ent : Ent Try.prog := ⟨93, shF aS bS F, shF_good good⟩
end History_fine

/-! sacristy/history.Before -/
namespace History_Before
abbrev X : Type := Bool
def res (x : Bool) : Res := ⟨[.val ⟨.bool, x⟩], [], []⟩
def brn (w : Bool × X) : Brn Res := .one w.1 (res w.2)
theorem brn_res (w : Bool × X) : (brn w).res = (w.1, res w.2) := rfl
def g {Z : Type} (rq : Bool → Z → Z) (rt : X → Z) (a : Api_Event) (b : Api_Event) : Z :=
  lt ((a.2.2.2.2.2.1 != 0)) fun (v39 : Bool) =>
  bif v39 then
    lt ((ilt a.2.2.2.2.2.1 b.2.2.2.2.1)) fun (v40 : Bool) =>
    rt v40
  else
    rt false

def r (a : Api_Event) (b : Api_Event) : Bool × X := g chk (fun x => (true, x)) a b
noncomputable def D : CallD := Dof (P := Try.prog) []
noncomputable def tab : List (Nat × LE Res) := []
set_option maxRecDepth 100000 in
theorem run (a : Api_Event) (b : Api_Event) : enterK E0 [true] D (loopX E0 D tab 9) Try.f59 (codeOf Try.f59) [.val ⟨tApi_Event, a⟩, .val ⟨tApi_Event, b⟩] [] = g (fun c z => req c z) (fun x => some (res x)) a b := by kernel_rfl
theorem rel (a : Api_Event) (b : Api_Event) : J (fun w z => z = some (res w)) (g chk (fun x => (true, x)) a b) (g (fun c z => req c z) (fun x => some (res x)) a b) := by
  unfold g
  with_reducible repeat (first | (apply J.lt; intro _) | apply J.rq | apply J.bif | exact J.rt rfl)
theorem ok : fnOK Try.f59 = true := by kernel_rfl
abbrev aS : List AS := [.one (.val tApi_Event), .one (.val tApi_Event)]
abbrev bS : List Ty := []
def F (x : ASs aS) (y : Bs bS) : Brn Res := brn (r x.1 x.2.1)
theorem good (x : ASs aS) (y : Bs bS) (h : (F x y).res.1 = true) : Good Try.prog 59 (ASs.mk aS x) (Bs.mk bS y) (F x y).res.2 :=
  good_run hE0 (Dof_sound _) Try.func59 ok tabOK_nil brn_res (run x.1 x.2.1) (rel x.1 x.2.1) h
noncomputable def ent : Ent Try.prog := ⟨59, shF aS bS F, shF_good good⟩
end History_Before

/-! sacristy/history.Check -/
namespace History_Check
abbrev X : Type := Int
def res (x : Int) : Res := ⟨[.val ⟨.int .i64, x⟩], [], []⟩
def brn (w : Bool × X) : Brn Res := .one w.1 (res w.2)
theorem brn_res (w : Bool × X) : (brn w).res = (w.1, res w.2) := rfl
abbrev sh0 : List (Nat × Sh) := [(0, .p (.sl tApi_Event)), (2, .p (.int .i64)), (3, .mp 500000 (.int .i64) tApi_Event), (9, .p (.sl tApi_Event)), (10, .p (.int .i64)), (11, .p (.int .i64))]
abbrev bx0 : List (Nat × Ty) := [(500000, .map (.int .i64) tApi_Event)]
abbrev ord0 : List (Nat × Ty) := [(500000, .map (.int .i64) tApi_Event)]
abbrev shR0 : List (Nat × Sh) := [(2, .p (.int .i64))]
abbrev bxR0 : List (Nat × Ty) := []
abbrev ordR0 : List (Nat × Ty) := []
abbrev X0 : Type := (List Api_Event) × Int × Unit × (List Api_Event) × Int × Int × Unit
abbrev Y0 : Type := (List (Int × Api_Event)) × Unit
abbrev U0 : Type := Int × Unit
abbrev V0 : Type := Unit
def g0 {Z : Type} (rq : Bool → Z → Z) (kn : X0 → Y0 → Z) (ke : Nat → X0 → Y0 → Z) (kr : U0 → V0 → Z) (x : X0) (y : Y0) : Z :=
  lt ((ilt x.2.2.2.2.2.1 x.2.2.2.2.1)) fun (v24 : Bool) =>
  bif v24 then
    lt ((x.2.2.2.1.getD x.2.2.2.2.2.1.toNat zApi_Event)) fun (v25 : Api_Event) =>
    rq (ile (0 : Int) x.2.2.2.2.2.1 && ilt x.2.2.2.2.2.1 (x.2.2.2.1.length : Int)) <|
    lt (mapGet (.int .i64) tApi_Event v25.1 y.1) fun (m26 : Option Api_Event) =>
    lt ((m26.getD zApi_Event)) fun (v27 : Api_Event) =>
    lt (History_fine.r v25) fun w33 =>
    rq w33.1 <|
    lt ((!w33.2)) fun (v34 : Bool) =>
    bif v34 then
      kr (1, ()) ()
    else
      lt ((ilt 0 x.2.2.2.2.2.1)) fun (v35 : Bool) =>
      bif v35 then
        lt (IntKind.i64.wrap (x.2.2.2.2.2.1 - 1)) fun (v36 : Int) =>
        lt ((x.1.getD v36.toNat zApi_Event)) fun (v37 : Api_Event) =>
        rq (ile (0 : Int) v36 && ilt v36 (x.1.length : Int)) <|
        lt ((ile v25.2.2.2.2.1 v37.2.2.2.2.1)) fun (v38 : Bool) =>
        bif v38 then
          kr (1, ()) ()
        else
          bif m26.isSome then
            lt (History_Before.r v27 v25) fun w41 =>
            rq w41.1 <|
            lt ((!w41.2)) fun (v42 : Bool) =>
            bif v42 then
              kr (1, ()) ()
            else
              lt (mapSet (.int .i64) tApi_Event v25.1 v25 y.1) fun (v43 : (List (Int × Api_Event))) =>
              lt (IntKind.i64.wrap (x.2.2.2.2.2.1 + 1)) fun (v44 : Int) =>
              kn (x.1, x.2.1, (), x.2.2.2.1, x.2.2.2.2.1, v44, ()) (v43, ())
          else
            lt (mapSet (.int .i64) tApi_Event v25.1 v25 y.1) fun (v45 : (List (Int × Api_Event))) =>
            lt (IntKind.i64.wrap (x.2.2.2.2.2.1 + 1)) fun (v46 : Int) =>
            kn (x.1, x.2.1, (), x.2.2.2.1, x.2.2.2.2.1, v46, ()) (v45, ())
      else
        bif m26.isSome then
          lt (History_Before.r v27 v25) fun w47 =>
          rq w47.1 <|
          lt ((!w47.2)) fun (v48 : Bool) =>
          bif v48 then
            kr (1, ()) ()
          else
            lt (mapSet (.int .i64) tApi_Event v25.1 v25 y.1) fun (v49 : (List (Int × Api_Event))) =>
            lt (IntKind.i64.wrap (x.2.2.2.2.2.1 + 1)) fun (v50 : Int) =>
            kn (x.1, x.2.1, (), x.2.2.2.1, x.2.2.2.2.1, v50, ()) (v49, ())
        else
          lt (mapSet (.int .i64) tApi_Event v25.1 v25 y.1) fun (v51 : (List (Int × Api_Event))) =>
          lt (IntKind.i64.wrap (x.2.2.2.2.2.1 + 1)) fun (v52 : Int) =>
          kn (x.1, x.2.1, (), x.2.2.2.1, x.2.2.2.2.1, v52, ()) (v51, ())
  else
    ke 0 (x.1, x.2.1, (), x.2.2.2.1, x.2.2.2.2.1, x.2.2.2.2.2.1, ()) (y.1, ())

def fu0 (x : X0) (y : Y0) : Nat := (x.2.2.2.2.1 - x.2.2.2.2.2.1).toNat + 1
def l0 (x : X0) (y : Y0) : Bool × Nat × X0 × Y0 × U0 × V0 := rounds (fun rq kn ke kr x y => g0 rq kn ke kr x y) (0, ()) () (fu0 x y) x y
def g {Z : Type} (rq : Bool → Z → Z) (rt : X → Z) (l : (List Api_Event)) : Z :=
  lt ((l.length : Int)) fun (v22 : Int) =>
  lt (History_Check.l0 (l, 0, (), l, v22, 0, ()) ([], ())) fun w53 =>
  rq w53.1 <|
  bif Nat.beq w53.2.1 0 then
    rt w53.2.2.2.2.1.1
  else
    rt 0

def r (l : (List Api_Event)) : Bool × X := g chk (fun x => (true, x)) l
noncomputable def D : CallD := Dof (P := Try.prog) [History_fine.ent, History_Before.ent]
noncomputable def tab : List (Nat × LE Res) := [(4, .typed (loopT 55 sh0 bx0 ord0 shR0 bxR0 (loopF' [0, 1] (rounds (fun rq kn ke kr x y => g0 rq kn ke kr x y) (0, ()) ()) fu0)))]
set_option maxRecDepth 100000 in
theorem run (l : (List Api_Event)) : enterK E0 [true] D (loopX E0 D tab 9) Try.f51 (codeOf Try.f51) [.val ⟨.sl tApi_Event, l⟩] [] = g (fun c z => req c z) (fun x => some (res x)) l := by kernel_rfl
theorem rel (l : (List Api_Event)) : J (fun w z => z = some (res w)) (g chk (fun x => (true, x)) l) (g (fun c z => req c z) (fun x => some (res x)) l) := by
  unfold g
  with_reducible repeat (first | (apply J.lt; intro _) | apply J.rq | apply J.bif | exact J.rt rfl)
set_option maxRecDepth 100000 in
theorem round0 (x : ShX sh0) (y : BxX bx0) (kn : ShX sh0 → BxX bx0 → Option Res) (ke : Nat → ShX sh0 → BxX bx0 → Option Res) (kr : ShX shR0 → BxX bxR0 → Option Res) : codeK E0 D (loopX E0 D tab 8) (nthLoop (codeOf Try.f51) 0) (inj 55 sh0 bx0 x y) (roundK sh0 bx0 ord0 shR0 bxR0 ordR0 kn ke kr) = g0 (fun c z => req c z) kn ke kr x y := by kernel_rfl
theorem told0 : Nonempty (Told E0 D tab Try.f51.ntmps (nthLoop (codeOf Try.f51) 0) 55 sh0 bx0 ord0 shR0 bxR0 (loopF' [0, 1] (rounds (fun rq kn ke kr x y => g0 rq kn ke kr x y) (0, ()) ()) fu0)) :=
  told_of (sh := sh0) (bx := bx0) (ord := ord0) (shR := shR0) (bxR := bxR0) ordR0 8 (by kernel_rfl) (by kernel_rfl) (by kernel_rfl) [0, 1] fu0 (0, ()) () (fun rq kn ke kr x y => g0 rq kn ke kr x y) (fun rq kn ke kr x y => g0 rq kn ke kr x y) (round0) (by
    intro φ kn1 kn2 ke1 ke2 kr1 kr2 h1 h2 h3 x y
    simp only [g0]
    with_reducible repeat (first | (apply J.lt; intro _) | apply J.rq | apply J.bif | exact h1 _ _ | exact h2 _ (by decide) _ _ | exact h3 (by decide) _ _))
theorem tabOK : TabOK E0 D tab Try.f51.ntmps (codeOf Try.f51) := tabOK_of (bs := [nthLoop (codeOf Try.f51) 0]) (by kernel_rfl) (allTold_cons (typedAt (by kernel_rfl) (told0)) allTold_nil)
theorem ok : fnOK Try.f51 = true := by kernel_rfl
abbrev aS : List AS := [.one (.val (.sl tApi_Event))]
abbrev bS : List Ty := []
def F (x : ASs aS) (y : Bs bS) : Brn Res := brn (r x.1)
theorem good (x : ASs aS) (y : Bs bS) (h : (F x y).res.1 = true) : Good Try.prog 51 (ASs.mk aS x) (Bs.mk bS y) (F x y).res.2 :=
  good_run hE0 (Dof_sound _) Try.func51 ok tabOK brn_res (run x.1) (rel x.1) h
noncomputable def ent : Ent Try.prog := ⟨51, shF aS bS F, shF_good good⟩
end History_Check

/-! sacristy/history.Must -/
namespace History_Must
abbrev X : Type := Bool
def res (x : Bool) : Res := ⟨[.val ⟨.bool, x⟩], [], []⟩
def brn (w : Bool × X) : Brn Res := .one w.1 (res w.2)
theorem brn_res (w : Bool × X) : (brn w).res = (w.1, res w.2) := rfl
def g {Z : Type} (rq : Bool → Z → Z) (rt : X → Z) (e : Api_Event) : Z :=
  lt ((e.2.2.2.2.2.1 != 0)) fun (v61 : Bool) =>
  bif v61 then
    lt ((e.2.2.2.2.2.2.1.2.1 == 0)) fun (v62 : Bool) =>
    rt v62
  else
    rt false

def r (e : Api_Event) : Bool × X := g chk (fun x => (true, x)) e
noncomputable def D : CallD := Dof (P := Try.prog) []
noncomputable def tab : List (Nat × LE Res) := []
set_option maxRecDepth 100000 in
theorem run (e : Api_Event) : enterK E0 [true] D (loopX E0 D tab 9) Try.f61 (codeOf Try.f61) [.val ⟨tApi_Event, e⟩] [] = g (fun c z => req c z) (fun x => some (res x)) e := by kernel_rfl
theorem rel (e : Api_Event) : J (fun w z => z = some (res w)) (g chk (fun x => (true, x)) e) (g (fun c z => req c z) (fun x => some (res x)) e) := by
  unfold g
  with_reducible repeat (first | (apply J.lt; intro _) | apply J.rq | apply J.bif | exact J.rt rfl)
theorem ok : fnOK Try.f61 = true := by kernel_rfl
abbrev aS : List AS := [.one (.val tApi_Event)]
abbrev bS : List Ty := []
def F (x : ASs aS) (y : Bs bS) : Brn Res := brn (r x.1)
theorem good (x : ASs aS) (y : Bs bS) (h : (F x y).res.1 = true) : Good Try.prog 61 (ASs.mk aS x) (Bs.mk bS y) (F x y).res.2 :=
  good_run hE0 (Dof_sound _) Try.func61 ok tabOK_nil brn_res (run x.1) (rel x.1) h
noncomputable def ent : Ent Try.prog := ⟨61, shF aS bS F, shF_good good⟩
end History_Must

/-! slices.Clone[[]sacristy/api.Event,sacristy/api.Event] -/
namespace Slices_Clone_api_Event_api_Event
abbrev X : Type := (Bool × List Api_Event)
def res (x : (Bool × List Api_Event)) : Res := ⟨[.va 1000000 tApi_Event], [], [⟨.dyn tApi_Event, x⟩]⟩
def brn (w : Bool × X) : Brn Res := .one w.1 (res w.2)
theorem brn_res (w : Bool × X) : (brn w).res = (w.1, res w.2) := rfl
def g {Z : Type} (rq : Bool → Z → Z) (rt : X → Z) (s : (List Api_Event)) : Z :=
  rq (!s.isEmpty) <|
  rq (nle ((2 * (0 + s.length) + 512) * 120) 70368744177664) <|
  rt (false, s)

def r (s : (List Api_Event)) : Bool × X := g chk (fun x => (true, x)) s
noncomputable def D : CallD := Dof (P := Try.prog) []
noncomputable def tab : List (Nat × LE Res) := []
set_option maxRecDepth 100000 in
theorem run (s : (List Api_Event)) : enterK E0 [false] D (loopX E0 D tab 9) Try.f97 (codeOf Try.f97) [.val ⟨.sl tApi_Event, s⟩] [] = g (fun c z => req c z) (fun x => some (res x)) s := by kernel_rfl
theorem rel (s : (List Api_Event)) : J (fun w z => z = some (res w)) (g chk (fun x => (true, x)) s) (g (fun c z => req c z) (fun x => some (res x)) s) := by
  unfold g
  with_reducible repeat (first | (apply J.lt; intro _) | apply J.rq | apply J.bif | exact J.rt rfl)
theorem ok : fnOK Try.f97 = true := by kernel_rfl
abbrev aS : List AS := [.one (.val (.sl tApi_Event))]
abbrev bS : List Ty := []
def F (x : ASs aS) (y : Bs bS) : Brn Res := brn (r x.1)
theorem good (x : ASs aS) (y : Bs bS) (h : (F x y).res.1 = true) : Good Try.prog 97 (ASs.mk aS x) (Bs.mk bS y) (F x y).res.2 :=
  good_run hE0 (Dof_sound _) Try.func97 ok tabOK_nil brn_res (run x.1) (rel x.1) h
noncomputable def ent : Ent Try.prog := ⟨97, shF aS bS F, shF_good good⟩
theorem eqNil (ad : Option Addr) (cap : Nat) (w : World) : (Go.binOp .eql 61 (.slice ad 0 cap) (.slice none 0 0)).run Try.prog w = .ok (.bool ad.isNone) w := by cases ad <;> kernel_rfl
set_option maxRecDepth 100000 in
theorem empty (ad : Option Addr) (cap : Nat) (w : World) : Calls Try.prog 97 #[.slice ad 0 cap] w fun e w2 => (∃ ad2 cap2, e = .returned (.slice ad2 0 cap2)) ∧ Grew w w2 := by
  cases ad with
  | none =>
    go_enter Try.func97, Try.ntmps97
    go_wp2
    rw [eqNil]
    go_wp2
    go_ret
    exact ⟨⟨_, _, rfl⟩, Grew.refl _⟩
  | some ad =>
    go_enter Try.func97, Try.ntmps97
    go_wp2
    rw [eqNil]
    go_wp2
    go_ret
    exact ⟨⟨_, _, rfl⟩, Grew.alloc _ _⟩
noncomputable def cent : Ent Try.prog := ⟨97, shF [.one (.val (.sl tApi_Event))] [] (cloneF tApi_Event F), shF_good (cloneF_good (cloneEmpty_good Try.func97 (by kernel_rfl) (by kernel_rfl) (by decide) empty) good)⟩
end Slices_Clone_api_Event_api_Event

/-! sacristy/history.Of$1 -/
namespace History_Of_1
abbrev X : Type := Bool × ByteArray
def res (x : Bool × ByteArray) : Res := ⟨[.val ⟨.bool, x.1⟩], [some ⟨.str, x.2⟩], []⟩
def brn (w : Bool × X) : Brn Res := .one w.1 (res w.2)
theorem brn_res (w : Bool × X) : (brn w).res = (w.1, res w.2) := rfl
def g {Z : Type} (rq : Bool → Z → Z) (rt : X → Z) (e : Api_Event) (b : ByteArray) : Z :=
  lt ((e.2.1 == 3)) fun (v68 : Bool) =>
  bif v68 then
    lt (History_Must.r e) fun w69 =>
    rq w69.1 <|
    lt ((!w69.2)) fun (v70 : Bool) =>
    bif v70 then
      rt (true, b)
    else
      lt ((e.2.2.2.2.2.2.1.2.1 != 0)) fun (v71 : Bool) =>
      bif v71 then
        lt ((e.2.2.2.2.2.2.1.1 == 0)) fun (v72 : Bool) =>
        bif v72 then
          rt (true, b)
        else
          lt ((!(e.2.2.1.toList == b.toList))) fun (v73 : Bool) =>
          rt (v73, b)
      else
        lt ((!(e.2.2.1.toList == b.toList))) fun (v74 : Bool) =>
        rt (v74, b)
  else
    lt ((e.2.2.2.2.2.2.1.2.1 != 0)) fun (v75 : Bool) =>
    bif v75 then
      lt ((e.2.2.2.2.2.2.1.1 == 0)) fun (v76 : Bool) =>
      bif v76 then
        rt (true, b)
      else
        lt ((!(e.2.2.1.toList == b.toList))) fun (v77 : Bool) =>
        rt (v77, b)
    else
      lt ((!(e.2.2.1.toList == b.toList))) fun (v78 : Bool) =>
      rt (v78, b)

def r (e : Api_Event) (b : ByteArray) : Bool × X := g chk (fun x => (true, x)) e b
noncomputable def D : CallD := Dof (P := Try.prog) [History_Must.ent]
noncomputable def tab : List (Nat × LE Res) := []
set_option maxRecDepth 100000 in
theorem run (e : Api_Event) (b : ByteArray) : enterK E0 [true] D (loopX E0 D tab 9) Try.f98 (codeOf Try.f98) [.val ⟨tApi_Event, e⟩, .pb 1000000 .str []] [⟨.str, b⟩] = g (fun c z => req c z) (fun x => some (res x)) e b := by kernel_rfl
theorem rel (e : Api_Event) (b : ByteArray) : J (fun w z => z = some (res w)) (g chk (fun x => (true, x)) e b) (g (fun c z => req c z) (fun x => some (res x)) e b) := by
  unfold g
  with_reducible repeat (first | (apply J.lt; intro _) | apply J.rq | apply J.bif | exact J.rt rfl)
theorem ok : fnOK Try.f98 = true := by kernel_rfl
abbrev aS : List AS := [.one (.val tApi_Event), .one (.pb 1000000 .str [])]
abbrev bS : List Ty := [.str]
def F (x : ASs aS) (y : Bs bS) : Brn Res := brn (r x.1 y.1)
theorem good (x : ASs aS) (y : Bs bS) (h : (F x y).res.1 = true) : Good Try.prog 98 (ASs.mk aS x) (Bs.mk bS y) (F x y).res.2 :=
  good_run hE0 (Dof_sound _) Try.func98 ok tabOK_nil brn_res (run x.1 y.1) (rel x.1 y.1) h
noncomputable def ent : Ent Try.prog := ⟨98, shF aS bS F, shF_good good⟩
end History_Of_1

/-! slices.IndexFunc[[]sacristy/api.Event,sacristy/api.Event] -/
namespace Slices_IndexFunc_api_Event_api_Event
abbrev X : Type := Int × ByteArray
def res (x : Int × ByteArray) : Res := ⟨[.val ⟨.int .i64, x.1⟩], [some ⟨.str, x.2⟩], []⟩
def brn (w : Bool × X) : Brn Res := .one w.1 (res w.2)
theorem brn_res (w : Bool × X) : (brn w).res = (w.1, res w.2) := rfl
abbrev sh0 : List (Nat × Sh) := [(0, .p (.sl tApi_Event)), (1, .clo 98 [(1000000, .str)]), (4, .p (.int .i64)), (7, .p (.int .i64)), (8, .p (.int .i64))]
abbrev bx0 : List (Nat × Ty) := [(1000000, .str)]
abbrev ord0 : List (Nat × Ty) := [(1000000, .str)]
abbrev shR0 : List (Nat × Sh) := [(4, .p (.int .i64))]
abbrev bxR0 : List (Nat × Ty) := [(1000000, .str)]
abbrev ordR0 : List (Nat × Ty) := [(1000000, .str)]
abbrev X0 : Type := (List Api_Event) × Unit × Int × Int × Int × Unit
abbrev Y0 : Type := ByteArray × Unit
abbrev U0 : Type := Int × Unit
abbrev V0 : Type := ByteArray × Unit
def g0 {Z : Type} (rq : Bool → Z → Z) (kn : X0 → Y0 → Z) (ke : Nat → X0 → Y0 → Z) (kr : U0 → V0 → Z) (x : X0) (y : Y0) : Z :=
  lt ((ilt x.2.2.2.2.1 x.2.2.2.1)) fun (v66 : Bool) =>
  bif v66 then
    lt ((x.1.getD x.2.2.2.2.1.toNat zApi_Event)) fun (v67 : Api_Event) =>
    rq (ile (0 : Int) x.2.2.2.2.1 && ilt x.2.2.2.2.1 (x.1.length : Int)) <|
    lt (History_Of_1.r v67 y.1) fun w79 =>
    rq w79.1 <|
    bif w79.2.1 then
      kr (x.2.2.2.2.1, ()) (w79.2.2, ())
    else
      lt (IntKind.i64.wrap (x.2.2.2.2.1 + 1)) fun (v80 : Int) =>
      kn (x.1, (), x.2.2.1, x.2.2.2.1, v80, ()) (w79.2.2, ())
  else
    ke 0 (x.1, (), x.2.2.1, x.2.2.2.1, x.2.2.2.2.1, ()) (y.1, ())

def fu0 (x : X0) (y : Y0) : Nat := (x.2.2.2.1 - x.2.2.2.2.1).toNat + 1
def l0 (x : X0) (y : Y0) : Bool × Nat × X0 × Y0 × U0 × V0 := rounds (fun rq kn ke kr x y => g0 rq kn ke kr x y) (0, ()) ((⟨#[]⟩ : ByteArray), ()) (fu0 x y) x y
def g {Z : Type} (rq : Bool → Z → Z) (rt : X → Z) (s : (List Api_Event)) (b : ByteArray) : Z :=
  lt ((s.length : Int)) fun (v64 : Int) =>
  lt (Slices_IndexFunc_api_Event_api_Event.l0 (s, (), 0, v64, 0, ()) (b, ())) fun w81 =>
  rq w81.1 <|
  bif Nat.beq w81.2.1 0 then
    rt (w81.2.2.2.2.1.1, w81.2.2.2.2.2.1)
  else
    rt ((-1), w81.2.2.2.1.1)

def r (s : (List Api_Event)) (b : ByteArray) : Bool × X := g chk (fun x => (true, x)) s b
noncomputable def D : CallD := Dof (P := Try.prog) [History_Of_1.ent]
noncomputable def tab : List (Nat × LE Res) := [(3, .typed (loopT 19 sh0 bx0 ord0 shR0 bxR0 (loopF' [0, 1] (rounds (fun rq kn ke kr x y => g0 rq kn ke kr x y) (0, ()) ((⟨#[]⟩ : ByteArray), ())) fu0)))]
set_option maxRecDepth 100000 in
theorem run (s : (List Api_Event)) (b : ByteArray) : enterK E0 [true] D (loopX E0 D tab 9) Try.f113 (codeOf Try.f113) [.val ⟨.sl tApi_Event, s⟩, .clo 98 [.pb 1000000 .str []]] [⟨.str, b⟩] = g (fun c z => req c z) (fun x => some (res x)) s b := by kernel_rfl
theorem rel (s : (List Api_Event)) (b : ByteArray) : J (fun w z => z = some (res w)) (g chk (fun x => (true, x)) s b) (g (fun c z => req c z) (fun x => some (res x)) s b) := by
  unfold g
  with_reducible repeat (first | (apply J.lt; intro _) | apply J.rq | apply J.bif | exact J.rt rfl)
set_option maxRecDepth 100000 in
theorem round0 (x : ShX sh0) (y : BxX bx0) (kn : ShX sh0 → BxX bx0 → Option Res) (ke : Nat → ShX sh0 → BxX bx0 → Option Res) (kr : ShX shR0 → BxX bxR0 → Option Res) : codeK E0 D (loopX E0 D tab 8) (nthLoop (codeOf Try.f113) 0) (inj 19 sh0 bx0 x y) (roundK sh0 bx0 ord0 shR0 bxR0 ordR0 kn ke kr) = g0 (fun c z => req c z) kn ke kr x y := by kernel_rfl
theorem told0 : Nonempty (Told E0 D tab Try.f113.ntmps (nthLoop (codeOf Try.f113) 0) 19 sh0 bx0 ord0 shR0 bxR0 (loopF' [0, 1] (rounds (fun rq kn ke kr x y => g0 rq kn ke kr x y) (0, ()) ((⟨#[]⟩ : ByteArray), ())) fu0)) :=
  told_of (sh := sh0) (bx := bx0) (ord := ord0) (shR := shR0) (bxR := bxR0) ordR0 8 (by kernel_rfl) (by kernel_rfl) (by kernel_rfl) [0, 1] fu0 (0, ()) ((⟨#[]⟩ : ByteArray), ()) (fun rq kn ke kr x y => g0 rq kn ke kr x y) (fun rq kn ke kr x y => g0 rq kn ke kr x y) (round0) (by
    intro φ kn1 kn2 ke1 ke2 kr1 kr2 h1 h2 h3 x y
    simp only [g0]
    with_reducible repeat (first | (apply J.lt; intro _) | apply J.rq | apply J.bif | exact h1 _ _ | exact h2 _ (by decide) _ _ | exact h3 (by decide) _ _))
theorem tabOK : TabOK E0 D tab Try.f113.ntmps (codeOf Try.f113) := tabOK_of (bs := [nthLoop (codeOf Try.f113) 0]) (by kernel_rfl) (allTold_cons (typedAt (by kernel_rfl) (told0)) allTold_nil)
theorem ok : fnOK Try.f113 = true := by kernel_rfl
abbrev aS : List AS := [.one (.val (.sl tApi_Event)), .clo 98 [.pb 1000000 .str []]]
abbrev bS : List Ty := [.str]
def F (x : ASs aS) (y : Bs bS) : Brn Res := brn (r x.1 y.1)
theorem good (x : ASs aS) (y : Bs bS) (h : (F x y).res.1 = true) : Good Try.prog 113 (ASs.mk aS x) (Bs.mk bS y) (F x y).res.2 :=
  good_run hE0 (Dof_sound _) Try.func113 ok tabOK brn_res (run x.1 y.1) (rel x.1 y.1) h
noncomputable def ent : Ent Try.prog := ⟨113, shF aS bS F, shF_good good⟩
end Slices_IndexFunc_api_Event_api_Event

/-! slices.DeleteFunc[[]sacristy/api.Event,sacristy/api.Event] -/
namespace Slices_DeleteFunc_api_Event_api_Event
abbrev X : Type := (List Api_Event) × ByteArray
def res (x : (List Api_Event) × ByteArray) : Res := ⟨[.val ⟨.sl tApi_Event, x.1⟩], [some ⟨.str, x.2⟩], []⟩
def brn (w : Bool × X) : Brn Res := .one w.1 (res w.2)
theorem brn_res (w : Bool × X) : (brn w).res = (w.1, res w.2) := rfl
abbrev sh0 : List (Nat × Sh) := [(0, .p (.sl tApi_Event)), (1, .clo 98 [(1000000, .str)]), (4, .nil), (5, .p (.int .i64)), (6, .p (.int .i64))]
abbrev bx0 : List (Nat × Ty) := [(1000000, .str)]
abbrev ord0 : List (Nat × Ty) := [(1000000, .str)]
abbrev shR0 : List (Nat × Sh) := []
abbrev bxR0 : List (Nat × Ty) := []
abbrev ordR0 : List (Nat × Ty) := []
abbrev X0 : Type := (List Api_Event) × Unit × Unit × Int × Int × Unit
abbrev Y0 : Type := ByteArray × Unit
abbrev U0 : Type := Unit
abbrev V0 : Type := Unit
def g0 {Z : Type} (rq : Bool → Z → Z) (kn : X0 → Y0 → Z) (ke : Nat → X0 → Y0 → Z) (kr : U0 → V0 → Z) (x : X0) (y : Y0) : Z :=
  lt ((x.1.length : Int)) fun (v87 : Int) =>
  lt ((ilt x.2.2.2.2.1 v87)) fun (v88 : Bool) =>
  bif v88 then
    lt ((x.1.getD x.2.2.2.2.1.toNat zApi_Event)) fun (v89 : Api_Event) =>
    rq (ile (0 : Int) x.2.2.2.2.1 && ilt x.2.2.2.2.1 (x.1.length : Int)) <|
    lt (History_Of_1.r v89 y.1) fun w90 =>
    rq w90.1 <|
    lt ((!w90.2.1)) fun (v91 : Bool) =>
    bif v91 then
      lt ((x.1.getD x.2.2.2.1.toNat zApi_Event)) fun (v92 : Api_Event) =>
      rq (ile (0 : Int) x.2.2.2.1 && ilt x.2.2.2.1 (x.1.length : Int)) <|
      rq false <| kn x y
    else
      lt (IntKind.i64.wrap (x.2.2.2.2.1 + 1)) fun (v93 : Int) =>
      kn (x.1, (), (), x.2.2.2.1, v93, ()) (w90.2.2, ())
  else
    ke 0 (x.1, (), (), x.2.2.2.1, x.2.2.2.2.1, ()) (y.1, ())

def fu0 (x : X0) (y : Y0) : Nat := ((x.1.length : Int) - x.2.2.2.2.1).toNat + 1
def l0 (x : X0) (y : Y0) : Bool × Nat × X0 × Y0 × U0 × V0 := rounds (fun rq kn ke kr x y => g0 rq kn ke kr x y) () () (fu0 x y) x y
def g {Z : Type} (rq : Bool → Z → Z) (rt : X → Z) (s : (List Api_Event)) (b : ByteArray) : Z :=
  lt (Slices_IndexFunc_api_Event_api_Event.r s b) fun w82 =>
  rq w82.1 <|
  lt ((w82.2.1 == (-1))) fun (v83 : Bool) =>
  bif v83 then
    rt (s, w82.2.2)
  else
    lt (IntKind.i64.wrap (w82.2.1 + 1)) fun (v84 : Int) =>
    lt (Slices_DeleteFunc_api_Event_api_Event.l0 (s, (), (), w82.2.1, v84, ()) (w82.2.2, ())) fun w94 =>
    rq w94.1 <|
    lt (((w94.2.2.1.1.drop w94.2.2.1.2.2.2.1.toNat).take ((w94.2.2.1.1.length : Int).toNat - w94.2.2.1.2.2.2.1.toNat))) fun (v95 : (List Api_Event)) =>
    rq ((ile (0 : Int) w94.2.2.1.2.2.2.1 && ile w94.2.2.1.2.2.2.1 (w94.2.2.1.1.length : Int)) && ile (w94.2.2.1.1.length : Int) (w94.2.2.1.1.length : Int)) <|
    rq false <| rt ([], (⟨#[]⟩ : ByteArray))

def r (s : (List Api_Event)) (b : ByteArray) : Bool × X := g chk (fun x => (true, x)) s b
noncomputable def D : CallD := Dof (P := Try.prog) [Slices_IndexFunc_api_Event_api_Event.ent, History_Of_1.ent]
noncomputable def tab : List (Nat × LE Res) := [(6, .typed (loopT 42 sh0 bx0 ord0 shR0 bxR0 (loopF' [1] (rounds (fun rq kn ke kr x y => g0 rq kn ke kr x y) () ()) fu0)))]
set_option maxRecDepth 100000 in
theorem run (s : (List Api_Event)) (b : ByteArray) : enterK E0 [false] D (loopX E0 D tab 9) Try.f96 (codeOf Try.f96) [.val ⟨.sl tApi_Event, s⟩, .clo 98 [.pb 1000000 .str []]] [⟨.str, b⟩] = g (fun c z => req c z) (fun x => some (res x)) s b := by kernel_rfl
theorem rel (s : (List Api_Event)) (b : ByteArray) : J (fun w z => z = some (res w)) (g chk (fun x => (true, x)) s b) (g (fun c z => req c z) (fun x => some (res x)) s b) := by
  unfold g
  with_reducible repeat (first | (apply J.lt; intro _) | apply J.rq | apply J.bif | exact J.rt rfl)
set_option maxRecDepth 100000 in
theorem round0 (x : ShX sh0) (y : BxX bx0) (kn : ShX sh0 → BxX bx0 → Option Res) (ke : Nat → ShX sh0 → BxX bx0 → Option Res) (kr : ShX shR0 → BxX bxR0 → Option Res) : codeK E0 D (loopX E0 D tab 8) (nthLoop (codeOf Try.f96) 0) (inj 42 sh0 bx0 x y) (roundK sh0 bx0 ord0 shR0 bxR0 ordR0 kn ke kr) = g0 (fun c z => req c z) kn ke kr x y := by kernel_rfl
theorem told0 : Nonempty (Told E0 D tab Try.f96.ntmps (nthLoop (codeOf Try.f96) 0) 42 sh0 bx0 ord0 shR0 bxR0 (loopF' [1] (rounds (fun rq kn ke kr x y => g0 rq kn ke kr x y) () ()) fu0)) :=
  told_of (sh := sh0) (bx := bx0) (ord := ord0) (shR := shR0) (bxR := bxR0) ordR0 8 (by kernel_rfl) (by kernel_rfl) (by kernel_rfl) [1] fu0 () () (fun rq kn ke kr x y => g0 rq kn ke kr x y) (fun rq kn ke kr x y => g0 rq kn ke kr x y) (round0) (by
    intro φ kn1 kn2 ke1 ke2 kr1 kr2 h1 h2 h3 x y
    simp only [g0]
    with_reducible repeat (first | (apply J.lt; intro _) | apply J.rq | apply J.bif | exact h1 _ _ | exact h2 _ (by decide) _ _ | exact h3 (by decide) _ _))
theorem tabOK : TabOK E0 D tab Try.f96.ntmps (codeOf Try.f96) := tabOK_of (bs := [nthLoop (codeOf Try.f96) 0]) (by kernel_rfl) (allTold_cons (typedAt (by kernel_rfl) (told0)) allTold_nil)
theorem ok : fnOK Try.f96 = true := by kernel_rfl
abbrev aS : List AS := [.one (.val (.sl tApi_Event)), .clo 98 [.pb 1000000 .str []]]
abbrev bS : List Ty := [.str]
def F (x : ASs aS) (y : Bs bS) : Brn Res := brn (r x.1 y.1)
theorem good (x : ASs aS) (y : Bs bS) (h : (F x y).res.1 = true) : Good Try.prog 96 (ASs.mk aS x) (Bs.mk bS y) (F x y).res.2 :=
  good_run hE0 (Dof_sound _) Try.func96 ok tabOK brn_res (run x.1 y.1) (rel x.1 y.1) h
noncomputable def ent : Ent Try.prog := ⟨96, shF aS bS F, shF_good good⟩
end Slices_DeleteFunc_api_Event_api_Event

/-! slices.DeleteFunc[[]sacristy/api.Event,sacristy/api.Event] -/
namespace Slices_DeleteFunc_api_Event_api_Event_v1
abbrev X : Type := Nat × ((Bool × List Api_Event) × ByteArray) × (Nat × (Bool × List Api_Event) × ByteArray)
def res0 (x : (Bool × List Api_Event) × ByteArray) : Res := ⟨[.va 1000000 tApi_Event], [some ⟨.dyn tApi_Event, x.1⟩, some ⟨.str, x.2⟩], []⟩
def res1 (x : Nat × (Bool × List Api_Event) × ByteArray) : Res := ⟨[.vs 1000000 tApi_Event [] 0 x.1], [some ⟨.dyn tApi_Event, x.2.1⟩, some ⟨.str, x.2.2⟩], []⟩
def res (x : X) : Res := bif Nat.beq x.1 0 then res0 x.2.1 else (res1 x.2.2)
def brn (w : Bool × X) : Brn Res := .ite (Nat.beq w.2.1 0) (.one w.1 (res0 w.2.2.1)) (.one w.1 (res1 w.2.2.2))
theorem brn_res (w : Bool × X) : (brn w).res = (w.1, res w.2) := by
  cases h0 : Nat.beq w.2.1 0 with
  | true => simp only [brn, res, Brn.res, h0, cond_true, cond_false]
  | false =>
    simp only [brn, res, Brn.res, h0, cond_true, cond_false]
abbrev sh0 : List (Nat × Sh) := [(0, .va 1000000 tApi_Event), (1, .clo 98 [(1000001, .str)]), (4, .nil), (5, .p (.int .i64)), (6, .p (.int .i64))]
abbrev bx0 : List (Nat × Ty) := [(1000000, .dyn tApi_Event), (1000001, .str)]
abbrev ord0 : List (Nat × Ty) := [(1000000, .dyn tApi_Event), (1000001, .str)]
abbrev shR0 : List (Nat × Sh) := []
abbrev bxR0 : List (Nat × Ty) := []
abbrev ordR0 : List (Nat × Ty) := []
abbrev X0 : Type := Unit × Unit × Unit × Int × Int × Unit
abbrev Y0 : Type := (Bool × List Api_Event) × ByteArray × Unit
abbrev U0 : Type := Unit
abbrev V0 : Type := Unit
def g0 {Z : Type} (rq : Bool → Z → Z) (kn : X0 → Y0 → Z) (ke : Nat → X0 → Y0 → Z) (kr : U0 → V0 → Z) (x : X0) (y : Y0) : Z :=
  lt ((y.1.2.length : Int)) fun (v103 : Int) =>
  lt ((ilt x.2.2.2.2.1 v103)) fun (v104 : Bool) =>
  bif v104 then
    rq (ile (0 : Int) x.2.2.2.2.1 && ilt x.2.2.2.2.1 (y.1.2.length : Int)) <|
    lt ((y.1.2.getD x.2.2.2.2.1.toNat zApi_Event)) fun (v105 : Api_Event) =>
    lt (History_Of_1.r v105 y.2.1) fun w106 =>
    rq w106.1 <|
    lt ((!w106.2.1)) fun (v107 : Bool) =>
    bif v107 then
      rq (ile (0 : Int) x.2.2.2.1 && ilt x.2.2.2.1 (y.1.2.length : Int)) <|
      lt ((y.1.2.set x.2.2.2.1.toNat v105)) fun (v108 : (List Api_Event)) =>
      lt (IntKind.i64.wrap (x.2.2.2.1 + 1)) fun (v109 : Int) =>
      lt (IntKind.i64.wrap (x.2.2.2.2.1 + 1)) fun (v110 : Int) =>
      kn ((), (), (), v109, v110, ()) ((y.1.1, v108), w106.2.2, ())
    else
      lt (IntKind.i64.wrap (x.2.2.2.2.1 + 1)) fun (v111 : Int) =>
      kn ((), (), (), x.2.2.2.1, v111, ()) (y.1, w106.2.2, ())
  else
    ke 0 ((), (), (), x.2.2.2.1, x.2.2.2.2.1, ()) (y.1, y.2.1, ())

def fu0 (x : X0) (y : Y0) : Nat := ((y.1.2.length : Int) - x.2.2.2.2.1).toNat + 1
def l0 (x : X0) (y : Y0) : Bool × Nat × X0 × Y0 × U0 × V0 := rounds (fun rq kn ke kr x y => g0 rq kn ke kr x y) () () (fu0 x y) x y
def g {Z : Type} (rq : Bool → Z → Z) (rt : X → Z) (b : (Bool × List Api_Event)) (bx : ByteArray) : Z :=
  lt (Slices_IndexFunc_api_Event_api_Event.r b.2 bx) fun w98 =>
  rq w98.1 <|
  lt ((w98.2.1 == (-1))) fun (v99 : Bool) =>
  bif v99 then
    rt (0, (b, w98.2.2), (0, (true, []), (⟨#[]⟩ : ByteArray)))
  else
    lt (IntKind.i64.wrap (w98.2.1 + 1)) fun (v100 : Int) =>
    lt (Slices_DeleteFunc_api_Event_api_Event_v1.l0 ((), (), (), w98.2.1, v100, ()) (b, w98.2.2, ())) fun w112 =>
    rq w112.1 <|
    lt (((w112.2.2.2.1.1.2.length : Int).toNat - w112.2.2.1.2.2.2.1.toNat)) fun (n113 : Nat) =>
    rq ((ile (0 : Int) w112.2.2.1.2.2.2.1 && ile w112.2.2.1.2.2.2.1 (w112.2.2.2.1.1.2.length : Int)) && ile (w112.2.2.2.1.1.2.length : Int) (w112.2.2.2.1.1.2.length : Int)) <|
    lt (over w112.2.2.2.1.1.2 w112.2.2.1.2.2.2.1.toNat (List.replicate n113 zApi_Event)) fun (v114 : (List Api_Event)) =>
    rq (ile (0 : Int) w112.2.2.1.2.2.2.1 && ile w112.2.2.1.2.2.2.1 (v114.length : Int)) <|
    rt (1, ((true, []), (⟨#[]⟩ : ByteArray)), (w112.2.2.1.2.2.2.1.toNat, (w112.2.2.2.1.1.1, v114), w112.2.2.2.1.2.1))

def r (b : (Bool × List Api_Event)) (bx : ByteArray) : Bool × X := g chk (fun x => (true, x)) b bx
noncomputable def D : CallD := Dof (P := Try.prog) [Slices_IndexFunc_api_Event_api_Event.ent, History_Of_1.ent]
noncomputable def tab : List (Nat × LE Res) := [(6, .typed (loopT 42 sh0 bx0 ord0 shR0 bxR0 (loopF' [1] (rounds (fun rq kn ke kr x y => g0 rq kn ke kr x y) () ()) fu0)))]
set_option maxRecDepth 100000 in
theorem run (b : (Bool × List Api_Event)) (bx : ByteArray) : enterK E0 [false] D (loopX E0 D tab 9) Try.f96 (codeOf Try.f96) [.va 1000000 tApi_Event, .clo 98 [.pb 1000001 .str []]] [⟨.dyn tApi_Event, b⟩, ⟨.str, bx⟩] = g (fun c z => req c z) (fun x => some (res x)) b bx := by kernel_rfl
theorem rel (b : (Bool × List Api_Event)) (bx : ByteArray) : J (fun w z => z = some (res w)) (g chk (fun x => (true, x)) b bx) (g (fun c z => req c z) (fun x => some (res x)) b bx) := by
  unfold g
  with_reducible repeat (first | (apply J.lt; intro _) | apply J.rq | apply J.bif | exact J.rt rfl)
set_option maxRecDepth 100000 in
theorem round0 (x : ShX sh0) (y : BxX bx0) (kn : ShX sh0 → BxX bx0 → Option Res) (ke : Nat → ShX sh0 → BxX bx0 → Option Res) (kr : ShX shR0 → BxX bxR0 → Option Res) : codeK E0 D (loopX E0 D tab 8) (nthLoop (codeOf Try.f96) 0) (inj 42 sh0 bx0 x y) (roundK sh0 bx0 ord0 shR0 bxR0 ordR0 kn ke kr) = g0 (fun c z => req c z) kn ke kr x y := by kernel_rfl
theorem told0 : Nonempty (Told E0 D tab Try.f96.ntmps (nthLoop (codeOf Try.f96) 0) 42 sh0 bx0 ord0 shR0 bxR0 (loopF' [1] (rounds (fun rq kn ke kr x y => g0 rq kn ke kr x y) () ()) fu0)) :=
  told_of (sh := sh0) (bx := bx0) (ord := ord0) (shR := shR0) (bxR := bxR0) ordR0 8 (by kernel_rfl) (by kernel_rfl) (by kernel_rfl) [1] fu0 () () (fun rq kn ke kr x y => g0 rq kn ke kr x y) (fun rq kn ke kr x y => g0 rq kn ke kr x y) (round0) (by
    intro φ kn1 kn2 ke1 ke2 kr1 kr2 h1 h2 h3 x y
    simp only [g0]
    with_reducible repeat (first | (apply J.lt; intro _) | apply J.rq | apply J.bif | exact h1 _ _ | exact h2 _ (by decide) _ _ | exact h3 (by decide) _ _))
theorem tabOK : TabOK E0 D tab Try.f96.ntmps (codeOf Try.f96) := tabOK_of (bs := [nthLoop (codeOf Try.f96) 0]) (by kernel_rfl) (allTold_cons (typedAt (by kernel_rfl) (told0)) allTold_nil)
theorem ok : fnOK Try.f96 = true := by kernel_rfl
abbrev aS : List AS := [.one (.va 1000000 tApi_Event), .clo 98 [.pb 1000001 .str []]]
abbrev bS : List Ty := [.dyn tApi_Event, .str]
def F (x : ASs aS) (y : Bs bS) : Brn Res := brn (r y.1 y.2.1)
theorem good (x : ASs aS) (y : Bs bS) (h : (F x y).res.1 = true) : Good Try.prog 96 (ASs.mk aS x) (Bs.mk bS y) (F x y).res.2 :=
  good_run hE0 (Dof_sound _) Try.func96 ok tabOK brn_res (run y.1 y.2.1) (rel y.1 y.2.1) h
noncomputable def ent : Ent Try.prog := ⟨96, shF aS bS F, shF_good good⟩
end Slices_DeleteFunc_api_Event_api_Event_v1

/-! sacristy/history.Of -/
namespace History_Of
abbrev X : Type := (List Api_Event)
def res (x : (List Api_Event)) : Res := ⟨[.val ⟨.sl tApi_Event, x⟩], [], []⟩
def brn (w : Bool × X) : Brn Res := .one w.1 (res w.2)
theorem brn_res (w : Bool × X) : (brn w).res = (w.1, res w.2) := rfl
def g {Z : Type} (rq : Bool → Z → Z) (rt : X → Z) (l : (List Api_Event)) (key : ByteArray) : Z :=
  bif l.isEmpty then
    lt (Slices_DeleteFunc_api_Event_api_Event.r [] key) fun w96 =>
    rq w96.1 <|
    rt w96.2.1
  else
    lt (Slices_Clone_api_Event_api_Event.r l) fun w97 =>
    rq w97.1 <|
    lt (Slices_DeleteFunc_api_Event_api_Event_v1.r w97.2 key) fun w115 =>
    bif Nat.beq w115.2.1 0 then
      rq w115.1 <|
      rt w115.2.2.1.1.2
    else
      rq w115.1 <|
      rt (w115.2.2.2.2.1.2.take w115.2.2.2.1)

def r (l : (List Api_Event)) (key : ByteArray) : Bool × X := g chk (fun x => (true, x)) l key
noncomputable def D : CallD := Dof (P := Try.prog) [Slices_Clone_api_Event_api_Event.cent, orEnt Slices_DeleteFunc_api_Event_api_Event.ent (Slices_DeleteFunc_api_Event_api_Event_v1.ent) rfl]
noncomputable def tab : List (Nat × LE Res) := []
set_option maxRecDepth 100000 in
theorem run (l : (List Api_Event)) (key : ByteArray) : enterK E0 [true] D (loopX E0 D tab 9) Try.f57 (codeOf Try.f57) [.val ⟨.sl tApi_Event, l⟩, .val ⟨.str, key⟩] [] = g (fun c z => req c z) (fun x => some (res x)) l key := by kernel_rfl
theorem rel (l : (List Api_Event)) (key : ByteArray) : J (fun w z => z = some (res w)) (g chk (fun x => (true, x)) l key) (g (fun c z => req c z) (fun x => some (res x)) l key) := by
  unfold g
  with_reducible repeat (first | (apply J.lt; intro _) | apply J.rq | apply J.bif | exact J.rt rfl)
theorem ok : fnOK Try.f57 = true := by kernel_rfl
abbrev aS : List AS := [.one (.val (.sl tApi_Event)), .one (.val .str)]
abbrev bS : List Ty := []
def F (x : ASs aS) (y : Bs bS) : Brn Res := brn (r x.1 x.2.1)
theorem good (x : ASs aS) (y : Bs bS) (h : (F x y).res.1 = true) : Good Try.prog 57 (ASs.mk aS x) (Bs.mk bS y) (F x y).res.2 :=
  good_run hE0 (Dof_sound _) Try.func57 ok tabOK_nil brn_res (run x.1 x.2.1) (rel x.1 x.2.1) h
noncomputable def ent : Ent Try.prog := ⟨57, shF aS bS F, shF_good good⟩
end History_Of

/-! slices.Compact[[]string,string] -/
namespace Slices_Compact_string_string
abbrev X : Type := (List ByteArray)
def res (x : (List ByteArray)) : Res := ⟨[.val ⟨.sl .str, x⟩], [none], []⟩
def brn (w : Bool × X) : Brn Res := .one w.1 (res w.2)
theorem brn_res (w : Bool × X) : (brn w).res = (w.1, res w.2) := rfl
abbrev sh1 : List (Nat × Sh) := [(0, .va 1000000 .str), (2, .nil), (3, .p (.int .i64)), (4, .vs 1000000 .str []), (5, .p (.int .i64))]
abbrev bx1 : List (Nat × Ty) := [(1000000, .dyn .str)]
abbrev ord1 : List (Nat × Ty) := [(1000000, .dyn .str)]
abbrev shR1 : List (Nat × Sh) := []
abbrev bxR1 : List (Nat × Ty) := []
abbrev ordR1 : List (Nat × Ty) := []
abbrev X1 : Type := Unit × Unit × Int × (Nat × Nat) × Int × Unit
abbrev Y1 : Type := (Bool × List ByteArray) × Unit
abbrev U1 : Type := Unit
abbrev V1 : Type := Unit
def g1 {Z : Type} (rq : Bool → Z → Z) (kn : X1 → Y1 → Z) (ke : Nat → X1 → Y1 → Z) (kr : U1 → V1 → Z) (x : X1) (y : Y1) : Z :=
  lt (((x.2.2.2.1.2 : Nat) : Int)) fun (v145 : Int) =>
  lt ((ilt x.2.2.2.2.1 v145)) fun (v146 : Bool) =>
  bif v146 then
    lt ((x.2.2.2.1.1 + x.2.2.2.2.1.toNat)) fun (n147 : Nat) =>
    rq (ile (0 : Int) x.2.2.2.2.1 && ilt x.2.2.2.2.1 ((x.2.2.2.1.2 : Nat) : Int)) <|
    lt ((y.1.2.getD n147 (⟨#[]⟩ : ByteArray))) fun (v148 : ByteArray) =>
    lt (IntKind.i64.wrap (x.2.2.2.2.1 - 1)) fun (v149 : Int) =>
    lt ((x.2.2.2.1.1 + v149.toNat)) fun (n150 : Nat) =>
    rq (ile (0 : Int) v149 && ilt v149 ((x.2.2.2.1.2 : Nat) : Int)) <|
    lt ((y.1.2.getD n150 (⟨#[]⟩ : ByteArray))) fun (v151 : ByteArray) =>
    lt ((!(v148.toList == v151.toList))) fun (v152 : Bool) =>
    bif v152 then
      lt ((x.2.2.2.1.1 + x.2.2.2.2.1.toNat)) fun (n153 : Nat) =>
      rq (ile (0 : Int) x.2.2.2.2.1 && ilt x.2.2.2.2.1 ((x.2.2.2.1.2 : Nat) : Int)) <|
      lt ((y.1.2.getD n153 (⟨#[]⟩ : ByteArray))) fun (v154 : ByteArray) =>
      rq (ile (0 : Int) x.2.2.1 && ilt x.2.2.1 (y.1.2.length : Int)) <|
      lt ((y.1.2.set x.2.2.1.toNat v154)) fun (v155 : (List ByteArray)) =>
      lt (IntKind.i64.wrap (x.2.2.1 + 1)) fun (v156 : Int) =>
      lt (IntKind.i64.wrap (x.2.2.2.2.1 + 1)) fun (v157 : Int) =>
      kn ((), (), v156, (x.2.2.2.1.1, x.2.2.2.1.2), v157, ()) ((y.1.1, v155), ())
    else
      lt (IntKind.i64.wrap (x.2.2.2.2.1 + 1)) fun (v158 : Int) =>
      kn ((), (), x.2.2.1, (x.2.2.2.1.1, x.2.2.2.1.2), v158, ()) (y.1, ())
  else
    ke 2 ((), (), x.2.2.1, (x.2.2.2.1.1, x.2.2.2.1.2), x.2.2.2.2.1, ()) (y.1, ())

def fu1 (x : X1) (y : Y1) : Nat := (((x.2.2.2.1.2 : Nat) : Int) - x.2.2.2.2.1).toNat + 1
def l1 (x : X1) (y : Y1) : Bool × Nat × X1 × Y1 × U1 × V1 := rounds (fun rq kn ke kr x y => g1 rq kn ke kr x y) () () (fu1 x y) x y
abbrev sh0 : List (Nat × Sh) := [(0, .va 1000000 .str), (2, .nil), (3, .p (.int .i64))]
abbrev bx0 : List (Nat × Ty) := [(1000000, .dyn .str)]
abbrev ord0 : List (Nat × Ty) := [(1000000, .dyn .str)]
abbrev shR0 : List (Nat × Sh) := [(2, .vs 1000000 .str [])]
abbrev bxR0 : List (Nat × Ty) := [(1000000, .dyn .str)]
abbrev ordR0 : List (Nat × Ty) := [(1000000, .dyn .str)]
abbrev X0 : Type := Unit × Unit × Int × Unit
abbrev Y0 : Type := (Bool × List ByteArray) × Unit
abbrev U0 : Type := (Nat × Nat) × Unit
abbrev V0 : Type := (Bool × List ByteArray) × Unit
def g0 {Z : Type} (rq : Bool → Z → Z) (kn : X0 → Y0 → Z) (ke : Nat → X0 → Y0 → Z) (kr : U0 → V0 → Z) (x : X0) (y : Y0) : Z :=
  lt ((y.1.2.length : Int)) fun (v136 : Int) =>
  lt ((ilt x.2.2.1 v136)) fun (v137 : Bool) =>
  bif v137 then
    rq (ile (0 : Int) x.2.2.1 && ilt x.2.2.1 (y.1.2.length : Int)) <|
    lt ((y.1.2.getD x.2.2.1.toNat (⟨#[]⟩ : ByteArray))) fun (v138 : ByteArray) =>
    lt (IntKind.i64.wrap (x.2.2.1 - 1)) fun (v139 : Int) =>
    rq (ile (0 : Int) v139 && ilt v139 (y.1.2.length : Int)) <|
    lt ((y.1.2.getD v139.toNat (⟨#[]⟩ : ByteArray))) fun (v140 : ByteArray) =>
    lt ((v138.toList == v140.toList)) fun (v141 : Bool) =>
    bif v141 then
      lt (((y.1.2.length : Int).toNat - x.2.2.1.toNat)) fun (n142 : Nat) =>
      rq ((ile (0 : Int) x.2.2.1 && ile x.2.2.1 (y.1.2.length : Int)) && ile (y.1.2.length : Int) (y.1.2.length : Int)) <|
      lt (Slices_Compact_string_string.l1 ((), (), x.2.2.1, (x.2.2.1.toNat, n142), 1, ()) (y.1, ())) fun w159 =>
      rq w159.1 <|
      lt (((w159.2.2.2.1.1.2.length : Int).toNat - w159.2.2.1.2.2.1.toNat)) fun (n160 : Nat) =>
      rq ((ile (0 : Int) w159.2.2.1.2.2.1 && ile w159.2.2.1.2.2.1 (w159.2.2.2.1.1.2.length : Int)) && ile (w159.2.2.2.1.1.2.length : Int) (w159.2.2.2.1.1.2.length : Int)) <|
      lt (over w159.2.2.2.1.1.2 w159.2.2.1.2.2.1.toNat (List.replicate n160 (⟨#[]⟩ : ByteArray))) fun (v161 : (List ByteArray)) =>
      rq (ile (0 : Int) w159.2.2.1.2.2.1 && ile w159.2.2.1.2.2.1 (v161.length : Int)) <|
      kr ((0, w159.2.2.1.2.2.1.toNat), ()) ((w159.2.2.2.1.1.1, v161), ())
    else
      lt (IntKind.i64.wrap (x.2.2.1 + 1)) fun (v162 : Int) =>
      kn ((), (), v162, ()) (y.1, ())
  else
    ke 0 ((), (), x.2.2.1, ()) (y.1, ())

def fu0 (x : X0) (y : Y0) : Nat := ((y.1.2.length : Int) - x.2.2.1).toNat + 1
def l0 (x : X0) (y : Y0) : Bool × Nat × X0 × Y0 × U0 × V0 := rounds (fun rq kn ke kr x y => g0 rq kn ke kr x y) ((0, 0), ()) ((true, []), ()) (fu0 x y) x y
def g {Z : Type} (rq : Bool → Z → Z) (rt : X → Z) (b : (Bool × List ByteArray)) : Z :=
  lt ((b.2.length : Int)) fun (v132 : Int) =>
  lt ((ilt v132 2)) fun (v133 : Bool) =>
  bif v133 then
    rt b.2
  else
    lt (Slices_Compact_string_string.l0 ((), (), 1, ()) (b, ())) fun w163 =>
    rq w163.1 <|
    bif Nat.beq w163.2.1 0 then
      rt ((w163.2.2.2.2.2.1.2.drop w163.2.2.2.2.1.1.1).take w163.2.2.2.2.1.1.2)
    else
      rt w163.2.2.2.1.1.2

def r (b : (Bool × List ByteArray)) : Bool × X := g chk (fun x => (true, x)) b
noncomputable def D : CallD := Dof (P := Try.prog) []
noncomputable def tab : List (Nat × LE Res) := [(10, .typed (loopT 61 sh1 bx1 ord1 shR1 bxR1 (loopF' [3] (rounds (fun rq kn ke kr x y => g1 rq kn ke kr x y) () ()) fu1))), (5, .typed (loopT 61 sh0 bx0 ord0 shR0 bxR0 (loopF' [0, 1] (rounds (fun rq kn ke kr x y => g0 rq kn ke kr x y) ((0, 0), ()) ((true, []), ())) fu0)))]
set_option maxRecDepth 100000 in
theorem run (b : (Bool × List ByteArray)) : enterK E0 [true] D (loopX E0 D tab 9) Try.f95 (codeOf Try.f95) [.va 1000000 .str] [⟨.dyn .str, b⟩] = g (fun c z => req c z) (fun x => some (res x)) b := by kernel_rfl
theorem rel (b : (Bool × List ByteArray)) : J (fun w z => z = some (res w)) (g chk (fun x => (true, x)) b) (g (fun c z => req c z) (fun x => some (res x)) b) := by
  unfold g
  with_reducible repeat (first | (apply J.lt; intro _) | apply J.rq | apply J.bif | exact J.rt rfl)
set_option maxRecDepth 100000 in
theorem round1 (x : ShX sh1) (y : BxX bx1) (kn : ShX sh1 → BxX bx1 → Option Res) (ke : Nat → ShX sh1 → BxX bx1 → Option Res) (kr : ShX shR1 → BxX bxR1 → Option Res) : codeK E0 D (loopX E0 D tab 8) (nthLoop (codeOf Try.f95) 1) (inj 61 sh1 bx1 x y) (roundK sh1 bx1 ord1 shR1 bxR1 ordR1 kn ke kr) = g1 (fun c z => req c z) kn ke kr x y := by kernel_rfl
theorem told1 : Nonempty (Told E0 D tab Try.f95.ntmps (nthLoop (codeOf Try.f95) 1) 61 sh1 bx1 ord1 shR1 bxR1 (loopF' [3] (rounds (fun rq kn ke kr x y => g1 rq kn ke kr x y) () ()) fu1)) :=
  told_of (sh := sh1) (bx := bx1) (ord := ord1) (shR := shR1) (bxR := bxR1) ordR1 8 (by kernel_rfl) (by kernel_rfl) (by kernel_rfl) [3] fu1 () () (fun rq kn ke kr x y => g1 rq kn ke kr x y) (fun rq kn ke kr x y => g1 rq kn ke kr x y) (round1) (by
    intro φ kn1 kn2 ke1 ke2 kr1 kr2 h1 h2 h3 x y
    simp only [g1]
    with_reducible repeat (first | (apply J.lt; intro _) | apply J.rq | apply J.bif | exact h1 _ _ | exact h2 _ (by decide) _ _ | exact h3 (by decide) _ _))
set_option maxRecDepth 100000 in
theorem round0 (x : ShX sh0) (y : BxX bx0) (kn : ShX sh0 → BxX bx0 → Option Res) (ke : Nat → ShX sh0 → BxX bx0 → Option Res) (kr : ShX shR0 → BxX bxR0 → Option Res) : codeK E0 D (loopX E0 D tab 8) (nthLoop (codeOf Try.f95) 0) (inj 61 sh0 bx0 x y) (roundK sh0 bx0 ord0 shR0 bxR0 ordR0 kn ke kr) = g0 (fun c z => req c z) kn ke kr x y := by kernel_rfl
theorem told0 : Nonempty (Told E0 D tab Try.f95.ntmps (nthLoop (codeOf Try.f95) 0) 61 sh0 bx0 ord0 shR0 bxR0 (loopF' [0, 1] (rounds (fun rq kn ke kr x y => g0 rq kn ke kr x y) ((0, 0), ()) ((true, []), ())) fu0)) :=
  told_of (sh := sh0) (bx := bx0) (ord := ord0) (shR := shR0) (bxR := bxR0) ordR0 8 (by kernel_rfl) (by kernel_rfl) (by kernel_rfl) [0, 1] fu0 ((0, 0), ()) ((true, []), ()) (fun rq kn ke kr x y => g0 rq kn ke kr x y) (fun rq kn ke kr x y => g0 rq kn ke kr x y) (round0) (by
    intro φ kn1 kn2 ke1 ke2 kr1 kr2 h1 h2 h3 x y
    simp only [g0]
    with_reducible repeat (first | (apply J.lt; intro _) | apply J.rq | apply J.bif | exact h1 _ _ | exact h2 _ (by decide) _ _ | exact h3 (by decide) _ _))
theorem tabOK : TabOK E0 D tab Try.f95.ntmps (codeOf Try.f95) := tabOK_of (bs := [nthLoop (codeOf Try.f95) 0, nthLoop (codeOf Try.f95) 1]) (by kernel_rfl) (allTold_cons (typedAt (by kernel_rfl) (told0)) (allTold_cons (typedAt (by kernel_rfl) (told1)) allTold_nil))
theorem ok : fnOK Try.f95 = true := by kernel_rfl
abbrev aS : List AS := [.one (.va 1000000 .str)]
abbrev bS : List Ty := [.dyn .str]
def F (x : ASs aS) (y : Bs bS) : Brn Res := brn (r y.1)
theorem good (x : ASs aS) (y : Bs bS) (h : (F x y).res.1 = true) : Good Try.prog 95 (ASs.mk aS x) (Bs.mk bS y) (F x y).res.2 :=
  good_run hE0 (Dof_sound _) Try.func95 ok tabOK brn_res (run y.1) (rel y.1) h
noncomputable def ent : Ent Try.prog := ⟨95, shF aS bS F, shF_good good⟩
end Slices_Compact_string_string

/-! sacristy/history.Keys -/
namespace History_Keys
abbrev X : Type := (List ByteArray)
def res (x : (List ByteArray)) : Res := ⟨[.val ⟨.sl .str, x⟩], [], []⟩
def brn (w : Bool × X) : Brn Res := .one w.1 (res w.2)
theorem brn_res (w : Bool × X) : (brn w).res = (w.1, res w.2) := rfl
abbrev sh0 : List (Nat × Sh) := [(2, .nil), (3, .va 500000 .str), (6, .p (.sl tApi_Event)), (7, .p (.int .i64)), (8, .p (.int .i64))]
abbrev bx0 : List (Nat × Ty) := [(500000, .dyn .str)]
abbrev ord0 : List (Nat × Ty) := [(500000, .dyn .str)]
abbrev shR0 : List (Nat × Sh) := []
abbrev bxR0 : List (Nat × Ty) := []
abbrev ordR0 : List (Nat × Ty) := []
abbrev X0 : Type := Unit × Unit × (List Api_Event) × Int × Int × Unit
abbrev Y0 : Type := (Bool × List ByteArray) × Unit
abbrev U0 : Type := Unit
abbrev V0 : Type := Unit
def g0 {Z : Type} (rq : Bool → Z → Z) (kn : X0 → Y0 → Z) (ke : Nat → X0 → Y0 → Z) (kr : U0 → V0 → Z) (x : X0) (y : Y0) : Z :=
  lt ((ilt x.2.2.2.2.1 x.2.2.2.1)) fun (v125 : Bool) =>
  bif v125 then
    lt ((x.2.2.1.getD x.2.2.2.2.1.toNat zApi_Event)) fun (v126 : Api_Event) =>
    rq (ile (0 : Int) x.2.2.2.2.1 && ilt x.2.2.2.2.1 (x.2.2.1.length : Int)) <|
    lt ((y.1.1 && false)) fun (v127 : Bool) =>
    lt ((y.1.2 ++ [v126.2.2.1])) fun (v128 : (List ByteArray)) =>
    rq (nle ((2 * (y.1.2.length + 1) + 512) * 16) 70368744177664) <|
    lt (IntKind.i64.wrap (x.2.2.2.2.1 + 1)) fun (v129 : Int) =>
    kn ((), (), x.2.2.1, x.2.2.2.1, v129, ()) ((v127, v128), ())
  else
    ke 0 ((), (), x.2.2.1, x.2.2.2.1, x.2.2.2.2.1, ()) (y.1, ())

def fu0 (x : X0) (y : Y0) : Nat := (x.2.2.2.1 - x.2.2.2.2.1).toNat + 1
def l0 (x : X0) (y : Y0) : Bool × Nat × X0 × Y0 × U0 × V0 := rounds (fun rq kn ke kr x y => g0 rq kn ke kr x y) () () (fu0 x y) x y
def g {Z : Type} (rq : Bool → Z → Z) (rt : X → Z) (l : (List Api_Event)) : Z :=
  lt ((l.length : Int)) fun (v124 : Int) =>
  lt (History_Keys.l0 ((), (), l, v124, 0, ()) ((true, []), ())) fun w130 =>
  rq w130.1 <|
  rq (nlt w130.2.2.2.1.1.2.length 4611686018427387904) <|
  lt ((sortS w130.2.2.2.1.1.2)) fun (v131 : (List ByteArray)) =>
  lt (Slices_Compact_string_string.r (w130.2.2.2.1.1.1, v131)) fun w164 =>
  rq w164.1 <|
  rt w164.2

def r (l : (List Api_Event)) : Bool × X := g chk (fun x => (true, x)) l
noncomputable def D : CallD := Dof (P := Try.prog) [ent_Slices_Sort_string_string, Slices_Compact_string_string.ent]
noncomputable def tab : List (Nat × LE Res) := [(4, .typed (loopT 22 sh0 bx0 ord0 shR0 bxR0 (loopF' [1] (rounds (fun rq kn ke kr x y => g0 rq kn ke kr x y) () ()) fu0)))]
set_option maxRecDepth 100000 in
theorem run (l : (List Api_Event)) : enterK E0 [true] D (loopX E0 D tab 9) Try.f54 (codeOf Try.f54) [.val ⟨.sl tApi_Event, l⟩] [] = g (fun c z => req c z) (fun x => some (res x)) l := by kernel_rfl
theorem rel (l : (List Api_Event)) : J (fun w z => z = some (res w)) (g chk (fun x => (true, x)) l) (g (fun c z => req c z) (fun x => some (res x)) l) := by
  unfold g
  with_reducible repeat (first | (apply J.lt; intro _) | apply J.rq | apply J.bif | exact J.rt rfl)
set_option maxRecDepth 100000 in
theorem round0 (x : ShX sh0) (y : BxX bx0) (kn : ShX sh0 → BxX bx0 → Option Res) (ke : Nat → ShX sh0 → BxX bx0 → Option Res) (kr : ShX shR0 → BxX bxR0 → Option Res) : codeK E0 D (loopX E0 D tab 8) (nthLoop (codeOf Try.f54) 0) (inj 22 sh0 bx0 x y) (roundK sh0 bx0 ord0 shR0 bxR0 ordR0 kn ke kr) = g0 (fun c z => req c z) kn ke kr x y := by kernel_rfl
theorem told0 : Nonempty (Told E0 D tab Try.f54.ntmps (nthLoop (codeOf Try.f54) 0) 22 sh0 bx0 ord0 shR0 bxR0 (loopF' [1] (rounds (fun rq kn ke kr x y => g0 rq kn ke kr x y) () ()) fu0)) :=
  told_of (sh := sh0) (bx := bx0) (ord := ord0) (shR := shR0) (bxR := bxR0) ordR0 8 (by kernel_rfl) (by kernel_rfl) (by kernel_rfl) [1] fu0 () () (fun rq kn ke kr x y => g0 rq kn ke kr x y) (fun rq kn ke kr x y => g0 rq kn ke kr x y) (round0) (by
    intro φ kn1 kn2 ke1 ke2 kr1 kr2 h1 h2 h3 x y
    simp only [g0]
    with_reducible repeat (first | (apply J.lt; intro _) | apply J.rq | apply J.bif | exact h1 _ _ | exact h2 _ (by decide) _ _ | exact h3 (by decide) _ _))
theorem tabOK : TabOK E0 D tab Try.f54.ntmps (codeOf Try.f54) := tabOK_of (bs := [nthLoop (codeOf Try.f54) 0]) (by kernel_rfl) (allTold_cons (typedAt (by kernel_rfl) (told0)) allTold_nil)
theorem ok : fnOK Try.f54 = true := by kernel_rfl
abbrev aS : List AS := [.one (.val (.sl tApi_Event))]
abbrev bS : List Ty := []
def F (x : ASs aS) (y : Bs bS) : Brn Res := brn (r x.1)
theorem good (x : ASs aS) (y : Bs bS) (h : (F x y).res.1 = true) : Good Try.prog 54 (ASs.mk aS x) (Bs.mk bS y) (F x y).res.2 :=
  good_run hE0 (Dof_sound _) Try.func54 ok tabOK brn_res (run x.1) (rel x.1) h
noncomputable def ent : Ent Try.prog := ⟨54, shF aS bS F, shF_good good⟩
end History_Keys
end Go.Own
