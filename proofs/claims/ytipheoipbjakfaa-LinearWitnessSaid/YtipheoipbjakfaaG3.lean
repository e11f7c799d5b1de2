/- What functions compute, printed by wip/gen/gen2.py. -/
import Derived.Test.YtipheoipbjakfaaG2
set_option linter.unusedVariables false
set_option linter.unusedSimpArgs false
namespace Go.Own
open Go.Proofs Go.Proofs.Ytipheoipbjakfaa

/-! sacristy/sacristylaw28.HistoryStrict -/
namespace Sacristylaw28_HistoryStrict
abbrev X : Type := Bool
def res (x : Bool) : Res := ⟨[.val ⟨.bool, x⟩], [], []⟩
def brn (w : Bool × X) : Brn Res := .one w.1 (res w.2)
theorem brn_res (w : Bool × X) : (brn w).res = (w.1, res w.2) := rfl
abbrev sh3 : List (Nat × Sh) := [(0, .p (.sl tApi_Event)), (2, .p .bool), (3, .p (.int .i64)), (6, .p (.sl tApi_Event)), (7, .p (.int .i64))]
abbrev bx3 : List (Nat × Ty) := []
abbrev ord3 : List (Nat × Ty) := []
abbrev shR3 : List (Nat × Sh) := [(2, .p .bool)]
abbrev bxR3 : List (Nat × Ty) := []
abbrev ordR3 : List (Nat × Ty) := []
abbrev X3 : Type := (List Api_Event) × Bool × Int × (List Api_Event) × Int × Unit
abbrev Y3 : Type := Unit
abbrev U3 : Type := Bool × Unit
abbrev V3 : Type := Unit
def g3 {Z : Type} (rq : Bool → Z → Z) (kn : X3 → Y3 → Z) (ke : Nat → X3 → Y3 → Z) (kr : U3 → V3 → Z) (x : X3) (y : Y3) : Z :=
  lt (IntKind.i64.wrap (x.2.2.2.2.1 + 1)) fun (v425 : Int) =>
  lt ((x.2.2.2.1.length : Int)) fun (v426 : Int) =>
  lt ((ilt v425 v426)) fun (v427 : Bool) =>
  bif v427 then
    lt ((x.2.2.2.1.getD x.2.2.2.2.1.toNat zApi_Event)) fun (v428 : Api_Event) =>
    rq (ile (0 : Int) x.2.2.2.2.1 && ilt x.2.2.2.2.1 (x.2.2.2.1.length : Int)) <|
    lt (IntKind.i64.wrap (x.2.2.2.2.1 + 1)) fun (v429 : Int) =>
    lt ((x.2.2.2.1.getD v429.toNat zApi_Event)) fun (v430 : Api_Event) =>
    rq (ile (0 : Int) v429 && ilt v429 (x.2.2.2.1.length : Int)) <|
    lt ((ile v430.2.2.2.2.1 v428.2.2.2.2.1)) fun (v431 : Bool) =>
    bif v431 then
      kr (false, ()) ()
    else
      lt (IntKind.i64.wrap (x.2.2.2.2.1 + 1)) fun (v432 : Int) =>
      kn (x.1, x.2.1, x.2.2.1, x.2.2.2.1, v432, ()) ()
  else
    ke 6 (x.1, x.2.1, x.2.2.1, x.2.2.2.1, x.2.2.2.2.1, ()) ()

def fu3 (x : X3) (y : Y3) : Nat := ((x.2.2.2.1.length : Int) - (IntKind.i64.wrap (x.2.2.2.2.1 + 1))).toNat + 1
def l3 (x : X3) (y : Y3) : Bool × Nat × X3 × Y3 × U3 × V3 := rounds (fun rq kn ke kr x y => g3 rq kn ke kr x y) (false, ()) () (fu3 x y) x y
abbrev sh2 : List (Nat × Sh) := [(0, .p (.sl tApi_Event)), (2, .p .bool), (3, .p (.int .i64)), (4, .p (.int .i64)), (5, .p (.int .i64))]
abbrev bx2 : List (Nat × Ty) := []
abbrev ord2 : List (Nat × Ty) := []
abbrev shR2 : List (Nat × Sh) := [(2, .p .bool)]
abbrev bxR2 : List (Nat × Ty) := []
abbrev ordR2 : List (Nat × Ty) := []
abbrev X2 : Type := (List Api_Event) × Bool × Int × Int × Int × Unit
abbrev Y2 : Type := Unit
abbrev U2 : Type := Bool × Unit
abbrev V2 : Type := Unit
def g2 {Z : Type} (rq : Bool → Z → Z) (kn : X2 → Y2 → Z) (ke : Nat → X2 → Y2 → Z) (kr : U2 → V2 → Z) (x : X2) (y : Y2) : Z :=
  lt ((x.1.length : Int)) fun (v396 : Int) =>
  lt ((ilt x.2.2.2.2.1 v396)) fun (v397 : Bool) =>
  bif v397 then
    lt ((x.1.getD x.2.2.1.toNat zApi_Event)) fun (v398 : Api_Event) =>
    rq (ile (0 : Int) x.2.2.1 && ilt x.2.2.1 (x.1.length : Int)) <|
    lt ((x.1.getD x.2.2.2.1.toNat zApi_Event)) fun (v399 : Api_Event) =>
    rq (ile (0 : Int) x.2.2.2.1 && ilt x.2.2.2.1 (x.1.length : Int)) <|
    lt (History_Before.r v398 v399) fun w400 =>
    rq w400.1 <|
    bif w400.2 then
      lt ((x.1.getD x.2.2.2.1.toNat zApi_Event)) fun (v401 : Api_Event) =>
      rq (ile (0 : Int) x.2.2.2.1 && ilt x.2.2.2.1 (x.1.length : Int)) <|
      lt ((x.1.getD x.2.2.2.2.1.toNat zApi_Event)) fun (v402 : Api_Event) =>
      rq (ile (0 : Int) x.2.2.2.2.1 && ilt x.2.2.2.2.1 (x.1.length : Int)) <|
      lt (History_Before.r v401 v402) fun w403 =>
      rq w403.1 <|
      bif w403.2 then
        lt ((x.1.getD x.2.2.1.toNat zApi_Event)) fun (v404 : Api_Event) =>
        rq (ile (0 : Int) x.2.2.1 && ilt x.2.2.1 (x.1.length : Int)) <|
        lt ((x.1.getD x.2.2.2.2.1.toNat zApi_Event)) fun (v405 : Api_Event) =>
        rq (ile (0 : Int) x.2.2.2.2.1 && ilt x.2.2.2.2.1 (x.1.length : Int)) <|
        lt (History_Before.r v404 v405) fun w406 =>
        rq w406.1 <|
        lt ((!w406.2)) fun (v407 : Bool) =>
        bif v407 then
          kr (false, ()) ()
        else
          lt (IntKind.i64.wrap (x.2.2.2.2.1 + 1)) fun (v408 : Int) =>
          kn (x.1, x.2.1, x.2.2.1, x.2.2.2.1, v408, ()) ()
      else
        lt (IntKind.i64.wrap (x.2.2.2.2.1 + 1)) fun (v409 : Int) =>
        kn (x.1, x.2.1, x.2.2.1, x.2.2.2.1, v409, ()) ()
    else
      lt (IntKind.i64.wrap (x.2.2.2.2.1 + 1)) fun (v410 : Int) =>
      kn (x.1, x.2.1, x.2.2.1, x.2.2.2.1, v410, ()) ()
  else
    ke 4 (x.1, x.2.1, x.2.2.1, x.2.2.2.1, x.2.2.2.2.1, ()) ()

def fu2 (x : X2) (y : Y2) : Nat := ((x.1.length : Int) - x.2.2.2.2.1).toNat + 1
def l2 (x : X2) (y : Y2) : Bool × Nat × X2 × Y2 × U2 × V2 := rounds (fun rq kn ke kr x y => g2 rq kn ke kr x y) (false, ()) () (fu2 x y) x y
abbrev sh1 : List (Nat × Sh) := [(0, .p (.sl tApi_Event)), (2, .p .bool), (3, .p (.int .i64)), (4, .p (.int .i64))]
abbrev bx1 : List (Nat × Ty) := []
abbrev ord1 : List (Nat × Ty) := []
abbrev shR1 : List (Nat × Sh) := [(2, .p .bool)]
abbrev bxR1 : List (Nat × Ty) := []
abbrev ordR1 : List (Nat × Ty) := []
abbrev X1 : Type := (List Api_Event) × Bool × Int × Int × Unit
abbrev Y1 : Type := Unit
abbrev U1 : Type := Bool × Unit
abbrev V1 : Type := Unit
def g1 {Z : Type} (rq : Bool → Z → Z) (kn : X1 → Y1 → Z) (ke : Nat → X1 → Y1 → Z) (kr : U1 → V1 → Z) (x : X1) (y : Y1) : Z :=
  lt ((x.1.length : Int)) fun (v381 : Int) =>
  lt ((ilt x.2.2.2.1 v381)) fun (v382 : Bool) =>
  bif v382 then
    lt ((ilt x.2.2.1 x.2.2.2.1)) fun (v383 : Bool) =>
    bif v383 then
      lt ((x.1.getD x.2.2.1.toNat zApi_Event)) fun (v384 : Api_Event) =>
      rq (ile (0 : Int) x.2.2.1 && ilt x.2.2.1 (x.1.length : Int)) <|
      lt ((x.1.getD x.2.2.2.1.toNat zApi_Event)) fun (v385 : Api_Event) =>
      rq (ile (0 : Int) x.2.2.2.1 && ilt x.2.2.2.1 (x.1.length : Int)) <|
      lt ((v384.1 == v385.1)) fun (v386 : Bool) =>
      bif v386 then
        lt ((x.1.getD x.2.2.1.toNat zApi_Event)) fun (v387 : Api_Event) =>
        rq (ile (0 : Int) x.2.2.1 && ilt x.2.2.1 (x.1.length : Int)) <|
        lt ((x.1.getD x.2.2.2.1.toNat zApi_Event)) fun (v388 : Api_Event) =>
        rq (ile (0 : Int) x.2.2.2.1 && ilt x.2.2.2.1 (x.1.length : Int)) <|
        lt (History_Before.r v387 v388) fun w389 =>
        rq w389.1 <|
        lt ((!w389.2)) fun (v390 : Bool) =>
        bif v390 then
          kr (false, ()) ()
        else
          lt ((x.1.getD x.2.2.2.1.toNat zApi_Event)) fun (v391 : Api_Event) =>
          rq (ile (0 : Int) x.2.2.2.1 && ilt x.2.2.2.1 (x.1.length : Int)) <|
          lt ((x.1.getD x.2.2.1.toNat zApi_Event)) fun (v392 : Api_Event) =>
          rq (ile (0 : Int) x.2.2.1 && ilt x.2.2.1 (x.1.length : Int)) <|
          lt (History_Before.r v391 v392) fun w393 =>
          rq w393.1 <|
          bif w393.2 then
            kr (false, ()) ()
          else
            lt (Sacristylaw28_HistoryStrict.l2 (x.1, x.2.1, x.2.2.1, x.2.2.2.1, 0, ()) ()) fun w411 =>
            rq w411.1 <|
            bif Nat.beq w411.2.1 0 then
              kr (w411.2.2.2.2.1.1, ()) ()
            else
              lt (IntKind.i64.wrap (w411.2.2.1.2.2.2.1 + 1)) fun (v412 : Int) =>
              kn (w411.2.2.1.1, w411.2.2.1.2.1, w411.2.2.1.2.2.1, v412, ()) ()
      else
        lt ((x.1.getD x.2.2.2.1.toNat zApi_Event)) fun (v413 : Api_Event) =>
        rq (ile (0 : Int) x.2.2.2.1 && ilt x.2.2.2.1 (x.1.length : Int)) <|
        lt ((x.1.getD x.2.2.1.toNat zApi_Event)) fun (v414 : Api_Event) =>
        rq (ile (0 : Int) x.2.2.1 && ilt x.2.2.1 (x.1.length : Int)) <|
        lt (History_Before.r v413 v414) fun w415 =>
        rq w415.1 <|
        bif w415.2 then
          kr (false, ()) ()
        else
          lt (Sacristylaw28_HistoryStrict.l2 (x.1, x.2.1, x.2.2.1, x.2.2.2.1, 0, ()) ()) fun w416 =>
          rq w416.1 <|
          bif Nat.beq w416.2.1 0 then
            kr (w416.2.2.2.2.1.1, ()) ()
          else
            lt (IntKind.i64.wrap (w416.2.2.1.2.2.2.1 + 1)) fun (v417 : Int) =>
            kn (w416.2.2.1.1, w416.2.2.1.2.1, w416.2.2.1.2.2.1, v417, ()) ()
    else
      lt (Sacristylaw28_HistoryStrict.l2 (x.1, x.2.1, x.2.2.1, x.2.2.2.1, 0, ()) ()) fun w418 =>
      rq w418.1 <|
      bif Nat.beq w418.2.1 0 then
        kr (w418.2.2.2.2.1.1, ()) ()
      else
        lt (IntKind.i64.wrap (w418.2.2.1.2.2.2.1 + 1)) fun (v419 : Int) =>
        kn (w418.2.2.1.1, w418.2.2.1.2.1, w418.2.2.1.2.2.1, v419, ()) ()
  else
    ke 2 (x.1, x.2.1, x.2.2.1, x.2.2.2.1, ()) ()

def fu1 (x : X1) (y : Y1) : Nat := ((x.1.length : Int) - x.2.2.2.1).toNat + 1
def l1 (x : X1) (y : Y1) : Bool × Nat × X1 × Y1 × U1 × V1 := rounds (fun rq kn ke kr x y => g1 rq kn ke kr x y) (false, ()) () (fu1 x y) x y
abbrev sh0 : List (Nat × Sh) := [(0, .p (.sl tApi_Event)), (2, .p .bool), (3, .p (.int .i64))]
abbrev bx0 : List (Nat × Ty) := []
abbrev ord0 : List (Nat × Ty) := []
abbrev shR0 : List (Nat × Sh) := [(2, .p .bool)]
abbrev bxR0 : List (Nat × Ty) := []
abbrev ordR0 : List (Nat × Ty) := []
abbrev X0 : Type := (List Api_Event) × Bool × Int × Unit
abbrev Y0 : Type := Unit
abbrev U0 : Type := Bool × Unit
abbrev V0 : Type := Unit
def g0 {Z : Type} (rq : Bool → Z → Z) (kn : X0 → Y0 → Z) (ke : Nat → X0 → Y0 → Z) (kr : U0 → V0 → Z) (x : X0) (y : Y0) : Z :=
  lt ((x.1.length : Int)) fun (v374 : Int) =>
  lt ((ilt x.2.2.1 v374)) fun (v375 : Bool) =>
  bif v375 then
    lt ((x.1.getD x.2.2.1.toNat zApi_Event)) fun (v376 : Api_Event) =>
    rq (ile (0 : Int) x.2.2.1 && ilt x.2.2.1 (x.1.length : Int)) <|
    lt ((x.1.getD x.2.2.1.toNat zApi_Event)) fun (v377 : Api_Event) =>
    rq (ile (0 : Int) x.2.2.1 && ilt x.2.2.1 (x.1.length : Int)) <|
    lt (History_Before.r v376 v377) fun w378 =>
    rq w378.1 <|
    bif w378.2 then
      kr (false, ()) ()
    else
      lt (Sacristylaw28_HistoryStrict.l1 (x.1, x.2.1, x.2.2.1, 0, ()) ()) fun w420 =>
      rq w420.1 <|
      bif Nat.beq w420.2.1 0 then
        kr (w420.2.2.2.2.1.1, ()) ()
      else
        lt ((w420.2.2.1.1.getD w420.2.2.1.2.2.1.toNat zApi_Event)) fun (v421 : Api_Event) =>
        rq (ile (0 : Int) w420.2.2.1.2.2.1 && ilt w420.2.2.1.2.2.1 (w420.2.2.1.1.length : Int)) <|
        lt (History_Of.r w420.2.2.1.1 v421.2.2.1) fun w422 =>
        rq w422.1 <|
        lt (Sacristylaw28_HistoryStrict.l3 (w420.2.2.1.1, w420.2.2.1.2.1, w420.2.2.1.2.2.1, w422.2, 0, ()) ()) fun w433 =>
        rq w433.1 <|
        bif Nat.beq w433.2.1 0 then
          kr (w433.2.2.2.2.1.1, ()) ()
        else
          lt ((w433.2.2.1.1.getD w433.2.2.1.2.2.1.toNat zApi_Event)) fun (v434 : Api_Event) =>
          rq (ile (0 : Int) w433.2.2.1.2.2.1 && ilt w433.2.2.1.2.2.1 (w433.2.2.1.1.length : Int)) <|
          lt (History_Must.r v434) fun w435 =>
          rq w435.1 <|
          bif w435.2 then
            lt ((w433.2.2.1.2.2.2.1.length : Int)) fun (v436 : Int) =>
            lt ((v436 == 0)) fun (v437 : Bool) =>
            bif v437 then
              kr (false, ()) ()
            else
              lt (IntKind.i64.wrap (w433.2.2.1.2.2.1 + 1)) fun (v438 : Int) =>
              kn (w433.2.2.1.1, w433.2.2.1.2.1, v438, ()) ()
          else
            lt (IntKind.i64.wrap (w433.2.2.1.2.2.1 + 1)) fun (v439 : Int) =>
            kn (w433.2.2.1.1, w433.2.2.1.2.1, v439, ()) ()
  else
    ke 0 (x.1, x.2.1, x.2.2.1, ()) ()

def fu0 (x : X0) (y : Y0) : Nat := ((x.1.length : Int) - x.2.2.1).toNat + 1
def l0 (x : X0) (y : Y0) : Bool × Nat × X0 × Y0 × U0 × V0 := rounds (fun rq kn ke kr x y => g0 rq kn ke kr x y) (false, ()) () (fu0 x y) x y
def g {Z : Type} (rq : Bool → Z → Z) (rt : X → Z) (l : (List Api_Event)) : Z :=
  lt (Sacristyref28_Few.r l 12) fun w366 =>
  rq w366.1 <|
  lt ((!w366.2)) fun (v367 : Bool) =>
  bif v367 then
    lt Sacristylaw28_awake.r fun w368 =>
    rq w368.1 <|
    rt w368.2
  else
    lt (History_Check.r l) fun w369 =>
    rq w369.1 <|
    lt ((w369.2 != 0)) fun (v370 : Bool) =>
    bif v370 then
      lt Sacristylaw28_awake.r fun w371 =>
      rq w371.1 <|
      rt w371.2
    else
      lt (Sacristylaw28_HistoryStrict.l0 (l, false, 0, ()) ()) fun w440 =>
      rq w440.1 <|
      bif Nat.beq w440.2.1 0 then
        rt w440.2.2.2.2.1.1
      else
        lt Sacristylaw28_awake.r fun w441 =>
        rq w441.1 <|
        rt w441.2

def r (l : (List Api_Event)) : Bool × X := g chk (fun x => (true, x)) l
noncomputable def D : CallD := Dof (P := Try.prog) [Sacristyref28_Few.ent, Sacristylaw28_awake.ent, History_Check.ent, History_Before.ent, History_Of.ent, History_Must.ent]
noncomputable def tab : List (Nat × LE Res) := [(21, .typed (loopT 152 sh3 bx3 ord3 shR3 bxR3 (loopF' [0, 7] (rounds (fun rq kn ke kr x y => g3 rq kn ke kr x y) (false, ()) ()) fu3))), (15, .typed (loopT 152 sh2 bx2 ord2 shR2 bxR2 (loopF' [0, 5] (rounds (fun rq kn ke kr x y => g2 rq kn ke kr x y) (false, ()) ()) fu2))), (10, .typed (loopT 152 sh1 bx1 ord1 shR1 bxR1 (loopF' [0, 3] (rounds (fun rq kn ke kr x y => g1 rq kn ke kr x y) (false, ()) ()) fu1))), (5, .typed (loopT 152 sh0 bx0 ord0 shR0 bxR0 (loopF' [0, 1] (rounds (fun rq kn ke kr x y => g0 rq kn ke kr x y) (false, ()) ()) fu0)))]
set_option maxRecDepth 100000 in
theorem run (l : (List Api_Event)) : enterK E0 [true] D (loopX E0 D tab 9) Try.f13 (codeOf Try.f13) [.val ⟨.sl tApi_Event, l⟩] [] = g (fun c z => req c z) (fun x => some (res x)) l := by kernel_rfl
theorem rel (l : (List Api_Event)) : J (fun w z => z = some (res w)) (g chk (fun x => (true, x)) l) (g (fun c z => req c z) (fun x => some (res x)) l) := by
  unfold g
  with_reducible repeat (first | (apply J.lt; intro _) | apply J.rq | apply J.bif | exact J.rt rfl)
set_option maxRecDepth 100000 in
theorem round3 (x : ShX sh3) (y : BxX bx3) (kn : ShX sh3 → BxX bx3 → Option Res) (ke : Nat → ShX sh3 → BxX bx3 → Option Res) (kr : ShX shR3 → BxX bxR3 → Option Res) : codeK E0 D (loopX E0 D tab 8) (nthLoop (codeOf Try.f13) 3) (inj 152 sh3 bx3 x y) (roundK sh3 bx3 ord3 shR3 bxR3 ordR3 kn ke kr) = g3 (fun c z => req c z) kn ke kr x y := by kernel_rfl
theorem told3 : Nonempty (Told E0 D tab Try.f13.ntmps (nthLoop (codeOf Try.f13) 3) 152 sh3 bx3 ord3 shR3 bxR3 (loopF' [0, 7] (rounds (fun rq kn ke kr x y => g3 rq kn ke kr x y) (false, ()) ()) fu3)) :=
  told_of (sh := sh3) (bx := bx3) (ord := ord3) (shR := shR3) (bxR := bxR3) ordR3 8 (by kernel_rfl) (by kernel_rfl) (by kernel_rfl) [0, 7] fu3 (false, ()) () (fun rq kn ke kr x y => g3 rq kn ke kr x y) (fun rq kn ke kr x y => g3 rq kn ke kr x y) (round3) (by
    intro φ kn1 kn2 ke1 ke2 kr1 kr2 h1 h2 h3 x y
    simp only [g3]
    with_reducible repeat (first | (apply J.lt; intro _) | apply J.rq | apply J.bif | exact h1 _ _ | exact h2 _ (by decide) _ _ | exact h3 (by decide) _ _))
set_option maxRecDepth 100000 in
theorem round2 (x : ShX sh2) (y : BxX bx2) (kn : ShX sh2 → BxX bx2 → Option Res) (ke : Nat → ShX sh2 → BxX bx2 → Option Res) (kr : ShX shR2 → BxX bxR2 → Option Res) : codeK E0 D (loopX E0 D tab 8) (nthLoop (codeOf Try.f13) 2) (inj 152 sh2 bx2 x y) (roundK sh2 bx2 ord2 shR2 bxR2 ordR2 kn ke kr) = g2 (fun c z => req c z) kn ke kr x y := by kernel_rfl
theorem told2 : Nonempty (Told E0 D tab Try.f13.ntmps (nthLoop (codeOf Try.f13) 2) 152 sh2 bx2 ord2 shR2 bxR2 (loopF' [0, 5] (rounds (fun rq kn ke kr x y => g2 rq kn ke kr x y) (false, ()) ()) fu2)) :=
  told_of (sh := sh2) (bx := bx2) (ord := ord2) (shR := shR2) (bxR := bxR2) ordR2 8 (by kernel_rfl) (by kernel_rfl) (by kernel_rfl) [0, 5] fu2 (false, ()) () (fun rq kn ke kr x y => g2 rq kn ke kr x y) (fun rq kn ke kr x y => g2 rq kn ke kr x y) (round2) (by
    intro φ kn1 kn2 ke1 ke2 kr1 kr2 h1 h2 h3 x y
    simp only [g2]
    with_reducible repeat (first | (apply J.lt; intro _) | apply J.rq | apply J.bif | exact h1 _ _ | exact h2 _ (by decide) _ _ | exact h3 (by decide) _ _))
set_option maxRecDepth 100000 in
theorem round1 (x : ShX sh1) (y : BxX bx1) (kn : ShX sh1 → BxX bx1 → Option Res) (ke : Nat → ShX sh1 → BxX bx1 → Option Res) (kr : ShX shR1 → BxX bxR1 → Option Res) : codeK E0 D (loopX E0 D tab 8) (nthLoop (codeOf Try.f13) 1) (inj 152 sh1 bx1 x y) (roundK sh1 bx1 ord1 shR1 bxR1 ordR1 kn ke kr) = g1 (fun c z => req c z) kn ke kr x y := by kernel_rfl
theorem told1 : Nonempty (Told E0 D tab Try.f13.ntmps (nthLoop (codeOf Try.f13) 1) 152 sh1 bx1 ord1 shR1 bxR1 (loopF' [0, 3] (rounds (fun rq kn ke kr x y => g1 rq kn ke kr x y) (false, ()) ()) fu1)) :=
  told_of (sh := sh1) (bx := bx1) (ord := ord1) (shR := shR1) (bxR := bxR1) ordR1 8 (by kernel_rfl) (by kernel_rfl) (by kernel_rfl) [0, 3] fu1 (false, ()) () (fun rq kn ke kr x y => g1 rq kn ke kr x y) (fun rq kn ke kr x y => g1 rq kn ke kr x y) (round1) (by
    intro φ kn1 kn2 ke1 ke2 kr1 kr2 h1 h2 h3 x y
    simp only [g1]
    with_reducible repeat (first | (apply J.lt; intro _) | apply J.rq | apply J.bif | exact h1 _ _ | exact h2 _ (by decide) _ _ | exact h3 (by decide) _ _))
set_option maxRecDepth 100000 in
theorem round0 (x : ShX sh0) (y : BxX bx0) (kn : ShX sh0 → BxX bx0 → Option Res) (ke : Nat → ShX sh0 → BxX bx0 → Option Res) (kr : ShX shR0 → BxX bxR0 → Option Res) : codeK E0 D (loopX E0 D tab 8) (nthLoop (codeOf Try.f13) 0) (inj 152 sh0 bx0 x y) (roundK sh0 bx0 ord0 shR0 bxR0 ordR0 kn ke kr) = g0 (fun c z => req c z) kn ke kr x y := by kernel_rfl
theorem told0 : Nonempty (Told E0 D tab Try.f13.ntmps (nthLoop (codeOf Try.f13) 0) 152 sh0 bx0 ord0 shR0 bxR0 (loopF' [0, 1] (rounds (fun rq kn ke kr x y => g0 rq kn ke kr x y) (false, ()) ()) fu0)) :=
  told_of (sh := sh0) (bx := bx0) (ord := ord0) (shR := shR0) (bxR := bxR0) ordR0 8 (by kernel_rfl) (by kernel_rfl) (by kernel_rfl) [0, 1] fu0 (false, ()) () (fun rq kn ke kr x y => g0 rq kn ke kr x y) (fun rq kn ke kr x y => g0 rq kn ke kr x y) (round0) (by
    intro φ kn1 kn2 ke1 ke2 kr1 kr2 h1 h2 h3 x y
    simp only [g0]
    with_reducible repeat (first | (apply J.lt; intro _) | apply J.rq | apply J.bif | exact h1 _ _ | exact h2 _ (by decide) _ _ | exact h3 (by decide) _ _))
theorem tabOK : TabOK E0 D tab Try.f13.ntmps (codeOf Try.f13) := tabOK_of (bs := [nthLoop (codeOf Try.f13) 0, nthLoop (codeOf Try.f13) 1, nthLoop (codeOf Try.f13) 2, nthLoop (codeOf Try.f13) 3]) (by kernel_rfl) (allTold_cons (typedAt (by kernel_rfl) (told0)) (allTold_cons (typedAt (by kernel_rfl) (told1)) (allTold_cons (typedAt (by kernel_rfl) (told2)) (allTold_cons (typedAt (by kernel_rfl) (told3)) allTold_nil))))
theorem ok : fnOK Try.f13 = true := by kernel_rfl
abbrev aS : List AS := [.one (.val (.sl tApi_Event))]
abbrev bS : List Ty := []
def F (x : ASs aS) (y : Bs bS) : Brn Res := brn (r x.1)
theorem good (x : ASs aS) (y : Bs bS) (h : (F x y).res.1 = true) : Good Try.prog 13 (ASs.mk aS x) (Bs.mk bS y) (F x y).res.2 :=
  good_run hE0 (Dof_sound _) Try.func13 ok tabOK brn_res (run x.1) (rel x.1) h
noncomputable def ent : Ent Try.prog := ⟨13, shF aS bS F, shF_good good⟩
end Sacristylaw28_HistoryStrict

/-! (*sacristy/linear.search).goes$1 -/
namespace Linear_search_goes_1
abbrev X : Type := Bool
def res (x : Bool) : Res := ⟨[.val ⟨.bool, x⟩], [], []⟩
def brn (w : Bool × X) : Brn Res := .one w.1 (res w.2)
theorem brn_res (w : Bool × X) : (brn w).res = (w.1, res w.2) := rfl
def g {Z : Type} (rq : Bool → Z → Z) (rt : X → Z) (a : Api_Event) : Z :=
  rt true

def r (a : Api_Event) : Bool × X := g chk (fun x => (true, x)) a
noncomputable def D : CallD := Dof (P := Try.prog) []
noncomputable def tab : List (Nat × LE Res) := []
set_option maxRecDepth 100000 in
theorem run (a : Api_Event) : enterK E0 [true] D (loopX E0 D tab 9) Try.f115 (codeOf Try.f115) [.val ⟨tApi_Event, a⟩] [] = g (fun c z => req c z) (fun x => some (res x)) a := by kernel_rfl
theorem rel (a : Api_Event) : J (fun w z => z = some (res w)) (g chk (fun x => (true, x)) a) (g (fun c z => req c z) (fun x => some (res x)) a) := by
  unfold g
  with_reducible repeat (first | (apply J.lt; intro _) | apply J.rq | apply J.bif | exact J.rt rfl)
theorem ok : fnOK Try.f115 = true := by kernel_rfl
abbrev aS : List AS := [.one (.val tApi_Event)]
abbrev bS : List Ty := []
def F (x : ASs aS) (y : Bs bS) : Brn Res := brn (r x.1)
theorem good (x : ASs aS) (y : Bs bS) (h : (F x y).res.1 = true) : Good Try.prog 115 (ASs.mk aS x) (Bs.mk bS y) (F x y).res.2 :=
  good_run hE0 (Dof_sound _) Try.func115 ok tabOK_nil brn_res (run x.1) (rel x.1) h
noncomputable def ent : Ent Try.prog := ⟨115, shF aS bS F, shF_good good⟩
end Linear_search_goes_1

/-! (*sacristy/linear.search).open -/
namespace Linear_search_open
abbrev X : Type := Bool × ((List Api_Event) × (Int × (Unit × Unit))) × (List ((Int × ((ByteArray × (Bool × Unit)) × Unit)) × Bool))
def res (x : Bool × ((List Api_Event) × (Int × (Unit × Unit))) × (List ((Int × ((ByteArray × (Bool × Unit)) × Unit)) × Bool))) : Res := ⟨[.val ⟨.bool, x.1⟩], [some ⟨.pair (.sl tApi_Event) (.pair (.int .i64) (.pair (.mp 1000001 (.pair (.int .i64) (.pair (.pair .str (.pair .bool .unit)) .unit)) .bool) .unit)), x.2.1⟩, some ⟨.map (.pair (.int .i64) (.pair (.pair .str (.pair .bool .unit)) .unit)) .bool, x.2.2⟩], []⟩
def brn (w : Bool × X) : Brn Res := .one w.1 (res w.2)
theorem brn_res (w : Bool × X) : (brn w).res = (w.1, res w.2) := rfl
abbrev sh0 : List (Nat × Sh) := [(1, .p (.int .i64)), (2, .clo 115 []), (6, .p .bool), (12, .p (.sl tApi_Event)), (13, .p (.int .i64)), (14, .p (.int .i64))]
abbrev bx0 : List (Nat × Ty) := [(1000000, .pair (.sl tApi_Event) (.pair (.int .i64) (.pair (.mp 1000001 (.pair (.int .i64) (.pair (.pair .str (.pair .bool .unit)) .unit)) .bool) .unit))), (1000001, .map (.pair (.int .i64) (.pair (.pair .str (.pair .bool .unit)) .unit)) .bool)]
abbrev ord0 : List (Nat × Ty) := [(1000000, .pair (.sl tApi_Event) (.pair (.int .i64) (.pair (.mp 1000001 (.pair (.int .i64) (.pair (.pair .str (.pair .bool .unit)) .unit)) .bool) .unit))), (1000001, .map (.pair (.int .i64) (.pair (.pair .str (.pair .bool .unit)) .unit)) .bool)]
abbrev shR0 : List (Nat × Sh) := [(6, .p .bool)]
abbrev bxR0 : List (Nat × Ty) := [(1000000, .pair (.sl tApi_Event) (.pair (.int .i64) (.pair (.mp 1000001 (.pair (.int .i64) (.pair (.pair .str (.pair .bool .unit)) .unit)) .bool) .unit))), (1000001, .map (.pair (.int .i64) (.pair (.pair .str (.pair .bool .unit)) .unit)) .bool)]
abbrev ordR0 : List (Nat × Ty) := [(1000000, .pair (.sl tApi_Event) (.pair (.int .i64) (.pair (.mp 1000001 (.pair (.int .i64) (.pair (.pair .str (.pair .bool .unit)) .unit)) .bool) .unit))), (1000001, .map (.pair (.int .i64) (.pair (.pair .str (.pair .bool .unit)) .unit)) .bool)]
abbrev X0 : Type := Int × Unit × Bool × (List Api_Event) × Int × Int × Unit
abbrev Y0 : Type := ((List Api_Event) × (Int × (Unit × Unit))) × (List ((Int × ((ByteArray × (Bool × Unit)) × Unit)) × Bool)) × Unit
abbrev U0 : Type := Bool × Unit
abbrev V0 : Type := ((List Api_Event) × (Int × (Unit × Unit))) × (List ((Int × ((ByteArray × (Bool × Unit)) × Unit)) × Bool)) × Unit
def g0 {Z : Type} (rq : Bool → Z → Z) (kn : X0 → Y0 → Z) (ke : Nat → X0 → Y0 → Z) (kr : U0 → V0 → Z) (x : X0) (y : Y0) : Z :=
  lt ((ilt x.2.2.2.2.2.1 x.2.2.2.2.1)) fun (v458 : Bool) =>
  bif v458 then
    lt ((x.2.2.2.1.getD x.2.2.2.2.2.1.toNat zApi_Event)) fun (v459 : Api_Event) =>
    rq (ile (0 : Int) x.2.2.2.2.2.1 && ilt x.2.2.2.2.2.1 (x.2.2.2.1.length : Int)) <|
    lt (x.1.fdiv (2 ^ (min x.2.2.2.2.2.1.toNat 64))) fun (v460 : Int) =>
    rq (!ilt x.2.2.2.2.2.1 0) <|
    lt (ibits .i64 (· &&& ·) v460 (1 : Int)) fun (v461 : Int) =>
    lt ((v461 == 0)) fun (v462 : Bool) =>
    bif v462 then
      lt (History_Must.r v459) fun w463 =>
      rq w463.1 <|
      bif w463.2 then
        lt (Linear_search_goes_1.r v459) fun w464 =>
        rq w464.1 <|
        bif w464.2 then
          kr (true, ()) (y.1, y.2.1, ())
        else
          lt (IntKind.i64.wrap (x.2.2.2.2.2.1 + 1)) fun (v465 : Int) =>
          kn (x.1, (), x.2.2.1, x.2.2.2.1, x.2.2.2.2.1, v465, ()) (y.1, y.2.1, ())
      else
        lt (IntKind.i64.wrap (x.2.2.2.2.2.1 + 1)) fun (v466 : Int) =>
        kn (x.1, (), x.2.2.1, x.2.2.2.1, x.2.2.2.2.1, v466, ()) (y.1, y.2.1, ())
    else
      lt (IntKind.i64.wrap (x.2.2.2.2.2.1 + 1)) fun (v467 : Int) =>
      kn (x.1, (), x.2.2.1, x.2.2.2.1, x.2.2.2.2.1, v467, ()) (y.1, y.2.1, ())
  else
    ke 0 (x.1, (), x.2.2.1, x.2.2.2.1, x.2.2.2.2.1, x.2.2.2.2.2.1, ()) (y.1, y.2.1, ())

def fu0 (x : X0) (y : Y0) : Nat := (x.2.2.2.2.1 - x.2.2.2.2.2.1).toNat + 1
def l0 (x : X0) (y : Y0) : Bool × Nat × X0 × Y0 × U0 × V0 := rounds (fun rq kn ke kr x y => g0 rq kn ke kr x y) (false, ()) (([], (0, ((), ()))), [], ()) (fu0 x y) x y
def g {Z : Type} (rq : Bool → Z → Z) (rt : X → Z) (placed : Int) (b : ((List Api_Event) × (Int × (Unit × Unit)))) (bx : (List ((Int × ((ByteArray × (Bool × Unit)) × Unit)) × Bool))) : Z :=
  lt ((b.1.length : Int)) fun (v456 : Int) =>
  lt (Linear_search_open.l0 (placed, (), false, b.1, v456, 0, ()) (b, bx, ())) fun w468 =>
  rq w468.1 <|
  bif Nat.beq w468.2.1 0 then
    rt (w468.2.2.2.2.1.1, w468.2.2.2.2.2.1, w468.2.2.2.2.2.2.1)
  else
    rt (false, w468.2.2.2.1.1, w468.2.2.2.1.2.1)

def r (placed : Int) (b : ((List Api_Event) × (Int × (Unit × Unit)))) (bx : (List ((Int × ((ByteArray × (Bool × Unit)) × Unit)) × Bool))) : Bool × X := g chk (fun x => (true, x)) placed b bx
noncomputable def D : CallD := Dof (P := Try.prog) [History_Must.ent, Linear_search_goes_1.ent]
noncomputable def tab : List (Nat × LE Res) := [(3, .typed (loopT 34 sh0 bx0 ord0 shR0 bxR0 (loopF' [0, 1] (rounds (fun rq kn ke kr x y => g0 rq kn ke kr x y) (false, ()) (([], (0, ((), ()))), [], ())) fu0)))]
set_option maxRecDepth 100000 in
theorem run (placed : Int) (b : ((List Api_Event) × (Int × (Unit × Unit)))) (bx : (List ((Int × ((ByteArray × (Bool × Unit)) × Unit)) × Bool))) : enterK E0 [true] D (loopX E0 D tab 9) Try.f114 (codeOf Try.f114) [.pb 1000000 tLinear_search [], .val ⟨.int .i64, placed⟩, .clo 115 []] [⟨.pair (.sl tApi_Event) (.pair (.int .i64) (.pair (.mp 1000001 (.pair (.int .i64) (.pair (.pair .str (.pair .bool .unit)) .unit)) .bool) .unit)), b⟩, ⟨.map (.pair (.int .i64) (.pair (.pair .str (.pair .bool .unit)) .unit)) .bool, bx⟩] = g (fun c z => req c z) (fun x => some (res x)) placed b bx := by kernel_rfl
theorem rel (placed : Int) (b : ((List Api_Event) × (Int × (Unit × Unit)))) (bx : (List ((Int × ((ByteArray × (Bool × Unit)) × Unit)) × Bool))) : J (fun w z => z = some (res w)) (g chk (fun x => (true, x)) placed b bx) (g (fun c z => req c z) (fun x => some (res x)) placed b bx) := by
  unfold g
  with_reducible repeat (first | (apply J.lt; intro _) | apply J.rq | apply J.bif | exact J.rt rfl)
set_option maxRecDepth 100000 in
theorem round0 (x : ShX sh0) (y : BxX bx0) (kn : ShX sh0 → BxX bx0 → Option Res) (ke : Nat → ShX sh0 → BxX bx0 → Option Res) (kr : ShX shR0 → BxX bxR0 → Option Res) : codeK E0 D (loopX E0 D tab 8) (nthLoop (codeOf Try.f114) 0) (inj 34 sh0 bx0 x y) (roundK sh0 bx0 ord0 shR0 bxR0 ordR0 kn ke kr) = g0 (fun c z => req c z) kn ke kr x y := by kernel_rfl
theorem told0 : Nonempty (Told E0 D tab Try.f114.ntmps (nthLoop (codeOf Try.f114) 0) 34 sh0 bx0 ord0 shR0 bxR0 (loopF' [0, 1] (rounds (fun rq kn ke kr x y => g0 rq kn ke kr x y) (false, ()) (([], (0, ((), ()))), [], ())) fu0)) :=
  told_of (sh := sh0) (bx := bx0) (ord := ord0) (shR := shR0) (bxR := bxR0) ordR0 8 (by kernel_rfl) (by kernel_rfl) (by kernel_rfl) [0, 1] fu0 (false, ()) (([], (0, ((), ()))), [], ()) (fun rq kn ke kr x y => g0 rq kn ke kr x y) (fun rq kn ke kr x y => g0 rq kn ke kr x y) (round0) (by
    intro φ kn1 kn2 ke1 ke2 kr1 kr2 h1 h2 h3 x y
    simp only [g0]
    with_reducible repeat (first | (apply J.lt; intro _) | apply J.rq | apply J.bif | exact h1 _ _ | exact h2 _ (by decide) _ _ | exact h3 (by decide) _ _))
theorem tabOK : TabOK E0 D tab Try.f114.ntmps (codeOf Try.f114) := tabOK_of (bs := [nthLoop (codeOf Try.f114) 0]) (by kernel_rfl) (allTold_cons (typedAt (by kernel_rfl) (told0)) allTold_nil)
theorem ok : fnOK Try.f114 = true := by kernel_rfl
abbrev aS : List AS := [.one (.pb 1000000 tLinear_search []), .one (.val (.int .i64)), .clo 115 []]
abbrev bS : List Ty := [.pair (.sl tApi_Event) (.pair (.int .i64) (.pair (.mp 1000001 (.pair (.int .i64) (.pair (.pair .str (.pair .bool .unit)) .unit)) .bool) .unit)), .map (.pair (.int .i64) (.pair (.pair .str (.pair .bool .unit)) .unit)) .bool]
def F (x : ASs aS) (y : Bs bS) : Brn Res := brn (r x.2.1 y.1 y.2.1)
theorem good (x : ASs aS) (y : Bs bS) (h : (F x y).res.1 = true) : Good Try.prog 114 (ASs.mk aS x) (Bs.mk bS y) (F x y).res.2 :=
  good_run hE0 (Dof_sound _) Try.func114 ok tabOK brn_res (run x.2.1 y.1 y.2.1) (rel x.2.1 y.1 y.2.1) h
noncomputable def ent : Ent Try.prog := ⟨114, shF aS bS F, shF_good good⟩
end Linear_search_open

/-! (*sacristy/linear.search).goes$2 -/
namespace Linear_search_goes_2
abbrev X : Type := Bool × Api_Event
def res (x : Bool × Api_Event) : Res := ⟨[.val ⟨.bool, x.1⟩], [some ⟨tApi_Event, x.2⟩], []⟩
def brn (w : Bool × X) : Brn Res := .one w.1 (res w.2)
theorem brn_res (w : Bool × X) : (brn w).res = (w.1, res w.2) := rfl
def g {Z : Type} (rq : Bool → Z → Z) (rt : X → Z) (o : Api_Event) (b : Api_Event) : Z :=
  lt (History_Before.r o b) fun w490 =>
  rq w490.1 <|
  rt (w490.2, b)

def r (o : Api_Event) (b : Api_Event) : Bool × X := g chk (fun x => (true, x)) o b
noncomputable def D : CallD := Dof (P := Try.prog) [History_Before.ent]
noncomputable def tab : List (Nat × LE Res) := []
set_option maxRecDepth 100000 in
theorem run (o : Api_Event) (b : Api_Event) : enterK E0 [true] D (loopX E0 D tab 9) Try.f116 (codeOf Try.f116) [.val ⟨tApi_Event, o⟩, .pb 1000000 tApi_Event []] [⟨tApi_Event, b⟩] = g (fun c z => req c z) (fun x => some (res x)) o b := by kernel_rfl
theorem rel (o : Api_Event) (b : Api_Event) : J (fun w z => z = some (res w)) (g chk (fun x => (true, x)) o b) (g (fun c z => req c z) (fun x => some (res x)) o b) := by
  unfold g
  with_reducible repeat (first | (apply J.lt; intro _) | apply J.rq | apply J.bif | exact J.rt rfl)
theorem ok : fnOK Try.f116 = true := by kernel_rfl
abbrev aS : List AS := [.one (.val tApi_Event), .one (.pb 1000000 tApi_Event [])]
abbrev bS : List Ty := [tApi_Event]
def F (x : ASs aS) (y : Bs bS) : Brn Res := brn (r x.1 y.1)
theorem good (x : ASs aS) (y : Bs bS) (h : (F x y).res.1 = true) : Good Try.prog 116 (ASs.mk aS x) (Bs.mk bS y) (F x y).res.2 :=
  good_run hE0 (Dof_sound _) Try.func116 ok tabOK_nil brn_res (run x.1 y.1) (rel x.1 y.1) h
noncomputable def ent : Ent Try.prog := ⟨116, shF aS bS F, shF_good good⟩
end Linear_search_goes_2

/-! (*sacristy/linear.search).open -/
namespace Linear_search_open_v1
abbrev X : Type := Bool × ((List Api_Event) × (Int × (Unit × Unit))) × Api_Event × (List ((Int × ((ByteArray × (Bool × Unit)) × Unit)) × Bool))
def res (x : Bool × ((List Api_Event) × (Int × (Unit × Unit))) × Api_Event × (List ((Int × ((ByteArray × (Bool × Unit)) × Unit)) × Bool))) : Res := ⟨[.val ⟨.bool, x.1⟩], [some ⟨.pair (.sl tApi_Event) (.pair (.int .i64) (.pair (.mp 1000002 (.pair (.int .i64) (.pair (.pair .str (.pair .bool .unit)) .unit)) .bool) .unit)), x.2.1⟩, some ⟨tApi_Event, x.2.2.1⟩, some ⟨.map (.pair (.int .i64) (.pair (.pair .str (.pair .bool .unit)) .unit)) .bool, x.2.2.2⟩], []⟩
def brn (w : Bool × X) : Brn Res := .one w.1 (res w.2)
theorem brn_res (w : Bool × X) : (brn w).res = (w.1, res w.2) := rfl
abbrev sh0 : List (Nat × Sh) := [(1, .p (.int .i64)), (2, .clo 116 [(1000001, tApi_Event)]), (6, .p .bool), (12, .p (.sl tApi_Event)), (13, .p (.int .i64)), (14, .p (.int .i64))]
abbrev bx0 : List (Nat × Ty) := [(1000000, .pair (.sl tApi_Event) (.pair (.int .i64) (.pair (.mp 1000002 (.pair (.int .i64) (.pair (.pair .str (.pair .bool .unit)) .unit)) .bool) .unit))), (1000001, tApi_Event), (1000002, .map (.pair (.int .i64) (.pair (.pair .str (.pair .bool .unit)) .unit)) .bool)]
abbrev ord0 : List (Nat × Ty) := [(1000000, .pair (.sl tApi_Event) (.pair (.int .i64) (.pair (.mp 1000002 (.pair (.int .i64) (.pair (.pair .str (.pair .bool .unit)) .unit)) .bool) .unit))), (1000001, tApi_Event), (1000002, .map (.pair (.int .i64) (.pair (.pair .str (.pair .bool .unit)) .unit)) .bool)]
abbrev shR0 : List (Nat × Sh) := [(6, .p .bool)]
abbrev bxR0 : List (Nat × Ty) := [(1000000, .pair (.sl tApi_Event) (.pair (.int .i64) (.pair (.mp 1000002 (.pair (.int .i64) (.pair (.pair .str (.pair .bool .unit)) .unit)) .bool) .unit))), (1000001, tApi_Event), (1000002, .map (.pair (.int .i64) (.pair (.pair .str (.pair .bool .unit)) .unit)) .bool)]
abbrev ordR0 : List (Nat × Ty) := [(1000000, .pair (.sl tApi_Event) (.pair (.int .i64) (.pair (.mp 1000002 (.pair (.int .i64) (.pair (.pair .str (.pair .bool .unit)) .unit)) .bool) .unit))), (1000001, tApi_Event), (1000002, .map (.pair (.int .i64) (.pair (.pair .str (.pair .bool .unit)) .unit)) .bool)]
abbrev X0 : Type := Int × Unit × Bool × (List Api_Event) × Int × Int × Unit
abbrev Y0 : Type := ((List Api_Event) × (Int × (Unit × Unit))) × Api_Event × (List ((Int × ((ByteArray × (Bool × Unit)) × Unit)) × Bool)) × Unit
abbrev U0 : Type := Bool × Unit
abbrev V0 : Type := ((List Api_Event) × (Int × (Unit × Unit))) × Api_Event × (List ((Int × ((ByteArray × (Bool × Unit)) × Unit)) × Bool)) × Unit
def g0 {Z : Type} (rq : Bool → Z → Z) (kn : X0 → Y0 → Z) (ke : Nat → X0 → Y0 → Z) (kr : U0 → V0 → Z) (x : X0) (y : Y0) : Z :=
  lt ((ilt x.2.2.2.2.2.1 x.2.2.2.2.1)) fun (v484 : Bool) =>
  bif v484 then
    lt ((x.2.2.2.1.getD x.2.2.2.2.2.1.toNat zApi_Event)) fun (v485 : Api_Event) =>
    rq (ile (0 : Int) x.2.2.2.2.2.1 && ilt x.2.2.2.2.2.1 (x.2.2.2.1.length : Int)) <|
    lt (x.1.fdiv (2 ^ (min x.2.2.2.2.2.1.toNat 64))) fun (v486 : Int) =>
    rq (!ilt x.2.2.2.2.2.1 0) <|
    lt (ibits .i64 (· &&& ·) v486 (1 : Int)) fun (v487 : Int) =>
    lt ((v487 == 0)) fun (v488 : Bool) =>
    bif v488 then
      lt (History_Must.r v485) fun w489 =>
      rq w489.1 <|
      bif w489.2 then
        lt (Linear_search_goes_2.r v485 y.2.1) fun w491 =>
        rq w491.1 <|
        bif w491.2.1 then
          kr (true, ()) (y.1, w491.2.2, y.2.2.1, ())
        else
          lt (IntKind.i64.wrap (x.2.2.2.2.2.1 + 1)) fun (v492 : Int) =>
          kn (x.1, (), x.2.2.1, x.2.2.2.1, x.2.2.2.2.1, v492, ()) (y.1, w491.2.2, y.2.2.1, ())
      else
        lt (IntKind.i64.wrap (x.2.2.2.2.2.1 + 1)) fun (v493 : Int) =>
        kn (x.1, (), x.2.2.1, x.2.2.2.1, x.2.2.2.2.1, v493, ()) (y.1, y.2.1, y.2.2.1, ())
    else
      lt (IntKind.i64.wrap (x.2.2.2.2.2.1 + 1)) fun (v494 : Int) =>
      kn (x.1, (), x.2.2.1, x.2.2.2.1, x.2.2.2.2.1, v494, ()) (y.1, y.2.1, y.2.2.1, ())
  else
    ke 0 (x.1, (), x.2.2.1, x.2.2.2.1, x.2.2.2.2.1, x.2.2.2.2.2.1, ()) (y.1, y.2.1, y.2.2.1, ())

def fu0 (x : X0) (y : Y0) : Nat := (x.2.2.2.2.1 - x.2.2.2.2.2.1).toNat + 1
def l0 (x : X0) (y : Y0) : Bool × Nat × X0 × Y0 × U0 × V0 := rounds (fun rq kn ke kr x y => g0 rq kn ke kr x y) (false, ()) (([], (0, ((), ()))), zApi_Event, [], ()) (fu0 x y) x y
def g {Z : Type} (rq : Bool → Z → Z) (rt : X → Z) (placed : Int) (b : ((List Api_Event) × (Int × (Unit × Unit)))) (bx : Api_Event) (bx1 : (List ((Int × ((ByteArray × (Bool × Unit)) × Unit)) × Bool))) : Z :=
  lt ((b.1.length : Int)) fun (v482 : Int) =>
  lt (Linear_search_open_v1.l0 (placed, (), false, b.1, v482, 0, ()) (b, bx, bx1, ())) fun w495 =>
  rq w495.1 <|
  bif Nat.beq w495.2.1 0 then
    rt (w495.2.2.2.2.1.1, w495.2.2.2.2.2.1, w495.2.2.2.2.2.2.1, w495.2.2.2.2.2.2.2.1)
  else
    rt (false, w495.2.2.2.1.1, w495.2.2.2.1.2.1, w495.2.2.2.1.2.2.1)

def r (placed : Int) (b : ((List Api_Event) × (Int × (Unit × Unit)))) (bx : Api_Event) (bx1 : (List ((Int × ((ByteArray × (Bool × Unit)) × Unit)) × Bool))) : Bool × X := g chk (fun x => (true, x)) placed b bx bx1
noncomputable def D : CallD := Dof (P := Try.prog) [History_Must.ent, Linear_search_goes_2.ent]
noncomputable def tab : List (Nat × LE Res) := [(3, .typed (loopT 34 sh0 bx0 ord0 shR0 bxR0 (loopF' [0, 1] (rounds (fun rq kn ke kr x y => g0 rq kn ke kr x y) (false, ()) (([], (0, ((), ()))), zApi_Event, [], ())) fu0)))]
set_option maxRecDepth 100000 in
theorem run (placed : Int) (b : ((List Api_Event) × (Int × (Unit × Unit)))) (bx : Api_Event) (bx1 : (List ((Int × ((ByteArray × (Bool × Unit)) × Unit)) × Bool))) : enterK E0 [true] D (loopX E0 D tab 9) Try.f114 (codeOf Try.f114) [.pb 1000000 tLinear_search [], .val ⟨.int .i64, placed⟩, .clo 116 [.pb 1000001 tApi_Event []]] [⟨.pair (.sl tApi_Event) (.pair (.int .i64) (.pair (.mp 1000002 (.pair (.int .i64) (.pair (.pair .str (.pair .bool .unit)) .unit)) .bool) .unit)), b⟩, ⟨tApi_Event, bx⟩, ⟨.map (.pair (.int .i64) (.pair (.pair .str (.pair .bool .unit)) .unit)) .bool, bx1⟩] = g (fun c z => req c z) (fun x => some (res x)) placed b bx bx1 := by kernel_rfl
theorem rel (placed : Int) (b : ((List Api_Event) × (Int × (Unit × Unit)))) (bx : Api_Event) (bx1 : (List ((Int × ((ByteArray × (Bool × Unit)) × Unit)) × Bool))) : J (fun w z => z = some (res w)) (g chk (fun x => (true, x)) placed b bx bx1) (g (fun c z => req c z) (fun x => some (res x)) placed b bx bx1) := by
  unfold g
  with_reducible repeat (first | (apply J.lt; intro _) | apply J.rq | apply J.bif | exact J.rt rfl)
set_option maxRecDepth 100000 in
theorem round0 (x : ShX sh0) (y : BxX bx0) (kn : ShX sh0 → BxX bx0 → Option Res) (ke : Nat → ShX sh0 → BxX bx0 → Option Res) (kr : ShX shR0 → BxX bxR0 → Option Res) : codeK E0 D (loopX E0 D tab 8) (nthLoop (codeOf Try.f114) 0) (inj 34 sh0 bx0 x y) (roundK sh0 bx0 ord0 shR0 bxR0 ordR0 kn ke kr) = g0 (fun c z => req c z) kn ke kr x y := by kernel_rfl
theorem told0 : Nonempty (Told E0 D tab Try.f114.ntmps (nthLoop (codeOf Try.f114) 0) 34 sh0 bx0 ord0 shR0 bxR0 (loopF' [0, 1] (rounds (fun rq kn ke kr x y => g0 rq kn ke kr x y) (false, ()) (([], (0, ((), ()))), zApi_Event, [], ())) fu0)) :=
  told_of (sh := sh0) (bx := bx0) (ord := ord0) (shR := shR0) (bxR := bxR0) ordR0 8 (by kernel_rfl) (by kernel_rfl) (by kernel_rfl) [0, 1] fu0 (false, ()) (([], (0, ((), ()))), zApi_Event, [], ()) (fun rq kn ke kr x y => g0 rq kn ke kr x y) (fun rq kn ke kr x y => g0 rq kn ke kr x y) (round0) (by
    intro φ kn1 kn2 ke1 ke2 kr1 kr2 h1 h2 h3 x y
    simp only [g0]
    with_reducible repeat (first | (apply J.lt; intro _) | apply J.rq | apply J.bif | exact h1 _ _ | exact h2 _ (by decide) _ _ | exact h3 (by decide) _ _))
theorem tabOK : TabOK E0 D tab Try.f114.ntmps (codeOf Try.f114) := tabOK_of (bs := [nthLoop (codeOf Try.f114) 0]) (by kernel_rfl) (allTold_cons (typedAt (by kernel_rfl) (told0)) allTold_nil)
theorem ok : fnOK Try.f114 = true := by kernel_rfl
abbrev aS : List AS := [.one (.pb 1000000 tLinear_search []), .one (.val (.int .i64)), .clo 116 [.pb 1000001 tApi_Event []]]
abbrev bS : List Ty := [.pair (.sl tApi_Event) (.pair (.int .i64) (.pair (.mp 1000002 (.pair (.int .i64) (.pair (.pair .str (.pair .bool .unit)) .unit)) .bool) .unit)), tApi_Event, .map (.pair (.int .i64) (.pair (.pair .str (.pair .bool .unit)) .unit)) .bool]
def F (x : ASs aS) (y : Bs bS) : Brn Res := brn (r x.2.1 y.1 y.2.1 y.2.2.1)
theorem good (x : ASs aS) (y : Bs bS) (h : (F x y).res.1 = true) : Good Try.prog 114 (ASs.mk aS x) (Bs.mk bS y) (F x y).res.2 :=
  good_run hE0 (Dof_sound _) Try.func114 ok tabOK brn_res (run x.2.1 y.1 y.2.1 y.2.2.1) (rel x.2.1 y.1 y.2.1 y.2.2.1) h
noncomputable def ent : Ent Try.prog := ⟨114, shF aS bS F, shF_good good⟩
end Linear_search_open_v1

/-! (*sacristy/linear.search).next$1 -/
namespace Linear_search_next_1
abbrev X : Type := Bool × Unit × ((List Api_Event) × (Int × (Unit × Unit))) × (List ((Int × ((ByteArray × (Bool × Unit)) × Unit)) × Bool))
def res (x : Bool × Unit × ((List Api_Event) × (Int × (Unit × Unit))) × (List ((Int × ((ByteArray × (Bool × Unit)) × Unit)) × Bool))) : Res := ⟨[.val ⟨.bool, x.1⟩], [some ⟨.pt 1000001 tLinear_search [], x.2.1⟩, some ⟨.pair (.sl tApi_Event) (.pair (.int .i64) (.pair (.mp 1000002 (.pair (.int .i64) (.pair (.pair .str (.pair .bool .unit)) .unit)) .bool) .unit)), x.2.2.1⟩, some ⟨.map (.pair (.int .i64) (.pair (.pair .str (.pair .bool .unit)) .unit)) .bool, x.2.2.2⟩], []⟩
def brn (w : Bool × X) : Brn Res := .one w.1 (res w.2)
theorem brn_res (w : Bool × X) : (brn w).res = (w.1, res w.2) := rfl
def g {Z : Type} (rq : Bool → Z → Z) (rt : X → Z) (o : Api_Event) (b : Unit) (bx : ((List Api_Event) × (Int × (Unit × Unit)))) (bx1 : (List ((Int × ((ByteArray × (Bool × Unit)) × Unit)) × Bool))) : Z :=
  lt ((ilt o.2.2.2.2.2.1 bx.2.1)) fun (v510 : Bool) =>
  rt (v510, b, bx, bx1)

def r (o : Api_Event) (b : Unit) (bx : ((List Api_Event) × (Int × (Unit × Unit)))) (bx1 : (List ((Int × ((ByteArray × (Bool × Unit)) × Unit)) × Bool))) : Bool × X := g chk (fun x => (true, x)) o b bx bx1
noncomputable def D : CallD := Dof (P := Try.prog) []
noncomputable def tab : List (Nat × LE Res) := []
set_option maxRecDepth 100000 in
theorem run (o : Api_Event) (b : Unit) (bx : ((List Api_Event) × (Int × (Unit × Unit)))) (bx1 : (List ((Int × ((ByteArray × (Bool × Unit)) × Unit)) × Bool))) : enterK E0 [true] D (loopX E0 D tab 9) Try.f132 (codeOf Try.f132) [.val ⟨tApi_Event, o⟩, .pb 1000000 (.ref tLinear_search) []] [⟨.pt 1000001 tLinear_search [], b⟩, ⟨.pair (.sl tApi_Event) (.pair (.int .i64) (.pair (.mp 1000002 (.pair (.int .i64) (.pair (.pair .str (.pair .bool .unit)) .unit)) .bool) .unit)), bx⟩, ⟨.map (.pair (.int .i64) (.pair (.pair .str (.pair .bool .unit)) .unit)) .bool, bx1⟩] = g (fun c z => req c z) (fun x => some (res x)) o b bx bx1 := by kernel_rfl
theorem rel (o : Api_Event) (b : Unit) (bx : ((List Api_Event) × (Int × (Unit × Unit)))) (bx1 : (List ((Int × ((ByteArray × (Bool × Unit)) × Unit)) × Bool))) : J (fun w z => z = some (res w)) (g chk (fun x => (true, x)) o b bx bx1) (g (fun c z => req c z) (fun x => some (res x)) o b bx bx1) := by
  unfold g
  with_reducible repeat (first | (apply J.lt; intro _) | apply J.rq | apply J.bif | exact J.rt rfl)
theorem ok : fnOK Try.f132 = true := by kernel_rfl
abbrev aS : List AS := [.one (.val tApi_Event), .one (.pb 1000000 (.ref tLinear_search) [])]
abbrev bS : List Ty := [.pt 1000001 tLinear_search [], .pair (.sl tApi_Event) (.pair (.int .i64) (.pair (.mp 1000002 (.pair (.int .i64) (.pair (.pair .str (.pair .bool .unit)) .unit)) .bool) .unit)), .map (.pair (.int .i64) (.pair (.pair .str (.pair .bool .unit)) .unit)) .bool]
def F (x : ASs aS) (y : Bs bS) : Brn Res := brn (r x.1 y.1 y.2.1 y.2.2.1)
theorem good (x : ASs aS) (y : Bs bS) (h : (F x y).res.1 = true) : Good Try.prog 132 (ASs.mk aS x) (Bs.mk bS y) (F x y).res.2 :=
  good_run hE0 (Dof_sound _) Try.func132 ok tabOK_nil brn_res (run x.1 y.1 y.2.1 y.2.2.1) (rel x.1 y.1 y.2.1 y.2.2.1) h
noncomputable def ent : Ent Try.prog := ⟨132, shF aS bS F, shF_good good⟩
end Linear_search_next_1

/-! (*sacristy/linear.search).open -/
namespace Linear_search_open_v2
abbrev X : Type := Bool × ((List Api_Event) × (Int × (Unit × Unit))) × Unit × (List ((Int × ((ByteArray × (Bool × Unit)) × Unit)) × Bool))
def res (x : Bool × ((List Api_Event) × (Int × (Unit × Unit))) × Unit × (List ((Int × ((ByteArray × (Bool × Unit)) × Unit)) × Bool))) : Res := ⟨[.val ⟨.bool, x.1⟩], [some ⟨.pair (.sl tApi_Event) (.pair (.int .i64) (.pair (.mp 1000002 (.pair (.int .i64) (.pair (.pair .str (.pair .bool .unit)) .unit)) .bool) .unit)), x.2.1⟩, some ⟨.pt 1000000 tLinear_search [], x.2.2.1⟩, some ⟨.map (.pair (.int .i64) (.pair (.pair .str (.pair .bool .unit)) .unit)) .bool, x.2.2.2⟩], []⟩
def brn (w : Bool × X) : Brn Res := .one w.1 (res w.2)
theorem brn_res (w : Bool × X) : (brn w).res = (w.1, res w.2) := rfl
abbrev sh0 : List (Nat × Sh) := [(1, .p (.int .i64)), (2, .clo 132 [(1000001, .ref tLinear_search)]), (6, .p .bool), (12, .p (.sl tApi_Event)), (13, .p (.int .i64)), (14, .p (.int .i64))]
abbrev bx0 : List (Nat × Ty) := [(1000000, .pair (.sl tApi_Event) (.pair (.int .i64) (.pair (.mp 1000002 (.pair (.int .i64) (.pair (.pair .str (.pair .bool .unit)) .unit)) .bool) .unit))), (1000001, .pt 1000000 tLinear_search []), (1000002, .map (.pair (.int .i64) (.pair (.pair .str (.pair .bool .unit)) .unit)) .bool)]
abbrev ord0 : List (Nat × Ty) := [(1000001, .pt 1000000 tLinear_search []), (1000000, .pair (.sl tApi_Event) (.pair (.int .i64) (.pair (.mp 1000002 (.pair (.int .i64) (.pair (.pair .str (.pair .bool .unit)) .unit)) .bool) .unit))), (1000002, .map (.pair (.int .i64) (.pair (.pair .str (.pair .bool .unit)) .unit)) .bool)]
abbrev shR0 : List (Nat × Sh) := [(6, .p .bool)]
abbrev bxR0 : List (Nat × Ty) := [(1000000, .pair (.sl tApi_Event) (.pair (.int .i64) (.pair (.mp 1000002 (.pair (.int .i64) (.pair (.pair .str (.pair .bool .unit)) .unit)) .bool) .unit))), (1000001, .pt 1000000 tLinear_search []), (1000002, .map (.pair (.int .i64) (.pair (.pair .str (.pair .bool .unit)) .unit)) .bool)]
abbrev ordR0 : List (Nat × Ty) := [(1000001, .pt 1000000 tLinear_search []), (1000000, .pair (.sl tApi_Event) (.pair (.int .i64) (.pair (.mp 1000002 (.pair (.int .i64) (.pair (.pair .str (.pair .bool .unit)) .unit)) .bool) .unit))), (1000002, .map (.pair (.int .i64) (.pair (.pair .str (.pair .bool .unit)) .unit)) .bool)]
abbrev X0 : Type := Int × Unit × Bool × (List Api_Event) × Int × Int × Unit
abbrev Y0 : Type := ((List Api_Event) × (Int × (Unit × Unit))) × Unit × (List ((Int × ((ByteArray × (Bool × Unit)) × Unit)) × Bool)) × Unit
abbrev U0 : Type := Bool × Unit
abbrev V0 : Type := ((List Api_Event) × (Int × (Unit × Unit))) × Unit × (List ((Int × ((ByteArray × (Bool × Unit)) × Unit)) × Bool)) × Unit
def g0 {Z : Type} (rq : Bool → Z → Z) (kn : X0 → Y0 → Z) (ke : Nat → X0 → Y0 → Z) (kr : U0 → V0 → Z) (x : X0) (y : Y0) : Z :=
  lt ((ilt x.2.2.2.2.2.1 x.2.2.2.2.1)) fun (v504 : Bool) =>
  bif v504 then
    lt ((x.2.2.2.1.getD x.2.2.2.2.2.1.toNat zApi_Event)) fun (v505 : Api_Event) =>
    rq (ile (0 : Int) x.2.2.2.2.2.1 && ilt x.2.2.2.2.2.1 (x.2.2.2.1.length : Int)) <|
    lt (x.1.fdiv (2 ^ (min x.2.2.2.2.2.1.toNat 64))) fun (v506 : Int) =>
    rq (!ilt x.2.2.2.2.2.1 0) <|
    lt (ibits .i64 (· &&& ·) v506 (1 : Int)) fun (v507 : Int) =>
    lt ((v507 == 0)) fun (v508 : Bool) =>
    bif v508 then
      lt (History_Must.r v505) fun w509 =>
      rq w509.1 <|
      bif w509.2 then
        lt (Linear_search_next_1.r v505 y.2.1 y.1 y.2.2.1) fun w511 =>
        rq w511.1 <|
        bif w511.2.1 then
          kr (true, ()) (w511.2.2.2.1, w511.2.2.1, w511.2.2.2.2, ())
        else
          lt (IntKind.i64.wrap (x.2.2.2.2.2.1 + 1)) fun (v512 : Int) =>
          kn (x.1, (), x.2.2.1, x.2.2.2.1, x.2.2.2.2.1, v512, ()) (w511.2.2.2.1, w511.2.2.1, w511.2.2.2.2, ())
      else
        lt (IntKind.i64.wrap (x.2.2.2.2.2.1 + 1)) fun (v513 : Int) =>
        kn (x.1, (), x.2.2.1, x.2.2.2.1, x.2.2.2.2.1, v513, ()) (y.1, y.2.1, y.2.2.1, ())
    else
      lt (IntKind.i64.wrap (x.2.2.2.2.2.1 + 1)) fun (v514 : Int) =>
      kn (x.1, (), x.2.2.1, x.2.2.2.1, x.2.2.2.2.1, v514, ()) (y.1, y.2.1, y.2.2.1, ())
  else
    ke 0 (x.1, (), x.2.2.1, x.2.2.2.1, x.2.2.2.2.1, x.2.2.2.2.2.1, ()) (y.1, y.2.1, y.2.2.1, ())

def fu0 (x : X0) (y : Y0) : Nat := (x.2.2.2.2.1 - x.2.2.2.2.2.1).toNat + 1
def l0 (x : X0) (y : Y0) : Bool × Nat × X0 × Y0 × U0 × V0 := rounds (fun rq kn ke kr x y => g0 rq kn ke kr x y) (false, ()) (([], (0, ((), ()))), (), [], ()) (fu0 x y) x y
def g {Z : Type} (rq : Bool → Z → Z) (rt : X → Z) (placed : Int) (b : ((List Api_Event) × (Int × (Unit × Unit)))) (bx : Unit) (bx1 : (List ((Int × ((ByteArray × (Bool × Unit)) × Unit)) × Bool))) : Z :=
  lt ((b.1.length : Int)) fun (v502 : Int) =>
  lt (Linear_search_open_v2.l0 (placed, (), false, b.1, v502, 0, ()) (b, bx, bx1, ())) fun w515 =>
  rq w515.1 <|
  bif Nat.beq w515.2.1 0 then
    rt (w515.2.2.2.2.1.1, w515.2.2.2.2.2.1, w515.2.2.2.2.2.2.1, w515.2.2.2.2.2.2.2.1)
  else
    rt (false, w515.2.2.2.1.1, w515.2.2.2.1.2.1, w515.2.2.2.1.2.2.1)

def r (placed : Int) (b : ((List Api_Event) × (Int × (Unit × Unit)))) (bx : Unit) (bx1 : (List ((Int × ((ByteArray × (Bool × Unit)) × Unit)) × Bool))) : Bool × X := g chk (fun x => (true, x)) placed b bx bx1
noncomputable def D : CallD := Dof (P := Try.prog) [History_Must.ent, Linear_search_next_1.ent]
noncomputable def tab : List (Nat × LE Res) := [(3, .typed (loopT 34 sh0 bx0 ord0 shR0 bxR0 (loopF' [0, 1] (rounds (fun rq kn ke kr x y => g0 rq kn ke kr x y) (false, ()) (([], (0, ((), ()))), (), [], ())) fu0)))]
set_option maxRecDepth 100000 in
theorem run (placed : Int) (b : ((List Api_Event) × (Int × (Unit × Unit)))) (bx : Unit) (bx1 : (List ((Int × ((ByteArray × (Bool × Unit)) × Unit)) × Bool))) : enterK E0 [true] D (loopX E0 D tab 9) Try.f114 (codeOf Try.f114) [.pb 1000000 tLinear_search [], .val ⟨.int .i64, placed⟩, .clo 132 [.pb 1000001 (.ref tLinear_search) []]] [⟨.pair (.sl tApi_Event) (.pair (.int .i64) (.pair (.mp 1000002 (.pair (.int .i64) (.pair (.pair .str (.pair .bool .unit)) .unit)) .bool) .unit)), b⟩, ⟨.pt 1000000 tLinear_search [], bx⟩, ⟨.map (.pair (.int .i64) (.pair (.pair .str (.pair .bool .unit)) .unit)) .bool, bx1⟩] = g (fun c z => req c z) (fun x => some (res x)) placed b bx bx1 := by kernel_rfl
theorem rel (placed : Int) (b : ((List Api_Event) × (Int × (Unit × Unit)))) (bx : Unit) (bx1 : (List ((Int × ((ByteArray × (Bool × Unit)) × Unit)) × Bool))) : J (fun w z => z = some (res w)) (g chk (fun x => (true, x)) placed b bx bx1) (g (fun c z => req c z) (fun x => some (res x)) placed b bx bx1) := by
  unfold g
  with_reducible repeat (first | (apply J.lt; intro _) | apply J.rq | apply J.bif | exact J.rt rfl)
set_option maxRecDepth 100000 in
theorem round0 (x : ShX sh0) (y : BxX bx0) (kn : ShX sh0 → BxX bx0 → Option Res) (ke : Nat → ShX sh0 → BxX bx0 → Option Res) (kr : ShX shR0 → BxX bxR0 → Option Res) : codeK E0 D (loopX E0 D tab 8) (nthLoop (codeOf Try.f114) 0) (inj 34 sh0 bx0 x y) (roundK sh0 bx0 ord0 shR0 bxR0 ordR0 kn ke kr) = g0 (fun c z => req c z) kn ke kr x y := by kernel_rfl
theorem told0 : Nonempty (Told E0 D tab Try.f114.ntmps (nthLoop (codeOf Try.f114) 0) 34 sh0 bx0 ord0 shR0 bxR0 (loopF' [0, 1] (rounds (fun rq kn ke kr x y => g0 rq kn ke kr x y) (false, ()) (([], (0, ((), ()))), (), [], ())) fu0)) :=
  told_of (sh := sh0) (bx := bx0) (ord := ord0) (shR := shR0) (bxR := bxR0) ordR0 8 (by kernel_rfl) (by kernel_rfl) (by kernel_rfl) [0, 1] fu0 (false, ()) (([], (0, ((), ()))), (), [], ()) (fun rq kn ke kr x y => g0 rq kn ke kr x y) (fun rq kn ke kr x y => g0 rq kn ke kr x y) (round0) (by
    intro φ kn1 kn2 ke1 ke2 kr1 kr2 h1 h2 h3 x y
    simp only [g0]
    with_reducible repeat (first | (apply J.lt; intro _) | apply J.rq | apply J.bif | exact h1 _ _ | exact h2 _ (by decide) _ _ | exact h3 (by decide) _ _))
theorem tabOK : TabOK E0 D tab Try.f114.ntmps (codeOf Try.f114) := tabOK_of (bs := [nthLoop (codeOf Try.f114) 0]) (by kernel_rfl) (allTold_cons (typedAt (by kernel_rfl) (told0)) allTold_nil)
theorem ok : fnOK Try.f114 = true := by kernel_rfl
abbrev aS : List AS := [.one (.pb 1000000 tLinear_search []), .one (.val (.int .i64)), .clo 132 [.pb 1000001 (.ref tLinear_search) []]]
abbrev bS : List Ty := [.pair (.sl tApi_Event) (.pair (.int .i64) (.pair (.mp 1000002 (.pair (.int .i64) (.pair (.pair .str (.pair .bool .unit)) .unit)) .bool) .unit)), .pt 1000000 tLinear_search [], .map (.pair (.int .i64) (.pair (.pair .str (.pair .bool .unit)) .unit)) .bool]
def F (x : ASs aS) (y : Bs bS) : Brn Res := brn (r x.2.1 y.1 y.2.1 y.2.2.1)
theorem good (x : ASs aS) (y : Bs bS) (h : (F x y).res.1 = true) : Good Try.prog 114 (ASs.mk aS x) (Bs.mk bS y) (F x y).res.2 :=
  good_run hE0 (Dof_sound _) Try.func114 ok tabOK brn_res (run x.2.1 y.1 y.2.1 y.2.2.1) (rel x.2.1 y.1 y.2.1 y.2.2.1) h
noncomputable def ent : Ent Try.prog := ⟨114, shF aS bS F, shF_good good⟩
end Linear_search_open_v2

/-! (*sacristy/linear.search).next -/
namespace Linear_search_next
abbrev X : Type := (ByteArray × (Bool × Unit)) × Bool × ((List Api_Event) × (Int × (Unit × Unit))) × (List ((Int × ((ByteArray × (Bool × Unit)) × Unit)) × Bool))
def res (x : (ByteArray × (Bool × Unit)) × Bool × ((List Api_Event) × (Int × (Unit × Unit))) × (List ((Int × ((ByteArray × (Bool × Unit)) × Unit)) × Bool))) : Res := ⟨[.val ⟨.pair .str (.pair .bool .unit), x.1⟩, .val ⟨.bool, x.2.1⟩], [some ⟨.pair (.sl tApi_Event) (.pair (.int .i64) (.pair (.mp 1000001 (.pair (.int .i64) (.pair (.pair .str (.pair .bool .unit)) .unit)) .bool) .unit)), x.2.2.1⟩, some ⟨.map (.pair (.int .i64) (.pair (.pair .str (.pair .bool .unit)) .unit)) .bool, x.2.2.2⟩], []⟩
def brn (w : Bool × X) : Brn Res := .one w.1 (res w.2)
theorem brn_res (w : Bool × X) : (brn w).res = (w.1, res w.2) := rfl
def g {Z : Type} (rq : Bool → Z → Z) (rt : X → Z) (xx : (Int × ((ByteArray × (Bool × Unit)) × Unit))) (e : Api_Event) (b : ((List Api_Event) × (Int × (Unit × Unit)))) (bx : (List ((Int × ((ByteArray × (Bool × Unit)) × Unit)) × Bool))) : Z :=
  lt ((e.2.1 == 1)) fun (v498 : Bool) =>
  bif v498 then
    rt ((e.2.2.2.1, (true, ())), true, b, bx)
  else
    lt ((e.2.1 == 2)) fun (v499 : Bool) =>
    bif v499 then
      rt (((⟨#[]⟩ : ByteArray), (false, ())), true, b, bx)
    else
      lt ((b.2.1 == 0)) fun (v500 : Bool) =>
      bif v500 then
        lt (((e.2.2.2.2.2.2.1.2.2.1 == xx.2.1.1) && ((e.2.2.2.2.2.2.1.2.2.2.1 == xx.2.1.2.1) && true))) fun (v501 : Bool) =>
        bif v501 then
          rt ((e.2.2.2.2.2.2.1.2.2.1, (e.2.2.2.2.2.2.1.2.2.2.1, ())), true, b, bx)
        else
          rt ((e.2.2.2.2.2.2.1.2.2.1, (e.2.2.2.2.2.2.1.2.2.2.1, ())), false, b, bx)
      else
        lt (Linear_search_open_v2.r xx.1 b () bx) fun w516 =>
        rq w516.1 <|
        lt (((e.2.2.2.2.2.2.1.2.2.1 == xx.2.1.1) && ((e.2.2.2.2.2.2.1.2.2.2.1 == xx.2.1.2.1) && true))) fun (v517 : Bool) =>
        bif v517 then
          rt ((e.2.2.2.2.2.2.1.2.2.1, (e.2.2.2.2.2.2.1.2.2.2.1, ())), true, w516.2.2.1, w516.2.2.2.2)
        else
          lt ((!w516.2.1)) fun (v518 : Bool) =>
          rt ((e.2.2.2.2.2.2.1.2.2.1, (e.2.2.2.2.2.2.1.2.2.2.1, ())), v518, w516.2.2.1, w516.2.2.2.2)

def r (xx : (Int × ((ByteArray × (Bool × Unit)) × Unit))) (e : Api_Event) (b : ((List Api_Event) × (Int × (Unit × Unit)))) (bx : (List ((Int × ((ByteArray × (Bool × Unit)) × Unit)) × Bool))) : Bool × X := g chk (fun x => (true, x)) xx e b bx
noncomputable def D : CallD := Dof (P := Try.prog) [Linear_search_open_v2.ent]
noncomputable def tab : List (Nat × LE Res) := []
set_option maxRecDepth 100000 in
theorem run (xx : (Int × ((ByteArray × (Bool × Unit)) × Unit))) (e : Api_Event) (b : ((List Api_Event) × (Int × (Unit × Unit)))) (bx : (List ((Int × ((ByteArray × (Bool × Unit)) × Unit)) × Bool))) : enterK E0 [true, true] D (loopX E0 D tab 9) Try.f117 (codeOf Try.f117) [.pb 1000000 tLinear_search [], .val ⟨.pair (.int .i64) (.pair (.pair .str (.pair .bool .unit)) .unit), xx⟩, .val ⟨tApi_Event, e⟩] [⟨.pair (.sl tApi_Event) (.pair (.int .i64) (.pair (.mp 1000001 (.pair (.int .i64) (.pair (.pair .str (.pair .bool .unit)) .unit)) .bool) .unit)), b⟩, ⟨.map (.pair (.int .i64) (.pair (.pair .str (.pair .bool .unit)) .unit)) .bool, bx⟩] = g (fun c z => req c z) (fun x => some (res x)) xx e b bx := by kernel_rfl
theorem rel (xx : (Int × ((ByteArray × (Bool × Unit)) × Unit))) (e : Api_Event) (b : ((List Api_Event) × (Int × (Unit × Unit)))) (bx : (List ((Int × ((ByteArray × (Bool × Unit)) × Unit)) × Bool))) : J (fun w z => z = some (res w)) (g chk (fun x => (true, x)) xx e b bx) (g (fun c z => req c z) (fun x => some (res x)) xx e b bx) := by
  unfold g
  with_reducible repeat (first | (apply J.lt; intro _) | apply J.rq | apply J.bif | exact J.rt rfl)
theorem ok : fnOK Try.f117 = true := by kernel_rfl
abbrev aS : List AS := [.one (.pb 1000000 tLinear_search []), .one (.val (.pair (.int .i64) (.pair (.pair .str (.pair .bool .unit)) .unit))), .one (.val tApi_Event)]
abbrev bS : List Ty := [.pair (.sl tApi_Event) (.pair (.int .i64) (.pair (.mp 1000001 (.pair (.int .i64) (.pair (.pair .str (.pair .bool .unit)) .unit)) .bool) .unit)), .map (.pair (.int .i64) (.pair (.pair .str (.pair .bool .unit)) .unit)) .bool]
def F (x : ASs aS) (y : Bs bS) : Brn Res := brn (r x.2.1 x.2.2.1 y.1 y.2.1)
theorem good (x : ASs aS) (y : Bs bS) (h : (F x y).res.1 = true) : Good Try.prog 117 (ASs.mk aS x) (Bs.mk bS y) (F x y).res.2 :=
  good_run hE0 (Dof_sound _) Try.func117 ok tabOK_nil brn_res (run x.2.1 x.2.2.1 y.1 y.2.1) (rel x.2.1 x.2.2.1 y.1 y.2.1) h
noncomputable def ent : Ent Try.prog := ⟨117, shF aS bS F, shF_good good⟩
end Linear_search_next
end Go.Own
