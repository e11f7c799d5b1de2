/- What functions compute, printed by wip/gen/gen2.py. -/
import Derived.Test.YtipheoipbjakfaaG3
set_option linter.unusedVariables false
set_option linter.unusedSimpArgs false
namespace Go.Own
open Go.Proofs Go.Proofs.Ytipheoipbjakfaa

/-! (*sacristy/linear.search).goes -/
namespace Linear_search_goes
abbrev X : Type := Bool × ((List Api_Event) × (Int × (Unit × Unit))) × (List ((Int × ((ByteArray × (Bool × Unit)) × Unit)) × Bool))
def res (x : Bool × ((List Api_Event) × (Int × (Unit × Unit))) × (List ((Int × ((ByteArray × (Bool × Unit)) × Unit)) × Bool))) : Res := ⟨[.val ⟨.bool, x.1⟩], [some ⟨.pair (.sl tApi_Event) (.pair (.int .i64) (.pair (.mp 1000001 (.pair (.int .i64) (.pair (.pair .str (.pair .bool .unit)) .unit)) .bool) .unit)), x.2.1⟩, some ⟨.map (.pair (.int .i64) (.pair (.pair .str (.pair .bool .unit)) .unit)) .bool, x.2.2⟩], []⟩
def brn (w : Bool × X) : Brn Res := .one w.1 (res w.2)
theorem brn_res (w : Bool × X) : (brn w).res = (w.1, res w.2) := rfl
abbrev sh0 : List (Nat × Sh) := [(0, .pb 1000000 tLinear_search []), (3, .pb 500000 (.pair (.int .i64) (.pair (.pair .str (.pair .bool .unit)) .unit)) []), (4, .p .bool), (28, .p (.sl tApi_Event)), (29, .p (.int .i64)), (30, .p (.int .i64))]
abbrev bx0 : List (Nat × Ty) := [(500000, .pair (.int .i64) (.pair (.pair .str (.pair .bool .unit)) .unit)), (1000000, .pair (.sl tApi_Event) (.pair (.int .i64) (.pair (.mp 1000001 (.pair (.int .i64) (.pair (.pair .str (.pair .bool .unit)) .unit)) .bool) .unit))), (1000001, .map (.pair (.int .i64) (.pair (.pair .str (.pair .bool .unit)) .unit)) .bool)]
abbrev ord0 : List (Nat × Ty) := [(500000, .pair (.int .i64) (.pair (.pair .str (.pair .bool .unit)) .unit)), (1000000, .pair (.sl tApi_Event) (.pair (.int .i64) (.pair (.mp 1000001 (.pair (.int .i64) (.pair (.pair .str (.pair .bool .unit)) .unit)) .bool) .unit))), (1000001, .map (.pair (.int .i64) (.pair (.pair .str (.pair .bool .unit)) .unit)) .bool)]
abbrev shR0 : List (Nat × Sh) := [(4, .p .bool)]
abbrev bxR0 : List (Nat × Ty) := [(1000000, .pair (.sl tApi_Event) (.pair (.int .i64) (.pair (.mp 1000001 (.pair (.int .i64) (.pair (.pair .str (.pair .bool .unit)) .unit)) .bool) .unit))), (1000001, .map (.pair (.int .i64) (.pair (.pair .str (.pair .bool .unit)) .unit)) .bool)]
abbrev ordR0 : List (Nat × Ty) := [(1000000, .pair (.sl tApi_Event) (.pair (.int .i64) (.pair (.mp 1000001 (.pair (.int .i64) (.pair (.pair .str (.pair .bool .unit)) .unit)) .bool) .unit))), (1000001, .map (.pair (.int .i64) (.pair (.pair .str (.pair .bool .unit)) .unit)) .bool)]
abbrev X0 : Type := Unit × Unit × Bool × (List Api_Event) × Int × Int × Unit
abbrev Y0 : Type := (Int × ((ByteArray × (Bool × Unit)) × Unit)) × ((List Api_Event) × (Int × (Unit × Unit))) × (List ((Int × ((ByteArray × (Bool × Unit)) × Unit)) × Bool)) × Unit
abbrev U0 : Type := Bool × Unit
abbrev V0 : Type := ((List Api_Event) × (Int × (Unit × Unit))) × (List ((Int × ((ByteArray × (Bool × Unit)) × Unit)) × Bool)) × Unit
def g0 {Z : Type} (rr : (Int × ((ByteArray × (Bool × Unit)) × Unit)) → ((List Api_Event) × (Int × (Unit × Unit))) → (List ((Int × ((ByteArray × (Bool × Unit)) × Unit)) × Bool)) → Bool × X) (rq : Bool → Z → Z) (kn : X0 → Y0 → Z) (ke : Nat → X0 → Y0 → Z) (kr : U0 → V0 → Z) (x : X0) (y : Y0) : Z :=
  lt ((ilt x.2.2.2.2.2.1 x.2.2.2.2.1)) fun (v530 : Bool) =>
  bif v530 then
    lt ((x.2.2.2.1.getD x.2.2.2.2.2.1.toNat zApi_Event)) fun (v531 : Api_Event) =>
    rq (ile (0 : Int) x.2.2.2.2.2.1 && ilt x.2.2.2.2.2.1 (x.2.2.2.1.length : Int)) <|
    lt (y.1.1.fdiv (2 ^ (min x.2.2.2.2.2.1.toNat 64))) fun (v532 : Int) =>
    rq (!ilt x.2.2.2.2.2.1 0) <|
    lt (ibits .i64 (· &&& ·) v532 (1 : Int)) fun (v533 : Int) =>
    lt ((v533 == 1)) fun (v534 : Bool) =>
    bif v534 then
      lt (IntKind.i64.wrap (x.2.2.2.2.2.1 + 1)) fun (v535 : Int) =>
      kn ((), (), x.2.2.1, x.2.2.2.1, x.2.2.2.2.1, v535, ()) (y.1, y.2.1, y.2.2.1, ())
    else
      lt (Linear_search_open_v1.r y.1.1 y.2.1 v531 y.2.2.1) fun w536 =>
      rq w536.1 <|
      bif w536.2.1 then
        lt (IntKind.i64.wrap (x.2.2.2.2.2.1 + 1)) fun (v537 : Int) =>
        kn ((), (), x.2.2.1, x.2.2.2.1, x.2.2.2.2.1, v537, ()) (y.1, w536.2.2.1, w536.2.2.2.2, ())
      else
        lt (Linear_search_next.r y.1 w536.2.2.2.1 w536.2.2.1 w536.2.2.2.2) fun w538 =>
        rq w538.1 <|
        bif w538.2.2.1 then
          lt (IntKind.i64.wrap ((1 : Int) * 2 ^ (min x.2.2.2.2.2.1.toNat 64))) fun (v539 : Int) =>
          rq (!ilt x.2.2.2.2.2.1 0) <|
          lt (ibits .i64 (· ||| ·) y.1.1 v539) fun (v540 : Int) =>
          lt (rr (v540, (w538.2.1, ())) w538.2.2.2.1 w538.2.2.2.2) fun w541 =>
          rq w541.1 <|
          bif w541.2.1 then
            kr (true, ()) (w541.2.2.1, w541.2.2.2, ())
          else
            lt (IntKind.i64.wrap (x.2.2.2.2.2.1 + 1)) fun (v542 : Int) =>
            kn ((), (), x.2.2.1, x.2.2.2.1, x.2.2.2.2.1, v542, ()) (y.1, w541.2.2.1, w541.2.2.2, ())
        else
          lt (IntKind.i64.wrap (x.2.2.2.2.2.1 + 1)) fun (v543 : Int) =>
          kn ((), (), x.2.2.1, x.2.2.2.1, x.2.2.2.2.1, v543, ()) (y.1, w538.2.2.2.1, w538.2.2.2.2, ())
  else
    ke 0 ((), (), x.2.2.1, x.2.2.2.1, x.2.2.2.2.1, x.2.2.2.2.2.1, ()) (y.1, y.2.1, y.2.2.1, ())

def fu0 (x : X0) (y : Y0) : Nat := (x.2.2.2.2.1 - x.2.2.2.2.2.1).toNat + 1
def l0 (rr : (Int × ((ByteArray × (Bool × Unit)) × Unit)) → ((List Api_Event) × (Int × (Unit × Unit))) → (List ((Int × ((ByteArray × (Bool × Unit)) × Unit)) × Bool)) → Bool × X) (x : X0) (y : Y0) : Bool × Nat × X0 × Y0 × U0 × V0 := rounds (fun rq kn ke kr x y => g0 rr rq kn ke kr x y) (false, ()) (([], (0, ((), ()))), [], ()) (fu0 x y) x y
def g {Z : Type} (rr : (Int × ((ByteArray × (Bool × Unit)) × Unit)) → ((List Api_Event) × (Int × (Unit × Unit))) → (List ((Int × ((ByteArray × (Bool × Unit)) × Unit)) × Bool)) → Bool × X) (rq : Bool → Z → Z) (rt : X → Z) (xx : (Int × ((ByteArray × (Bool × Unit)) × Unit))) (b : ((List Api_Event) × (Int × (Unit × Unit)))) (bx : (List ((Int × ((ByteArray × (Bool × Unit)) × Unit)) × Bool))) : Z :=
  lt (Linear_search_open.r xx.1 b bx) fun w524 =>
  rq w524.1 <|
  lt ((!w524.2.1)) fun (v525 : Bool) =>
  bif v525 then
    rt (true, w524.2.2.1, w524.2.2.2)
  else
    lt (mapGet (.pair (.int .i64) (.pair (.pair .str (.pair .bool .unit)) .unit)) .bool xx w524.2.2.2) fun (m526 : Option Bool) =>
    lt ((m526.getD false)) fun (v527 : Bool) =>
    bif v527 then
      rt (false, w524.2.2.1, w524.2.2.2)
    else
      lt (mapSet (.pair (.int .i64) (.pair (.pair .str (.pair .bool .unit)) .unit)) .bool xx true w524.2.2.2) fun (v528 : (List ((Int × ((ByteArray × (Bool × Unit)) × Unit)) × Bool))) =>
      lt ((w524.2.2.1.1.length : Int)) fun (v529 : Int) =>
      lt (Linear_search_goes.l0 rr ((), (), false, w524.2.2.1.1, v529, 0, ()) (xx, w524.2.2.1, v528, ())) fun w544 =>
      rq w544.1 <|
      bif Nat.beq w544.2.1 0 then
        rt (w544.2.2.2.2.1.1, w544.2.2.2.2.2.1, w544.2.2.2.2.2.2.1)
      else
        rt (false, w544.2.2.2.1.2.1, w544.2.2.2.1.2.2.1)

def rN : Nat → (Int × ((ByteArray × (Bool × Unit)) × Unit)) → ((List Api_Event) × (Int × (Unit × Unit))) → (List ((Int × ((ByteArray × (Bool × Unit)) × Unit)) × Bool)) → Bool × X
  | 0, _, _, _ => (false, (false, ([], (0, ((), ()))), []))
  | n + 1, xx, b, bx => g (rN n) chk (fun x => (true, x)) xx b bx
def r (xx : (Int × ((ByteArray × (Bool × Unit)) × Unit))) (b : ((List Api_Event) × (Int × (Unit × Unit)))) (bx : (List ((Int × ((ByteArray × (Bool × Unit)) × Unit)) × Bool))) : Bool × X := rN bigFuel xx b bx
abbrev aS : List AS := [.one (.pb 1000000 tLinear_search []), .one (.val (.pair (.int .i64) (.pair (.pair .str (.pair .bool .unit)) .unit)))]
abbrev bS : List Ty := [.pair (.sl tApi_Event) (.pair (.int .i64) (.pair (.mp 1000001 (.pair (.int .i64) (.pair (.pair .str (.pair .bool .unit)) .unit)) .bool) .unit)), .map (.pair (.int .i64) (.pair (.pair .str (.pair .bool .unit)) .unit)) .bool]
noncomputable def D (rr : (Int × ((ByteArray × (Bool × Unit)) × Unit)) → ((List Api_Event) × (Int × (Unit × Unit))) → (List ((Int × ((ByteArray × (Bool × Unit)) × Unit)) × Bool)) → Bool × X) (hr : ∀ (x : ASs aS) (y : Bs bS), (brn (rr x.2.1 y.1 y.2.1)).res.1 = true → Good Try.prog 100 (ASs.mk aS x) (Bs.mk bS y) (brn (rr x.2.1 y.1 y.2.1)).res.2) : CallD := Dof (P := Try.prog) [orEnt Linear_search_open.ent (Linear_search_open_v1.ent) rfl, Linear_search_next.ent, (⟨100, shF aS bS (fun x y => brn (rr x.2.1 y.1 y.2.1)), shF_good hr⟩ : Ent Try.prog)]
noncomputable def tab (rr : (Int × ((ByteArray × (Bool × Unit)) × Unit)) → ((List Api_Event) × (Int × (Unit × Unit))) → (List ((Int × ((ByteArray × (Bool × Unit)) × Unit)) × Bool)) → Bool × X) : List (Nat × LE Res) := [(8, .typed (loopT 68 sh0 bx0 ord0 shR0 bxR0 (loopF' [0, 1] (rounds (fun rq kn ke kr x y => g0 rr rq kn ke kr x y) (false, ()) (([], (0, ((), ()))), [], ())) fu0)))]
set_option maxRecDepth 100000 in
theorem run (rr : (Int × ((ByteArray × (Bool × Unit)) × Unit)) → ((List Api_Event) × (Int × (Unit × Unit))) → (List ((Int × ((ByteArray × (Bool × Unit)) × Unit)) × Bool)) → Bool × X) (hr : ∀ (x : ASs aS) (y : Bs bS), (brn (rr x.2.1 y.1 y.2.1)).res.1 = true → Good Try.prog 100 (ASs.mk aS x) (Bs.mk bS y) (brn (rr x.2.1 y.1 y.2.1)).res.2) (xx : (Int × ((ByteArray × (Bool × Unit)) × Unit))) (b : ((List Api_Event) × (Int × (Unit × Unit)))) (bx : (List ((Int × ((ByteArray × (Bool × Unit)) × Unit)) × Bool))) : enterK E0 [true] (D rr hr) (loopX E0 (D rr hr) (tab rr) 9) Try.f100 (codeOf Try.f100) [.pb 1000000 tLinear_search [], .val ⟨.pair (.int .i64) (.pair (.pair .str (.pair .bool .unit)) .unit), xx⟩] [⟨.pair (.sl tApi_Event) (.pair (.int .i64) (.pair (.mp 1000001 (.pair (.int .i64) (.pair (.pair .str (.pair .bool .unit)) .unit)) .bool) .unit)), b⟩, ⟨.map (.pair (.int .i64) (.pair (.pair .str (.pair .bool .unit)) .unit)) .bool, bx⟩] = g rr (fun c z => req c z) (fun x => some (res x)) xx b bx := by kernel_rfl
theorem rel (rr : (Int × ((ByteArray × (Bool × Unit)) × Unit)) → ((List Api_Event) × (Int × (Unit × Unit))) → (List ((Int × ((ByteArray × (Bool × Unit)) × Unit)) × Bool)) → Bool × X) (xx : (Int × ((ByteArray × (Bool × Unit)) × Unit))) (b : ((List Api_Event) × (Int × (Unit × Unit)))) (bx : (List ((Int × ((ByteArray × (Bool × Unit)) × Unit)) × Bool))) : J (fun w z => z = some (res w)) (g rr chk (fun x => (true, x)) xx b bx) (g rr (fun c z => req c z) (fun x => some (res x)) xx b bx) := by
  unfold g
  with_reducible repeat (first | (apply J.lt; intro _) | apply J.rq | apply J.bif | exact J.rt rfl)
set_option maxRecDepth 100000 in
theorem round0 (rr : (Int × ((ByteArray × (Bool × Unit)) × Unit)) → ((List Api_Event) × (Int × (Unit × Unit))) → (List ((Int × ((ByteArray × (Bool × Unit)) × Unit)) × Bool)) → Bool × X) (hr : ∀ (x : ASs aS) (y : Bs bS), (brn (rr x.2.1 y.1 y.2.1)).res.1 = true → Good Try.prog 100 (ASs.mk aS x) (Bs.mk bS y) (brn (rr x.2.1 y.1 y.2.1)).res.2) (x : ShX sh0) (y : BxX bx0) (kn : ShX sh0 → BxX bx0 → Option Res) (ke : Nat → ShX sh0 → BxX bx0 → Option Res) (kr : ShX shR0 → BxX bxR0 → Option Res) : codeK E0 (D rr hr) (loopX E0 (D rr hr) (tab rr) 8) (nthLoop (codeOf Try.f100) 0) (inj 68 sh0 bx0 x y) (roundK sh0 bx0 ord0 shR0 bxR0 ordR0 kn ke kr) = g0 rr (fun c z => req c z) kn ke kr x y := by kernel_rfl
theorem told0 (rr : (Int × ((ByteArray × (Bool × Unit)) × Unit)) → ((List Api_Event) × (Int × (Unit × Unit))) → (List ((Int × ((ByteArray × (Bool × Unit)) × Unit)) × Bool)) → Bool × X) (hr : ∀ (x : ASs aS) (y : Bs bS), (brn (rr x.2.1 y.1 y.2.1)).res.1 = true → Good Try.prog 100 (ASs.mk aS x) (Bs.mk bS y) (brn (rr x.2.1 y.1 y.2.1)).res.2) : Nonempty (Told E0 (D rr hr) (tab rr) Try.f100.ntmps (nthLoop (codeOf Try.f100) 0) 68 sh0 bx0 ord0 shR0 bxR0 (loopF' [0, 1] (rounds (fun rq kn ke kr x y => g0 rr rq kn ke kr x y) (false, ()) (([], (0, ((), ()))), [], ())) fu0)) :=
  told_of (sh := sh0) (bx := bx0) (ord := ord0) (shR := shR0) (bxR := bxR0) ordR0 8 (by kernel_rfl) (by kernel_rfl) (by kernel_rfl) [0, 1] fu0 (false, ()) (([], (0, ((), ()))), [], ()) (fun rq kn ke kr x y => g0 rr rq kn ke kr x y) (fun rq kn ke kr x y => g0 rr rq kn ke kr x y) (round0 rr hr) (by
    intro φ kn1 kn2 ke1 ke2 kr1 kr2 h1 h2 h3 x y
    simp only [g0]
    with_reducible repeat (first | (apply J.lt; intro _) | apply J.rq | apply J.bif | exact h1 _ _ | exact h2 _ (by decide) _ _ | exact h3 (by decide) _ _))
theorem tabOK (rr : (Int × ((ByteArray × (Bool × Unit)) × Unit)) → ((List Api_Event) × (Int × (Unit × Unit))) → (List ((Int × ((ByteArray × (Bool × Unit)) × Unit)) × Bool)) → Bool × X) (hr : ∀ (x : ASs aS) (y : Bs bS), (brn (rr x.2.1 y.1 y.2.1)).res.1 = true → Good Try.prog 100 (ASs.mk aS x) (Bs.mk bS y) (brn (rr x.2.1 y.1 y.2.1)).res.2) : TabOK E0 (D rr hr) (tab rr) Try.f100.ntmps (codeOf Try.f100) := tabOK_of (bs := [nthLoop (codeOf Try.f100) 0]) (by kernel_rfl) (allTold_cons (typedAt (by kernel_rfl) (told0 rr hr)) allTold_nil)
theorem ok : fnOK Try.f100 = true := by kernel_rfl
def FN (n : Nat) (x : ASs aS) (y : Bs bS) : Brn Res := brn (rN n x.2.1 y.1 y.2.1)
theorem goodN : ∀ (n : Nat) (x : ASs aS) (y : Bs bS), (FN n x y).res.1 = true → Good Try.prog 100 (ASs.mk aS x) (Bs.mk bS y) (FN n x y).res.2
  | 0, x, y, h => by
    have h1 : (brn (rN 0 x.2.1 y.1 y.2.1)).res.1 = true := h
    rw [brn_res] at h1; cases h1
  | n + 1, x, y, h => good_run hE0 (Dof_sound _) Try.func100 ok (tabOK (rN n) (goodN n)) brn_res (run (rN n) (goodN n) x.2.1 y.1 y.2.1) (rel (rN n) x.2.1 y.1 y.2.1) h
def F (x : ASs aS) (y : Bs bS) : Brn Res := FN bigFuel x y
theorem good (x : ASs aS) (y : Bs bS) (h : (F x y).res.1 = true) : Good Try.prog 100 (ASs.mk aS x) (Bs.mk bS y) (F x y).res.2 := goodN _ x y h
noncomputable def ent : Ent Try.prog := ⟨100, shF aS bS F, shF_good good⟩
end Linear_search_goes

/-! (*sacristy/linear.search).open -/
namespace Linear_search_open_v3
abbrev X : Type := Bool × (Unit × (Int × (Unit × Unit))) × (List ((Int × ((ByteArray × (Bool × Unit)) × Unit)) × Bool))
def res (x : Bool × (Unit × (Int × (Unit × Unit))) × (List ((Int × ((ByteArray × (Bool × Unit)) × Unit)) × Bool))) : Res := ⟨[.val ⟨.bool, x.1⟩], [some ⟨.pair (.nsl tApi_Event) (.pair (.int .i64) (.pair (.mp 1000001 (.pair (.int .i64) (.pair (.pair .str (.pair .bool .unit)) .unit)) .bool) .unit)), x.2.1⟩, some ⟨.map (.pair (.int .i64) (.pair (.pair .str (.pair .bool .unit)) .unit)) .bool, x.2.2⟩], []⟩
def brn (w : Bool × X) : Brn Res := .one w.1 (res w.2)
theorem brn_res (w : Bool × X) : (brn w).res = (w.1, res w.2) := rfl
def g {Z : Type} (rq : Bool → Z → Z) (rt : X → Z) (placed : Int) (b : (Unit × (Int × (Unit × Unit)))) (bx : (List ((Int × ((ByteArray × (Bool × Unit)) × Unit)) × Bool))) : Z :=
  rt (false, b, bx)

def r (placed : Int) (b : (Unit × (Int × (Unit × Unit)))) (bx : (List ((Int × ((ByteArray × (Bool × Unit)) × Unit)) × Bool))) : Bool × X := g chk (fun x => (true, x)) placed b bx
noncomputable def D : CallD := Dof (P := Try.prog) []
noncomputable def tab : List (Nat × LE Res) := []
set_option maxRecDepth 100000 in
theorem run (placed : Int) (b : (Unit × (Int × (Unit × Unit)))) (bx : (List ((Int × ((ByteArray × (Bool × Unit)) × Unit)) × Bool))) : enterK E0 [true] D (loopX E0 D tab 9) Try.f114 (codeOf Try.f114) [.pb 1000000 tLinear_search [], .val ⟨.int .i64, placed⟩, .clo 115 []] [⟨.pair (.nsl tApi_Event) (.pair (.int .i64) (.pair (.mp 1000001 (.pair (.int .i64) (.pair (.pair .str (.pair .bool .unit)) .unit)) .bool) .unit)), b⟩, ⟨.map (.pair (.int .i64) (.pair (.pair .str (.pair .bool .unit)) .unit)) .bool, bx⟩] = g (fun c z => req c z) (fun x => some (res x)) placed b bx := by kernel_rfl
theorem rel (placed : Int) (b : (Unit × (Int × (Unit × Unit)))) (bx : (List ((Int × ((ByteArray × (Bool × Unit)) × Unit)) × Bool))) : J (fun w z => z = some (res w)) (g chk (fun x => (true, x)) placed b bx) (g (fun c z => req c z) (fun x => some (res x)) placed b bx) := by
  unfold g
  with_reducible repeat (first | (apply J.lt; intro _) | apply J.rq | apply J.bif | exact J.rt rfl)
theorem ok : fnOK Try.f114 = true := by kernel_rfl
abbrev aS : List AS := [.one (.pb 1000000 tLinear_search []), .one (.val (.int .i64)), .clo 115 []]
abbrev bS : List Ty := [.pair (.nsl tApi_Event) (.pair (.int .i64) (.pair (.mp 1000001 (.pair (.int .i64) (.pair (.pair .str (.pair .bool .unit)) .unit)) .bool) .unit)), .map (.pair (.int .i64) (.pair (.pair .str (.pair .bool .unit)) .unit)) .bool]
def F (x : ASs aS) (y : Bs bS) : Brn Res := brn (r x.2.1 y.1 y.2.1)
theorem good (x : ASs aS) (y : Bs bS) (h : (F x y).res.1 = true) : Good Try.prog 114 (ASs.mk aS x) (Bs.mk bS y) (F x y).res.2 :=
  good_run hE0 (Dof_sound _) Try.func114 ok tabOK_nil brn_res (run x.2.1 y.1 y.2.1) (rel x.2.1 y.1 y.2.1) h
noncomputable def ent : Ent Try.prog := ⟨114, shF aS bS F, shF_good good⟩
end Linear_search_open_v3

/-! (*sacristy/linear.search).goes -/
namespace Linear_search_goes_v1
abbrev X : Type := Bool × (Unit × (Int × (Unit × Unit))) × (List ((Int × ((ByteArray × (Bool × Unit)) × Unit)) × Bool))
def res (x : Bool × (Unit × (Int × (Unit × Unit))) × (List ((Int × ((ByteArray × (Bool × Unit)) × Unit)) × Bool))) : Res := ⟨[.val ⟨.bool, x.1⟩], [some ⟨.pair (.nsl tApi_Event) (.pair (.int .i64) (.pair (.mp 1000001 (.pair (.int .i64) (.pair (.pair .str (.pair .bool .unit)) .unit)) .bool) .unit)), x.2.1⟩, some ⟨.map (.pair (.int .i64) (.pair (.pair .str (.pair .bool .unit)) .unit)) .bool, x.2.2⟩], []⟩
def brn (w : Bool × X) : Brn Res := .one w.1 (res w.2)
theorem brn_res (w : Bool × X) : (brn w).res = (w.1, res w.2) := rfl
def g {Z : Type} (rq : Bool → Z → Z) (rt : X → Z) (xx : (Int × ((ByteArray × (Bool × Unit)) × Unit))) (b : (Unit × (Int × (Unit × Unit)))) (bx : (List ((Int × ((ByteArray × (Bool × Unit)) × Unit)) × Bool))) : Z :=
  lt (Linear_search_open_v3.r xx.1 b bx) fun w546 =>
  rq w546.1 <|
  lt ((!w546.2.1)) fun (v547 : Bool) =>
  bif v547 then
    rt (true, w546.2.2.1, w546.2.2.2)
  else
    lt (mapGet (.pair (.int .i64) (.pair (.pair .str (.pair .bool .unit)) .unit)) .bool xx w546.2.2.2) fun (m548 : Option Bool) =>
    lt ((m548.getD false)) fun (v549 : Bool) =>
    bif v549 then
      rt (false, w546.2.2.1, w546.2.2.2)
    else
      lt (mapSet (.pair (.int .i64) (.pair (.pair .str (.pair .bool .unit)) .unit)) .bool xx true w546.2.2.2) fun (v550 : (List ((Int × ((ByteArray × (Bool × Unit)) × Unit)) × Bool))) =>
      rt (false, w546.2.2.1, v550)

def r (xx : (Int × ((ByteArray × (Bool × Unit)) × Unit))) (b : (Unit × (Int × (Unit × Unit)))) (bx : (List ((Int × ((ByteArray × (Bool × Unit)) × Unit)) × Bool))) : Bool × X := g chk (fun x => (true, x)) xx b bx
noncomputable def D : CallD := Dof (P := Try.prog) [Linear_search_open_v3.ent]
noncomputable def tab : List (Nat × LE Res) := []
set_option maxRecDepth 100000 in
theorem run (xx : (Int × ((ByteArray × (Bool × Unit)) × Unit))) (b : (Unit × (Int × (Unit × Unit)))) (bx : (List ((Int × ((ByteArray × (Bool × Unit)) × Unit)) × Bool))) : enterK E0 [true] D (loopX E0 D tab 9) Try.f100 (codeOf Try.f100) [.pb 1000000 tLinear_search [], .val ⟨.pair (.int .i64) (.pair (.pair .str (.pair .bool .unit)) .unit), xx⟩] [⟨.pair (.nsl tApi_Event) (.pair (.int .i64) (.pair (.mp 1000001 (.pair (.int .i64) (.pair (.pair .str (.pair .bool .unit)) .unit)) .bool) .unit)), b⟩, ⟨.map (.pair (.int .i64) (.pair (.pair .str (.pair .bool .unit)) .unit)) .bool, bx⟩] = g (fun c z => req c z) (fun x => some (res x)) xx b bx := by kernel_rfl
theorem rel (xx : (Int × ((ByteArray × (Bool × Unit)) × Unit))) (b : (Unit × (Int × (Unit × Unit)))) (bx : (List ((Int × ((ByteArray × (Bool × Unit)) × Unit)) × Bool))) : J (fun w z => z = some (res w)) (g chk (fun x => (true, x)) xx b bx) (g (fun c z => req c z) (fun x => some (res x)) xx b bx) := by
  unfold g
  with_reducible repeat (first | (apply J.lt; intro _) | apply J.rq | apply J.bif | exact J.rt rfl)
theorem ok : fnOK Try.f100 = true := by kernel_rfl
abbrev aS : List AS := [.one (.pb 1000000 tLinear_search []), .one (.val (.pair (.int .i64) (.pair (.pair .str (.pair .bool .unit)) .unit)))]
abbrev bS : List Ty := [.pair (.nsl tApi_Event) (.pair (.int .i64) (.pair (.mp 1000001 (.pair (.int .i64) (.pair (.pair .str (.pair .bool .unit)) .unit)) .bool) .unit)), .map (.pair (.int .i64) (.pair (.pair .str (.pair .bool .unit)) .unit)) .bool]
def F (x : ASs aS) (y : Bs bS) : Brn Res := brn (r x.2.1 y.1 y.2.1)
theorem good (x : ASs aS) (y : Bs bS) (h : (F x y).res.1 = true) : Good Try.prog 100 (ASs.mk aS x) (Bs.mk bS y) (F x y).res.2 :=
  good_run hE0 (Dof_sound _) Try.func100 ok tabOK_nil brn_res (run x.2.1 y.1 y.2.1) (rel x.2.1 y.1 y.2.1) h
noncomputable def ent : Ent Try.prog := ⟨100, shF aS bS F, shF_good good⟩
end Linear_search_goes_v1

/-! sacristy/linear.Check -/
namespace Linear_Check
abbrev X : Type := Bool × Int
def res (x : Bool × Int) : Res := ⟨[.val ⟨.bool, x.1⟩, .val ⟨.int .i64, x.2⟩], [], []⟩
def brn (w : Bool × X) : Brn Res := .one w.1 (res w.2)
theorem brn_res (w : Bool × X) : (brn w).res = (w.1, res w.2) := rfl
def g {Z : Type} (rq : Bool → Z → Z) (rt : X → Z) (l : (List Api_Event)) (liars : Int) : Z :=
  lt (History_Check.r l) fun w444 =>
  rq w444.1 <|
  lt ((w444.2 != 0)) fun (v445 : Bool) =>
  bif v445 then
    rt (false, 1)
  else
    lt (History_Keys.r l) fun w446 =>
    rq w446.1 <|
    lt ((w446.2.length : Int)) fun (v447 : Int) =>
    lt ((ilt 1 v447)) fun (v448 : Bool) =>
    bif v448 then
      rt (false, 1)
    else
      lt ((ilt liars 0)) fun (v449 : Bool) =>
      bif v449 then
        rt (false, 1)
      else
        lt ((l.length : Int)) fun (v450 : Int) =>
        lt ((ilt 0 v450)) fun (v451 : Bool) =>
        bif v451 then
          lt ((l.getD 0 zApi_Event)) fun (v452 : Api_Event) =>
          rq (ilt (0 : Int) (l.length : Int)) <|
          lt (History_Of.r l v452.2.2.1) fun w453 =>
          rq w453.1 <|
          lt ((w453.2.length : Int)) fun (v454 : Int) =>
          lt ((ilt 14 v454)) fun (v455 : Bool) =>
          bif v455 then
            rt (false, 2)
          else
            lt (Linear_search_goes.r (0, (((⟨#[]⟩ : ByteArray), (false, ())), ())) (w453.2, (liars, ((), ()))) []) fun w545 =>
            rq w545.1 <|
            rt (w545.2.1, 0)
        else
          lt (Linear_search_goes_v1.r (0, (((⟨#[]⟩ : ByteArray), (false, ())), ())) ((), (liars, ((), ()))) []) fun w551 =>
          rq w551.1 <|
          rt (w551.2.1, 0)

def r (l : (List Api_Event)) (liars : Int) : Bool × X := g chk (fun x => (true, x)) l liars
noncomputable def D : CallD := Dof (P := Try.prog) [History_Check.ent, History_Keys.ent, History_Of.ent, orEnt Linear_search_goes.ent (Linear_search_goes_v1.ent) rfl]
noncomputable def tab : List (Nat × LE Res) := []
set_option maxRecDepth 100000 in
theorem run (l : (List Api_Event)) (liars : Int) : enterK E0 [true, true] D (loopX E0 D tab 9) Try.f65 (codeOf Try.f65) [.val ⟨.sl tApi_Event, l⟩, .val ⟨.int .i64, liars⟩] [] = g (fun c z => req c z) (fun x => some (res x)) l liars := by kernel_rfl
theorem rel (l : (List Api_Event)) (liars : Int) : J (fun w z => z = some (res w)) (g chk (fun x => (true, x)) l liars) (g (fun c z => req c z) (fun x => some (res x)) l liars) := by
  unfold g
  with_reducible repeat (first | (apply J.lt; intro _) | apply J.rq | apply J.bif | exact J.rt rfl)
theorem ok : fnOK Try.f65 = true := by kernel_rfl
abbrev aS : List AS := [.one (.val (.sl tApi_Event)), .one (.val (.int .i64))]
abbrev bS : List Ty := []
def F (x : ASs aS) (y : Bs bS) : Brn Res := brn (r x.1 x.2.1)
theorem good (x : ASs aS) (y : Bs bS) (h : (F x y).res.1 = true) : Good Try.prog 65 (ASs.mk aS x) (Bs.mk bS y) (F x y).res.2 :=
  good_run hE0 (Dof_sound _) Try.func65 ok tabOK_nil brn_res (run x.1 x.2.1) (rel x.1 x.2.1) h
noncomputable def ent : Ent Try.prog := ⟨65, shF aS bS F, shF_good good⟩
end Linear_Check

/-! sacristy/linear.All -/
namespace Linear_All
abbrev X : Type := Bool × Int
def res (x : Bool × Int) : Res := ⟨[.val ⟨.bool, x.1⟩, .val ⟨.int .i64, x.2⟩], [], []⟩
def brn (w : Bool × X) : Brn Res := .one w.1 (res w.2)
theorem brn_res (w : Bool × X) : (brn w).res = (w.1, res w.2) := rfl
abbrev sh0 : List (Nat × Sh) := [(0, .p (.sl tApi_Event)), (1, .p (.int .i64)), (4, .p .bool), (5, .p (.int .i64)), (6, .p .bool), (19, .p (.sl .str)), (20, .p (.int .i64)), (21, .p (.int .i64))]
abbrev bx0 : List (Nat × Ty) := []
abbrev ord0 : List (Nat × Ty) := []
abbrev shR0 : List (Nat × Sh) := [(4, .p .bool), (5, .p (.int .i64))]
abbrev bxR0 : List (Nat × Ty) := []
abbrev ordR0 : List (Nat × Ty) := []
abbrev X0 : Type := (List Api_Event) × Int × Bool × Int × Bool × (List ByteArray) × Int × Int × Unit
abbrev Y0 : Type := Unit
abbrev U0 : Type := Bool × Int × Unit
abbrev V0 : Type := Unit
def g0 {Z : Type} (rq : Bool → Z → Z) (kn : X0 → Y0 → Z) (ke : Nat → X0 → Y0 → Z) (kr : U0 → V0 → Z) (x : X0) (y : Y0) : Z :=
  lt ((ilt x.2.2.2.2.2.2.2.1 x.2.2.2.2.2.2.1)) fun (v561 : Bool) =>
  bif v561 then
    lt ((x.2.2.2.2.2.1.getD x.2.2.2.2.2.2.2.1.toNat (⟨#[]⟩ : ByteArray))) fun (v562 : ByteArray) =>
    rq (ile (0 : Int) x.2.2.2.2.2.2.2.1 && ilt x.2.2.2.2.2.2.2.1 (x.2.2.2.2.2.1.length : Int)) <|
    lt (History_Of.r x.1 v562) fun w563 =>
    rq w563.1 <|
    lt (Linear_Check.r w563.2 x.2.1) fun w564 =>
    rq w564.1 <|
    lt ((w564.2.2 != 0)) fun (v565 : Bool) =>
    bif v565 then
      kr (false, w564.2.2, ()) ()
    else
      bif x.2.2.2.2.1 then
        lt (IntKind.i64.wrap (x.2.2.2.2.2.2.2.1 + 1)) fun (v566 : Int) =>
        kn (x.1, x.2.1, x.2.2.1, x.2.2.2.1, w564.2.1, x.2.2.2.2.2.1, x.2.2.2.2.2.2.1, v566, ()) ()
      else
        lt (IntKind.i64.wrap (x.2.2.2.2.2.2.2.1 + 1)) fun (v567 : Int) =>
        kn (x.1, x.2.1, x.2.2.1, x.2.2.2.1, false, x.2.2.2.2.2.1, x.2.2.2.2.2.2.1, v567, ()) ()
  else
    ke 0 (x.1, x.2.1, x.2.2.1, x.2.2.2.1, x.2.2.2.2.1, x.2.2.2.2.2.1, x.2.2.2.2.2.2.1, x.2.2.2.2.2.2.2.1, ()) ()

def fu0 (x : X0) (y : Y0) : Nat := (x.2.2.2.2.2.2.1 - x.2.2.2.2.2.2.2.1).toNat + 1
def l0 (x : X0) (y : Y0) : Bool × Nat × X0 × Y0 × U0 × V0 := rounds (fun rq kn ke kr x y => g0 rq kn ke kr x y) (false, 0, ()) () (fu0 x y) x y
def g {Z : Type} (rq : Bool → Z → Z) (rt : X → Z) (l : (List Api_Event)) (liars : Int) : Z :=
  lt (History_Check.r l) fun w555 =>
  rq w555.1 <|
  lt ((w555.2 != 0)) fun (v556 : Bool) =>
  bif v556 then
    rt (false, 1)
  else
    lt ((ilt liars 0)) fun (v557 : Bool) =>
    bif v557 then
      rt (false, 1)
    else
      lt (History_Keys.r l) fun w558 =>
      rq w558.1 <|
      lt ((w558.2.length : Int)) fun (v559 : Int) =>
      lt (Linear_All.l0 (l, liars, false, 0, true, w558.2, v559, 0, ()) ()) fun w568 =>
      rq w568.1 <|
      bif Nat.beq w568.2.1 0 then
        rt (w568.2.2.2.2.1.1, w568.2.2.2.2.1.2.1)
      else
        rt (w568.2.2.1.2.2.2.2.1, 0)

def r (l : (List Api_Event)) (liars : Int) : Bool × X := g chk (fun x => (true, x)) l liars
noncomputable def D : CallD := Dof (P := Try.prog) [History_Check.ent, History_Keys.ent, History_Of.ent, Linear_Check.ent]
noncomputable def tab : List (Nat × LE Res) := [(6, .typed (loopT 42 sh0 bx0 ord0 shR0 bxR0 (loopF' [0, 1] (rounds (fun rq kn ke kr x y => g0 rq kn ke kr x y) (false, 0, ()) ()) fu0)))]
set_option maxRecDepth 100000 in
theorem run (l : (List Api_Event)) (liars : Int) : enterK E0 [true, true] D (loopX E0 D tab 9) Try.f99 (codeOf Try.f99) [.val ⟨.sl tApi_Event, l⟩, .val ⟨.int .i64, liars⟩] [] = g (fun c z => req c z) (fun x => some (res x)) l liars := by kernel_rfl
theorem rel (l : (List Api_Event)) (liars : Int) : J (fun w z => z = some (res w)) (g chk (fun x => (true, x)) l liars) (g (fun c z => req c z) (fun x => some (res x)) l liars) := by
  unfold g
  with_reducible repeat (first | (apply J.lt; intro _) | apply J.rq | apply J.bif | exact J.rt rfl)
set_option maxRecDepth 100000 in
theorem round0 (x : ShX sh0) (y : BxX bx0) (kn : ShX sh0 → BxX bx0 → Option Res) (ke : Nat → ShX sh0 → BxX bx0 → Option Res) (kr : ShX shR0 → BxX bxR0 → Option Res) : codeK E0 D (loopX E0 D tab 8) (nthLoop (codeOf Try.f99) 0) (inj 42 sh0 bx0 x y) (roundK sh0 bx0 ord0 shR0 bxR0 ordR0 kn ke kr) = g0 (fun c z => req c z) kn ke kr x y := by kernel_rfl
theorem told0 : Nonempty (Told E0 D tab Try.f99.ntmps (nthLoop (codeOf Try.f99) 0) 42 sh0 bx0 ord0 shR0 bxR0 (loopF' [0, 1] (rounds (fun rq kn ke kr x y => g0 rq kn ke kr x y) (false, 0, ()) ()) fu0)) :=
  told_of (sh := sh0) (bx := bx0) (ord := ord0) (shR := shR0) (bxR := bxR0) ordR0 8 (by kernel_rfl) (by kernel_rfl) (by kernel_rfl) [0, 1] fu0 (false, 0, ()) () (fun rq kn ke kr x y => g0 rq kn ke kr x y) (fun rq kn ke kr x y => g0 rq kn ke kr x y) (round0) (by
    intro φ kn1 kn2 ke1 ke2 kr1 kr2 h1 h2 h3 x y
    simp only [g0]
    with_reducible repeat (first | (apply J.lt; intro _) | apply J.rq | apply J.bif | exact h1 _ _ | exact h2 _ (by decide) _ _ | exact h3 (by decide) _ _))
theorem tabOK : TabOK E0 D tab Try.f99.ntmps (codeOf Try.f99) := tabOK_of (bs := [nthLoop (codeOf Try.f99) 0]) (by kernel_rfl) (allTold_cons (typedAt (by kernel_rfl) (told0)) allTold_nil)
theorem ok : fnOK Try.f99 = true := by kernel_rfl
abbrev aS : List AS := [.one (.val (.sl tApi_Event)), .one (.val (.int .i64))]
abbrev bS : List Ty := []
def F (x : ASs aS) (y : Bs bS) : Brn Res := brn (r x.1 x.2.1)
theorem good (x : ASs aS) (y : Bs bS) (h : (F x y).res.1 = true) : Good Try.prog 99 (ASs.mk aS x) (Bs.mk bS y) (F x y).res.2 :=
  good_run hE0 (Dof_sound _) Try.func99 ok tabOK brn_res (run x.1 x.2.1) (rel x.1 x.2.1) h
noncomputable def ent : Ent Try.prog := ⟨99, shF aS bS F, shF_good good⟩
end Linear_All

/-! sacristy/sacristylaw29.awake -/
namespace Sacristylaw29_awake
abbrev X : Type := Bool
def res (x : Bool) : Res := ⟨[.val ⟨.bool, x⟩], [], []⟩
def brn (w : Bool × X) : Brn Res := .one w.1 (res w.2)
theorem brn_res (w : Bool × X) : (brn w).res = (w.1, res w.2) := rfl
def g {Z : Type} (rq : Bool → Z → Z) (rt : X → Z)  : Z :=
  lt (Linear_Check.r [(1, (1, ((⟨#[107]⟩ : ByteArray), ((⟨#[120]⟩ : ByteArray), (1, (2, ((0, (0, ((⟨#[]⟩ : ByteArray), (false, ((0, (0, ())), ()))))), ()))))))), (2, (3, ((⟨#[107]⟩ : ByteArray), ((⟨#[]⟩ : ByteArray), (3, (4, ((1, (0, ((⟨#[120]⟩ : ByteArray), (true, ((0, (0, ())), ()))))), ())))))))] 0) fun w552 =>
  rq w552.1 <|
  lt (Linear_Check.r [(1, (1, ((⟨#[107]⟩ : ByteArray), ((⟨#[120]⟩ : ByteArray), (1, (2, ((0, (0, ((⟨#[]⟩ : ByteArray), (false, ((0, (0, ())), ()))))), ()))))))), (2, (3, ((⟨#[107]⟩ : ByteArray), ((⟨#[]⟩ : ByteArray), (3, (4, ((1, (0, ((⟨#[121]⟩ : ByteArray), (true, ((0, (0, ())), ()))))), ())))))))] 0) fun w553 =>
  rq w553.1 <|
  lt (Linear_Check.r [(1, (1, ((⟨#[107]⟩ : ByteArray), ((⟨#[120]⟩ : ByteArray), (1, (2, ((0, (0, ((⟨#[]⟩ : ByteArray), (false, ((0, (0, ())), ()))))), ()))))))), (2, (3, ((⟨#[107]⟩ : ByteArray), ((⟨#[]⟩ : ByteArray), (3, (4, ((1, (0, ((⟨#[121]⟩ : ByteArray), (true, ((0, (0, ())), ()))))), ())))))))] 4) fun w554 =>
  rq w554.1 <|
  lt (Linear_All.r [(1, (1, ((⟨#[107]⟩ : ByteArray), ((⟨#[120]⟩ : ByteArray), (1, (2, ((0, (0, ((⟨#[]⟩ : ByteArray), (false, ((0, (0, ())), ()))))), ()))))))), (2, (3, ((⟨#[107]⟩ : ByteArray), ((⟨#[]⟩ : ByteArray), (3, (4, ((1, (0, ((⟨#[120]⟩ : ByteArray), (true, ((0, (0, ())), ()))))), ())))))))] 0) fun w569 =>
  rq w569.1 <|
  bif w552.2.1 then
    lt ((!w553.2.1)) fun (v570 : Bool) =>
    bif v570 then
      bif w554.2.1 then
        bif w569.2.1 then
          lt ((w552.2.2 == 0)) fun (v571 : Bool) =>
          bif v571 then
            lt ((w553.2.2 == 0)) fun (v572 : Bool) =>
            bif v572 then
              lt ((w554.2.2 == 0)) fun (v573 : Bool) =>
              bif v573 then
                lt ((w569.2.2 == 0)) fun (v574 : Bool) =>
                rt v574
              else
                rt false
            else
              rt false
          else
            rt false
        else
          rt false
      else
        rt false
    else
      rt false
  else
    rt false

def r  : Bool × X := g chk (fun x => (true, x)) 
noncomputable def D : CallD := Dof (P := Try.prog) [Linear_Check.ent, Linear_All.ent]
noncomputable def tab : List (Nat × LE Res) := []
set_option maxRecDepth 100000 in
theorem run  : enterK E0 [true] D (loopX E0 D tab 9) Try.f63 (codeOf Try.f63) [] [] = g (fun c z => req c z) (fun x => some (res x))  := by kernel_rfl
theorem rel  : J (fun w z => z = some (res w)) (g chk (fun x => (true, x)) ) (g (fun c z => req c z) (fun x => some (res x)) ) := by
  unfold g
  with_reducible repeat (first | (apply J.lt; intro _) | apply J.rq | apply J.bif | exact J.rt rfl)
theorem ok : fnOK Try.f63 = true := by kernel_rfl
abbrev aS : List AS := []
abbrev bS : List Ty := []
def F (_ : ASs aS) (_ : Bs bS) : Brn Res := brn r
theorem good (x : ASs aS) (y : Bs bS) (h : (F x y).res.1 = true) : Good Try.prog 63 (ASs.mk aS x) (Bs.mk bS y) (F x y).res.2 :=
  good_run hE0 (Dof_sound _) Try.func63 ok tabOK_nil brn_res (run ) (rel ) h
noncomputable def ent : Ent Try.prog := ⟨63, shF aS bS F, shF_good good⟩
end Sacristylaw29_awake

/-! sacristy/sacristylaw29.linearMay -/
namespace Sacristylaw29_linearMay
abbrev X : Type := Bool
def res (x : Bool) : Res := ⟨[.val ⟨.bool, x⟩], [], []⟩
def brn (w : Bool × X) : Brn Res := .one w.1 (res w.2)
theorem brn_res (w : Bool × X) : (brn w).res = (w.1, res w.2) := rfl
abbrev sh0 : List (Nat × Sh) := [(0, .p (.sl tApi_Event)), (2, .p .bool), (3, .p (.int .i64))]
abbrev bx0 : List (Nat × Ty) := []
abbrev ord0 : List (Nat × Ty) := []
abbrev shR0 : List (Nat × Sh) := [(2, .p .bool)]
abbrev bxR0 : List (Nat × Ty) := []
abbrev ordR0 : List (Nat × Ty) := []
abbrev X0 : Type := (List Api_Event) × Bool × Int × Unit
abbrev Y0 : Type := Unit
abbrev U0 : Type := Bool × Unit
abbrev V0 : Type := Unit
def g0 {Z : Type} (rq : Bool → Z → Z) (kn : X0 → Y0 → Z) (ke : Nat → X0 → Y0 → Z) (kr : U0 → V0 → Z) (x : X0) (y : Y0) : Z :=
  lt ((x.1.length : Int)) fun (v646 : Int) =>
  lt ((ilt x.2.2.1 v646)) fun (v647 : Bool) =>
  bif v647 then
    lt ((x.1.getD x.2.2.1.toNat zApi_Event)) fun (v648 : Api_Event) =>
    rq (ile (0 : Int) x.2.2.1 && ilt x.2.2.1 (x.1.length : Int)) <|
    lt ((ilt v648.2.2.2.2.1 1)) fun (v649 : Bool) =>
    bif v649 then
      kr (false, ()) ()
    else
      lt ((ilt 0 x.2.2.1)) fun (v650 : Bool) =>
      bif v650 then
        lt (IntKind.i64.wrap (x.2.2.1 - 1)) fun (v651 : Int) =>
        lt ((x.1.getD v651.toNat zApi_Event)) fun (v652 : Api_Event) =>
        rq (ile (0 : Int) v651 && ilt v651 (x.1.length : Int)) <|
        lt ((x.1.getD x.2.2.1.toNat zApi_Event)) fun (v653 : Api_Event) =>
        rq (ile (0 : Int) x.2.2.1 && ilt x.2.2.1 (x.1.length : Int)) <|
        lt ((ile v653.2.2.2.2.1 v652.2.2.2.2.1)) fun (v654 : Bool) =>
        bif v654 then
          kr (false, ()) ()
        else
          lt (IntKind.i64.wrap (x.2.2.1 + 1)) fun (v655 : Int) =>
          kn (x.1, x.2.1, v655, ()) ()
      else
        lt (IntKind.i64.wrap (x.2.2.1 + 1)) fun (v656 : Int) =>
        kn (x.1, x.2.1, v656, ()) ()
  else
    ke 0 (x.1, x.2.1, x.2.2.1, ()) ()

def fu0 (x : X0) (y : Y0) : Nat := ((x.1.length : Int) - x.2.2.1).toNat + 1
def l0 (x : X0) (y : Y0) : Bool × Nat × X0 × Y0 × U0 × V0 := rounds (fun rq kn ke kr x y => g0 rq kn ke kr x y) (false, ()) () (fu0 x y) x y
def g {Z : Type} (rq : Bool → Z → Z) (rt : X → Z) (l : (List Api_Event)) : Z :=
  lt (Sacristylaw29_linearMay.l0 (l, false, 0, ()) ()) fun w657 =>
  rq w657.1 <|
  bif Nat.beq w657.2.1 0 then
    rt w657.2.2.2.2.1.1
  else
    rt true

def r (l : (List Api_Event)) : Bool × X := g chk (fun x => (true, x)) l
noncomputable def D : CallD := Dof (P := Try.prog) []
noncomputable def tab : List (Nat × LE Res) := [(3, .typed (loopT 34 sh0 bx0 ord0 shR0 bxR0 (loopF' [0, 1] (rounds (fun rq kn ke kr x y => g0 rq kn ke kr x y) (false, ()) ()) fu0)))]
set_option maxRecDepth 100000 in
theorem run (l : (List Api_Event)) : enterK E0 [true] D (loopX E0 D tab 9) Try.f64 (codeOf Try.f64) [.val ⟨.sl tApi_Event, l⟩] [] = g (fun c z => req c z) (fun x => some (res x)) l := by kernel_rfl
theorem rel (l : (List Api_Event)) : J (fun w z => z = some (res w)) (g chk (fun x => (true, x)) l) (g (fun c z => req c z) (fun x => some (res x)) l) := by
  unfold g
  with_reducible repeat (first | (apply J.lt; intro _) | apply J.rq | apply J.bif | exact J.rt rfl)
set_option maxRecDepth 100000 in
theorem round0 (x : ShX sh0) (y : BxX bx0) (kn : ShX sh0 → BxX bx0 → Option Res) (ke : Nat → ShX sh0 → BxX bx0 → Option Res) (kr : ShX shR0 → BxX bxR0 → Option Res) : codeK E0 D (loopX E0 D tab 8) (nthLoop (codeOf Try.f64) 0) (inj 34 sh0 bx0 x y) (roundK sh0 bx0 ord0 shR0 bxR0 ordR0 kn ke kr) = g0 (fun c z => req c z) kn ke kr x y := by kernel_rfl
theorem told0 : Nonempty (Told E0 D tab Try.f64.ntmps (nthLoop (codeOf Try.f64) 0) 34 sh0 bx0 ord0 shR0 bxR0 (loopF' [0, 1] (rounds (fun rq kn ke kr x y => g0 rq kn ke kr x y) (false, ()) ()) fu0)) :=
  told_of (sh := sh0) (bx := bx0) (ord := ord0) (shR := shR0) (bxR := bxR0) ordR0 8 (by kernel_rfl) (by kernel_rfl) (by kernel_rfl) [0, 1] fu0 (false, ()) () (fun rq kn ke kr x y => g0 rq kn ke kr x y) (fun rq kn ke kr x y => g0 rq kn ke kr x y) (round0) (by
    intro φ kn1 kn2 ke1 ke2 kr1 kr2 h1 h2 h3 x y
    simp only [g0]
    with_reducible repeat (first | (apply J.lt; intro _) | apply J.rq | apply J.bif | exact h1 _ _ | exact h2 _ (by decide) _ _ | exact h3 (by decide) _ _))
theorem tabOK : TabOK E0 D tab Try.f64.ntmps (codeOf Try.f64) := tabOK_of (bs := [nthLoop (codeOf Try.f64) 0]) (by kernel_rfl) (allTold_cons (typedAt (by kernel_rfl) (told0)) allTold_nil)
theorem ok : fnOK Try.f64 = true := by kernel_rfl
abbrev aS : List AS := [.one (.val (.sl tApi_Event))]
abbrev bS : List Ty := []
def F (x : ASs aS) (y : Bs bS) : Brn Res := brn (r x.1)
theorem good (x : ASs aS) (y : Bs bS) (h : (F x y).res.1 = true) : Good Try.prog 64 (ASs.mk aS x) (Bs.mk bS y) (F x y).res.2 :=
  good_run hE0 (Dof_sound _) Try.func64 ok tabOK brn_res (run x.1) (rel x.1) h
noncomputable def ent : Ent Try.prog := ⟨64, shF aS bS F, shF_good good⟩
end Sacristylaw29_linearMay

/-! sacristy/sacristylaw29.LinearWitness -/
namespace Sacristylaw29_LinearWitness
abbrev X : Type := Bool
def res (x : Bool) : Res := ⟨[.val ⟨.bool, x⟩], [], []⟩
def brn (w : Bool × X) : Brn Res := .one w.1 (res w.2)
theorem brn_res (w : Bool × X) : (brn w).res = (w.1, res w.2) := rfl
abbrev sh0 : List (Nat × Sh) := [(0, .p (.sl (.int .i64))), (2, .p .bool), (3, .va 500000 tApi_Event), (4, .p .str), (5, .p .bool), (6, .p (.int .i64)), (7, .p (.int .i64))]
abbrev bx0 : List (Nat × Ty) := [(500000, .dyn tApi_Event)]
abbrev ord0 : List (Nat × Ty) := [(500000, .dyn tApi_Event)]
abbrev shR0 : List (Nat × Sh) := []
abbrev bxR0 : List (Nat × Ty) := []
abbrev ordR0 : List (Nat × Ty) := []
abbrev X0 : Type := (List Int) × Bool × Unit × ByteArray × Bool × Int × Int × Unit
abbrev Y0 : Type := (Bool × List Api_Event) × Unit
abbrev U0 : Type := Unit
abbrev V0 : Type := Unit
def g0 {Z : Type} (rq : Bool → Z → Z) (kn : X0 → Y0 → Z) (ke : Nat → X0 → Y0 → Z) (kr : U0 → V0 → Z) (x : X0) (y : Y0) : Z :=
  lt ((x.1.length : Int)) fun (v607 : Int) =>
  lt ((ilt x.2.2.2.2.2.2.1 v607)) fun (v608 : Bool) =>
  bif v608 then
    lt (IntKind.i64.wrap ((10 : Int) * x.2.2.2.2.2.2.1)) fun (v609 : Int) =>
    lt (IntKind.i64.wrap (v609 + 10)) fun (v610 : Int) =>
    lt (IntKind.i64.wrap (x.2.2.2.2.2.2.1 + 1)) fun (v611 : Int) =>
    lt ((x.1.getD x.2.2.2.2.2.2.1.toNat 0)) fun (v612 : Int) =>
    rq (ile (0 : Int) x.2.2.2.2.2.2.1 && ilt x.2.2.2.2.2.2.1 (x.1.length : Int)) <|
    lt (ibits .i64 (· &&& ·) v612 (255 : Int)) fun (v613 : Int) =>
    lt (v613.tmod 3) fun (v614 : Int) =>
    lt (IntKind.i64.wrap ((1 : Int) + v614)) fun (v615 : Int) =>
    lt (IntKind.i64.wrap (v610 - 2)) fun (v616 : Int) =>
    lt ((x.1.getD x.2.2.2.2.2.2.1.toNat 0)) fun (v617 : Int) =>
    rq (ile (0 : Int) x.2.2.2.2.2.2.1 && ilt x.2.2.2.2.2.2.1 (x.1.length : Int)) <|
    lt (v617.fdiv (2 ^ 8)) fun (v618 : Int) =>
    lt (ibits .i64 (· &&& ·) v618 (7 : Int)) fun (v619 : Int) =>
    lt (IntKind.i64.wrap (v616 - v619)) fun (v620 : Int) =>
    lt (IntKind.i64.wrap (v610 + 1)) fun (v621 : Int) =>
    lt ((x.1.getD x.2.2.2.2.2.2.1.toNat 0)) fun (v622 : Int) =>
    rq (ile (0 : Int) x.2.2.2.2.2.2.1 && ilt x.2.2.2.2.2.2.1 (x.1.length : Int)) <|
    lt (v622.fdiv (2 ^ 11)) fun (v623 : Int) =>
    lt (ibits .i64 (· &&& ·) v623 (31 : Int)) fun (v624 : Int) =>
    lt (IntKind.i64.wrap (v621 + v624)) fun (v625 : Int) =>
    lt ((v615 == 1)) fun (v626 : Bool) =>
    bif v626 then
      lt ((x.1.getD x.2.2.2.2.2.2.1.toNat 0)) fun (v627 : Int) =>
      rq (ile (0 : Int) x.2.2.2.2.2.2.1 && ilt x.2.2.2.2.2.2.1 (x.1.length : Int)) <|
      lt (v627.fdiv (2 ^ 16)) fun (v628 : Int) =>
      lt (ibits .i64 (· &&& ·) v628 (255 : Int)) fun (v629 : Int) =>
      lt (v629.tmod 3) fun (v630 : Int) =>
      rq (ile (0 : Int) v630 && ilt v630 3) <|
      lt (([(⟨#[120]⟩ : ByteArray), (⟨#[121]⟩ : ByteArray), (⟨#[122]⟩ : ByteArray)].getD v630.toNat (⟨#[]⟩ : ByteArray))) fun (v631 : ByteArray) =>
      lt ((y.1.1 && false)) fun (v632 : Bool) =>
      lt ((y.1.2 ++ [(v611, (v615, ((⟨#[107]⟩ : ByteArray), (v631, (v620, (v625, ((1, (0, ((⟨#[]⟩ : ByteArray), (false, ((0, (0, ())), ()))))), ())))))))])) fun (v633 : (List Api_Event)) =>
      rq (nle ((2 * (y.1.2.length + 1) + 512) * 120) 70368744177664) <|
      lt (IntKind.i64.wrap (x.2.2.2.2.2.2.1 + 1)) fun (v634 : Int) =>
      kn (x.1, x.2.1, (), v631, true, x.2.2.2.2.2.1, v634, ()) ((v632, v633), ())
    else
      lt ((v615 == 2)) fun (v635 : Bool) =>
      bif v635 then
        lt ((y.1.1 && false)) fun (v636 : Bool) =>
        lt ((y.1.2 ++ [(v611, (v615, ((⟨#[107]⟩ : ByteArray), ((⟨#[]⟩ : ByteArray), (v620, (v625, ((1, (0, ((⟨#[]⟩ : ByteArray), (false, ((0, (0, ())), ()))))), ())))))))])) fun (v637 : (List Api_Event)) =>
        rq (nle ((2 * (y.1.2.length + 1) + 512) * 120) 70368744177664) <|
        lt (IntKind.i64.wrap (x.2.2.2.2.2.2.1 + 1)) fun (v638 : Int) =>
        kn (x.1, x.2.1, (), (⟨#[]⟩ : ByteArray), false, x.2.2.2.2.2.1, v638, ()) ((v636, v637), ())
      else
        lt ((y.1.1 && false)) fun (v639 : Bool) =>
        lt ((y.1.2 ++ [(v611, (v615, ((⟨#[107]⟩ : ByteArray), ((⟨#[]⟩ : ByteArray), (v620, (v625, ((1, (0, (x.2.2.2.1, (x.2.2.2.2.1, ((0, (0, ())), ()))))), ())))))))])) fun (v640 : (List Api_Event)) =>
        rq (nle ((2 * (y.1.2.length + 1) + 512) * 120) 70368744177664) <|
        lt (IntKind.i64.wrap (x.2.2.2.2.2.2.1 + 1)) fun (v641 : Int) =>
        kn (x.1, x.2.1, (), x.2.2.2.1, x.2.2.2.2.1, x.2.2.2.2.2.2.1, v641, ()) ((v639, v640), ())
  else
    ke 0 (x.1, x.2.1, (), x.2.2.2.1, x.2.2.2.2.1, x.2.2.2.2.2.1, x.2.2.2.2.2.2.1, ()) (y.1, ())

def fu0 (x : X0) (y : Y0) : Nat := ((x.1.length : Int) - x.2.2.2.2.2.2.1).toNat + 1
def l0 (x : X0) (y : Y0) : Bool × Nat × X0 × Y0 × U0 × V0 := rounds (fun rq kn ke kr x y => g0 rq kn ke kr x y) () () (fu0 x y) x y
def g {Z : Type} (rq : Bool → Z → Z) (rt : X → Z) (l : (List Int)) : Z :=
  lt ((l.length : Int)) fun (v604 : Int) =>
  lt ((ilt 10 v604)) fun (v605 : Bool) =>
  bif v605 then
    lt Sacristylaw29_awake.r fun w606 =>
    rq w606.1 <|
    rt w606.2
  else
    lt (Sacristylaw29_LinearWitness.l0 (l, false, (), (⟨#[]⟩ : ByteArray), false, (-1), 0, ()) ((true, []), ())) fun w642 =>
    rq w642.1 <|
    lt (Sacristyref28_May.r w642.2.2.2.1.1.2) fun w643 =>
    rq w643.1 <|
    lt (Sacristylaw29_linearMay.r w642.2.2.2.1.1.2) fun w658 =>
    rq w658.1 <|
    lt ((!(w643.2 == w658.2))) fun (v659 : Bool) =>
    bif v659 then
      rt false
    else
      lt (Sacristyref28_May.r w642.2.2.2.1.1.2) fun w660 =>
      rq w660.1 <|
      lt ((!w660.2)) fun (v661 : Bool) =>
      bif v661 then
        lt Sacristylaw29_awake.r fun w662 =>
        rq w662.1 <|
        rt w662.2
      else
        lt (Linear_Check.r w642.2.2.2.1.1.2 0) fun w663 =>
        rq w663.1 <|
        lt ((!w663.2.1)) fun (v664 : Bool) =>
        bif v664 then
          rt false
        else
          lt ((w663.2.2 != 0)) fun (v665 : Bool) =>
          bif v665 then
            rt false
          else
            lt ((ile 0 w642.2.2.1.2.2.2.2.2.1)) fun (v666 : Bool) =>
            bif v666 then
              rq (ile (0 : Int) w642.2.2.1.2.2.2.2.2.1 && ilt w642.2.2.1.2.2.2.2.2.1 (w642.2.2.2.1.1.2.length : Int)) <|
              lt ((w642.2.2.2.1.1.2.set w642.2.2.1.2.2.2.2.2.1.toNat ((w642.2.2.2.1.1.2.getD w642.2.2.1.2.2.2.2.2.1.toNat zApi_Event).1, ((w642.2.2.2.1.1.2.getD w642.2.2.1.2.2.2.2.2.1.toNat zApi_Event).2.1, ((w642.2.2.2.1.1.2.getD w642.2.2.1.2.2.2.2.2.1.toNat zApi_Event).2.2.1, ((w642.2.2.2.1.1.2.getD w642.2.2.1.2.2.2.2.2.1.toNat zApi_Event).2.2.2.1, ((w642.2.2.2.1.1.2.getD w642.2.2.1.2.2.2.2.2.1.toNat zApi_Event).2.2.2.2.1, ((w642.2.2.2.1.1.2.getD w642.2.2.1.2.2.2.2.2.1.toNat zApi_Event).2.2.2.2.2.1, (((w642.2.2.2.1.1.2.getD w642.2.2.1.2.2.2.2.2.1.toNat zApi_Event).2.2.2.2.2.2.1.1, ((w642.2.2.2.1.1.2.getD w642.2.2.1.2.2.2.2.2.1.toNat zApi_Event).2.2.2.2.2.2.1.2.1, ((⟨#[110, 101, 118, 101, 114]⟩ : ByteArray), (w642.2.2.2.1.1.2.getD w642.2.2.1.2.2.2.2.2.1.toNat zApi_Event).2.2.2.2.2.2.1.2.2.2))), (w642.2.2.2.1.1.2.getD w642.2.2.1.2.2.2.2.2.1.toNat zApi_Event).2.2.2.2.2.2.2))))))))) fun (v667 : (List Api_Event)) =>
              rq (ile (0 : Int) w642.2.2.1.2.2.2.2.2.1 && ilt w642.2.2.1.2.2.2.2.2.1 (v667.length : Int)) <|
              lt ((v667.set w642.2.2.1.2.2.2.2.2.1.toNat ((v667.getD w642.2.2.1.2.2.2.2.2.1.toNat zApi_Event).1, ((v667.getD w642.2.2.1.2.2.2.2.2.1.toNat zApi_Event).2.1, ((v667.getD w642.2.2.1.2.2.2.2.2.1.toNat zApi_Event).2.2.1, ((v667.getD w642.2.2.1.2.2.2.2.2.1.toNat zApi_Event).2.2.2.1, ((v667.getD w642.2.2.1.2.2.2.2.2.1.toNat zApi_Event).2.2.2.2.1, ((v667.getD w642.2.2.1.2.2.2.2.2.1.toNat zApi_Event).2.2.2.2.2.1, (((v667.getD w642.2.2.1.2.2.2.2.2.1.toNat zApi_Event).2.2.2.2.2.2.1.1, ((v667.getD w642.2.2.1.2.2.2.2.2.1.toNat zApi_Event).2.2.2.2.2.2.1.2.1, ((v667.getD w642.2.2.1.2.2.2.2.2.1.toNat zApi_Event).2.2.2.2.2.2.1.2.2.1, (true, (v667.getD w642.2.2.1.2.2.2.2.2.1.toNat zApi_Event).2.2.2.2.2.2.1.2.2.2.2)))), (v667.getD w642.2.2.1.2.2.2.2.2.1.toNat zApi_Event).2.2.2.2.2.2.2))))))))) fun (v668 : (List Api_Event)) =>
              lt (Linear_Check.r v668 0) fun w669 =>
              rq w669.1 <|
              bif w669.2.1 then
                rt false
              else
                lt ((w669.2.2 != 0)) fun (v670 : Bool) =>
                bif v670 then
                  rt false
                else
                  lt Sacristylaw29_awake.r fun w671 =>
                  rq w671.1 <|
                  rt w671.2
            else
              lt Sacristylaw29_awake.r fun w672 =>
              rq w672.1 <|
              rt w672.2

def r (l : (List Int)) : Bool × X := g chk (fun x => (true, x)) l
noncomputable def D : CallD := Dof (P := Try.prog) [Sacristylaw29_awake.ent, Sacristyref28_May.ent, Sacristylaw29_linearMay.ent, Linear_Check.ent]
noncomputable def tab : List (Nat × LE Res) := [(8, .typed (loopT 130 sh0 bx0 ord0 shR0 bxR0 (loopF' [1] (rounds (fun rq kn ke kr x y => g0 rq kn ke kr x y) () ()) fu0)))]
set_option maxRecDepth 100000 in
theorem run (l : (List Int)) : enterK E0 [true] D (loopX E0 D tab 9) Try.f14 (codeOf Try.f14) [.val ⟨.sl (.int .i64), l⟩] [] = g (fun c z => req c z) (fun x => some (res x)) l := by kernel_rfl
theorem rel (l : (List Int)) : J (fun w z => z = some (res w)) (g chk (fun x => (true, x)) l) (g (fun c z => req c z) (fun x => some (res x)) l) := by
  unfold g
  with_reducible repeat (first | (apply J.lt; intro _) | apply J.rq | apply J.bif | exact J.rt rfl)
set_option maxRecDepth 100000 in
theorem round0 (x : ShX sh0) (y : BxX bx0) (kn : ShX sh0 → BxX bx0 → Option Res) (ke : Nat → ShX sh0 → BxX bx0 → Option Res) (kr : ShX shR0 → BxX bxR0 → Option Res) : codeK E0 D (loopX E0 D tab 8) (nthLoop (codeOf Try.f14) 0) (inj 130 sh0 bx0 x y) (roundK sh0 bx0 ord0 shR0 bxR0 ordR0 kn ke kr) = g0 (fun c z => req c z) kn ke kr x y := by kernel_rfl
theorem told0 : Nonempty (Told E0 D tab Try.f14.ntmps (nthLoop (codeOf Try.f14) 0) 130 sh0 bx0 ord0 shR0 bxR0 (loopF' [1] (rounds (fun rq kn ke kr x y => g0 rq kn ke kr x y) () ()) fu0)) :=
  told_of (sh := sh0) (bx := bx0) (ord := ord0) (shR := shR0) (bxR := bxR0) ordR0 8 (by kernel_rfl) (by kernel_rfl) (by kernel_rfl) [1] fu0 () () (fun rq kn ke kr x y => g0 rq kn ke kr x y) (fun rq kn ke kr x y => g0 rq kn ke kr x y) (round0) (by
    intro φ kn1 kn2 ke1 ke2 kr1 kr2 h1 h2 h3 x y
    simp only [g0]
    with_reducible repeat (first | (apply J.lt; intro _) | apply J.rq | apply J.bif | exact h1 _ _ | exact h2 _ (by decide) _ _ | exact h3 (by decide) _ _))
theorem tabOK : TabOK E0 D tab Try.f14.ntmps (codeOf Try.f14) := tabOK_of (bs := [nthLoop (codeOf Try.f14) 0]) (by kernel_rfl) (allTold_cons (typedAt (by kernel_rfl) (told0)) allTold_nil)
theorem ok : fnOK Try.f14 = true := by kernel_rfl
abbrev aS : List AS := [.one (.val (.sl (.int .i64)))]
abbrev bS : List Ty := []
def F (x : ASs aS) (y : Bs bS) : Brn Res := brn (r x.1)
theorem good (x : ASs aS) (y : Bs bS) (h : (F x y).res.1 = true) : Good Try.prog 14 (ASs.mk aS x) (Bs.mk bS y) (F x y).res.2 :=
  good_run hE0 (Dof_sound _) Try.func14 ok tabOK brn_res (run x.1) (rel x.1) h
noncomputable def ent : Ent Try.prog := ⟨14, shF aS bS F, shF_good good⟩
end Sacristylaw29_LinearWitness
end Go.Own
