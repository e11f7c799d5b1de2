/- What functions compute, printed by wip/gen/gen.py. -/
import Derived.Test.YtipheoipbjakfaaG1
set_option linter.unusedVariables false
namespace Go.Own
open Go.Proofs Go.Proofs.Ytipheoipbjakfaa

/-! sacristy/sacristyref01.Add -/
namespace Sacristyref01_Add
abbrev X : Type := (List Int) × Int
def res (x : X) : Res := ([.val ⟨.arr 4 (.int .u64), x.1⟩, .val ⟨.int .i64, x.2⟩], [])
abbrev sh0 : List (Nat × Sh) := [(4, .pb 4 (.arr 4 (.int .u64)) []), (5, .p (.int .i64)), (6, .pb 6 (.arr 256 .bool) []), (7, .pb 7 (.arr 256 .bool) []), (8, .pb 8 (.arr 256 .bool) []), (9, .p .bool), (10, .p (.int .i64))]
abbrev bx0 : List (Nat × Ty) := [(4, .arr 4 (.int .u64)), (6, .arr 256 .bool), (7, .arr 256 .bool), (8, .arr 256 .bool)]
abbrev X0 : Type := Unit × Int × Unit × Unit × Unit × Bool × Int × Unit
abbrev Y0 : Type := (List Int) × (List Bool) × (List Bool) × (List Bool) × Unit
def g0 {Z : Type} (rq : Bool → Z → Z) (kn : X0 → Y0 → Z) (ke : Nat → X0 → Y0 → Z) (x : X0) (y : Y0) : Z :=
  lt ((decide (x.2.2.2.2.2.2.1 < 256))) fun (v499 : Bool) =>
  bif v499 then
    rq (decide ((0 : Int) ≤ x.2.2.2.2.2.2.1) && decide (x.2.2.2.2.2.2.1 < 256)) <|
    lt ((y.2.1.getD x.2.2.2.2.2.2.1.toNat false)) fun (v500 : Bool) =>
    rq (decide ((0 : Int) ≤ x.2.2.2.2.2.2.1) && decide (x.2.2.2.2.2.2.1 < 256)) <|
    lt ((y.2.2.1.getD x.2.2.2.2.2.2.1.toNat false)) fun (v501 : Bool) =>
    lt ((!(v500 == v501))) fun (v502 : Bool) =>
    lt ((!(v502 == x.2.2.2.2.2.1))) fun (v503 : Bool) =>
    rq (decide ((0 : Int) ≤ x.2.2.2.2.2.2.1) && decide (x.2.2.2.2.2.2.1 < 256)) <|
    lt ((y.2.2.2.1.set x.2.2.2.2.2.2.1.toNat v503)) fun (v504 : (List Bool)) =>
    rq (decide ((0 : Int) ≤ x.2.2.2.2.2.2.1) && decide (x.2.2.2.2.2.2.1 < 256)) <|
    lt ((y.2.1.getD x.2.2.2.2.2.2.1.toNat false)) fun (v505 : Bool) =>
    bif v505 then
      rq (decide ((0 : Int) ≤ x.2.2.2.2.2.2.1) && decide (x.2.2.2.2.2.2.1 < 256)) <|
      lt ((y.2.2.1.getD x.2.2.2.2.2.2.1.toNat false)) fun (v506 : Bool) =>
      bif v506 then
        lt (IntKind.i64.wrap (x.2.2.2.2.2.2.1 + 1)) fun (v507 : Int) =>
        kn ((), x.2.1, (), (), (), true, v507, ()) (y.1, y.2.1, y.2.2.1, v504, ())
      else
        bif x.2.2.2.2.2.1 then
          rq (decide ((0 : Int) ≤ x.2.2.2.2.2.2.1) && decide (x.2.2.2.2.2.2.1 < 256)) <|
          lt ((y.2.1.getD x.2.2.2.2.2.2.1.toNat false)) fun (v508 : Bool) =>
          bif v508 then
            lt (IntKind.i64.wrap (x.2.2.2.2.2.2.1 + 1)) fun (v509 : Int) =>
            kn ((), x.2.1, (), (), (), true, v509, ()) (y.1, y.2.1, y.2.2.1, v504, ())
          else
            rq (decide ((0 : Int) ≤ x.2.2.2.2.2.2.1) && decide (x.2.2.2.2.2.2.1 < 256)) <|
            lt ((y.2.2.1.getD x.2.2.2.2.2.2.1.toNat false)) fun (v510 : Bool) =>
            lt (IntKind.i64.wrap (x.2.2.2.2.2.2.1 + 1)) fun (v511 : Int) =>
            kn ((), x.2.1, (), (), (), v510, v511, ()) (y.1, y.2.1, y.2.2.1, v504, ())
        else
          lt (IntKind.i64.wrap (x.2.2.2.2.2.2.1 + 1)) fun (v512 : Int) =>
          kn ((), x.2.1, (), (), (), false, v512, ()) (y.1, y.2.1, y.2.2.1, v504, ())
    else
      bif x.2.2.2.2.2.1 then
        rq (decide ((0 : Int) ≤ x.2.2.2.2.2.2.1) && decide (x.2.2.2.2.2.2.1 < 256)) <|
        lt ((y.2.1.getD x.2.2.2.2.2.2.1.toNat false)) fun (v513 : Bool) =>
        bif v513 then
          lt (IntKind.i64.wrap (x.2.2.2.2.2.2.1 + 1)) fun (v514 : Int) =>
          kn ((), x.2.1, (), (), (), true, v514, ()) (y.1, y.2.1, y.2.2.1, v504, ())
        else
          rq (decide ((0 : Int) ≤ x.2.2.2.2.2.2.1) && decide (x.2.2.2.2.2.2.1 < 256)) <|
          lt ((y.2.2.1.getD x.2.2.2.2.2.2.1.toNat false)) fun (v515 : Bool) =>
          lt (IntKind.i64.wrap (x.2.2.2.2.2.2.1 + 1)) fun (v516 : Int) =>
          kn ((), x.2.1, (), (), (), v515, v516, ()) (y.1, y.2.1, y.2.2.1, v504, ())
      else
        lt (IntKind.i64.wrap (x.2.2.2.2.2.2.1 + 1)) fun (v517 : Int) =>
        kn ((), x.2.1, (), (), (), false, v517, ()) (y.1, y.2.1, y.2.2.1, v504, ())
  else
    ke 1 ((), x.2.1, (), (), (), x.2.2.2.2.2.1, x.2.2.2.2.2.2.1, ()) (y.1, y.2.1, y.2.2.1, y.2.2.2.1, ())

def fu0 (x : X0) (y : Y0) : Nat := ((256 : Int) - x.2.2.2.2.2.2.1).toNat + 1
def l0 (x : X0) (y : Y0) : Bool × Nat × X0 × Y0 := rounds (fun rq kn ke x y => g0 rq kn ke x y) (fu0 x y) x y
def g {Z : Type} (rq : Bool → Z → Z) (rt : X → Z) (a : (List Int)) (b : (List Int)) : Z :=
  lt (Sacristyref01_Of.r a) fun w433 =>
  rq w433.1 <|
  lt (Sacristyref01_Of.r b) fun w434 =>
  rq w434.1 <|
  lt ((List.replicate 256 false)) fun (v435 : (List Bool)) =>
  lt (Sacristyref01_Add.l0 ((), 0, (), (), (), false, 0, ()) ([0, 0, 0, 0], w433.2, w434.2, v435, ())) fun w518 =>
  rq w518.1 <|
  bif w518.2.2.1.2.2.2.2.2.1 then
    lt (Sacristyref01_Nat.r w518.2.2.2.2.2.2.1) fun w519 =>
    rq w519.1 <|
    rt (w519.2, 1)
  else
    lt (Sacristyref01_Nat.r w518.2.2.2.2.2.2.1) fun w520 =>
    rq w520.1 <|
    rt (w520.2, 0)

def r (a : (List Int)) (b : (List Int)) : Bool × X := g chk (fun x => (true, x)) a b
noncomputable def D : CallD := Dof (P := Try.prog) [Sacristyref01_Of.ent, Sacristyref01_Nat.ent]
noncomputable def tab : List (Nat × LE Res) := [(6, .typed (loopT 57 sh0 bx0 (loopF' [1] (rounds fun rq kn ke x y => g0 rq kn ke x y) fu0)))]
set_option maxRecDepth 100000 in
theorem run (a : (List Int)) (b : (List Int)) : enterK E0 D (loopX E0 D tab 9) Try.f25 (codeOf Try.f25) [.val ⟨.arr 4 (.int .u64), a⟩, .val ⟨.arr 4 (.int .u64), b⟩] [] = g (fun c z => req c z) (fun x => some (res x)) a b := by kernel_rfl
theorem rel (a : (List Int)) (b : (List Int)) : J (fun w z => z = some (res w)) (r a b) (g (fun c z => req c z) (fun x => some (res x)) a b) := by
  unfold r g
  with_reducible repeat (first | (apply J.lt; intro _) | apply J.rq | apply J.bif | exact J.rt rfl)
set_option maxRecDepth 100000 in
theorem round0 (x : ShX sh0) (y : BxX bx0) (k : Ex → St → Option Res) : codeK E0 D (loopX E0 D tab 8) (nthLoop (codeOf Try.f25) 0) (inj 57 sh0 bx0 x y) (fun ex st => k ex (st.forget (keysS sh0) (keysB bx0))) = g0 (fun c z => req c z) (fun x y => k .normal (inj 57 sh0 bx0 x y)) (fun e x y => k (exOf e) (inj 57 sh0 bx0 x y)) x y := by kernel_rfl
theorem told0 : Nonempty (Told Try.prog E0 D tab Try.f25.ntmps (nthLoop (codeOf Try.f25) 0) 57 sh0 bx0 (loopF' [1] (rounds fun rq kn ke x y => g0 rq kn ke x y) fu0)) :=
  told_of (sh := sh0) (bx := bx0) 8 (by kernel_rfl) (by kernel_rfl) [1] fu0 (fun rq kn ke x y => g0 rq kn ke x y) (fun rq kn ke x y => g0 rq kn ke x y) round0 (by
    intro φ kn1 kn2 ke1 ke2 h1 h2 x y
    simp only [g0]
    with_reducible repeat (first | (apply J.lt; intro _) | apply J.rq | apply J.bif | exact h1 _ _ | exact h2 _ (by decide) _ _))
theorem tabOK : TabOK Try.prog E0 D tab Try.f25.ntmps (codeOf Try.f25) := tabOK_of (bs := [nthLoop (codeOf Try.f25) 0]) (by kernel_rfl) (allTold_cons (typedAt (by kernel_rfl) told0) allTold_nil)
def F (ar : List AV) (br : List DV) : Option (Bool × Res) := match ar, br with
  | [a0, a1], [] => (match a0.get (.arr 4 (.int .u64)), a1.get (.arr 4 (.int .u64)) with | some a, some b => some ((r a b).1, res (r a b).2) | _, _ => none)
  | _, _ => none
theorem ok : fnOK Try.f25 = true := by kernel_rfl
set_option linter.unusedSimpArgs false in
theorem good (ar : List AV) (br : List DV) (q : Res) (h : F ar br = some (true, q)) : Good Try.prog 25 ar br q := by
  unfold F at h
  split at h
  · skip
    split at h
    · rename_i u0 u1 e0 e1
      simp only [Option.some.injEq, Prod.mk.injEq] at h
      obtain ⟨hr, rfl⟩ := h
      have z0 := AV.get_eq e0
      have z1 := AV.get_eq e1
      subst z0
      subst z1
      exact ent_good (X := X) (res := res) (w := r u0 u1) (z := g (fun c z => req c z) (fun x => some (res x)) u0 u1) hE0 (Dof_sound _) Try.func25 ok tabOK (run u0 u1) (rel u0 u1) hr
    · cases h
  · cases h
noncomputable def ent : Ent Try.prog := ⟨25, F, good⟩
end Sacristyref01_Add

/-! sacristy/sacristyref01.Take -/
namespace Sacristyref01_Take
abbrev X : Type := (List Int) × Int
def res (x : X) : Res := ([.val ⟨.arr 4 (.int .u64), x.1⟩, .val ⟨.int .i64, x.2⟩], [])
abbrev sh0 : List (Nat × Sh) := [(0, .p .str), (2, .pb 2 (.arr 4 (.int .u64)) []), (3, .p (.int .i64)), (4, .pb 4 (.arr 4 (.int .u64)) []), (5, .p (.int .i64))]
abbrev bx0 : List (Nat × Ty) := [(2, .arr 4 (.int .u64)), (4, .arr 4 (.int .u64))]
abbrev X0 : Type := ByteArray × Unit × Int × Unit × Int × Unit
abbrev Y0 : Type := (List Int) × (List Int) × Unit
def g0 {Z : Type} (rq : Bool → Z → Z) (kn : X0 → Y0 → Z) (ke : Nat → X0 → Y0 → Z) (x : X0) (y : Y0) : Z :=
  lt ((x.1.size : Int)) fun (v265 : Int) =>
  lt ((decide (x.2.2.2.2.1 < v265))) fun (v266 : Bool) =>
  bif v266 then
    lt (Sacristyref01_Up.r y.2.1 8) fun w418 =>
    rq w418.1 <|
    lt (((x.1.data.getD x.2.2.2.2.1.toNat 0).toNat : Int)) fun (v419 : Int) =>
    rq (decide ((0 : Int) ≤ x.2.2.2.2.1) && decide (x.2.2.2.2.1 < (x.1.size : Int))) <|
    lt (IntKind.i64.wrap (v419)) fun (v420 : Int) =>
    lt (Sacristyref01_Int.r v420) fun w432 =>
    rq w432.1 <|
    lt (Sacristyref01_Add.r w418.2 w432.2) fun w521 =>
    rq w521.1 <|
    lt (IntKind.i64.wrap (x.2.2.2.2.1 + 1)) fun (v522 : Int) =>
    kn (x.1, (), x.2.2.1, (), v522, ()) (y.1, w521.2.1, ())
  else
    ke 1 (x.1, (), x.2.2.1, (), x.2.2.2.2.1, ()) (y.1, y.2.1, ())

def fu0 (x : X0) (y : Y0) : Nat := ((x.1.size : Int) - x.2.2.2.2.1).toNat + 1
def l0 (x : X0) (y : Y0) : Bool × Nat × X0 × Y0 := rounds (fun rq kn ke x y => g0 rq kn ke x y) (fu0 x y) x y
def g {Z : Type} (rq : Bool → Z → Z) (rt : X → Z) (s : ByteArray) : Z :=
  lt ((s.size : Int)) fun (v257 : Int) =>
  lt ((decide (v257 > 32))) fun (v258 : Bool) =>
  bif v258 then
    rt ([0, 0, 0, 0], 4)
  else
    lt ((s.size : Int)) fun (v259 : Int) =>
    lt ((decide (v259 > 0))) fun (v260 : Bool) =>
    bif v260 then
      lt (((s.data.getD 0 0).toNat : Int)) fun (v261 : Int) =>
      rq (decide ((0 : Int) < (s.size : Int))) <|
      lt ((v261 == 0)) fun (v262 : Bool) =>
      bif v262 then
        rt ([0, 0, 0, 0], 4)
      else
        lt (Sacristyref01_Take.l0 (s, (), 0, (), 0, ()) ([0, 0, 0, 0], [0, 0, 0, 0], ())) fun w523 =>
        rq w523.1 <|
        rt (w523.2.2.2.2.1, 0)
    else
      lt (Sacristyref01_Take.l0 (s, (), 0, (), 0, ()) ([0, 0, 0, 0], [0, 0, 0, 0], ())) fun w524 =>
      rq w524.1 <|
      rt (w524.2.2.2.2.1, 0)

def r (s : ByteArray) : Bool × X := g chk (fun x => (true, x)) s
noncomputable def D : CallD := Dof (P := Try.prog) [Sacristyref01_Up.ent, Sacristyref01_Int.ent, Sacristyref01_Add.ent]
noncomputable def tab : List (Nat × LE Res) := [(6, .typed (loopT 42 sh0 bx0 (loopF' [1] (rounds fun rq kn ke x y => g0 rq kn ke x y) fu0)))]
set_option maxRecDepth 100000 in
theorem run (s : ByteArray) : enterK E0 D (loopX E0 D tab 9) Try.f17 (codeOf Try.f17) [.val ⟨.str, s⟩] [] = g (fun c z => req c z) (fun x => some (res x)) s := by kernel_rfl
theorem rel (s : ByteArray) : J (fun w z => z = some (res w)) (r s) (g (fun c z => req c z) (fun x => some (res x)) s) := by
  unfold r g
  with_reducible repeat (first | (apply J.lt; intro _) | apply J.rq | apply J.bif | exact J.rt rfl)
set_option maxRecDepth 100000 in
theorem round0 (x : ShX sh0) (y : BxX bx0) (k : Ex → St → Option Res) : codeK E0 D (loopX E0 D tab 8) (nthLoop (codeOf Try.f17) 0) (inj 42 sh0 bx0 x y) (fun ex st => k ex (st.forget (keysS sh0) (keysB bx0))) = g0 (fun c z => req c z) (fun x y => k .normal (inj 42 sh0 bx0 x y)) (fun e x y => k (exOf e) (inj 42 sh0 bx0 x y)) x y := by kernel_rfl
theorem told0 : Nonempty (Told Try.prog E0 D tab Try.f17.ntmps (nthLoop (codeOf Try.f17) 0) 42 sh0 bx0 (loopF' [1] (rounds fun rq kn ke x y => g0 rq kn ke x y) fu0)) :=
  told_of (sh := sh0) (bx := bx0) 8 (by kernel_rfl) (by kernel_rfl) [1] fu0 (fun rq kn ke x y => g0 rq kn ke x y) (fun rq kn ke x y => g0 rq kn ke x y) round0 (by
    intro φ kn1 kn2 ke1 ke2 h1 h2 x y
    simp only [g0]
    with_reducible repeat (first | (apply J.lt; intro _) | apply J.rq | apply J.bif | exact h1 _ _ | exact h2 _ (by decide) _ _))
theorem tabOK : TabOK Try.prog E0 D tab Try.f17.ntmps (codeOf Try.f17) := tabOK_of (bs := [nthLoop (codeOf Try.f17) 0]) (by kernel_rfl) (allTold_cons (typedAt (by kernel_rfl) told0) allTold_nil)
def F (ar : List AV) (br : List DV) : Option (Bool × Res) := match ar, br with
  | [a0], [] => (match a0.get .str with | some s => some ((r s).1, res (r s).2) | _ => none)
  | _, _ => none
theorem ok : fnOK Try.f17 = true := by kernel_rfl
set_option linter.unusedSimpArgs false in
theorem good (ar : List AV) (br : List DV) (q : Res) (h : F ar br = some (true, q)) : Good Try.prog 17 ar br q := by
  unfold F at h
  split at h
  · skip
    split at h
    · rename_i u0 e0
      simp only [Option.some.injEq, Prod.mk.injEq] at h
      obtain ⟨hr, rfl⟩ := h
      have z0 := AV.get_eq e0
      subst z0
      exact ent_good (X := X) (res := res) (w := r u0) (z := g (fun c z => req c z) (fun x => some (res x)) u0) hE0 (Dof_sound _) Try.func17 ok tabOK (run u0) (rel u0) hr
    · cases h
  · cases h
noncomputable def ent : Ent Try.prog := ⟨17, F, good⟩
end Sacristyref01_Take

/-! sacristy/sacristyref01.Len -/
namespace Sacristyref01_Len
abbrev X : Type := Int
def res (x : X) : Res := ([.val ⟨.int .i64, x⟩], [])
abbrev sh0 : List (Nat × Sh) := [(2, .p (.int .i64)), (3, .pb 3 (.arr 256 .bool) []), (4, .p (.int .i64))]
abbrev bx0 : List (Nat × Ty) := [(3, .arr 256 .bool)]
abbrev X0 : Type := Int × Unit × Int × Unit
abbrev Y0 : Type := (List Bool) × Unit
def g0 {Z : Type} (rq : Bool → Z → Z) (kn : X0 → Y0 → Z) (ke : Nat → X0 → Y0 → Z) (x : X0) (y : Y0) : Z :=
  lt ((decide (x.2.2.1 ≥ 0))) fun (v539 : Bool) =>
  bif v539 then
    rq (decide ((0 : Int) ≤ x.2.2.1) && decide (x.2.2.1 < 256)) <|
    lt ((y.1.getD x.2.2.1.toNat false)) fun (v540 : Bool) =>
    bif v540 then
      lt (IntKind.i64.wrap (x.2.2.1 + 1)) fun (v541 : Int) =>
      ke 0 (v541, (), x.2.2.1, ()) (y.1, ())
    else
      lt (IntKind.i64.wrap (x.2.2.1 - 1)) fun (v542 : Int) =>
      kn (x.1, (), v542, ()) (y.1, ())
  else
    ke 1 (x.1, (), x.2.2.1, ()) (y.1, ())

def fu0 (x : X0) (y : Y0) : Nat := (x.2.2.1 - (0 : Int) + 1).toNat + 1
def l0 (x : X0) (y : Y0) : Bool × Nat × X0 × Y0 := rounds (fun rq kn ke x y => g0 rq kn ke x y) (fu0 x y) x y
def g {Z : Type} (rq : Bool → Z → Z) (rt : X → Z) (a : (List Int)) : Z :=
  lt (Sacristyref01_Of.r a) fun w529 =>
  rq w529.1 <|
  lt (Sacristyref01_Len.l0 (0, (), 255, ()) (w529.2, ())) fun w543 =>
  rq w543.1 <|
  bif Nat.beq w543.2.1 0 then
    rt w543.2.2.1.1
  else
    rt 0

def r (a : (List Int)) : Bool × X := g chk (fun x => (true, x)) a
noncomputable def D : CallD := Dof (P := Try.prog) [Sacristyref01_Of.ent]
noncomputable def tab : List (Nat × LE Res) := [(4, .typed (loopT 16 sh0 bx0 (loopF' [0, 1] (rounds fun rq kn ke x y => g0 rq kn ke x y) fu0)))]
set_option maxRecDepth 100000 in
theorem run (a : (List Int)) : enterK E0 D (loopX E0 D tab 9) Try.f33 (codeOf Try.f33) [.val ⟨.arr 4 (.int .u64), a⟩] [] = g (fun c z => req c z) (fun x => some (res x)) a := by kernel_rfl
theorem rel (a : (List Int)) : J (fun w z => z = some (res w)) (r a) (g (fun c z => req c z) (fun x => some (res x)) a) := by
  unfold r g
  with_reducible repeat (first | (apply J.lt; intro _) | apply J.rq | apply J.bif | exact J.rt rfl)
set_option maxRecDepth 100000 in
theorem round0 (x : ShX sh0) (y : BxX bx0) (k : Ex → St → Option Res) : codeK E0 D (loopX E0 D tab 8) (nthLoop (codeOf Try.f33) 0) (inj 16 sh0 bx0 x y) (fun ex st => k ex (st.forget (keysS sh0) (keysB bx0))) = g0 (fun c z => req c z) (fun x y => k .normal (inj 16 sh0 bx0 x y)) (fun e x y => k (exOf e) (inj 16 sh0 bx0 x y)) x y := by kernel_rfl
theorem told0 : Nonempty (Told Try.prog E0 D tab Try.f33.ntmps (nthLoop (codeOf Try.f33) 0) 16 sh0 bx0 (loopF' [0, 1] (rounds fun rq kn ke x y => g0 rq kn ke x y) fu0)) :=
  told_of (sh := sh0) (bx := bx0) 8 (by kernel_rfl) (by kernel_rfl) [0, 1] fu0 (fun rq kn ke x y => g0 rq kn ke x y) (fun rq kn ke x y => g0 rq kn ke x y) round0 (by
    intro φ kn1 kn2 ke1 ke2 h1 h2 x y
    simp only [g0]
    with_reducible repeat (first | (apply J.lt; intro _) | apply J.rq | apply J.bif | exact h1 _ _ | exact h2 _ (by decide) _ _))
theorem tabOK : TabOK Try.prog E0 D tab Try.f33.ntmps (codeOf Try.f33) := tabOK_of (bs := [nthLoop (codeOf Try.f33) 0]) (by kernel_rfl) (allTold_cons (typedAt (by kernel_rfl) told0) allTold_nil)
def F (ar : List AV) (br : List DV) : Option (Bool × Res) := match ar, br with
  | [a0], [] => (match a0.get (.arr 4 (.int .u64)) with | some a => some ((r a).1, res (r a).2) | _ => none)
  | _, _ => none
theorem ok : fnOK Try.f33 = true := by kernel_rfl
set_option linter.unusedSimpArgs false in
theorem good (ar : List AV) (br : List DV) (q : Res) (h : F ar br = some (true, q)) : Good Try.prog 33 ar br q := by
  unfold F at h
  split at h
  · skip
    split at h
    · rename_i u0 e0
      simp only [Option.some.injEq, Prod.mk.injEq] at h
      obtain ⟨hr, rfl⟩ := h
      have z0 := AV.get_eq e0
      subst z0
      exact ent_good (X := X) (res := res) (w := r u0) (z := g (fun c z => req c z) (fun x => some (res x)) u0) hE0 (Dof_sound _) Try.func33 ok tabOK (run u0) (rel u0) hr
    · cases h
  · cases h
noncomputable def ent : Ent Try.prog := ⟨33, F, good⟩
end Sacristyref01_Len

/-! sacristy/sacristyref01.Bit -/
namespace Sacristyref01_Bit
abbrev X : Type := Int
def res (x : X) : Res := ([.val ⟨.int .i64, x⟩], [])
def g {Z : Type} (rq : Bool → Z → Z) (rt : X → Z) (a : (List Int)) (kx : Int) : Z :=
  lt (Sacristyref01_Of.r a) fun w552 =>
  rq w552.1 <|
  lt ((decide (kx ≥ 0))) fun (v553 : Bool) =>
  bif v553 then
    lt ((decide (kx < 256))) fun (v554 : Bool) =>
    bif v554 then
      rq (decide ((0 : Int) ≤ kx) && decide (kx < 256)) <|
      lt ((w552.2.getD kx.toNat false)) fun (v555 : Bool) =>
      bif v555 then
        rt 1
      else
        rt 0
    else
      rt 0
  else
    rt 0

def r (a : (List Int)) (kx : Int) : Bool × X := g chk (fun x => (true, x)) a kx
noncomputable def D : CallD := Dof (P := Try.prog) [Sacristyref01_Of.ent]
noncomputable def tab : List (Nat × LE Res) := []
set_option maxRecDepth 100000 in
theorem run (a : (List Int)) (kx : Int) : enterK E0 D (loopX E0 D tab 9) Try.f34 (codeOf Try.f34) [.val ⟨.arr 4 (.int .u64), a⟩, .val ⟨.int .i64, kx⟩] [] = g (fun c z => req c z) (fun x => some (res x)) a kx := by kernel_rfl
theorem rel (a : (List Int)) (kx : Int) : J (fun w z => z = some (res w)) (r a kx) (g (fun c z => req c z) (fun x => some (res x)) a kx) := by
  unfold r g
  with_reducible repeat (first | (apply J.lt; intro _) | apply J.rq | apply J.bif | exact J.rt rfl)
def F (ar : List AV) (br : List DV) : Option (Bool × Res) := match ar, br with
  | [a0, a1], [] => (match a0.get (.arr 4 (.int .u64)), a1.get (.int .i64) with | some a, some kx => some ((r a kx).1, res (r a kx).2) | _, _ => none)
  | _, _ => none
theorem ok : fnOK Try.f34 = true := by kernel_rfl
set_option linter.unusedSimpArgs false in
theorem good (ar : List AV) (br : List DV) (q : Res) (h : F ar br = some (true, q)) : Good Try.prog 34 ar br q := by
  unfold F at h
  split at h
  · skip
    split at h
    · rename_i u0 u1 e0 e1
      simp only [Option.some.injEq, Prod.mk.injEq] at h
      obtain ⟨hr, rfl⟩ := h
      have z0 := AV.get_eq e0
      have z1 := AV.get_eq e1
      subst z0
      subst z1
      exact ent_good (X := X) (res := res) (w := r u0 u1) (z := g (fun c z => req c z) (fun x => some (res x)) u0 u1) hE0 (Dof_sound _) Try.func34 ok tabOK_nil (run u0 u1) (rel u0 u1) hr
    · cases h
  · cases h
noncomputable def ent : Ent Try.prog := ⟨34, F, good⟩
end Sacristyref01_Bit

/-! sacristy/sacristyref01.Bytes -/
namespace Sacristyref01_Bytes
abbrev X : Type := ByteArray
def res (x : X) : Res := ([.val ⟨.str, x⟩], [])
abbrev sh0 : List (Nat × Sh) := [(1, .pb 1 (.arr 4 (.int .u64)) []), (2, .p .str), (4, .own (.int .u8)), (5, .p (.int .i64))]
abbrev bx0 : List (Nat × Ty) := [(1, .arr 4 (.int .u64))]
abbrev X0 : Type := Unit × ByteArray × (Bool × List Int) × Int × Unit
abbrev Y0 : Type := (List Int) × Unit
def g0 {Z : Type} (rq : Bool → Z → Z) (kn : X0 → Y0 → Z) (ke : Nat → X0 → Y0 → Z) (x : X0) (y : Y0) : Z :=
  lt ((decide (x.2.2.2.1 ≥ 0))) fun (v549 : Bool) =>
  bif v549 then
    lt (IntKind.i64.wrap ((8 : Int) * x.2.2.2.1)) fun (v594 : Int) =>
    lt (IntKind.i64.wrap (v594 + 0)) fun (v595 : Int) =>
    lt (Sacristyref01_Bit.r y.1 v595) fun w596 =>
    rq w596.1 <|
    lt (IntKind.i64.wrap (w596.2 * 2 ^ 0)) fun (v597 : Int) =>
    lt (ibits .i64 (· ||| ·) (0 : Int) v597) fun (v598 : Int) =>
    lt (IntKind.i64.wrap ((8 : Int) * x.2.2.2.1)) fun (v599 : Int) =>
    lt (IntKind.i64.wrap (v599 + 1)) fun (v600 : Int) =>
    lt (Sacristyref01_Bit.r y.1 v600) fun w601 =>
    rq w601.1 <|
    lt (IntKind.i64.wrap (w601.2 * 2 ^ 1)) fun (v602 : Int) =>
    lt (ibits .i64 (· ||| ·) v598 v602) fun (v603 : Int) =>
    lt (IntKind.i64.wrap ((8 : Int) * x.2.2.2.1)) fun (v604 : Int) =>
    lt (IntKind.i64.wrap (v604 + 2)) fun (v605 : Int) =>
    lt (Sacristyref01_Bit.r y.1 v605) fun w606 =>
    rq w606.1 <|
    lt (IntKind.i64.wrap (w606.2 * 2 ^ 2)) fun (v607 : Int) =>
    lt (ibits .i64 (· ||| ·) v603 v607) fun (v608 : Int) =>
    lt (IntKind.i64.wrap ((8 : Int) * x.2.2.2.1)) fun (v609 : Int) =>
    lt (IntKind.i64.wrap (v609 + 3)) fun (v610 : Int) =>
    lt (Sacristyref01_Bit.r y.1 v610) fun w611 =>
    rq w611.1 <|
    lt (IntKind.i64.wrap (w611.2 * 2 ^ 3)) fun (v612 : Int) =>
    lt (ibits .i64 (· ||| ·) v608 v612) fun (v613 : Int) =>
    lt (IntKind.i64.wrap ((8 : Int) * x.2.2.2.1)) fun (v614 : Int) =>
    lt (IntKind.i64.wrap (v614 + 4)) fun (v615 : Int) =>
    lt (Sacristyref01_Bit.r y.1 v615) fun w616 =>
    rq w616.1 <|
    lt (IntKind.i64.wrap (w616.2 * 2 ^ 4)) fun (v617 : Int) =>
    lt (ibits .i64 (· ||| ·) v613 v617) fun (v618 : Int) =>
    lt (IntKind.i64.wrap ((8 : Int) * x.2.2.2.1)) fun (v619 : Int) =>
    lt (IntKind.i64.wrap (v619 + 5)) fun (v620 : Int) =>
    lt (Sacristyref01_Bit.r y.1 v620) fun w621 =>
    rq w621.1 <|
    lt (IntKind.i64.wrap (w621.2 * 2 ^ 5)) fun (v622 : Int) =>
    lt (ibits .i64 (· ||| ·) v618 v622) fun (v623 : Int) =>
    lt (IntKind.i64.wrap ((8 : Int) * x.2.2.2.1)) fun (v624 : Int) =>
    lt (IntKind.i64.wrap (v624 + 6)) fun (v625 : Int) =>
    lt (Sacristyref01_Bit.r y.1 v625) fun w626 =>
    rq w626.1 <|
    lt (IntKind.i64.wrap (w626.2 * 2 ^ 6)) fun (v627 : Int) =>
    lt (ibits .i64 (· ||| ·) v623 v627) fun (v628 : Int) =>
    lt (IntKind.i64.wrap ((8 : Int) * x.2.2.2.1)) fun (v629 : Int) =>
    lt (IntKind.i64.wrap (v629 + 7)) fun (v630 : Int) =>
    lt (Sacristyref01_Bit.r y.1 v630) fun w631 =>
    rq w631.1 <|
    lt (IntKind.i64.wrap (w631.2 * 2 ^ 7)) fun (v632 : Int) =>
    lt (ibits .i64 (· ||| ·) v628 v632) fun (v633 : Int) =>
    lt (ibits .i64 (· &&& ·) v633 (255 : Int)) fun (v634 : Int) =>
    lt (IntKind.u8.wrap (v634)) fun (v635 : Int) =>
    lt ((x.2.2.1.2 ++ [v635])) fun (v636 : (List Int)) =>
    lt ((x.2.2.1.1 && false)) fun (v637 : Bool) =>
    rq (decide ((2 * (x.2.2.1.2.length + 1) + 512) * 1 ≤ 70368744177664)) <|
    lt (IntKind.i64.wrap (x.2.2.2.1 - 1)) fun (v638 : Int) =>
    kn ((), x.2.1, (v637, v636), v638, ()) (y.1, ())
  else
    ke 1 ((), x.2.1, (x.2.2.1.1, x.2.2.1.2), x.2.2.2.1, ()) (y.1, ())

def fu0 (x : X0) (y : Y0) : Nat := (x.2.2.2.1 - (0 : Int) + 1).toNat + 1
def l0 (x : X0) (y : Y0) : Bool × Nat × X0 × Y0 := rounds (fun rq kn ke x y => g0 rq kn ke x y) (fu0 x y) x y
def g {Z : Type} (rq : Bool → Z → Z) (rt : X → Z) (a : (List Int)) : Z :=
  lt (Sacristyref01_Len.r a) fun w544 =>
  rq w544.1 <|
  lt (IntKind.i64.wrap (w544.2 + 7)) fun (v545 : Int) =>
  lt (IntKind.i64.wrap (v545.tdiv 8)) fun (v546 : Int) =>
  lt (IntKind.i64.wrap (v546 - 1)) fun (v547 : Int) =>
  lt (Sacristyref01_Bytes.l0 ((), (⟨#[]⟩ : ByteArray), (true, []), v547, ()) (a, ())) fun w639 =>
  rq w639.1 <|
  lt ((bytesOf w639.2.2.1.2.2.1.2)) fun (v640 : ByteArray) =>
  rt v640

def r (a : (List Int)) : Bool × X := g chk (fun x => (true, x)) a
noncomputable def D : CallD := Dof (P := Try.prog) [Sacristyref01_Len.ent, Sacristyref01_Bit.ent]
noncomputable def tab : List (Nat × LE Res) := [(5, .typed (loopT 40 sh0 bx0 (loopF' [1] (rounds fun rq kn ke x y => g0 rq kn ke x y) fu0)))]
set_option maxRecDepth 100000 in
theorem run (a : (List Int)) : enterK E0 D (loopX E0 D tab 9) Try.f19 (codeOf Try.f19) [.val ⟨.arr 4 (.int .u64), a⟩] [] = g (fun c z => req c z) (fun x => some (res x)) a := by kernel_rfl
theorem rel (a : (List Int)) : J (fun w z => z = some (res w)) (r a) (g (fun c z => req c z) (fun x => some (res x)) a) := by
  unfold r g
  with_reducible repeat (first | (apply J.lt; intro _) | apply J.rq | apply J.bif | exact J.rt rfl)
set_option maxRecDepth 100000 in
theorem round0 (x : ShX sh0) (y : BxX bx0) (k : Ex → St → Option Res) : codeK E0 D (loopX E0 D tab 8) (nthLoop (codeOf Try.f19) 0) (inj 40 sh0 bx0 x y) (fun ex st => k ex (st.forget (keysS sh0) (keysB bx0))) = g0 (fun c z => req c z) (fun x y => k .normal (inj 40 sh0 bx0 x y)) (fun e x y => k (exOf e) (inj 40 sh0 bx0 x y)) x y := by kernel_rfl
theorem told0 : Nonempty (Told Try.prog E0 D tab Try.f19.ntmps (nthLoop (codeOf Try.f19) 0) 40 sh0 bx0 (loopF' [1] (rounds fun rq kn ke x y => g0 rq kn ke x y) fu0)) :=
  told_of (sh := sh0) (bx := bx0) 8 (by kernel_rfl) (by kernel_rfl) [1] fu0 (fun rq kn ke x y => g0 rq kn ke x y) (fun rq kn ke x y => g0 rq kn ke x y) round0 (by
    intro φ kn1 kn2 ke1 ke2 h1 h2 x y
    simp only [g0]
    with_reducible repeat (first | (apply J.lt; intro _) | apply J.rq | apply J.bif | exact h1 _ _ | exact h2 _ (by decide) _ _))
theorem tabOK : TabOK Try.prog E0 D tab Try.f19.ntmps (codeOf Try.f19) := tabOK_of (bs := [nthLoop (codeOf Try.f19) 0, nthLoop (codeOf Try.f19) 1]) (by kernel_rfl) (allTold_cons (typedAt (by kernel_rfl) told0) (allTold_cons (rawAt (by kernel_rfl)) allTold_nil))
def F (ar : List AV) (br : List DV) : Option (Bool × Res) := match ar, br with
  | [a0], [] => (match a0.get (.arr 4 (.int .u64)) with | some a => some ((r a).1, res (r a).2) | _ => none)
  | _, _ => none
theorem ok : fnOK Try.f19 = true := by kernel_rfl
set_option linter.unusedSimpArgs false in
theorem good (ar : List AV) (br : List DV) (q : Res) (h : F ar br = some (true, q)) : Good Try.prog 19 ar br q := by
  unfold F at h
  split at h
  · skip
    split at h
    · rename_i u0 e0
      simp only [Option.some.injEq, Prod.mk.injEq] at h
      obtain ⟨hr, rfl⟩ := h
      have z0 := AV.get_eq e0
      subst z0
      exact ent_good (X := X) (res := res) (w := r u0) (z := g (fun c z => req c z) (fun x => some (res x)) u0) hE0 (Dof_sound _) Try.func19 ok tabOK (run u0) (rel u0) hr
    · cases h
  · cases h
noncomputable def ent : Ent Try.prog := ⟨19, F, good⟩
end Sacristyref01_Bytes

/-! sacristy/sacristylaw01.NatBytes -/
namespace Sacristylaw01_NatBytes
abbrev X : Type := Bool
def res (x : X) : Res := ([.val ⟨.bool, x⟩], [])
def g {Z : Type} (rq : Bool → Z → Z) (rt : X → Z) (a : (List Int)) (s : ByteArray) : Z :=
  lt ((s.size : Int)) fun (v1 : Int) =>
  lt ((decide (v1 > 256))) fun (v2 : Bool) =>
  bif v2 then
    lt (Sacristylaw01_awake.r ) fun w255 =>
    rq w255.1 <|
    rt w255.2
  else
    lt (Nat_Take.r s) fun w256 =>
    rq w256.1 <|
    lt (Sacristyref01_Take.r s) fun w525 =>
    rq w525.1 <|
    lt (Nat_Bytes.r a) fun w526 =>
    rq w526.1 <|
    lt (Nat_Take.r w526.2) fun w527 =>
    rq w527.1 <|
    lt (Nat_Bytes.r a) fun w528 =>
    rq w528.1 <|
    lt (Sacristyref01_Bytes.r a) fun w641 =>
    rq w641.1 <|
    lt ((w528.2.toList == w641.2.toList)) fun (v642 : Bool) =>
    bif v642 then
      lt ((decide ((w256.2.1.getD 0 0) = (w525.2.1.getD 0 0)) && (decide ((w256.2.1.getD 1 0) = (w525.2.1.getD 1 0)) && (decide ((w256.2.1.getD 2 0) = (w525.2.1.getD 2 0)) && (decide ((w256.2.1.getD 3 0) = (w525.2.1.getD 3 0)) && true))))) fun (v643 : Bool) =>
      bif v643 then
        lt ((w256.2.2 == w525.2.2)) fun (v644 : Bool) =>
        bif v644 then
          lt ((decide ((w527.2.1.getD 0 0) = (a.getD 0 0)) && (decide ((w527.2.1.getD 1 0) = (a.getD 1 0)) && (decide ((w527.2.1.getD 2 0) = (a.getD 2 0)) && (decide ((w527.2.1.getD 3 0) = (a.getD 3 0)) && true))))) fun (v645 : Bool) =>
          bif v645 then
            lt ((w527.2.2 == 0)) fun (v646 : Bool) =>
            bif v646 then
              lt ((w256.2.2 != 0)) fun (v647 : Bool) =>
              bif v647 then
                lt (Sacristylaw01_awake.r ) fun w648 =>
                rq w648.1 <|
                rt w648.2
              else
                lt (Nat_Bytes.r w256.2.1) fun w649 =>
                rq w649.1 <|
                lt ((w649.2.toList == s.toList)) fun (v650 : Bool) =>
                bif v650 then
                  lt (Sacristylaw01_awake.r ) fun w651 =>
                  rq w651.1 <|
                  rt w651.2
                else
                  rt false
            else
              rt false
          else
            rt false
        else
          rt false
      else
        rt false
    else
      rt false

def r (a : (List Int)) (s : ByteArray) : Bool × X := g chk (fun x => (true, x)) a s
noncomputable def D : CallD := Dof (P := Try.prog) [Sacristylaw01_awake.ent, Nat_Take.ent, Sacristyref01_Take.ent, Nat_Bytes.ent, Sacristyref01_Bytes.ent]
noncomputable def tab : List (Nat × LE Res) := []
set_option maxRecDepth 100000 in
theorem run (a : (List Int)) (s : ByteArray) : enterK E0 D (loopX E0 D tab 9) Try.f3 (codeOf Try.f3) [.val ⟨.arr 4 (.int .u64), a⟩, .val ⟨.str, s⟩] [] = g (fun c z => req c z) (fun x => some (res x)) a s := by kernel_rfl
theorem rel (a : (List Int)) (s : ByteArray) : J (fun w z => z = some (res w)) (r a s) (g (fun c z => req c z) (fun x => some (res x)) a s) := by
  unfold r g
  with_reducible repeat (first | (apply J.lt; intro _) | apply J.rq | apply J.bif | exact J.rt rfl)
def F (ar : List AV) (br : List DV) : Option (Bool × Res) := match ar, br with
  | [a0, a1], [] => (match a0.get (.arr 4 (.int .u64)), a1.get .str with | some a, some s => some ((r a s).1, res (r a s).2) | _, _ => none)
  | _, _ => none
theorem ok : fnOK Try.f3 = true := by kernel_rfl
set_option linter.unusedSimpArgs false in
theorem good (ar : List AV) (br : List DV) (q : Res) (h : F ar br = some (true, q)) : Good Try.prog 3 ar br q := by
  unfold F at h
  split at h
  · skip
    split at h
    · rename_i u0 u1 e0 e1
      simp only [Option.some.injEq, Prod.mk.injEq] at h
      obtain ⟨hr, rfl⟩ := h
      have z0 := AV.get_eq e0
      have z1 := AV.get_eq e1
      subst z0
      subst z1
      exact ent_good (X := X) (res := res) (w := r u0 u1) (z := g (fun c z => req c z) (fun x => some (res x)) u0 u1) hE0 (Dof_sound _) Try.func3 ok tabOK_nil (run u0 u1) (rel u0 u1) hr
    · cases h
  · cases h
noncomputable def ent : Ent Try.prog := ⟨3, F, good⟩
end Sacristylaw01_NatBytes

/-! sacristy/nat.Int -/
namespace Nat_Int
abbrev X : Type := Int × Bool
def res (x : X) : Res := ([.val ⟨.int .i64, x.1⟩, .val ⟨.bool, x.2⟩], [])
def g {Z : Type} (rq : Bool → Z → Z) (rt : X → Z) (a : (List Int)) : Z :=
  lt ((a.getD 0 0)) fun (v652 : Int) =>
  lt ((!(decide ((a.getD 0 0) = v652) && (decide ((a.getD 1 0) = 0) && (decide ((a.getD 2 0) = 0) && (decide ((a.getD 3 0) = 0) && true)))))) fun (v653 : Bool) =>
  bif v653 then
    rt (0, false)
  else
    lt ((a.getD 0 0)) fun (v654 : Int) =>
    lt ((decide (v654 > 9223372036854775807))) fun (v655 : Bool) =>
    bif v655 then
      rt (0, false)
    else
      lt ((a.getD 0 0)) fun (v656 : Int) =>
      lt (IntKind.i64.wrap (v656)) fun (v657 : Int) =>
      rt (v657, true)

def r (a : (List Int)) : Bool × X := g chk (fun x => (true, x)) a
noncomputable def D : CallD := Dof (P := Try.prog) []
noncomputable def tab : List (Nat × LE Res) := []
set_option maxRecDepth 100000 in
theorem run (a : (List Int)) : enterK E0 D (loopX E0 D tab 9) Try.f20 (codeOf Try.f20) [.val ⟨.arr 4 (.int .u64), a⟩] [] = g (fun c z => req c z) (fun x => some (res x)) a := by kernel_rfl
theorem rel (a : (List Int)) : J (fun w z => z = some (res w)) (r a) (g (fun c z => req c z) (fun x => some (res x)) a) := by
  unfold r g
  with_reducible repeat (first | (apply J.lt; intro _) | apply J.rq | apply J.bif | exact J.rt rfl)
def F (ar : List AV) (br : List DV) : Option (Bool × Res) := match ar, br with
  | [a0], [] => (match a0.get (.arr 4 (.int .u64)) with | some a => some ((r a).1, res (r a).2) | _ => none)
  | _, _ => none
theorem ok : fnOK Try.f20 = true := by kernel_rfl
set_option linter.unusedSimpArgs false in
theorem good (ar : List AV) (br : List DV) (q : Res) (h : F ar br = some (true, q)) : Good Try.prog 20 ar br q := by
  unfold F at h
  split at h
  · skip
    split at h
    · rename_i u0 e0
      simp only [Option.some.injEq, Prod.mk.injEq] at h
      obtain ⟨hr, rfl⟩ := h
      have z0 := AV.get_eq e0
      subst z0
      exact ent_good (X := X) (res := res) (w := r u0) (z := g (fun c z => req c z) (fun x => some (res x)) u0) hE0 (Dof_sound _) Try.func20 ok tabOK_nil (run u0) (rel u0) hr
    · cases h
  · cases h
noncomputable def ent : Ent Try.prog := ⟨20, F, good⟩
end Nat_Int

/-! sacristy/sacristyref01.Low -/
namespace Sacristyref01_Low
abbrev X : Type := Int × Bool
def res (x : X) : Res := ([.val ⟨.int .i64, x.1⟩, .val ⟨.bool, x.2⟩], [])
abbrev sh0 : List (Nat × Sh) := [(2, .p (.int .i64)), (3, .p .bool), (4, .p (.int .i64)), (5, .pb 5 (.arr 256 .bool) []), (6, .p (.int .i64))]
abbrev bx0 : List (Nat × Ty) := [(5, .arr 256 .bool)]
abbrev X0 : Type := Int × Bool × Int × Unit × Int × Unit
abbrev Y0 : Type := (List Bool) × Unit
def g0 {Z : Type} (rq : Bool → Z → Z) (kn : X0 → Y0 → Z) (ke : Nat → X0 → Y0 → Z) (x : X0) (y : Y0) : Z :=
  lt ((decide (x.2.2.2.2.1 < 63))) fun (v671 : Bool) =>
  bif v671 then
    rq (decide ((0 : Int) ≤ x.2.2.2.2.1) && decide (x.2.2.2.2.1 < 256)) <|
    lt ((y.1.getD x.2.2.2.2.1.toNat false)) fun (v672 : Bool) =>
    bif v672 then
      lt (IntKind.i64.wrap ((1 : Int) * 2 ^ (min x.2.2.2.2.1.toNat 64))) fun (v673 : Int) =>
      rq (!decide (x.2.2.2.2.1 < 0)) <|
      lt (ibits .i64 (· ||| ·) x.2.2.1 v673) fun (v674 : Int) =>
      lt (IntKind.i64.wrap (x.2.2.2.2.1 + 1)) fun (v675 : Int) =>
      kn (x.1, x.2.1, v674, (), v675, ()) (y.1, ())
    else
      lt (IntKind.i64.wrap (x.2.2.2.2.1 + 1)) fun (v676 : Int) =>
      kn (x.1, x.2.1, x.2.2.1, (), v676, ()) (y.1, ())
  else
    ke 1 (x.1, x.2.1, x.2.2.1, (), x.2.2.2.2.1, ()) (y.1, ())

def fu0 (x : X0) (y : Y0) : Nat := ((63 : Int) - x.2.2.2.2.1).toNat + 1
def l0 (x : X0) (y : Y0) : Bool × Nat × X0 × Y0 := rounds (fun rq kn ke x y => g0 rq kn ke x y) (fu0 x y) x y
def g {Z : Type} (rq : Bool → Z → Z) (rt : X → Z) (a : (List Int)) : Z :=
  lt (Sacristyref01_Len.r a) fun w659 =>
  rq w659.1 <|
  lt ((decide (w659.2 > 63))) fun (v660 : Bool) =>
  bif v660 then
    rt (0, false)
  else
    lt (Sacristyref01_Of.r a) fun w661 =>
    rq w661.1 <|
    lt (Sacristyref01_Low.l0 (0, false, 0, (), 0, ()) (w661.2, ())) fun w677 =>
    rq w677.1 <|
    rt (w677.2.2.1.2.2.1, true)

def r (a : (List Int)) : Bool × X := g chk (fun x => (true, x)) a
noncomputable def D : CallD := Dof (P := Try.prog) [Sacristyref01_Len.ent, Sacristyref01_Of.ent]
noncomputable def tab : List (Nat × LE Res) := [(7, .typed (loopT 24 sh0 bx0 (loopF' [1] (rounds fun rq kn ke x y => g0 rq kn ke x y) fu0)))]
set_option maxRecDepth 100000 in
theorem run (a : (List Int)) : enterK E0 D (loopX E0 D tab 9) Try.f21 (codeOf Try.f21) [.val ⟨.arr 4 (.int .u64), a⟩] [] = g (fun c z => req c z) (fun x => some (res x)) a := by kernel_rfl
theorem rel (a : (List Int)) : J (fun w z => z = some (res w)) (r a) (g (fun c z => req c z) (fun x => some (res x)) a) := by
  unfold r g
  with_reducible repeat (first | (apply J.lt; intro _) | apply J.rq | apply J.bif | exact J.rt rfl)
set_option maxRecDepth 100000 in
theorem round0 (x : ShX sh0) (y : BxX bx0) (k : Ex → St → Option Res) : codeK E0 D (loopX E0 D tab 8) (nthLoop (codeOf Try.f21) 0) (inj 24 sh0 bx0 x y) (fun ex st => k ex (st.forget (keysS sh0) (keysB bx0))) = g0 (fun c z => req c z) (fun x y => k .normal (inj 24 sh0 bx0 x y)) (fun e x y => k (exOf e) (inj 24 sh0 bx0 x y)) x y := by kernel_rfl
theorem told0 : Nonempty (Told Try.prog E0 D tab Try.f21.ntmps (nthLoop (codeOf Try.f21) 0) 24 sh0 bx0 (loopF' [1] (rounds fun rq kn ke x y => g0 rq kn ke x y) fu0)) :=
  told_of (sh := sh0) (bx := bx0) 8 (by kernel_rfl) (by kernel_rfl) [1] fu0 (fun rq kn ke x y => g0 rq kn ke x y) (fun rq kn ke x y => g0 rq kn ke x y) round0 (by
    intro φ kn1 kn2 ke1 ke2 h1 h2 x y
    simp only [g0]
    with_reducible repeat (first | (apply J.lt; intro _) | apply J.rq | apply J.bif | exact h1 _ _ | exact h2 _ (by decide) _ _))
theorem tabOK : TabOK Try.prog E0 D tab Try.f21.ntmps (codeOf Try.f21) := tabOK_of (bs := [nthLoop (codeOf Try.f21) 0]) (by kernel_rfl) (allTold_cons (typedAt (by kernel_rfl) told0) allTold_nil)
def F (ar : List AV) (br : List DV) : Option (Bool × Res) := match ar, br with
  | [a0], [] => (match a0.get (.arr 4 (.int .u64)) with | some a => some ((r a).1, res (r a).2) | _ => none)
  | _, _ => none
theorem ok : fnOK Try.f21 = true := by kernel_rfl
set_option linter.unusedSimpArgs false in
theorem good (ar : List AV) (br : List DV) (q : Res) (h : F ar br = some (true, q)) : Good Try.prog 21 ar br q := by
  unfold F at h
  split at h
  · skip
    split at h
    · rename_i u0 e0
      simp only [Option.some.injEq, Prod.mk.injEq] at h
      obtain ⟨hr, rfl⟩ := h
      have z0 := AV.get_eq e0
      subst z0
      exact ent_good (X := X) (res := res) (w := r u0) (z := g (fun c z => req c z) (fun x => some (res x)) u0) hE0 (Dof_sound _) Try.func21 ok tabOK (run u0) (rel u0) hr
    · cases h
  · cases h
noncomputable def ent : Ent Try.prog := ⟨21, F, good⟩
end Sacristyref01_Low

/-! sacristy/sacristylaw01.NatInts -/
namespace Sacristylaw01_NatInts
abbrev X : Type := Bool
def res (x : X) : Res := ([.val ⟨.bool, x⟩], [])
def g {Z : Type} (rq : Bool → Z → Z) (rt : X → Z) (n : Int) (a : (List Int)) : Z :=
  lt (Nat_Int.r a) fun w658 =>
  rq w658.1 <|
  lt (Sacristyref01_Low.r a) fun w678 =>
  rq w678.1 <|
  lt (Nat_Of.r n) fun w679 =>
  rq w679.1 <|
  lt (Nat_Int.r w679.2) fun w680 =>
  rq w680.1 <|
  lt (Nat_Of.r n) fun w681 =>
  rq w681.1 <|
  lt (Sacristyref01_Int.r n) fun w682 =>
  rq w682.1 <|
  lt ((decide ((w681.2.getD 0 0) = (w682.2.getD 0 0)) && (decide ((w681.2.getD 1 0) = (w682.2.getD 1 0)) && (decide ((w681.2.getD 2 0) = (w682.2.getD 2 0)) && (decide ((w681.2.getD 3 0) = (w682.2.getD 3 0)) && true))))) fun (v683 : Bool) =>
  bif v683 then
    lt ((w658.2.1 == w678.2.1)) fun (v684 : Bool) =>
    bif v684 then
      lt ((w658.2.2 == w678.2.2)) fun (v685 : Bool) =>
      bif v685 then
        lt ((bif decide ((0 : Int) > n) then (0 : Int) else n)) fun (v686 : Int) =>
        lt ((w680.2.1 == v686)) fun (v687 : Bool) =>
        bif v687 then
          bif w680.2.2 then
            lt (Sacristylaw01_awake.r ) fun w688 =>
            rq w688.1 <|
            rt w688.2
          else
            rt false
        else
          rt false
      else
        rt false
    else
      rt false
  else
    rt false

def r (n : Int) (a : (List Int)) : Bool × X := g chk (fun x => (true, x)) n a
noncomputable def D : CallD := Dof (P := Try.prog) [Nat_Int.ent, Sacristyref01_Low.ent, Nat_Of.ent, Sacristyref01_Int.ent, Sacristylaw01_awake.ent]
noncomputable def tab : List (Nat × LE Res) := []
set_option maxRecDepth 100000 in
theorem run (n : Int) (a : (List Int)) : enterK E0 D (loopX E0 D tab 9) Try.f4 (codeOf Try.f4) [.val ⟨.int .i64, n⟩, .val ⟨.arr 4 (.int .u64), a⟩] [] = g (fun c z => req c z) (fun x => some (res x)) n a := by kernel_rfl
theorem rel (n : Int) (a : (List Int)) : J (fun w z => z = some (res w)) (r n a) (g (fun c z => req c z) (fun x => some (res x)) n a) := by
  unfold r g
  with_reducible repeat (first | (apply J.lt; intro _) | apply J.rq | apply J.bif | exact J.rt rfl)
def F (ar : List AV) (br : List DV) : Option (Bool × Res) := match ar, br with
  | [a0, a1], [] => (match a0.get (.int .i64), a1.get (.arr 4 (.int .u64)) with | some n, some a => some ((r n a).1, res (r n a).2) | _, _ => none)
  | _, _ => none
theorem ok : fnOK Try.f4 = true := by kernel_rfl
set_option linter.unusedSimpArgs false in
theorem good (ar : List AV) (br : List DV) (q : Res) (h : F ar br = some (true, q)) : Good Try.prog 4 ar br q := by
  unfold F at h
  split at h
  · skip
    split at h
    · rename_i u0 u1 e0 e1
      simp only [Option.some.injEq, Prod.mk.injEq] at h
      obtain ⟨hr, rfl⟩ := h
      have z0 := AV.get_eq e0
      have z1 := AV.get_eq e1
      subst z0
      subst z1
      exact ent_good (X := X) (res := res) (w := r u0 u1) (z := g (fun c z => req c z) (fun x => some (res x)) u0 u1) hE0 (Dof_sound _) Try.func4 ok tabOK_nil (run u0 u1) (rel u0 u1) hr
    · cases h
  · cases h
noncomputable def ent : Ent Try.prog := ⟨4, F, good⟩
end Sacristylaw01_NatInts

/-! sacristy/nat.Add -/
namespace Nat_Add
abbrev X : Type := (List Int) × Int
def res (x : X) : Res := ([.val ⟨.arr 4 (.int .u64), x.1⟩, .val ⟨.int .i64, x.2⟩], [])
def g {Z : Type} (rq : Bool → Z → Z) (rt : X → Z) (a : (List Int)) (b : (List Int)) : Z :=
  lt ((a.getD 0 0)) fun (v705 : Int) =>
  lt ((b.getD 0 0)) fun (v706 : Int) =>
  lt ((v705 + v706 + (0 : Int)) % 18446744073709551616) fun (v707 : Int) =>
  lt ((v705 + v706 + (0 : Int)) / 18446744073709551616) fun (v708 : Int) =>
  rq (((decide (0 ≤ v705) && decide (0 ≤ v706)) && decide (0 ≤ (0 : Int))) && decide ((0 : Int) ≤ 1)) <|
  lt ((a.getD 1 0)) fun (v709 : Int) =>
  lt ((b.getD 1 0)) fun (v710 : Int) =>
  lt ((v709 + v710 + v708) % 18446744073709551616) fun (v711 : Int) =>
  lt ((v709 + v710 + v708) / 18446744073709551616) fun (v712 : Int) =>
  rq (((decide (0 ≤ v709) && decide (0 ≤ v710)) && decide (0 ≤ v708)) && decide (v708 ≤ 1)) <|
  lt ((a.getD 2 0)) fun (v713 : Int) =>
  lt ((b.getD 2 0)) fun (v714 : Int) =>
  lt ((v713 + v714 + v712) % 18446744073709551616) fun (v715 : Int) =>
  lt ((v713 + v714 + v712) / 18446744073709551616) fun (v716 : Int) =>
  rq (((decide (0 ≤ v713) && decide (0 ≤ v714)) && decide (0 ≤ v712)) && decide (v712 ≤ 1)) <|
  lt ((a.getD 3 0)) fun (v717 : Int) =>
  lt ((b.getD 3 0)) fun (v718 : Int) =>
  lt ((v717 + v718 + v716) % 18446744073709551616) fun (v719 : Int) =>
  lt ((v717 + v718 + v716) / 18446744073709551616) fun (v720 : Int) =>
  rq (((decide (0 ≤ v717) && decide (0 ≤ v718)) && decide (0 ≤ v716)) && decide (v716 ≤ 1)) <|
  lt (IntKind.i64.wrap (v720)) fun (v721 : Int) =>
  rt ([v707, v711, v715, v719], v721)

def r (a : (List Int)) (b : (List Int)) : Bool × X := g chk (fun x => (true, x)) a b
noncomputable def D : CallD := Dof (P := Try.prog) [ent_Bits_Add64]
noncomputable def tab : List (Nat × LE Res) := []
set_option maxRecDepth 100000 in
theorem run (a : (List Int)) (b : (List Int)) : enterK E0 D (loopX E0 D tab 9) Try.f24 (codeOf Try.f24) [.val ⟨.arr 4 (.int .u64), a⟩, .val ⟨.arr 4 (.int .u64), b⟩] [] = g (fun c z => req c z) (fun x => some (res x)) a b := by kernel_rfl
theorem rel (a : (List Int)) (b : (List Int)) : J (fun w z => z = some (res w)) (r a b) (g (fun c z => req c z) (fun x => some (res x)) a b) := by
  unfold r g
  with_reducible repeat (first | (apply J.lt; intro _) | apply J.rq | apply J.bif | exact J.rt rfl)
def F (ar : List AV) (br : List DV) : Option (Bool × Res) := match ar, br with
  | [a0, a1], [] => (match a0.get (.arr 4 (.int .u64)), a1.get (.arr 4 (.int .u64)) with | some a, some b => some ((r a b).1, res (r a b).2) | _, _ => none)
  | _, _ => none
theorem ok : fnOK Try.f24 = true := by kernel_rfl
set_option linter.unusedSimpArgs false in
theorem good (ar : List AV) (br : List DV) (q : Res) (h : F ar br = some (true, q)) : Good Try.prog 24 ar br q := by
  unfold F at h
  split at h
  · skip
    split at h
    · rename_i u0 u1 e0 e1
      simp only [Option.some.injEq, Prod.mk.injEq] at h
      obtain ⟨hr, rfl⟩ := h
      have z0 := AV.get_eq e0
      have z1 := AV.get_eq e1
      subst z0
      subst z1
      exact ent_good (X := X) (res := res) (w := r u0 u1) (z := g (fun c z => req c z) (fun x => some (res x)) u0 u1) hE0 (Dof_sound _) Try.func24 ok tabOK_nil (run u0 u1) (rel u0 u1) hr
    · cases h
  · cases h
noncomputable def ent : Ent Try.prog := ⟨24, F, good⟩
end Nat_Add

/-! sacristy/sacristyref01.Not -/
namespace Sacristyref01_Not
abbrev X : Type := (List Int)
def res (x : X) : Res := ([.val ⟨.arr 4 (.int .u64), x⟩], [])
abbrev sh0 : List (Nat × Sh) := [(2, .pb 2 (.arr 4 (.int .u64)) []), (3, .pb 3 (.arr 256 .bool) []), (4, .p (.int .i64))]
abbrev bx0 : List (Nat × Ty) := [(2, .arr 4 (.int .u64)), (3, .arr 256 .bool)]
abbrev X0 : Type := Unit × Unit × Int × Unit
abbrev Y0 : Type := (List Int) × (List Bool) × Unit
def g0 {Z : Type} (rq : Bool → Z → Z) (kn : X0 → Y0 → Z) (ke : Nat → X0 → Y0 → Z) (x : X0) (y : Y0) : Z :=
  lt ((decide (x.2.2.1 < 256))) fun (v753 : Bool) =>
  bif v753 then
    rq (decide ((0 : Int) ≤ x.2.2.1) && decide (x.2.2.1 < 256)) <|
    lt ((y.2.1.getD x.2.2.1.toNat false)) fun (v754 : Bool) =>
    lt ((!v754)) fun (v755 : Bool) =>
    rq (decide ((0 : Int) ≤ x.2.2.1) && decide (x.2.2.1 < 256)) <|
    lt ((y.2.1.set x.2.2.1.toNat v755)) fun (v756 : (List Bool)) =>
    lt (IntKind.i64.wrap (x.2.2.1 + 1)) fun (v757 : Int) =>
    kn ((), (), v757, ()) (y.1, v756, ())
  else
    ke 1 ((), (), x.2.2.1, ()) (y.1, y.2.1, ())

def fu0 (x : X0) (y : Y0) : Nat := ((256 : Int) - x.2.2.1).toNat + 1
def l0 (x : X0) (y : Y0) : Bool × Nat × X0 × Y0 := rounds (fun rq kn ke x y => g0 rq kn ke x y) (fu0 x y) x y
def g {Z : Type} (rq : Bool → Z → Z) (rt : X → Z) (a : (List Int)) : Z :=
  lt (Sacristyref01_Of.r a) fun w725 =>
  rq w725.1 <|
  lt (Sacristyref01_Not.l0 ((), (), 0, ()) ([0, 0, 0, 0], w725.2, ())) fun w758 =>
  rq w758.1 <|
  lt (Sacristyref01_Nat.r w758.2.2.2.2.1) fun w759 =>
  rq w759.1 <|
  rt w759.2

def r (a : (List Int)) : Bool × X := g chk (fun x => (true, x)) a
noncomputable def D : CallD := Dof (P := Try.prog) [Sacristyref01_Of.ent, Sacristyref01_Nat.ent]
noncomputable def tab : List (Nat × LE Res) := [(4, .typed (loopT 19 sh0 bx0 (loopF' [1] (rounds fun rq kn ke x y => g0 rq kn ke x y) fu0)))]
set_option maxRecDepth 100000 in
theorem run (a : (List Int)) : enterK E0 D (loopX E0 D tab 9) Try.f70 (codeOf Try.f70) [.val ⟨.arr 4 (.int .u64), a⟩] [] = g (fun c z => req c z) (fun x => some (res x)) a := by kernel_rfl
theorem rel (a : (List Int)) : J (fun w z => z = some (res w)) (r a) (g (fun c z => req c z) (fun x => some (res x)) a) := by
  unfold r g
  with_reducible repeat (first | (apply J.lt; intro _) | apply J.rq | apply J.bif | exact J.rt rfl)
set_option maxRecDepth 100000 in
theorem round0 (x : ShX sh0) (y : BxX bx0) (k : Ex → St → Option Res) : codeK E0 D (loopX E0 D tab 8) (nthLoop (codeOf Try.f70) 0) (inj 19 sh0 bx0 x y) (fun ex st => k ex (st.forget (keysS sh0) (keysB bx0))) = g0 (fun c z => req c z) (fun x y => k .normal (inj 19 sh0 bx0 x y)) (fun e x y => k (exOf e) (inj 19 sh0 bx0 x y)) x y := by kernel_rfl
theorem told0 : Nonempty (Told Try.prog E0 D tab Try.f70.ntmps (nthLoop (codeOf Try.f70) 0) 19 sh0 bx0 (loopF' [1] (rounds fun rq kn ke x y => g0 rq kn ke x y) fu0)) :=
  told_of (sh := sh0) (bx := bx0) 8 (by kernel_rfl) (by kernel_rfl) [1] fu0 (fun rq kn ke x y => g0 rq kn ke x y) (fun rq kn ke x y => g0 rq kn ke x y) round0 (by
    intro φ kn1 kn2 ke1 ke2 h1 h2 x y
    simp only [g0]
    with_reducible repeat (first | (apply J.lt; intro _) | apply J.rq | apply J.bif | exact h1 _ _ | exact h2 _ (by decide) _ _))
theorem tabOK : TabOK Try.prog E0 D tab Try.f70.ntmps (codeOf Try.f70) := tabOK_of (bs := [nthLoop (codeOf Try.f70) 0]) (by kernel_rfl) (allTold_cons (typedAt (by kernel_rfl) told0) allTold_nil)
def F (ar : List AV) (br : List DV) : Option (Bool × Res) := match ar, br with
  | [a0], [] => (match a0.get (.arr 4 (.int .u64)) with | some a => some ((r a).1, res (r a).2) | _ => none)
  | _, _ => none
theorem ok : fnOK Try.f70 = true := by kernel_rfl
set_option linter.unusedSimpArgs false in
theorem good (ar : List AV) (br : List DV) (q : Res) (h : F ar br = some (true, q)) : Good Try.prog 70 ar br q := by
  unfold F at h
  split at h
  · skip
    split at h
    · rename_i u0 e0
      simp only [Option.some.injEq, Prod.mk.injEq] at h
      obtain ⟨hr, rfl⟩ := h
      have z0 := AV.get_eq e0
      subst z0
      exact ent_good (X := X) (res := res) (w := r u0) (z := g (fun c z => req c z) (fun x => some (res x)) u0) hE0 (Dof_sound _) Try.func70 ok tabOK (run u0) (rel u0) hr
    · cases h
  · cases h
noncomputable def ent : Ent Try.prog := ⟨70, F, good⟩
end Sacristyref01_Not

/-! sacristy/sacristyref01.Cmp -/
namespace Sacristyref01_Cmp
abbrev X : Type := Int
def res (x : X) : Res := ([.val ⟨.int .i64, x⟩], [])
abbrev sh0 : List (Nat × Sh) := [(4, .p (.int .i64)), (5, .pb 5 (.arr 256 .bool) []), (6, .pb 6 (.arr 256 .bool) []), (7, .p (.int .i64))]
abbrev bx0 : List (Nat × Ty) := [(5, .arr 256 .bool), (6, .arr 256 .bool)]
abbrev X0 : Type := Int × Unit × Unit × Int × Unit
abbrev Y0 : Type := (List Bool) × (List Bool) × Unit
def g0 {Z : Type} (rq : Bool → Z → Z) (kn : X0 → Y0 → Z) (ke : Nat → X0 → Y0 → Z) (x : X0) (y : Y0) : Z :=
  lt ((decide (x.2.2.2.1 ≥ 0))) fun (v802 : Bool) =>
  bif v802 then
    rq (decide ((0 : Int) ≤ x.2.2.2.1) && decide (x.2.2.2.1 < 256)) <|
    lt ((y.1.getD x.2.2.2.1.toNat false)) fun (v803 : Bool) =>
    rq (decide ((0 : Int) ≤ x.2.2.2.1) && decide (x.2.2.2.1 < 256)) <|
    lt ((y.2.1.getD x.2.2.2.1.toNat false)) fun (v804 : Bool) =>
    lt ((!(v803 == v804))) fun (v805 : Bool) =>
    bif v805 then
      rq (decide ((0 : Int) ≤ x.2.2.2.1) && decide (x.2.2.2.1 < 256)) <|
      lt ((y.1.getD x.2.2.2.1.toNat false)) fun (v806 : Bool) =>
      bif v806 then
        ke 0 (1, (), (), x.2.2.2.1, ()) (y.1, y.2.1, ())
      else
        ke 0 ((-1), (), (), x.2.2.2.1, ()) (y.1, y.2.1, ())
    else
      lt (IntKind.i64.wrap (x.2.2.2.1 - 1)) fun (v807 : Int) =>
      kn (x.1, (), (), v807, ()) (y.1, y.2.1, ())
  else
    ke 1 (x.1, (), (), x.2.2.2.1, ()) (y.1, y.2.1, ())

def fu0 (x : X0) (y : Y0) : Nat := (x.2.2.2.1 - (0 : Int) + 1).toNat + 1
def l0 (x : X0) (y : Y0) : Bool × Nat × X0 × Y0 := rounds (fun rq kn ke x y => g0 rq kn ke x y) (fu0 x y) x y
def g {Z : Type} (rq : Bool → Z → Z) (rt : X → Z) (a : (List Int)) (b : (List Int)) : Z :=
  lt (Sacristyref01_Of.r a) fun w764 =>
  rq w764.1 <|
  lt (Sacristyref01_Of.r b) fun w765 =>
  rq w765.1 <|
  lt (Sacristyref01_Cmp.l0 (0, (), (), 255, ()) (w764.2, w765.2, ())) fun w808 =>
  rq w808.1 <|
  bif Nat.beq w808.2.1 0 then
    rt w808.2.2.1.1
  else
    rt 0

def r (a : (List Int)) (b : (List Int)) : Bool × X := g chk (fun x => (true, x)) a b
noncomputable def D : CallD := Dof (P := Try.prog) [Sacristyref01_Of.ent]
noncomputable def tab : List (Nat × LE Res) := [(4, .typed (loopT 26 sh0 bx0 (loopF' [0, 1] (rounds fun rq kn ke x y => g0 rq kn ke x y) fu0)))]
set_option maxRecDepth 100000 in
theorem run (a : (List Int)) (b : (List Int)) : enterK E0 D (loopX E0 D tab 9) Try.f29 (codeOf Try.f29) [.val ⟨.arr 4 (.int .u64), a⟩, .val ⟨.arr 4 (.int .u64), b⟩] [] = g (fun c z => req c z) (fun x => some (res x)) a b := by kernel_rfl
theorem rel (a : (List Int)) (b : (List Int)) : J (fun w z => z = some (res w)) (r a b) (g (fun c z => req c z) (fun x => some (res x)) a b) := by
  unfold r g
  with_reducible repeat (first | (apply J.lt; intro _) | apply J.rq | apply J.bif | exact J.rt rfl)
set_option maxRecDepth 100000 in
theorem round0 (x : ShX sh0) (y : BxX bx0) (k : Ex → St → Option Res) : codeK E0 D (loopX E0 D tab 8) (nthLoop (codeOf Try.f29) 0) (inj 26 sh0 bx0 x y) (fun ex st => k ex (st.forget (keysS sh0) (keysB bx0))) = g0 (fun c z => req c z) (fun x y => k .normal (inj 26 sh0 bx0 x y)) (fun e x y => k (exOf e) (inj 26 sh0 bx0 x y)) x y := by kernel_rfl
theorem told0 : Nonempty (Told Try.prog E0 D tab Try.f29.ntmps (nthLoop (codeOf Try.f29) 0) 26 sh0 bx0 (loopF' [0, 1] (rounds fun rq kn ke x y => g0 rq kn ke x y) fu0)) :=
  told_of (sh := sh0) (bx := bx0) 8 (by kernel_rfl) (by kernel_rfl) [0, 1] fu0 (fun rq kn ke x y => g0 rq kn ke x y) (fun rq kn ke x y => g0 rq kn ke x y) round0 (by
    intro φ kn1 kn2 ke1 ke2 h1 h2 x y
    simp only [g0]
    with_reducible repeat (first | (apply J.lt; intro _) | apply J.rq | apply J.bif | exact h1 _ _ | exact h2 _ (by decide) _ _))
theorem tabOK : TabOK Try.prog E0 D tab Try.f29.ntmps (codeOf Try.f29) := tabOK_of (bs := [nthLoop (codeOf Try.f29) 0]) (by kernel_rfl) (allTold_cons (typedAt (by kernel_rfl) told0) allTold_nil)
def F (ar : List AV) (br : List DV) : Option (Bool × Res) := match ar, br with
  | [a0, a1], [] => (match a0.get (.arr 4 (.int .u64)), a1.get (.arr 4 (.int .u64)) with | some a, some b => some ((r a b).1, res (r a b).2) | _, _ => none)
  | _, _ => none
theorem ok : fnOK Try.f29 = true := by kernel_rfl
set_option linter.unusedSimpArgs false in
theorem good (ar : List AV) (br : List DV) (q : Res) (h : F ar br = some (true, q)) : Good Try.prog 29 ar br q := by
  unfold F at h
  split at h
  · skip
    split at h
    · rename_i u0 u1 e0 e1
      simp only [Option.some.injEq, Prod.mk.injEq] at h
      obtain ⟨hr, rfl⟩ := h
      have z0 := AV.get_eq e0
      have z1 := AV.get_eq e1
      subst z0
      subst z1
      exact ent_good (X := X) (res := res) (w := r u0 u1) (z := g (fun c z => req c z) (fun x => some (res x)) u0 u1) hE0 (Dof_sound _) Try.func29 ok tabOK (run u0 u1) (rel u0 u1) hr
    · cases h
  · cases h
noncomputable def ent : Ent Try.prog := ⟨29, F, good⟩
end Sacristyref01_Cmp

/-! sacristy/sacristyref01.Sub -/
namespace Sacristyref01_Sub
abbrev X : Type := (List Int) × Int
def res (x : X) : Res := ([.val ⟨.arr 4 (.int .u64), x.1⟩, .val ⟨.int .i64, x.2⟩], [])
def g {Z : Type} (rq : Bool → Z → Z) (rt : X → Z) (a : (List Int)) (b : (List Int)) : Z :=
  lt (Sacristyref01_Not.r b) fun w760 =>
  rq w760.1 <|
  lt (Sacristyref01_Int.r 1) fun w761 =>
  rq w761.1 <|
  lt (Sacristyref01_Add.r w760.2 w761.2) fun w762 =>
  rq w762.1 <|
  lt (Sacristyref01_Add.r a w762.2.1) fun w763 =>
  rq w763.1 <|
  lt (Sacristyref01_Cmp.r a b) fun w809 =>
  rq w809.1 <|
  lt ((decide (w809.2 < 0))) fun (v810 : Bool) =>
  bif v810 then
    rt (w763.2.1, 1)
  else
    rt (w763.2.1, 0)

def r (a : (List Int)) (b : (List Int)) : Bool × X := g chk (fun x => (true, x)) a b
noncomputable def D : CallD := Dof (P := Try.prog) [Sacristyref01_Not.ent, Sacristyref01_Int.ent, Sacristyref01_Add.ent, Sacristyref01_Cmp.ent]
noncomputable def tab : List (Nat × LE Res) := []
set_option maxRecDepth 100000 in
theorem run (a : (List Int)) (b : (List Int)) : enterK E0 D (loopX E0 D tab 9) Try.f27 (codeOf Try.f27) [.val ⟨.arr 4 (.int .u64), a⟩, .val ⟨.arr 4 (.int .u64), b⟩] [] = g (fun c z => req c z) (fun x => some (res x)) a b := by kernel_rfl
theorem rel (a : (List Int)) (b : (List Int)) : J (fun w z => z = some (res w)) (r a b) (g (fun c z => req c z) (fun x => some (res x)) a b) := by
  unfold r g
  with_reducible repeat (first | (apply J.lt; intro _) | apply J.rq | apply J.bif | exact J.rt rfl)
def F (ar : List AV) (br : List DV) : Option (Bool × Res) := match ar, br with
  | [a0, a1], [] => (match a0.get (.arr 4 (.int .u64)), a1.get (.arr 4 (.int .u64)) with | some a, some b => some ((r a b).1, res (r a b).2) | _, _ => none)
  | _, _ => none
theorem ok : fnOK Try.f27 = true := by kernel_rfl
set_option linter.unusedSimpArgs false in
theorem good (ar : List AV) (br : List DV) (q : Res) (h : F ar br = some (true, q)) : Good Try.prog 27 ar br q := by
  unfold F at h
  split at h
  · skip
    split at h
    · rename_i u0 u1 e0 e1
      simp only [Option.some.injEq, Prod.mk.injEq] at h
      obtain ⟨hr, rfl⟩ := h
      have z0 := AV.get_eq e0
      have z1 := AV.get_eq e1
      subst z0
      subst z1
      exact ent_good (X := X) (res := res) (w := r u0 u1) (z := g (fun c z => req c z) (fun x => some (res x)) u0 u1) hE0 (Dof_sound _) Try.func27 ok tabOK_nil (run u0 u1) (rel u0 u1) hr
    · cases h
  · cases h
noncomputable def ent : Ent Try.prog := ⟨27, F, good⟩
end Sacristyref01_Sub

/-! sacristy/sacristylaw01.NatAdds -/
namespace Sacristylaw01_NatAdds
abbrev X : Type := Bool
def res (x : X) : Res := ([.val ⟨.bool, x⟩], [])
def g {Z : Type} (rq : Bool → Z → Z) (rt : X → Z) (a : (List Int)) (b : (List Int)) : Z :=
  lt (Nat_Add.r a b) fun w722 =>
  rq w722.1 <|
  lt (Sacristyref01_Add.r a b) fun w723 =>
  rq w723.1 <|
  lt (Nat_Sub.r a b) fun w724 =>
  rq w724.1 <|
  lt (Sacristyref01_Sub.r a b) fun w811 =>
  rq w811.1 <|
  lt ((decide ((w722.2.1.getD 0 0) = (w723.2.1.getD 0 0)) && (decide ((w722.2.1.getD 1 0) = (w723.2.1.getD 1 0)) && (decide ((w722.2.1.getD 2 0) = (w723.2.1.getD 2 0)) && (decide ((w722.2.1.getD 3 0) = (w723.2.1.getD 3 0)) && true))))) fun (v812 : Bool) =>
  bif v812 then
    lt ((w722.2.2 == w723.2.2)) fun (v813 : Bool) =>
    bif v813 then
      lt ((decide ((w724.2.1.getD 0 0) = (w811.2.1.getD 0 0)) && (decide ((w724.2.1.getD 1 0) = (w811.2.1.getD 1 0)) && (decide ((w724.2.1.getD 2 0) = (w811.2.1.getD 2 0)) && (decide ((w724.2.1.getD 3 0) = (w811.2.1.getD 3 0)) && true))))) fun (v814 : Bool) =>
      bif v814 then
        lt ((w724.2.2 == w811.2.2)) fun (v815 : Bool) =>
        bif v815 then
          lt (Nat_Cmp.r a b) fun w816 =>
          rq w816.1 <|
          lt (Sacristyref01_Cmp.r a b) fun w817 =>
          rq w817.1 <|
          lt ((w816.2 == w817.2)) fun (v818 : Bool) =>
          bif v818 then
            lt (Sacristylaw01_awake.r ) fun w819 =>
            rq w819.1 <|
            rt w819.2
          else
            rt false
        else
          rt false
      else
        rt false
    else
      rt false
  else
    rt false

def r (a : (List Int)) (b : (List Int)) : Bool × X := g chk (fun x => (true, x)) a b
noncomputable def D : CallD := Dof (P := Try.prog) [Nat_Add.ent, Sacristyref01_Add.ent, Nat_Sub.ent, Sacristyref01_Sub.ent, Nat_Cmp.ent, Sacristyref01_Cmp.ent, Sacristylaw01_awake.ent]
noncomputable def tab : List (Nat × LE Res) := []
set_option maxRecDepth 100000 in
theorem run (a : (List Int)) (b : (List Int)) : enterK E0 D (loopX E0 D tab 9) Try.f5 (codeOf Try.f5) [.val ⟨.arr 4 (.int .u64), a⟩, .val ⟨.arr 4 (.int .u64), b⟩] [] = g (fun c z => req c z) (fun x => some (res x)) a b := by kernel_rfl
theorem rel (a : (List Int)) (b : (List Int)) : J (fun w z => z = some (res w)) (r a b) (g (fun c z => req c z) (fun x => some (res x)) a b) := by
  unfold r g
  with_reducible repeat (first | (apply J.lt; intro _) | apply J.rq | apply J.bif | exact J.rt rfl)
def F (ar : List AV) (br : List DV) : Option (Bool × Res) := match ar, br with
  | [a0, a1], [] => (match a0.get (.arr 4 (.int .u64)), a1.get (.arr 4 (.int .u64)) with | some a, some b => some ((r a b).1, res (r a b).2) | _, _ => none)
  | _, _ => none
theorem ok : fnOK Try.f5 = true := by kernel_rfl
set_option linter.unusedSimpArgs false in
theorem good (ar : List AV) (br : List DV) (q : Res) (h : F ar br = some (true, q)) : Good Try.prog 5 ar br q := by
  unfold F at h
  split at h
  · skip
    split at h
    · rename_i u0 u1 e0 e1
      simp only [Option.some.injEq, Prod.mk.injEq] at h
      obtain ⟨hr, rfl⟩ := h
      have z0 := AV.get_eq e0
      have z1 := AV.get_eq e1
      subst z0
      subst z1
      exact ent_good (X := X) (res := res) (w := r u0 u1) (z := g (fun c z => req c z) (fun x => some (res x)) u0 u1) hE0 (Dof_sound _) Try.func5 ok tabOK_nil (run u0 u1) (rel u0 u1) hr
    · cases h
  · cases h
noncomputable def ent : Ent Try.prog := ⟨5, F, good⟩
end Sacristylaw01_NatAdds
end Go.Own
