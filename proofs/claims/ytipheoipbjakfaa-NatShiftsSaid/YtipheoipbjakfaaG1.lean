/- What functions compute, printed by wip/gen/gen.py. -/
import Derived.Test.YtipheoipbjakfaaG0
set_option linter.unusedVariables false
namespace Go.Own
open Go.Proofs Go.Proofs.Ytipheoipbjakfaa

/-! sacristy/nat.Of -/
namespace Nat_Of
abbrev X : Type := (List Int)
def res (x : X) : Res := ([.val ⟨.arr 4 (.int .u64), x⟩], [])
def g {Z : Type} (rq : Bool → Z → Z) (rt : X → Z) (n : Int) : Z :=
  lt ((bif decide ((0 : Int) > n) then (0 : Int) else n)) fun (v3 : Int) =>
  lt (IntKind.u64.wrap (v3)) fun (v4 : Int) =>
  rt [v4, 0, 0, 0]

def r (n : Int) : Bool × X := g chk (fun x => (true, x)) n
noncomputable def D : CallD := Dof (P := Try.prog) []
noncomputable def tab : List (Nat × LE Res) := []
set_option maxRecDepth 100000 in
theorem run (n : Int) : enterK E0 D (loopX E0 D tab 9) Try.f22 (codeOf Try.f22) [.val ⟨.int .i64, n⟩] [] = g (fun c z => req c z) (fun x => some (res x)) n := by kernel_rfl
theorem rel (n : Int) : J (fun w z => z = some (res w)) (r n) (g (fun c z => req c z) (fun x => some (res x)) n) := by
  unfold r g
  with_reducible repeat (first | (apply J.lt; intro _) | apply J.rq | apply J.bif | exact J.rt rfl)
def F (ar : List AV) (br : List DV) : Option (Bool × Res) := match ar, br with
  | [a0], [] => (match a0.get (.int .i64) with | some n => some ((r n).1, res (r n).2) | _ => none)
  | _, _ => none
theorem ok : fnOK Try.f22 = true := by kernel_rfl
set_option linter.unusedSimpArgs false in
theorem good (ar : List AV) (br : List DV) (q : Res) (h : F ar br = some (true, q)) : Good Try.prog 22 ar br q := by
  unfold F at h
  split at h
  · skip
    split at h
    · rename_i u0 e0
      simp only [Option.some.injEq, Prod.mk.injEq] at h
      obtain ⟨hr, rfl⟩ := h
      have z0 := AV.get_eq e0
      subst z0
      exact ent_good (X := X) (res := res) (w := r u0) (z := g (fun c z => req c z) (fun x => some (res x)) u0) hE0 (Dof_sound _) Try.func22 ok tabOK_nil (run u0) (rel u0) hr
    · cases h
  · cases h
noncomputable def ent : Ent Try.prog := ⟨22, F, good⟩
end Nat_Of

/-! sacristy/nat.Up -/
namespace Nat_Up
abbrev X : Type := (List Int)
def res (x : X) : Res := ([.val ⟨.arr 4 (.int .u64), x⟩], [])
abbrev sh0 : List (Nat × Sh) := [(2, .pb 2 (.arr 4 (.int .u64)) []), (4, .pb 4 (.arr 4 (.int .u64)) []), (5, .pb 5 (.arr 4 (.int .u64)) []), (6, .p (.int .i64)), (7, .p (.int .i64)), (8, .p (.int .i64))]
abbrev bx0 : List (Nat × Ty) := [(2, .arr 4 (.int .u64)), (4, .arr 4 (.int .u64)), (5, .arr 4 (.int .u64))]
abbrev X0 : Type := Unit × Unit × Unit × Int × Int × Int × Unit
abbrev Y0 : Type := (List Int) × (List Int) × (List Int) × Unit
def g0 {Z : Type} (rq : Bool → Z → Z) (kn : X0 → Y0 → Z) (ke : Nat → X0 → Y0 → Z) (x : X0) (y : Y0) : Z :=
  lt ((decide (x.2.2.2.2.2.1 < 4))) fun (v11 : Bool) =>
  bif v11 then
    lt (IntKind.i64.wrap (x.2.2.2.2.2.1 - x.2.2.2.1)) fun (v12 : Int) =>
    rq (decide ((0 : Int) ≤ v12) && decide (v12 < 4)) <|
    lt ((y.1.getD v12.toNat 0)) fun (v13 : Int) =>
    lt (IntKind.u64.wrap (v13 * 2 ^ (min x.2.2.2.2.1.toNat 64))) fun (v14 : Int) =>
    rq (!decide (x.2.2.2.2.1 < 0)) <|
    rq (decide ((0 : Int) ≤ x.2.2.2.2.2.1) && decide (x.2.2.2.2.2.1 < 4)) <|
    lt ((y.2.2.1.set x.2.2.2.2.2.1.toNat v14)) fun (v15 : (List Int)) =>
    lt ((decide (x.2.2.2.2.2.1 > x.2.2.2.1))) fun (v16 : Bool) =>
    bif v16 then
      rq (decide ((0 : Int) ≤ x.2.2.2.2.2.1) && decide (x.2.2.2.2.2.1 < 4)) <|
      lt ((v15.getD x.2.2.2.2.2.1.toNat 0)) fun (v17 : Int) =>
      lt (IntKind.i64.wrap (x.2.2.2.2.2.1 - x.2.2.2.1)) fun (v18 : Int) =>
      lt (IntKind.i64.wrap (v18 - 1)) fun (v19 : Int) =>
      rq (decide ((0 : Int) ≤ v19) && decide (v19 < 4)) <|
      lt ((y.1.getD v19.toNat 0)) fun (v20 : Int) =>
      lt (IntKind.i64.wrap ((64 : Int) - x.2.2.2.2.1)) fun (v21 : Int) =>
      lt (v20.fdiv (2 ^ (min v21.toNat 64))) fun (v22 : Int) =>
      rq (!decide (v21 < 0)) <|
      lt (ibits .u64 (· ||| ·) v17 v22) fun (v23 : Int) =>
      rq (decide ((0 : Int) ≤ x.2.2.2.2.2.1) && decide (x.2.2.2.2.2.1 < 4)) <|
      lt ((v15.set x.2.2.2.2.2.1.toNat v23)) fun (v24 : (List Int)) =>
      lt (IntKind.i64.wrap (x.2.2.2.2.2.1 + 1)) fun (v25 : Int) =>
      kn ((), (), (), x.2.2.2.1, x.2.2.2.2.1, v25, ()) (y.1, y.2.1, v24, ())
    else
      lt (IntKind.i64.wrap (x.2.2.2.2.2.1 + 1)) fun (v26 : Int) =>
      kn ((), (), (), x.2.2.2.1, x.2.2.2.2.1, v26, ()) (y.1, y.2.1, v15, ())
  else
    ke 1 ((), (), (), x.2.2.2.1, x.2.2.2.2.1, x.2.2.2.2.2.1, ()) (y.1, y.2.1, y.2.2.1, ())

def fu0 (x : X0) (y : Y0) : Nat := ((4 : Int) - x.2.2.2.2.2.1).toNat + 1
def l0 (x : X0) (y : Y0) : Bool × Nat × X0 × Y0 := rounds (fun rq kn ke x y => g0 rq kn ke x y) (fu0 x y) x y
def g {Z : Type} (rq : Bool → Z → Z) (rt : X → Z) (a : (List Int)) (kx : Int) : Z :=
  lt ((decide (kx < 1))) fun (v6 : Bool) =>
  bif v6 then
    rt a
  else
    lt ((decide (kx ≥ 256))) fun (v7 : Bool) =>
    bif v7 then
      rt [0, 0, 0, 0]
    else
      lt (IntKind.i64.wrap (kx.tdiv 64)) fun (v8 : Int) =>
      lt (kx.tmod 64) fun (v9 : Int) =>
      lt (Nat_Up.l0 ((), (), (), v8, v9, v8, ()) (a, [0, 0, 0, 0], [0, 0, 0, 0], ())) fun w27 =>
      rq w27.1 <|
      rt w27.2.2.2.2.2.1

def r (a : (List Int)) (kx : Int) : Bool × X := g chk (fun x => (true, x)) a kx
noncomputable def D : CallD := Dof (P := Try.prog) []
noncomputable def tab : List (Nat × LE Res) := [(9, .typed (loopT 51 sh0 bx0 (loopF' [1] (rounds fun rq kn ke x y => g0 rq kn ke x y) fu0)))]
set_option maxRecDepth 100000 in
theorem run (a : (List Int)) (kx : Int) : enterK E0 D (loopX E0 D tab 9) Try.f30 (codeOf Try.f30) [.val ⟨.arr 4 (.int .u64), a⟩, .val ⟨.int .i64, kx⟩] [] = g (fun c z => req c z) (fun x => some (res x)) a kx := by kernel_rfl
theorem rel (a : (List Int)) (kx : Int) : J (fun w z => z = some (res w)) (r a kx) (g (fun c z => req c z) (fun x => some (res x)) a kx) := by
  unfold r g
  with_reducible repeat (first | (apply J.lt; intro _) | apply J.rq | apply J.bif | exact J.rt rfl)
set_option maxRecDepth 100000 in
theorem round0 (x : ShX sh0) (y : BxX bx0) (k : Ex → St → Option Res) : codeK E0 D (loopX E0 D tab 8) (nthLoop (codeOf Try.f30) 0) (inj 51 sh0 bx0 x y) (fun ex st => k ex (st.forget (keysS sh0) (keysB bx0))) = g0 (fun c z => req c z) (fun x y => k .normal (inj 51 sh0 bx0 x y)) (fun e x y => k (exOf e) (inj 51 sh0 bx0 x y)) x y := by kernel_rfl
theorem told0 : Nonempty (Told Try.prog E0 D tab Try.f30.ntmps (nthLoop (codeOf Try.f30) 0) 51 sh0 bx0 (loopF' [1] (rounds fun rq kn ke x y => g0 rq kn ke x y) fu0)) :=
  told_of (sh := sh0) (bx := bx0) 8 (by kernel_rfl) (by kernel_rfl) [1] fu0 (fun rq kn ke x y => g0 rq kn ke x y) (fun rq kn ke x y => g0 rq kn ke x y) round0 (by
    intro φ kn1 kn2 ke1 ke2 h1 h2 x y
    simp only [g0]
    with_reducible repeat (first | (apply J.lt; intro _) | apply J.rq | apply J.bif | exact h1 _ _ | exact h2 _ (by decide) _ _))
theorem tabOK : TabOK Try.prog E0 D tab Try.f30.ntmps (codeOf Try.f30) := tabOK_of (bs := [nthLoop (codeOf Try.f30) 0]) (by kernel_rfl) (allTold_cons (typedAt (by kernel_rfl) told0) allTold_nil)
def F (ar : List AV) (br : List DV) : Option (Bool × Res) := match ar, br with
  | [a0, a1], [] => (match a0.get (.arr 4 (.int .u64)), a1.get (.int .i64) with | some a, some kx => some ((r a kx).1, res (r a kx).2) | _, _ => none)
  | _, _ => none
theorem ok : fnOK Try.f30 = true := by kernel_rfl
set_option linter.unusedSimpArgs false in
theorem good (ar : List AV) (br : List DV) (q : Res) (h : F ar br = some (true, q)) : Good Try.prog 30 ar br q := by
  unfold F at h
  split at h
  · skip
    split at h
    · rename_i u0 u1 e0 e1
      simp only [Option.some.injEq, Prod.mk.injEq] at h
      obtain ⟨hr, rfl⟩ := h
      have z0 := AV.get_eq e0
      have z1 := AV.get_eq e1
      subst z0
      subst z1
      exact ent_good (X := X) (res := res) (w := r u0 u1) (z := g (fun c z => req c z) (fun x => some (res x)) u0 u1) hE0 (Dof_sound _) Try.func30 ok tabOK (run u0 u1) (rel u0 u1) hr
    · cases h
  · cases h
noncomputable def ent : Ent Try.prog := ⟨30, F, good⟩
end Nat_Up

/-! sacristy/nat.Sub -/
namespace Nat_Sub
abbrev X : Type := (List Int) × Int
def res (x : X) : Res := ([.val ⟨.arr 4 (.int .u64), x.1⟩, .val ⟨.int .i64, x.2⟩], [])
def g {Z : Type} (rq : Bool → Z → Z) (rt : X → Z) (a : (List Int)) (b : (List Int)) : Z :=
  lt ((a.getD 0 0)) fun (v46 : Int) =>
  lt ((b.getD 0 0)) fun (v47 : Int) =>
  lt ((v46 - v47 - (0 : Int)) % 18446744073709551616) fun (v48 : Int) =>
  lt ((bif decide (v46 < v47 + (0 : Int)) then (1 : Int) else 0)) fun (v49 : Int) =>
  rq ((((decide (0 ≤ v46) && decide (0 ≤ v47)) && decide (v47 < 18446744073709551616)) && decide (0 ≤ (0 : Int))) && decide ((0 : Int) ≤ 1)) <|
  lt ((a.getD 1 0)) fun (v50 : Int) =>
  lt ((b.getD 1 0)) fun (v51 : Int) =>
  lt ((v50 - v51 - v49) % 18446744073709551616) fun (v52 : Int) =>
  lt ((bif decide (v50 < v51 + v49) then (1 : Int) else 0)) fun (v53 : Int) =>
  rq ((((decide (0 ≤ v50) && decide (0 ≤ v51)) && decide (v51 < 18446744073709551616)) && decide (0 ≤ v49)) && decide (v49 ≤ 1)) <|
  lt ((a.getD 2 0)) fun (v54 : Int) =>
  lt ((b.getD 2 0)) fun (v55 : Int) =>
  lt ((v54 - v55 - v53) % 18446744073709551616) fun (v56 : Int) =>
  lt ((bif decide (v54 < v55 + v53) then (1 : Int) else 0)) fun (v57 : Int) =>
  rq ((((decide (0 ≤ v54) && decide (0 ≤ v55)) && decide (v55 < 18446744073709551616)) && decide (0 ≤ v53)) && decide (v53 ≤ 1)) <|
  lt ((a.getD 3 0)) fun (v58 : Int) =>
  lt ((b.getD 3 0)) fun (v59 : Int) =>
  lt ((v58 - v59 - v57) % 18446744073709551616) fun (v60 : Int) =>
  lt ((bif decide (v58 < v59 + v57) then (1 : Int) else 0)) fun (v61 : Int) =>
  rq ((((decide (0 ≤ v58) && decide (0 ≤ v59)) && decide (v59 < 18446744073709551616)) && decide (0 ≤ v57)) && decide (v57 ≤ 1)) <|
  lt (IntKind.i64.wrap (v61)) fun (v62 : Int) =>
  rt ([v48, v52, v56, v60], v62)

def r (a : (List Int)) (b : (List Int)) : Bool × X := g chk (fun x => (true, x)) a b
noncomputable def D : CallD := Dof (P := Try.prog) [ent_Bits_Sub64]
noncomputable def tab : List (Nat × LE Res) := []
set_option maxRecDepth 100000 in
theorem run (a : (List Int)) (b : (List Int)) : enterK E0 D (loopX E0 D tab 9) Try.f26 (codeOf Try.f26) [.val ⟨.arr 4 (.int .u64), a⟩, .val ⟨.arr 4 (.int .u64), b⟩] [] = g (fun c z => req c z) (fun x => some (res x)) a b := by kernel_rfl
theorem rel (a : (List Int)) (b : (List Int)) : J (fun w z => z = some (res w)) (r a b) (g (fun c z => req c z) (fun x => some (res x)) a b) := by
  unfold r g
  with_reducible repeat (first | (apply J.lt; intro _) | apply J.rq | apply J.bif | exact J.rt rfl)
def F (ar : List AV) (br : List DV) : Option (Bool × Res) := match ar, br with
  | [a0, a1], [] => (match a0.get (.arr 4 (.int .u64)), a1.get (.arr 4 (.int .u64)) with | some a, some b => some ((r a b).1, res (r a b).2) | _, _ => none)
  | _, _ => none
theorem ok : fnOK Try.f26 = true := by kernel_rfl
set_option linter.unusedSimpArgs false in
theorem good (ar : List AV) (br : List DV) (q : Res) (h : F ar br = some (true, q)) : Good Try.prog 26 ar br q := by
  unfold F at h
  split at h
  · skip
    split at h
    · rename_i u0 u1 e0 e1
      simp only [Option.some.injEq, Prod.mk.injEq] at h
      obtain ⟨hr, rfl⟩ := h
      have z0 := AV.get_eq e0
      have z1 := AV.get_eq e1
      subst z0
      subst z1
      exact ent_good (X := X) (res := res) (w := r u0 u1) (z := g (fun c z => req c z) (fun x => some (res x)) u0 u1) hE0 (Dof_sound _) Try.func26 ok tabOK_nil (run u0 u1) (rel u0 u1) hr
    · cases h
  · cases h
noncomputable def ent : Ent Try.prog := ⟨26, F, good⟩
end Nat_Sub

/-! sacristy/nat.Take -/
namespace Nat_Take
abbrev X : Type := (List Int) × Int
def res (x : X) : Res := ([.val ⟨.arr 4 (.int .u64), x.1⟩, .val ⟨.int .i64, x.2⟩], [])
abbrev sh0 : List (Nat × Sh) := [(0, .p .str), (2, .pb 2 (.arr 4 (.int .u64)) []), (3, .p (.int .i64)), (4, .pb 4 (.arr 4 (.int .u64)) []), (21, .p (.int .i64)), (22, .p (.int .i64))]
abbrev bx0 : List (Nat × Ty) := [(2, .arr 4 (.int .u64)), (4, .arr 4 (.int .u64))]
abbrev X0 : Type := ByteArray × Unit × Int × Unit × Int × Int × Unit
abbrev Y0 : Type := (List Int) × (List Int) × Unit
def g0 {Z : Type} (rq : Bool → Z → Z) (kn : X0 → Y0 → Z) (ke : Nat → X0 → Y0 → Z) (x : X0) (y : Y0) : Z :=
  lt ((decide (x.2.2.2.2.2.1 < x.2.2.2.2.1))) fun (v72 : Bool) =>
  bif v72 then
    lt (IntKind.i64.wrap (x.2.2.2.2.2.1.tdiv 8)) fun (v73 : Int) =>
    rq (decide ((0 : Int) ≤ v73) && decide (v73 < 4)) <|
    lt ((y.2.1.getD v73.toNat 0)) fun (v74 : Int) =>
    lt ((x.1.size : Int)) fun (v75 : Int) =>
    lt (IntKind.i64.wrap (v75 - 1)) fun (v76 : Int) =>
    lt (IntKind.i64.wrap (v76 - x.2.2.2.2.2.1)) fun (v77 : Int) =>
    lt (((x.1.data.getD v77.toNat 0).toNat : Int)) fun (v78 : Int) =>
    rq (decide ((0 : Int) ≤ v77) && decide (v77 < (x.1.size : Int))) <|
    lt (IntKind.u64.wrap (v78)) fun (v79 : Int) =>
    lt (x.2.2.2.2.2.1.tmod 8) fun (v80 : Int) =>
    lt (IntKind.i64.wrap ((8 : Int) * v80)) fun (v81 : Int) =>
    lt (IntKind.u64.wrap (v79 * 2 ^ (min v81.toNat 64))) fun (v82 : Int) =>
    rq (!decide (v81 < 0)) <|
    lt (ibits .u64 (· ||| ·) v74 v82) fun (v83 : Int) =>
    rq (decide ((0 : Int) ≤ v73) && decide (v73 < 4)) <|
    lt ((y.2.1.set v73.toNat v83)) fun (v84 : (List Int)) =>
    lt (IntKind.i64.wrap (x.2.2.2.2.2.1 + 1)) fun (v85 : Int) =>
    kn (x.1, (), x.2.2.1, (), x.2.2.2.2.1, v85, ()) (y.1, v84, ())
  else
    ke 1 (x.1, (), x.2.2.1, (), x.2.2.2.2.1, x.2.2.2.2.2.1, ()) (y.1, y.2.1, ())

def fu0 (x : X0) (y : Y0) : Nat := (x.2.2.2.2.1 - x.2.2.2.2.2.1).toNat + 1
def l0 (x : X0) (y : Y0) : Bool × Nat × X0 × Y0 := rounds (fun rq kn ke x y => g0 rq kn ke x y) (fu0 x y) x y
def g {Z : Type} (rq : Bool → Z → Z) (rt : X → Z) (s : ByteArray) : Z :=
  lt ((s.size : Int)) fun (v64 : Int) =>
  lt ((decide (v64 > 32))) fun (v65 : Bool) =>
  bif v65 then
    rt ([0, 0, 0, 0], 4)
  else
    lt ((s.size : Int)) fun (v66 : Int) =>
    lt ((decide (v66 > 0))) fun (v67 : Bool) =>
    bif v67 then
      lt (((s.data.getD 0 0).toNat : Int)) fun (v68 : Int) =>
      rq (decide ((0 : Int) < (s.size : Int))) <|
      lt ((v68 == 0)) fun (v69 : Bool) =>
      bif v69 then
        rt ([0, 0, 0, 0], 4)
      else
        lt ((s.size : Int)) fun (v70 : Int) =>
        lt (Nat_Take.l0 (s, (), 0, (), v70, 0, ()) ([0, 0, 0, 0], [0, 0, 0, 0], ())) fun w86 =>
        rq w86.1 <|
        rt (w86.2.2.2.2.1, 0)
    else
      lt ((s.size : Int)) fun (v87 : Int) =>
      lt (Nat_Take.l0 (s, (), 0, (), v87, 0, ()) ([0, 0, 0, 0], [0, 0, 0, 0], ())) fun w88 =>
      rq w88.1 <|
      rt (w88.2.2.2.2.1, 0)

def r (s : ByteArray) : Bool × X := g chk (fun x => (true, x)) s
noncomputable def D : CallD := Dof (P := Try.prog) []
noncomputable def tab : List (Nat × LE Res) := [(6, .typed (loopT 45 sh0 bx0 (loopF' [1] (rounds fun rq kn ke x y => g0 rq kn ke x y) fu0)))]
set_option maxRecDepth 100000 in
theorem run (s : ByteArray) : enterK E0 D (loopX E0 D tab 9) Try.f16 (codeOf Try.f16) [.val ⟨.str, s⟩] [] = g (fun c z => req c z) (fun x => some (res x)) s := by kernel_rfl
theorem rel (s : ByteArray) : J (fun w z => z = some (res w)) (r s) (g (fun c z => req c z) (fun x => some (res x)) s) := by
  unfold r g
  with_reducible repeat (first | (apply J.lt; intro _) | apply J.rq | apply J.bif | exact J.rt rfl)
set_option maxRecDepth 100000 in
theorem round0 (x : ShX sh0) (y : BxX bx0) (k : Ex → St → Option Res) : codeK E0 D (loopX E0 D tab 8) (nthLoop (codeOf Try.f16) 0) (inj 45 sh0 bx0 x y) (fun ex st => k ex (st.forget (keysS sh0) (keysB bx0))) = g0 (fun c z => req c z) (fun x y => k .normal (inj 45 sh0 bx0 x y)) (fun e x y => k (exOf e) (inj 45 sh0 bx0 x y)) x y := by kernel_rfl
theorem told0 : Nonempty (Told Try.prog E0 D tab Try.f16.ntmps (nthLoop (codeOf Try.f16) 0) 45 sh0 bx0 (loopF' [1] (rounds fun rq kn ke x y => g0 rq kn ke x y) fu0)) :=
  told_of (sh := sh0) (bx := bx0) 8 (by kernel_rfl) (by kernel_rfl) [1] fu0 (fun rq kn ke x y => g0 rq kn ke x y) (fun rq kn ke x y => g0 rq kn ke x y) round0 (by
    intro φ kn1 kn2 ke1 ke2 h1 h2 x y
    simp only [g0]
    with_reducible repeat (first | (apply J.lt; intro _) | apply J.rq | apply J.bif | exact h1 _ _ | exact h2 _ (by decide) _ _))
theorem tabOK : TabOK Try.prog E0 D tab Try.f16.ntmps (codeOf Try.f16) := tabOK_of (bs := [nthLoop (codeOf Try.f16) 0]) (by kernel_rfl) (allTold_cons (typedAt (by kernel_rfl) told0) allTold_nil)
def F (ar : List AV) (br : List DV) : Option (Bool × Res) := match ar, br with
  | [a0], [] => (match a0.get .str with | some s => some ((r s).1, res (r s).2) | _ => none)
  | _, _ => none
theorem ok : fnOK Try.f16 = true := by kernel_rfl
set_option linter.unusedSimpArgs false in
theorem good (ar : List AV) (br : List DV) (q : Res) (h : F ar br = some (true, q)) : Good Try.prog 16 ar br q := by
  unfold F at h
  split at h
  · skip
    split at h
    · rename_i u0 e0
      simp only [Option.some.injEq, Prod.mk.injEq] at h
      obtain ⟨hr, rfl⟩ := h
      have z0 := AV.get_eq e0
      subst z0
      exact ent_good (X := X) (res := res) (w := r u0) (z := g (fun c z => req c z) (fun x => some (res x)) u0) hE0 (Dof_sound _) Try.func16 ok tabOK (run u0) (rel u0) hr
    · cases h
  · cases h
noncomputable def ent : Ent Try.prog := ⟨16, F, good⟩
end Nat_Take

/-! math/bits.Len64 -/
namespace Bits_Len64
abbrev X : Type := Int
def res (x : X) : Res := ([.val ⟨.int .i64, x⟩], [])
def g {Z : Type} (rq : Bool → Z → Z) (rt : X → Z) (xx : Int) : Z :=
  lt ((decide (xx ≥ 4294967296))) fun (v96 : Bool) =>
  bif v96 then
    lt (xx.fdiv (2 ^ 32)) fun (v97 : Int) =>
    lt ((decide (v97 ≥ 65536))) fun (v98 : Bool) =>
    bif v98 then
      lt (v97.fdiv (2 ^ 16)) fun (v99 : Int) =>
      lt ((decide (v99 ≥ 256))) fun (v100 : Bool) =>
      bif v100 then
        lt (v99.fdiv (2 ^ 8)) fun (v101 : Int) =>
        lt (IntKind.u8.wrap (v101)) fun (v102 : Int) =>
        lt (((str0.data.getD v102.toNat 0).toNat : Int)) fun (v103 : Int) =>
        rq (decide ((0 : Int) ≤ v102) && decide (v102 < 256)) <|
        lt (IntKind.i64.wrap (v103)) fun (v104 : Int) =>
        lt (IntKind.i64.wrap ((56 : Int) + v104)) fun (v105 : Int) =>
        rt v105
      else
        lt (IntKind.u8.wrap (v99)) fun (v106 : Int) =>
        lt (((str0.data.getD v106.toNat 0).toNat : Int)) fun (v107 : Int) =>
        rq (decide ((0 : Int) ≤ v106) && decide (v106 < 256)) <|
        lt (IntKind.i64.wrap (v107)) fun (v108 : Int) =>
        lt (IntKind.i64.wrap ((48 : Int) + v108)) fun (v109 : Int) =>
        rt v109
    else
      lt ((decide (v97 ≥ 256))) fun (v110 : Bool) =>
      bif v110 then
        lt (v97.fdiv (2 ^ 8)) fun (v111 : Int) =>
        lt (IntKind.u8.wrap (v111)) fun (v112 : Int) =>
        lt (((str0.data.getD v112.toNat 0).toNat : Int)) fun (v113 : Int) =>
        rq (decide ((0 : Int) ≤ v112) && decide (v112 < 256)) <|
        lt (IntKind.i64.wrap (v113)) fun (v114 : Int) =>
        lt (IntKind.i64.wrap ((40 : Int) + v114)) fun (v115 : Int) =>
        rt v115
      else
        lt (IntKind.u8.wrap (v97)) fun (v116 : Int) =>
        lt (((str0.data.getD v116.toNat 0).toNat : Int)) fun (v117 : Int) =>
        rq (decide ((0 : Int) ≤ v116) && decide (v116 < 256)) <|
        lt (IntKind.i64.wrap (v117)) fun (v118 : Int) =>
        lt (IntKind.i64.wrap ((32 : Int) + v118)) fun (v119 : Int) =>
        rt v119
  else
    lt ((decide (xx ≥ 65536))) fun (v120 : Bool) =>
    bif v120 then
      lt (xx.fdiv (2 ^ 16)) fun (v121 : Int) =>
      lt ((decide (v121 ≥ 256))) fun (v122 : Bool) =>
      bif v122 then
        lt (v121.fdiv (2 ^ 8)) fun (v123 : Int) =>
        lt (IntKind.u8.wrap (v123)) fun (v124 : Int) =>
        lt (((str0.data.getD v124.toNat 0).toNat : Int)) fun (v125 : Int) =>
        rq (decide ((0 : Int) ≤ v124) && decide (v124 < 256)) <|
        lt (IntKind.i64.wrap (v125)) fun (v126 : Int) =>
        lt (IntKind.i64.wrap ((24 : Int) + v126)) fun (v127 : Int) =>
        rt v127
      else
        lt (IntKind.u8.wrap (v121)) fun (v128 : Int) =>
        lt (((str0.data.getD v128.toNat 0).toNat : Int)) fun (v129 : Int) =>
        rq (decide ((0 : Int) ≤ v128) && decide (v128 < 256)) <|
        lt (IntKind.i64.wrap (v129)) fun (v130 : Int) =>
        lt (IntKind.i64.wrap ((16 : Int) + v130)) fun (v131 : Int) =>
        rt v131
    else
      lt ((decide (xx ≥ 256))) fun (v132 : Bool) =>
      bif v132 then
        lt (xx.fdiv (2 ^ 8)) fun (v133 : Int) =>
        lt (IntKind.u8.wrap (v133)) fun (v134 : Int) =>
        lt (((str0.data.getD v134.toNat 0).toNat : Int)) fun (v135 : Int) =>
        rq (decide ((0 : Int) ≤ v134) && decide (v134 < 256)) <|
        lt (IntKind.i64.wrap (v135)) fun (v136 : Int) =>
        lt (IntKind.i64.wrap ((8 : Int) + v136)) fun (v137 : Int) =>
        rt v137
      else
        lt (IntKind.u8.wrap (xx)) fun (v138 : Int) =>
        lt (((str0.data.getD v138.toNat 0).toNat : Int)) fun (v139 : Int) =>
        rq (decide ((0 : Int) ≤ v138) && decide (v138 < 256)) <|
        lt (IntKind.i64.wrap (v139)) fun (v140 : Int) =>
        lt (IntKind.i64.wrap ((0 : Int) + v140)) fun (v141 : Int) =>
        rt v141

def r (xx : Int) : Bool × X := g chk (fun x => (true, x)) xx
noncomputable def D : CallD := Dof (P := Try.prog) []
noncomputable def tab : List (Nat × LE Res) := []
set_option maxRecDepth 100000 in
theorem run (xx : Int) : enterK E0 D (loopX E0 D tab 9) Try.f71 (codeOf Try.f71) [.val ⟨.int .u64, xx⟩] [] = g (fun c z => req c z) (fun x => some (res x)) xx := by kernel_rfl
theorem rel (xx : Int) : J (fun w z => z = some (res w)) (r xx) (g (fun c z => req c z) (fun x => some (res x)) xx) := by
  unfold r g
  with_reducible repeat (first | (apply J.lt; intro _) | apply J.rq | apply J.bif | exact J.rt rfl)
def F (ar : List AV) (br : List DV) : Option (Bool × Res) := match ar, br with
  | [a0], [] => (match a0.get (.int .u64) with | some xx => some ((r xx).1, res (r xx).2) | _ => none)
  | _, _ => none
theorem ok : fnOK Try.f71 = true := by kernel_rfl
set_option linter.unusedSimpArgs false in
theorem good (ar : List AV) (br : List DV) (q : Res) (h : F ar br = some (true, q)) : Good Try.prog 71 ar br q := by
  unfold F at h
  split at h
  · skip
    split at h
    · rename_i u0 e0
      simp only [Option.some.injEq, Prod.mk.injEq] at h
      obtain ⟨hr, rfl⟩ := h
      have z0 := AV.get_eq e0
      subst z0
      exact ent_good (X := X) (res := res) (w := r u0) (z := g (fun c z => req c z) (fun x => some (res x)) u0) hE0 (Dof_sound _) Try.func71 ok tabOK_nil (run u0) (rel u0) hr
    · cases h
  · cases h
noncomputable def ent : Ent Try.prog := ⟨71, F, good⟩
end Bits_Len64

/-! sacristy/nat.Len -/
namespace Nat_Len
abbrev X : Type := Int
def res (x : X) : Res := ([.val ⟨.int .i64, x⟩], [])
def g {Z : Type} (rq : Bool → Z → Z) (rt : X → Z) (a : (List Int)) : Z :=
  lt ((a.getD 3 0)) fun (v159 : Int) =>
  lt ((v159 != 0)) fun (v160 : Bool) =>
  bif v160 then
    lt ((a.getD 3 0)) fun (v161 : Int) =>
    lt (Bits_Len64.r v161) fun w162 =>
    rq w162.1 <|
    lt (IntKind.i64.wrap ((192 : Int) + w162.2)) fun (v163 : Int) =>
    rt v163
  else
    lt ((a.getD 2 0)) fun (v164 : Int) =>
    lt ((v164 != 0)) fun (v165 : Bool) =>
    bif v165 then
      lt ((a.getD 2 0)) fun (v166 : Int) =>
      lt (Bits_Len64.r v166) fun w167 =>
      rq w167.1 <|
      lt (IntKind.i64.wrap ((128 : Int) + w167.2)) fun (v168 : Int) =>
      rt v168
    else
      lt ((a.getD 1 0)) fun (v169 : Int) =>
      lt ((v169 != 0)) fun (v170 : Bool) =>
      bif v170 then
        lt ((a.getD 1 0)) fun (v171 : Int) =>
        lt (Bits_Len64.r v171) fun w172 =>
        rq w172.1 <|
        lt (IntKind.i64.wrap ((64 : Int) + w172.2)) fun (v173 : Int) =>
        rt v173
      else
        lt ((a.getD 0 0)) fun (v174 : Int) =>
        lt ((v174 != 0)) fun (v175 : Bool) =>
        bif v175 then
          lt ((a.getD 0 0)) fun (v176 : Int) =>
          lt (Bits_Len64.r v176) fun w177 =>
          rq w177.1 <|
          lt (IntKind.i64.wrap ((0 : Int) + w177.2)) fun (v178 : Int) =>
          rt v178
        else
          rt 0

def r (a : (List Int)) : Bool × X := g chk (fun x => (true, x)) a
noncomputable def D : CallD := Dof (P := Try.prog) [Bits_Len64.ent]
noncomputable def tab : List (Nat × LE Res) := []
set_option maxRecDepth 100000 in
theorem run (a : (List Int)) : enterK E0 D (loopX E0 D tab 9) Try.f32 (codeOf Try.f32) [.val ⟨.arr 4 (.int .u64), a⟩] [] = g (fun c z => req c z) (fun x => some (res x)) a := by kernel_rfl
theorem rel (a : (List Int)) : J (fun w z => z = some (res w)) (r a) (g (fun c z => req c z) (fun x => some (res x)) a) := by
  unfold r g
  with_reducible repeat (first | (apply J.lt; intro _) | apply J.rq | apply J.bif | exact J.rt rfl)
def F (ar : List AV) (br : List DV) : Option (Bool × Res) := match ar, br with
  | [a0], [] => (match a0.get (.arr 4 (.int .u64)) with | some a => some ((r a).1, res (r a).2) | _ => none)
  | _, _ => none
theorem ok : fnOK Try.f32 = true := by kernel_rfl
set_option linter.unusedSimpArgs false in
theorem good (ar : List AV) (br : List DV) (q : Res) (h : F ar br = some (true, q)) : Good Try.prog 32 ar br q := by
  unfold F at h
  split at h
  · skip
    split at h
    · rename_i u0 e0
      simp only [Option.some.injEq, Prod.mk.injEq] at h
      obtain ⟨hr, rfl⟩ := h
      have z0 := AV.get_eq e0
      subst z0
      exact ent_good (X := X) (res := res) (w := r u0) (z := g (fun c z => req c z) (fun x => some (res x)) u0) hE0 (Dof_sound _) Try.func32 ok tabOK_nil (run u0) (rel u0) hr
    · cases h
  · cases h
noncomputable def ent : Ent Try.prog := ⟨32, F, good⟩
end Nat_Len

/-! sacristy/nat.Bytes -/
namespace Nat_Bytes
abbrev X : Type := ByteArray
def res (x : X) : Res := ([.val ⟨.str, x⟩], [])
abbrev sh0 : List (Nat × Sh) := [(1, .pb 1 (.arr 4 (.int .u64)) []), (2, .p .str), (3, .p (.int .i64)), (4, .own (.int .u8)), (12, .p (.int .i64)), (13, .p (.int .i64))]
abbrev bx0 : List (Nat × Ty) := [(1, .arr 4 (.int .u64))]
abbrev X0 : Type := Unit × ByteArray × Int × (Bool × List Int) × Int × Int × Unit
abbrev Y0 : Type := (List Int) × Unit
def g0 {Z : Type} (rq : Bool → Z → Z) (kn : X0 → Y0 → Z) (ke : Nat → X0 → Y0 → Z) (x : X0) (y : Y0) : Z :=
  lt ((decide (x.2.2.2.2.2.1 < x.2.2.2.2.1))) fun (v187 : Bool) =>
  bif v187 then
    lt (IntKind.i64.wrap (x.2.2.1 - 1)) fun (v188 : Int) =>
    lt (IntKind.i64.wrap (v188 - x.2.2.2.2.2.1)) fun (v189 : Int) =>
    lt (IntKind.i64.wrap (x.2.2.2.2.2.1.tdiv 8)) fun (v190 : Int) =>
    rq (decide ((0 : Int) ≤ v190) && decide (v190 < 4)) <|
    lt ((y.1.getD v190.toNat 0)) fun (v191 : Int) =>
    lt (x.2.2.2.2.2.1.tmod 8) fun (v192 : Int) =>
    lt (IntKind.i64.wrap ((8 : Int) * v192)) fun (v193 : Int) =>
    lt (v191.fdiv (2 ^ (min v193.toNat 64))) fun (v194 : Int) =>
    rq (!decide (v193 < 0)) <|
    lt (IntKind.u8.wrap (v194)) fun (v195 : Int) =>
    rq (decide ((0 : Int) ≤ v189) && decide (v189 < (x.2.2.2.1.2.length : Int))) <|
    lt ((x.2.2.2.1.2.set v189.toNat v195)) fun (v196 : (List Int)) =>
    lt (IntKind.i64.wrap (x.2.2.2.2.2.1 + 1)) fun (v197 : Int) =>
    kn ((), x.2.1, x.2.2.1, (x.2.2.2.1.1, v196), x.2.2.2.2.1, v197, ()) (y.1, ())
  else
    ke 1 ((), x.2.1, x.2.2.1, (x.2.2.2.1.1, x.2.2.2.1.2), x.2.2.2.2.1, x.2.2.2.2.2.1, ()) (y.1, ())

def fu0 (x : X0) (y : Y0) : Nat := (x.2.2.2.2.1 - x.2.2.2.2.2.1).toNat + 1
def l0 (x : X0) (y : Y0) : Bool × Nat × X0 × Y0 := rounds (fun rq kn ke x y => g0 rq kn ke x y) (fu0 x y) x y
def g {Z : Type} (rq : Bool → Z → Z) (rt : X → Z) (a : (List Int)) : Z :=
  lt (Nat_Len.r a) fun w182 =>
  rq w182.1 <|
  lt (IntKind.i64.wrap (w182.2 + 7)) fun (v183 : Int) =>
  lt (IntKind.i64.wrap (v183.tdiv 8)) fun (v184 : Int) =>
  lt ((List.replicate v184.toNat 0)) fun (v185 : (List Int)) =>
  rq ((decide ((0 : Int) ≤ v184) && decide (v184 ≤ v184)) && decide (v184 * ((1 : Nat) : Int) ≤ 70368744177664)) <|
  lt (Nat_Bytes.l0 ((), (⟨#[]⟩ : ByteArray), v184, (false, v185), v184, 0, ()) (a, ())) fun w198 =>
  rq w198.1 <|
  lt ((bytesOf w198.2.2.1.2.2.2.1.2)) fun (v199 : ByteArray) =>
  rt v199

def r (a : (List Int)) : Bool × X := g chk (fun x => (true, x)) a
noncomputable def D : CallD := Dof (P := Try.prog) [Nat_Len.ent]
noncomputable def tab : List (Nat × LE Res) := [(5, .typed (loopT 34 sh0 bx0 (loopF' [1] (rounds fun rq kn ke x y => g0 rq kn ke x y) fu0)))]
set_option maxRecDepth 100000 in
theorem run (a : (List Int)) : enterK E0 D (loopX E0 D tab 9) Try.f18 (codeOf Try.f18) [.val ⟨.arr 4 (.int .u64), a⟩] [] = g (fun c z => req c z) (fun x => some (res x)) a := by kernel_rfl
theorem rel (a : (List Int)) : J (fun w z => z = some (res w)) (r a) (g (fun c z => req c z) (fun x => some (res x)) a) := by
  unfold r g
  with_reducible repeat (first | (apply J.lt; intro _) | apply J.rq | apply J.bif | exact J.rt rfl)
set_option maxRecDepth 100000 in
theorem round0 (x : ShX sh0) (y : BxX bx0) (k : Ex → St → Option Res) : codeK E0 D (loopX E0 D tab 8) (nthLoop (codeOf Try.f18) 0) (inj 34 sh0 bx0 x y) (fun ex st => k ex (st.forget (keysS sh0) (keysB bx0))) = g0 (fun c z => req c z) (fun x y => k .normal (inj 34 sh0 bx0 x y)) (fun e x y => k (exOf e) (inj 34 sh0 bx0 x y)) x y := by kernel_rfl
theorem told0 : Nonempty (Told Try.prog E0 D tab Try.f18.ntmps (nthLoop (codeOf Try.f18) 0) 34 sh0 bx0 (loopF' [1] (rounds fun rq kn ke x y => g0 rq kn ke x y) fu0)) :=
  told_of (sh := sh0) (bx := bx0) 8 (by kernel_rfl) (by kernel_rfl) [1] fu0 (fun rq kn ke x y => g0 rq kn ke x y) (fun rq kn ke x y => g0 rq kn ke x y) round0 (by
    intro φ kn1 kn2 ke1 ke2 h1 h2 x y
    simp only [g0]
    with_reducible repeat (first | (apply J.lt; intro _) | apply J.rq | apply J.bif | exact h1 _ _ | exact h2 _ (by decide) _ _))
theorem tabOK : TabOK Try.prog E0 D tab Try.f18.ntmps (codeOf Try.f18) := tabOK_of (bs := [nthLoop (codeOf Try.f18) 0]) (by kernel_rfl) (allTold_cons (typedAt (by kernel_rfl) told0) allTold_nil)
def F (ar : List AV) (br : List DV) : Option (Bool × Res) := match ar, br with
  | [a0], [] => (match a0.get (.arr 4 (.int .u64)) with | some a => some ((r a).1, res (r a).2) | _ => none)
  | _, _ => none
theorem ok : fnOK Try.f18 = true := by kernel_rfl
set_option linter.unusedSimpArgs false in
theorem good (ar : List AV) (br : List DV) (q : Res) (h : F ar br = some (true, q)) : Good Try.prog 18 ar br q := by
  unfold F at h
  split at h
  · skip
    split at h
    · rename_i u0 e0
      simp only [Option.some.injEq, Prod.mk.injEq] at h
      obtain ⟨hr, rfl⟩ := h
      have z0 := AV.get_eq e0
      subst z0
      exact ent_good (X := X) (res := res) (w := r u0) (z := g (fun c z => req c z) (fun x => some (res x)) u0) hE0 (Dof_sound _) Try.func18 ok tabOK (run u0) (rel u0) hr
    · cases h
  · cases h
noncomputable def ent : Ent Try.prog := ⟨18, F, good⟩
end Nat_Bytes

/-! sacristy/nat.Cmp -/
namespace Nat_Cmp
abbrev X : Type := Int
def res (x : X) : Res := ([.val ⟨.int .i64, x⟩], [])
def g {Z : Type} (rq : Bool → Z → Z) (rt : X → Z) (a : (List Int)) (b : (List Int)) : Z :=
  lt ((a.getD 3 0)) fun (v229 : Int) =>
  lt ((b.getD 3 0)) fun (v230 : Int) =>
  lt ((decide (v229 < v230))) fun (v231 : Bool) =>
  bif v231 then
    rt (-1)
  else
    lt ((a.getD 3 0)) fun (v232 : Int) =>
    lt ((b.getD 3 0)) fun (v233 : Int) =>
    lt ((decide (v232 > v233))) fun (v234 : Bool) =>
    bif v234 then
      rt 1
    else
      lt ((a.getD 2 0)) fun (v235 : Int) =>
      lt ((b.getD 2 0)) fun (v236 : Int) =>
      lt ((decide (v235 < v236))) fun (v237 : Bool) =>
      bif v237 then
        rt (-1)
      else
        lt ((a.getD 2 0)) fun (v238 : Int) =>
        lt ((b.getD 2 0)) fun (v239 : Int) =>
        lt ((decide (v238 > v239))) fun (v240 : Bool) =>
        bif v240 then
          rt 1
        else
          lt ((a.getD 1 0)) fun (v241 : Int) =>
          lt ((b.getD 1 0)) fun (v242 : Int) =>
          lt ((decide (v241 < v242))) fun (v243 : Bool) =>
          bif v243 then
            rt (-1)
          else
            lt ((a.getD 1 0)) fun (v244 : Int) =>
            lt ((b.getD 1 0)) fun (v245 : Int) =>
            lt ((decide (v244 > v245))) fun (v246 : Bool) =>
            bif v246 then
              rt 1
            else
              lt ((a.getD 0 0)) fun (v247 : Int) =>
              lt ((b.getD 0 0)) fun (v248 : Int) =>
              lt ((decide (v247 < v248))) fun (v249 : Bool) =>
              bif v249 then
                rt (-1)
              else
                lt ((a.getD 0 0)) fun (v250 : Int) =>
                lt ((b.getD 0 0)) fun (v251 : Int) =>
                lt ((decide (v250 > v251))) fun (v252 : Bool) =>
                bif v252 then
                  rt 1
                else
                  rt 0

def r (a : (List Int)) (b : (List Int)) : Bool × X := g chk (fun x => (true, x)) a b
noncomputable def D : CallD := Dof (P := Try.prog) []
noncomputable def tab : List (Nat × LE Res) := []
set_option maxRecDepth 100000 in
theorem run (a : (List Int)) (b : (List Int)) : enterK E0 D (loopX E0 D tab 9) Try.f28 (codeOf Try.f28) [.val ⟨.arr 4 (.int .u64), a⟩, .val ⟨.arr 4 (.int .u64), b⟩] [] = g (fun c z => req c z) (fun x => some (res x)) a b := by kernel_rfl
theorem rel (a : (List Int)) (b : (List Int)) : J (fun w z => z = some (res w)) (r a b) (g (fun c z => req c z) (fun x => some (res x)) a b) := by
  unfold r g
  with_reducible repeat (first | (apply J.lt; intro _) | apply J.rq | apply J.bif | exact J.rt rfl)
def F (ar : List AV) (br : List DV) : Option (Bool × Res) := match ar, br with
  | [a0, a1], [] => (match a0.get (.arr 4 (.int .u64)), a1.get (.arr 4 (.int .u64)) with | some a, some b => some ((r a b).1, res (r a b).2) | _, _ => none)
  | _, _ => none
theorem ok : fnOK Try.f28 = true := by kernel_rfl
set_option linter.unusedSimpArgs false in
theorem good (ar : List AV) (br : List DV) (q : Res) (h : F ar br = some (true, q)) : Good Try.prog 28 ar br q := by
  unfold F at h
  split at h
  · skip
    split at h
    · rename_i u0 u1 e0 e1
      simp only [Option.some.injEq, Prod.mk.injEq] at h
      obtain ⟨hr, rfl⟩ := h
      have z0 := AV.get_eq e0
      have z1 := AV.get_eq e1
      subst z0
      subst z1
      exact ent_good (X := X) (res := res) (w := r u0 u1) (z := g (fun c z => req c z) (fun x => some (res x)) u0 u1) hE0 (Dof_sound _) Try.func28 ok tabOK_nil (run u0 u1) (rel u0 u1) hr
    · cases h
  · cases h
noncomputable def ent : Ent Try.prog := ⟨28, F, good⟩
end Nat_Cmp

/-! sacristy/sacristylaw01.awake -/
namespace Sacristylaw01_awake
abbrev X : Type := Bool
def res (x : X) : Res := ([.val ⟨.bool, x⟩], [])
def g {Z : Type} (rq : Bool → Z → Z) (rt : X → Z)  : Z :=
  lt (Nat_Of.r 1) fun w5 =>
  rq w5.1 <|
  lt (Nat_Up.r w5.2 64) fun w28 =>
  rq w28.1 <|
  lt (Nat_Of.r 1) fun w29 =>
  rq w29.1 <|
  lt (Nat_Sub.r w28.2 w29.2) fun w63 =>
  rq w63.1 <|
  lt (Nat_Take.r (⟨#[1, 0]⟩ : ByteArray)) fun w89 =>
  rq w89.1 <|
  lt ((decide ((w28.2.getD 0 0) = 0) && (decide ((w28.2.getD 1 0) = 1) && (decide ((w28.2.getD 2 0) = 0) && (decide ((w28.2.getD 3 0) = 0) && true))))) fun (v90 : Bool) =>
  bif v90 then
    lt ((decide ((w63.2.1.getD 0 0) = 18446744073709551615) && (decide ((w63.2.1.getD 1 0) = 0) && (decide ((w63.2.1.getD 2 0) = 0) && (decide ((w63.2.1.getD 3 0) = 0) && true))))) fun (v91 : Bool) =>
    bif v91 then
      lt ((w63.2.2 == 0)) fun (v92 : Bool) =>
      bif v92 then
        lt (Nat_Len.r w28.2) fun w179 =>
        rq w179.1 <|
        lt ((w179.2 == 65)) fun (v180 : Bool) =>
        bif v180 then
          lt (Nat_Of.r 256) fun w181 =>
          rq w181.1 <|
          lt (Nat_Bytes.r w181.2) fun w200 =>
          rq w200.1 <|
          lt ((w200.2.toList == (⟨#[1, 0]⟩ : ByteArray).toList)) fun (v201 : Bool) =>
          bif v201 then
            lt (Nat_Of.r 256) fun w202 =>
            rq w202.1 <|
            lt ((decide ((w89.2.1.getD 0 0) = (w202.2.getD 0 0)) && (decide ((w89.2.1.getD 1 0) = (w202.2.getD 1 0)) && (decide ((w89.2.1.getD 2 0) = (w202.2.getD 2 0)) && (decide ((w89.2.1.getD 3 0) = (w202.2.getD 3 0)) && true))))) fun (v203 : Bool) =>
            bif v203 then
              lt ((w89.2.2 == 0)) fun (v204 : Bool) =>
              bif v204 then
                lt (Nat_Cmp.r w28.2 w63.2.1) fun w253 =>
                rq w253.1 <|
                lt ((w253.2 == 1)) fun (v254 : Bool) =>
                rt v254
              else
                rt false
            else
              rt false
          else
            rt false
        else
          rt false
      else
        rt false
    else
      rt false
  else
    rt false

def r  : Bool × X := g chk (fun x => (true, x)) 
noncomputable def D : CallD := Dof (P := Try.prog) [Nat_Of.ent, Nat_Up.ent, Nat_Sub.ent, Nat_Take.ent, Nat_Len.ent, Nat_Bytes.ent, Nat_Cmp.ent]
noncomputable def tab : List (Nat × LE Res) := []
set_option maxRecDepth 100000 in
theorem run  : enterK E0 D (loopX E0 D tab 9) Try.f15 (codeOf Try.f15) [] [] = g (fun c z => req c z) (fun x => some (res x))  := by kernel_rfl
theorem rel  : J (fun w z => z = some (res w)) (r ) (g (fun c z => req c z) (fun x => some (res x)) ) := by
  unfold r g
  with_reducible repeat (first | (apply J.lt; intro _) | apply J.rq | apply J.bif | exact J.rt rfl)
def F (ar : List AV) (br : List DV) : Option (Bool × Res) := match ar, br with
  | [], [] => some ((r ).1, res (r ).2)
  | _, _ => none
theorem ok : fnOK Try.f15 = true := by kernel_rfl
set_option linter.unusedSimpArgs false in
theorem good (ar : List AV) (br : List DV) (q : Res) (h : F ar br = some (true, q)) : Good Try.prog 15 ar br q := by
  unfold F at h
  split at h
  · skip
    have h := h
    simp only [Option.some.injEq, Prod.mk.injEq] at h
    obtain ⟨hr, rfl⟩ := h
    exact ent_good (X := X) (res := res) (w := r ) (z := g (fun c z => req c z) (fun x => some (res x)) ) hE0 (Dof_sound _) Try.func15 ok tabOK_nil (run ) (rel ) hr
  · cases h
noncomputable def ent : Ent Try.prog := ⟨15, F, good⟩
end Sacristylaw01_awake

/-! sacristy/sacristyref01.Of -/
namespace Sacristyref01_Of
abbrev X : Type := (List Bool)
def res (x : X) : Res := ([.val ⟨.arr 256 .bool, x⟩], [])
abbrev sh0 : List (Nat × Sh) := [(1, .pb 1 (.arr 4 (.int .u64)) []), (2, .pb 2 (.arr 256 .bool) []), (3, .pb 3 (.arr 256 .bool) []), (4, .p (.int .i64))]
abbrev bx0 : List (Nat × Ty) := [(1, .arr 4 (.int .u64)), (2, .arr 256 .bool), (3, .arr 256 .bool)]
abbrev X0 : Type := Unit × Unit × Unit × Int × Unit
abbrev Y0 : Type := (List Int) × (List Bool) × (List Bool) × Unit
def g0 {Z : Type} (rq : Bool → Z → Z) (kn : X0 → Y0 → Z) (ke : Nat → X0 → Y0 → Z) (x : X0) (y : Y0) : Z :=
  lt ((decide (x.2.2.2.1 < 256))) fun (v313 : Bool) =>
  bif v313 then
    lt (IntKind.i64.wrap (x.2.2.2.1.tdiv 64)) fun (v314 : Int) =>
    rq (decide ((0 : Int) ≤ v314) && decide (v314 < 4)) <|
    lt ((y.1.getD v314.toNat 0)) fun (v315 : Int) =>
    lt (x.2.2.2.1.tmod 64) fun (v316 : Int) =>
    lt (v315.fdiv (2 ^ (min v316.toNat 64))) fun (v317 : Int) =>
    rq (!decide (v316 < 0)) <|
    lt (ibits .u64 (· &&& ·) v317 (1 : Int)) fun (v318 : Int) =>
    lt ((v318 == 1)) fun (v319 : Bool) =>
    rq (decide ((0 : Int) ≤ x.2.2.2.1) && decide (x.2.2.2.1 < 256)) <|
    lt ((y.2.2.1.set x.2.2.2.1.toNat v319)) fun (v320 : (List Bool)) =>
    lt (IntKind.i64.wrap (x.2.2.2.1 + 1)) fun (v321 : Int) =>
    kn ((), (), (), v321, ()) (y.1, y.2.1, v320, ())
  else
    ke 1 ((), (), (), x.2.2.2.1, ()) (y.1, y.2.1, y.2.2.1, ())

def fu0 (x : X0) (y : Y0) : Nat := ((256 : Int) - x.2.2.2.1).toNat + 1
def l0 (x : X0) (y : Y0) : Bool × Nat × X0 × Y0 := rounds (fun rq kn ke x y => g0 rq kn ke x y) (fu0 x y) x y
def g {Z : Type} (rq : Bool → Z → Z) (rt : X → Z) (a : (List Int)) : Z :=
  lt ((List.replicate 256 false)) fun (v267 : (List Bool)) =>
  lt (Sacristyref01_Of.l0 ((), (), (), 0, ()) (a, (List.replicate 256 false), v267, ())) fun w322 =>
  rq w322.1 <|
  rt w322.2.2.2.2.2.1

def r (a : (List Int)) : Bool × X := g chk (fun x => (true, x)) a
noncomputable def D : CallD := Dof (P := Try.prog) []
noncomputable def tab : List (Nat × LE Res) := [(4, .typed (loopT 22 sh0 bx0 (loopF' [1] (rounds fun rq kn ke x y => g0 rq kn ke x y) fu0)))]
set_option maxRecDepth 100000 in
theorem run (a : (List Int)) : enterK E0 D (loopX E0 D tab 9) Try.f66 (codeOf Try.f66) [.val ⟨.arr 4 (.int .u64), a⟩] [] = g (fun c z => req c z) (fun x => some (res x)) a := by kernel_rfl
theorem rel (a : (List Int)) : J (fun w z => z = some (res w)) (r a) (g (fun c z => req c z) (fun x => some (res x)) a) := by
  unfold r g
  with_reducible repeat (first | (apply J.lt; intro _) | apply J.rq | apply J.bif | exact J.rt rfl)
set_option maxRecDepth 100000 in
theorem round0 (x : ShX sh0) (y : BxX bx0) (k : Ex → St → Option Res) : codeK E0 D (loopX E0 D tab 8) (nthLoop (codeOf Try.f66) 0) (inj 22 sh0 bx0 x y) (fun ex st => k ex (st.forget (keysS sh0) (keysB bx0))) = g0 (fun c z => req c z) (fun x y => k .normal (inj 22 sh0 bx0 x y)) (fun e x y => k (exOf e) (inj 22 sh0 bx0 x y)) x y := by kernel_rfl
theorem told0 : Nonempty (Told Try.prog E0 D tab Try.f66.ntmps (nthLoop (codeOf Try.f66) 0) 22 sh0 bx0 (loopF' [1] (rounds fun rq kn ke x y => g0 rq kn ke x y) fu0)) :=
  told_of (sh := sh0) (bx := bx0) 8 (by kernel_rfl) (by kernel_rfl) [1] fu0 (fun rq kn ke x y => g0 rq kn ke x y) (fun rq kn ke x y => g0 rq kn ke x y) round0 (by
    intro φ kn1 kn2 ke1 ke2 h1 h2 x y
    simp only [g0]
    with_reducible repeat (first | (apply J.lt; intro _) | apply J.rq | apply J.bif | exact h1 _ _ | exact h2 _ (by decide) _ _))
theorem tabOK : TabOK Try.prog E0 D tab Try.f66.ntmps (codeOf Try.f66) := tabOK_of (bs := [nthLoop (codeOf Try.f66) 0]) (by kernel_rfl) (allTold_cons (typedAt (by kernel_rfl) told0) allTold_nil)
def F (ar : List AV) (br : List DV) : Option (Bool × Res) := match ar, br with
  | [a0], [] => (match a0.get (.arr 4 (.int .u64)) with | some a => some ((r a).1, res (r a).2) | _ => none)
  | _, _ => none
theorem ok : fnOK Try.f66 = true := by kernel_rfl
set_option linter.unusedSimpArgs false in
theorem good (ar : List AV) (br : List DV) (q : Res) (h : F ar br = some (true, q)) : Good Try.prog 66 ar br q := by
  unfold F at h
  split at h
  · skip
    split at h
    · rename_i u0 e0
      simp only [Option.some.injEq, Prod.mk.injEq] at h
      obtain ⟨hr, rfl⟩ := h
      have z0 := AV.get_eq e0
      subst z0
      exact ent_good (X := X) (res := res) (w := r u0) (z := g (fun c z => req c z) (fun x => some (res x)) u0) hE0 (Dof_sound _) Try.func66 ok tabOK (run u0) (rel u0) hr
    · cases h
  · cases h
noncomputable def ent : Ent Try.prog := ⟨66, F, good⟩
end Sacristyref01_Of

/-! sacristy/sacristyref01.Nat -/
namespace Sacristyref01_Nat
abbrev X : Type := (List Int)
def res (x : X) : Res := ([.val ⟨.arr 4 (.int .u64), x⟩], [])
abbrev sh0 : List (Nat × Sh) := [(1, .pb 1 (.arr 256 .bool) []), (2, .pb 2 (.arr 4 (.int .u64)) []), (3, .pb 3 (.arr 4 (.int .u64)) []), (4, .p (.int .i64))]
abbrev bx0 : List (Nat × Ty) := [(1, .arr 256 .bool), (2, .arr 4 (.int .u64)), (3, .arr 4 (.int .u64))]
abbrev X0 : Type := Unit × Unit × Unit × Int × Unit
abbrev Y0 : Type := (List Bool) × (List Int) × (List Int) × Unit
def g0 {Z : Type} (rq : Bool → Z → Z) (kn : X0 → Y0 → Z) (ke : Nat → X0 → Y0 → Z) (x : X0) (y : Y0) : Z :=
  lt ((decide (x.2.2.2.1 < 256))) fun (v405 : Bool) =>
  bif v405 then
    rq (decide ((0 : Int) ≤ x.2.2.2.1) && decide (x.2.2.2.1 < 256)) <|
    lt ((y.1.getD x.2.2.2.1.toNat false)) fun (v406 : Bool) =>
    bif v406 then
      lt (IntKind.i64.wrap (x.2.2.2.1.tdiv 64)) fun (v407 : Int) =>
      lt (IntKind.i64.wrap (x.2.2.2.1.tdiv 64)) fun (v408 : Int) =>
      rq (decide ((0 : Int) ≤ v408) && decide (v408 < 4)) <|
      lt ((y.2.2.1.getD v408.toNat 0)) fun (v409 : Int) =>
      lt (x.2.2.2.1.tmod 64) fun (v410 : Int) =>
      lt (IntKind.u64.wrap ((1 : Int) * 2 ^ (min v410.toNat 64))) fun (v411 : Int) =>
      rq (!decide (v410 < 0)) <|
      lt (ibits .u64 (· ||| ·) v409 v411) fun (v412 : Int) =>
      rq (decide ((0 : Int) ≤ v407) && decide (v407 < 4)) <|
      lt ((y.2.2.1.set v407.toNat v412)) fun (v413 : (List Int)) =>
      lt (IntKind.i64.wrap (x.2.2.2.1 + 1)) fun (v414 : Int) =>
      kn ((), (), (), v414, ()) (y.1, y.2.1, v413, ())
    else
      lt (IntKind.i64.wrap (x.2.2.2.1 + 1)) fun (v415 : Int) =>
      kn ((), (), (), v415, ()) (y.1, y.2.1, y.2.2.1, ())
  else
    ke 1 ((), (), (), x.2.2.2.1, ()) (y.1, y.2.1, y.2.2.1, ())

def fu0 (x : X0) (y : Y0) : Nat := ((256 : Int) - x.2.2.2.1).toNat + 1
def l0 (x : X0) (y : Y0) : Bool × Nat × X0 × Y0 := rounds (fun rq kn ke x y => g0 rq kn ke x y) (fu0 x y) x y
def g {Z : Type} (rq : Bool → Z → Z) (rt : X → Z) (b : (List Bool)) : Z :=
  lt (Sacristyref01_Nat.l0 ((), (), (), 0, ()) (b, [0, 0, 0, 0], [0, 0, 0, 0], ())) fun w416 =>
  rq w416.1 <|
  rt w416.2.2.2.2.2.1

def r (b : (List Bool)) : Bool × X := g chk (fun x => (true, x)) b
noncomputable def D : CallD := Dof (P := Try.prog) []
noncomputable def tab : List (Nat × LE Res) := [(4, .typed (loopT 25 sh0 bx0 (loopF' [1] (rounds fun rq kn ke x y => g0 rq kn ke x y) fu0)))]
set_option maxRecDepth 100000 in
theorem run (b : (List Bool)) : enterK E0 D (loopX E0 D tab 9) Try.f67 (codeOf Try.f67) [.val ⟨.arr 256 .bool, b⟩] [] = g (fun c z => req c z) (fun x => some (res x)) b := by kernel_rfl
theorem rel (b : (List Bool)) : J (fun w z => z = some (res w)) (r b) (g (fun c z => req c z) (fun x => some (res x)) b) := by
  unfold r g
  with_reducible repeat (first | (apply J.lt; intro _) | apply J.rq | apply J.bif | exact J.rt rfl)
set_option maxRecDepth 100000 in
theorem round0 (x : ShX sh0) (y : BxX bx0) (k : Ex → St → Option Res) : codeK E0 D (loopX E0 D tab 8) (nthLoop (codeOf Try.f67) 0) (inj 25 sh0 bx0 x y) (fun ex st => k ex (st.forget (keysS sh0) (keysB bx0))) = g0 (fun c z => req c z) (fun x y => k .normal (inj 25 sh0 bx0 x y)) (fun e x y => k (exOf e) (inj 25 sh0 bx0 x y)) x y := by kernel_rfl
theorem told0 : Nonempty (Told Try.prog E0 D tab Try.f67.ntmps (nthLoop (codeOf Try.f67) 0) 25 sh0 bx0 (loopF' [1] (rounds fun rq kn ke x y => g0 rq kn ke x y) fu0)) :=
  told_of (sh := sh0) (bx := bx0) 8 (by kernel_rfl) (by kernel_rfl) [1] fu0 (fun rq kn ke x y => g0 rq kn ke x y) (fun rq kn ke x y => g0 rq kn ke x y) round0 (by
    intro φ kn1 kn2 ke1 ke2 h1 h2 x y
    simp only [g0]
    with_reducible repeat (first | (apply J.lt; intro _) | apply J.rq | apply J.bif | exact h1 _ _ | exact h2 _ (by decide) _ _))
theorem tabOK : TabOK Try.prog E0 D tab Try.f67.ntmps (codeOf Try.f67) := tabOK_of (bs := [nthLoop (codeOf Try.f67) 0]) (by kernel_rfl) (allTold_cons (typedAt (by kernel_rfl) told0) allTold_nil)
def F (ar : List AV) (br : List DV) : Option (Bool × Res) := match ar, br with
  | [a0], [] => (match a0.get (.arr 256 .bool) with | some b => some ((r b).1, res (r b).2) | _ => none)
  | _, _ => none
theorem ok : fnOK Try.f67 = true := by kernel_rfl
set_option linter.unusedSimpArgs false in
theorem good (ar : List AV) (br : List DV) (q : Res) (h : F ar br = some (true, q)) : Good Try.prog 67 ar br q := by
  unfold F at h
  split at h
  · skip
    split at h
    · rename_i u0 e0
      simp only [Option.some.injEq, Prod.mk.injEq] at h
      obtain ⟨hr, rfl⟩ := h
      have z0 := AV.get_eq e0
      subst z0
      exact ent_good (X := X) (res := res) (w := r u0) (z := g (fun c z => req c z) (fun x => some (res x)) u0) hE0 (Dof_sound _) Try.func67 ok tabOK (run u0) (rel u0) hr
    · cases h
  · cases h
noncomputable def ent : Ent Try.prog := ⟨67, F, good⟩
end Sacristyref01_Nat

/-! sacristy/sacristyref01.Up -/
namespace Sacristyref01_Up
abbrev X : Type := (List Int)
def res (x : X) : Res := ([.val ⟨.arr 4 (.int .u64), x⟩], [])
abbrev sh0 : List (Nat × Sh) := [(1, .p (.int .i64)), (4, .pb 4 (.arr 4 (.int .u64)) []), (5, .pb 5 (.arr 256 .bool) []), (6, .pb 6 (.arr 256 .bool) []), (7, .p (.int .i64))]
abbrev bx0 : List (Nat × Ty) := [(4, .arr 4 (.int .u64)), (5, .arr 256 .bool), (6, .arr 256 .bool)]
abbrev X0 : Type := Int × Unit × Unit × Unit × Int × Unit
abbrev Y0 : Type := (List Int) × (List Bool) × (List Bool) × Unit
def g0 {Z : Type} (rq : Bool → Z → Z) (kn : X0 → Y0 → Z) (ke : Nat → X0 → Y0 → Z) (x : X0) (y : Y0) : Z :=
  lt ((decide (x.2.2.2.2.1 < 256))) fun (v379 : Bool) =>
  bif v379 then
    lt ((decide (x.1 > 0))) fun (v380 : Bool) =>
    bif v380 then
      lt ((bif decide ((256 : Int) < x.1) then (256 : Int) else x.1)) fun (v381 : Int) =>
      lt (IntKind.i64.wrap (x.2.2.2.2.1 - v381)) fun (v382 : Int) =>
      lt ((decide (v382 ≥ 0))) fun (v383 : Bool) =>
      bif v383 then
        rq (decide ((0 : Int) ≤ v382) && decide (v382 < 256)) <|
        lt ((y.2.1.getD v382.toNat false)) fun (v384 : Bool) =>
        rq (decide ((0 : Int) ≤ x.2.2.2.2.1) && decide (x.2.2.2.2.1 < 256)) <|
        lt ((y.2.2.1.set x.2.2.2.2.1.toNat v384)) fun (v385 : (List Bool)) =>
        lt (IntKind.i64.wrap (x.2.2.2.2.1 + 1)) fun (v386 : Int) =>
        kn (x.1, (), (), (), v386, ()) (y.1, y.2.1, v385, ())
      else
        rq (decide ((0 : Int) ≤ x.2.2.2.2.1) && decide (x.2.2.2.2.1 < 256)) <|
        lt ((y.2.2.1.set x.2.2.2.2.1.toNat false)) fun (v387 : (List Bool)) =>
        lt (IntKind.i64.wrap (x.2.2.2.2.1 + 1)) fun (v388 : Int) =>
        kn (x.1, (), (), (), v388, ()) (y.1, y.2.1, v387, ())
    else
      lt ((decide (x.2.2.2.2.1 ≥ 0))) fun (v389 : Bool) =>
      bif v389 then
        rq (decide ((0 : Int) ≤ x.2.2.2.2.1) && decide (x.2.2.2.2.1 < 256)) <|
        lt ((y.2.1.getD x.2.2.2.2.1.toNat false)) fun (v390 : Bool) =>
        rq (decide ((0 : Int) ≤ x.2.2.2.2.1) && decide (x.2.2.2.2.1 < 256)) <|
        lt ((y.2.2.1.set x.2.2.2.2.1.toNat v390)) fun (v391 : (List Bool)) =>
        lt (IntKind.i64.wrap (x.2.2.2.2.1 + 1)) fun (v392 : Int) =>
        kn (x.1, (), (), (), v392, ()) (y.1, y.2.1, v391, ())
      else
        rq (decide ((0 : Int) ≤ x.2.2.2.2.1) && decide (x.2.2.2.2.1 < 256)) <|
        lt ((y.2.2.1.set x.2.2.2.2.1.toNat false)) fun (v393 : (List Bool)) =>
        lt (IntKind.i64.wrap (x.2.2.2.2.1 + 1)) fun (v394 : Int) =>
        kn (x.1, (), (), (), v394, ()) (y.1, y.2.1, v393, ())
  else
    ke 1 (x.1, (), (), (), x.2.2.2.2.1, ()) (y.1, y.2.1, y.2.2.1, ())

def fu0 (x : X0) (y : Y0) : Nat := ((256 : Int) - x.2.2.2.2.1).toNat + 1
def l0 (x : X0) (y : Y0) : Bool × Nat × X0 × Y0 := rounds (fun rq kn ke x y => g0 rq kn ke x y) (fu0 x y) x y
def g {Z : Type} (rq : Bool → Z → Z) (rt : X → Z) (a : (List Int)) (n : Int) : Z :=
  lt (Sacristyref01_Of.r a) fun w323 =>
  rq w323.1 <|
  lt ((List.replicate 256 false)) fun (v324 : (List Bool)) =>
  lt (Sacristyref01_Up.l0 (n, (), (), (), 0, ()) ([0, 0, 0, 0], w323.2, v324, ())) fun w395 =>
  rq w395.1 <|
  lt (Sacristyref01_Nat.r w395.2.2.2.2.2.1) fun w417 =>
  rq w417.1 <|
  rt w417.2

def r (a : (List Int)) (n : Int) : Bool × X := g chk (fun x => (true, x)) a n
noncomputable def D : CallD := Dof (P := Try.prog) [Sacristyref01_Of.ent, Sacristyref01_Nat.ent]
noncomputable def tab : List (Nat × LE Res) := [(5, .typed (loopT 34 sh0 bx0 (loopF' [1] (rounds fun rq kn ke x y => g0 rq kn ke x y) fu0)))]
set_option maxRecDepth 100000 in
theorem run (a : (List Int)) (n : Int) : enterK E0 D (loopX E0 D tab 9) Try.f35 (codeOf Try.f35) [.val ⟨.arr 4 (.int .u64), a⟩, .val ⟨.int .i64, n⟩] [] = g (fun c z => req c z) (fun x => some (res x)) a n := by kernel_rfl
theorem rel (a : (List Int)) (n : Int) : J (fun w z => z = some (res w)) (r a n) (g (fun c z => req c z) (fun x => some (res x)) a n) := by
  unfold r g
  with_reducible repeat (first | (apply J.lt; intro _) | apply J.rq | apply J.bif | exact J.rt rfl)
set_option maxRecDepth 100000 in
theorem round0 (x : ShX sh0) (y : BxX bx0) (k : Ex → St → Option Res) : codeK E0 D (loopX E0 D tab 8) (nthLoop (codeOf Try.f35) 0) (inj 34 sh0 bx0 x y) (fun ex st => k ex (st.forget (keysS sh0) (keysB bx0))) = g0 (fun c z => req c z) (fun x y => k .normal (inj 34 sh0 bx0 x y)) (fun e x y => k (exOf e) (inj 34 sh0 bx0 x y)) x y := by kernel_rfl
theorem told0 : Nonempty (Told Try.prog E0 D tab Try.f35.ntmps (nthLoop (codeOf Try.f35) 0) 34 sh0 bx0 (loopF' [1] (rounds fun rq kn ke x y => g0 rq kn ke x y) fu0)) :=
  told_of (sh := sh0) (bx := bx0) 8 (by kernel_rfl) (by kernel_rfl) [1] fu0 (fun rq kn ke x y => g0 rq kn ke x y) (fun rq kn ke x y => g0 rq kn ke x y) round0 (by
    intro φ kn1 kn2 ke1 ke2 h1 h2 x y
    simp only [g0]
    with_reducible repeat (first | (apply J.lt; intro _) | apply J.rq | apply J.bif | exact h1 _ _ | exact h2 _ (by decide) _ _))
theorem tabOK : TabOK Try.prog E0 D tab Try.f35.ntmps (codeOf Try.f35) := tabOK_of (bs := [nthLoop (codeOf Try.f35) 0]) (by kernel_rfl) (allTold_cons (typedAt (by kernel_rfl) told0) allTold_nil)
def F (ar : List AV) (br : List DV) : Option (Bool × Res) := match ar, br with
  | [a0, a1], [] => (match a0.get (.arr 4 (.int .u64)), a1.get (.int .i64) with | some a, some n => some ((r a n).1, res (r a n).2) | _, _ => none)
  | _, _ => none
theorem ok : fnOK Try.f35 = true := by kernel_rfl
set_option linter.unusedSimpArgs false in
theorem good (ar : List AV) (br : List DV) (q : Res) (h : F ar br = some (true, q)) : Good Try.prog 35 ar br q := by
  unfold F at h
  split at h
  · skip
    split at h
    · rename_i u0 u1 e0 e1
      simp only [Option.some.injEq, Prod.mk.injEq] at h
      obtain ⟨hr, rfl⟩ := h
      have z0 := AV.get_eq e0
      have z1 := AV.get_eq e1
      subst z0
      subst z1
      exact ent_good (X := X) (res := res) (w := r u0 u1) (z := g (fun c z => req c z) (fun x => some (res x)) u0 u1) hE0 (Dof_sound _) Try.func35 ok tabOK (run u0 u1) (rel u0 u1) hr
    · cases h
  · cases h
noncomputable def ent : Ent Try.prog := ⟨35, F, good⟩
end Sacristyref01_Up

/-! sacristy/sacristyref01.Int -/
namespace Sacristyref01_Int
abbrev X : Type := (List Int)
def res (x : X) : Res := ([.val ⟨.arr 4 (.int .u64), x⟩], [])
abbrev sh0 : List (Nat × Sh) := [(0, .p (.int .i64)), (2, .pb 2 (.arr 4 (.int .u64)) []), (3, .pb 3 (.arr 256 .bool) []), (4, .p (.int .i64))]
abbrev bx0 : List (Nat × Ty) := [(2, .arr 4 (.int .u64)), (3, .arr 256 .bool)]
abbrev X0 : Type := Int × Unit × Unit × Int × Unit
abbrev Y0 : Type := (List Int) × (List Bool) × Unit
def g0 {Z : Type} (rq : Bool → Z → Z) (kn : X0 → Y0 → Z) (ke : Nat → X0 → Y0 → Z) (x : X0) (y : Y0) : Z :=
  lt ((decide (x.2.2.2.1 < 63))) fun (v423 : Bool) =>
  bif v423 then
    lt ((decide (x.1 > 0))) fun (v424 : Bool) =>
    bif v424 then
      lt (x.1.fdiv (2 ^ (min x.2.2.2.1.toNat 64))) fun (v425 : Int) =>
      rq (!decide (x.2.2.2.1 < 0)) <|
      lt (ibits .i64 (· &&& ·) v425 (1 : Int)) fun (v426 : Int) =>
      lt ((v426 == 1)) fun (v427 : Bool) =>
      rq (decide ((0 : Int) ≤ x.2.2.2.1) && decide (x.2.2.2.1 < 256)) <|
      lt ((y.2.1.set x.2.2.2.1.toNat v427)) fun (v428 : (List Bool)) =>
      lt (IntKind.i64.wrap (x.2.2.2.1 + 1)) fun (v429 : Int) =>
      kn (x.1, (), (), v429, ()) (y.1, v428, ())
    else
      ke 1 (x.1, (), (), x.2.2.2.1, ()) (y.1, y.2.1, ())
  else
    ke 1 (x.1, (), (), x.2.2.2.1, ()) (y.1, y.2.1, ())

def fu0 (x : X0) (y : Y0) : Nat := ((63 : Int) - x.2.2.2.1).toNat + 1
def l0 (x : X0) (y : Y0) : Bool × Nat × X0 × Y0 := rounds (fun rq kn ke x y => g0 rq kn ke x y) (fu0 x y) x y
def g {Z : Type} (rq : Bool → Z → Z) (rt : X → Z) (n : Int) : Z :=
  lt ((List.replicate 256 false)) fun (v421 : (List Bool)) =>
  lt (Sacristyref01_Int.l0 (n, (), (), 0, ()) ([0, 0, 0, 0], v421, ())) fun w430 =>
  rq w430.1 <|
  lt (Sacristyref01_Nat.r w430.2.2.2.2.1) fun w431 =>
  rq w431.1 <|
  rt w431.2

def r (n : Int) : Bool × X := g chk (fun x => (true, x)) n
noncomputable def D : CallD := Dof (P := Try.prog) [Sacristyref01_Nat.ent]
noncomputable def tab : List (Nat × LE Res) := [(4, .typed (loopT 23 sh0 bx0 (loopF' [1] (rounds fun rq kn ke x y => g0 rq kn ke x y) fu0)))]
set_option maxRecDepth 100000 in
theorem run (n : Int) : enterK E0 D (loopX E0 D tab 9) Try.f23 (codeOf Try.f23) [.val ⟨.int .i64, n⟩] [] = g (fun c z => req c z) (fun x => some (res x)) n := by kernel_rfl
theorem rel (n : Int) : J (fun w z => z = some (res w)) (r n) (g (fun c z => req c z) (fun x => some (res x)) n) := by
  unfold r g
  with_reducible repeat (first | (apply J.lt; intro _) | apply J.rq | apply J.bif | exact J.rt rfl)
set_option maxRecDepth 100000 in
theorem round0 (x : ShX sh0) (y : BxX bx0) (k : Ex → St → Option Res) : codeK E0 D (loopX E0 D tab 8) (nthLoop (codeOf Try.f23) 0) (inj 23 sh0 bx0 x y) (fun ex st => k ex (st.forget (keysS sh0) (keysB bx0))) = g0 (fun c z => req c z) (fun x y => k .normal (inj 23 sh0 bx0 x y)) (fun e x y => k (exOf e) (inj 23 sh0 bx0 x y)) x y := by kernel_rfl
theorem told0 : Nonempty (Told Try.prog E0 D tab Try.f23.ntmps (nthLoop (codeOf Try.f23) 0) 23 sh0 bx0 (loopF' [1] (rounds fun rq kn ke x y => g0 rq kn ke x y) fu0)) :=
  told_of (sh := sh0) (bx := bx0) 8 (by kernel_rfl) (by kernel_rfl) [1] fu0 (fun rq kn ke x y => g0 rq kn ke x y) (fun rq kn ke x y => g0 rq kn ke x y) round0 (by
    intro φ kn1 kn2 ke1 ke2 h1 h2 x y
    simp only [g0]
    with_reducible repeat (first | (apply J.lt; intro _) | apply J.rq | apply J.bif | exact h1 _ _ | exact h2 _ (by decide) _ _))
theorem tabOK : TabOK Try.prog E0 D tab Try.f23.ntmps (codeOf Try.f23) := tabOK_of (bs := [nthLoop (codeOf Try.f23) 0]) (by kernel_rfl) (allTold_cons (typedAt (by kernel_rfl) told0) allTold_nil)
def F (ar : List AV) (br : List DV) : Option (Bool × Res) := match ar, br with
  | [a0], [] => (match a0.get (.int .i64) with | some n => some ((r n).1, res (r n).2) | _ => none)
  | _, _ => none
theorem ok : fnOK Try.f23 = true := by kernel_rfl
set_option linter.unusedSimpArgs false in
theorem good (ar : List AV) (br : List DV) (q : Res) (h : F ar br = some (true, q)) : Good Try.prog 23 ar br q := by
  unfold F at h
  split at h
  · skip
    split at h
    · rename_i u0 e0
      simp only [Option.some.injEq, Prod.mk.injEq] at h
      obtain ⟨hr, rfl⟩ := h
      have z0 := AV.get_eq e0
      subst z0
      exact ent_good (X := X) (res := res) (w := r u0) (z := g (fun c z => req c z) (fun x => some (res x)) u0) hE0 (Dof_sound _) Try.func23 ok tabOK (run u0) (rel u0) hr
    · cases h
  · cases h
noncomputable def ent : Ent Try.prog := ⟨23, F, good⟩
end Sacristyref01_Int
end Go.Own
