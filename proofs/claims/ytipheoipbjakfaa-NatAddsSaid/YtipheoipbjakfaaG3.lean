/- What functions compute, printed by wip/gen/gen.py. -/
import Derived.Test.YtipheoipbjakfaaG2
set_option linter.unusedVariables false
namespace Go.Own
open Go.Proofs Go.Proofs.Ytipheoipbjakfaa

/-! sacristy/nat.Bit -/
namespace Nat_Bit
abbrev X : Type := Int
def res (x : X) : Res := ([.val ⟨.int .i64, x⟩], [])
def g {Z : Type} (rq : Bool → Z → Z) (rt : X → Z) (a : (List Int)) (kx : Int) : Z :=
  lt ((decide (kx < 0))) fun (v834 : Bool) =>
  bif v834 then
    rt 0
  else
    lt ((decide (kx ≥ 256))) fun (v835 : Bool) =>
    bif v835 then
      rt 0
    else
      lt (IntKind.i64.wrap (kx.tdiv 64)) fun (v836 : Int) =>
      rq (decide ((0 : Int) ≤ v836) && decide (v836 < 4)) <|
      lt ((a.getD v836.toNat 0)) fun (v837 : Int) =>
      lt (kx.tmod 64) fun (v838 : Int) =>
      lt (v837.fdiv (2 ^ (min v838.toNat 64))) fun (v839 : Int) =>
      rq (!decide (v838 < 0)) <|
      lt (ibits .u64 (· &&& ·) v839 (1 : Int)) fun (v840 : Int) =>
      lt (IntKind.i64.wrap (v840)) fun (v841 : Int) =>
      rt v841

def r (a : (List Int)) (kx : Int) : Bool × X := g chk (fun x => (true, x)) a kx
noncomputable def D : CallD := Dof (P := Try.prog) []
noncomputable def tab : List (Nat × LE Res) := []
set_option maxRecDepth 100000 in
theorem run (a : (List Int)) (kx : Int) : enterK E0 D (loopX E0 D tab 9) Try.f31 (codeOf Try.f31) [.val ⟨.arr 4 (.int .u64), a⟩, .val ⟨.int .i64, kx⟩] [] = g (fun c z => req c z) (fun x => some (res x)) a kx := by kernel_rfl
theorem rel (a : (List Int)) (kx : Int) : J (fun w z => z = some (res w)) (r a kx) (g (fun c z => req c z) (fun x => some (res x)) a kx) := by
  unfold r g
  with_reducible repeat (first | (apply J.lt; intro _) | apply J.rq | apply J.bif | exact J.rt rfl)
def F (ar : List AV) (br : List DV) : Option (Bool × Res) := match ar, br with
  | [a0, a1], [] => (match a0.get (.arr 4 (.int .u64)), a1.get (.int .i64) with | some a, some kx => some ((r a kx).1, res (r a kx).2) | _, _ => none)
  | _, _ => none
theorem ok : fnOK Try.f31 = true := by kernel_rfl
set_option linter.unusedSimpArgs false in
theorem good (ar : List AV) (br : List DV) (q : Res) (h : F ar br = some (true, q)) : Good Try.prog 31 ar br q := by
  unfold F at h
  split at h
  · skip
    split at h
    · rename_i u0 u1 e0 e1
      simp only [Option.some.injEq, Prod.mk.injEq] at h
      obtain ⟨hr, rfl⟩ := h
      have z0 := AV.get_eq e0
      have z1 := AV.get_eq e1
      subst z0
      subst z1
      exact ent_good (X := X) (res := res) (w := r u0 u1) (z := g (fun c z => req c z) (fun x => some (res x)) u0 u1) hE0 (Dof_sound _) Try.func31 ok tabOK_nil (run u0 u1) (rel u0 u1) hr
    · cases h
  · cases h
noncomputable def ent : Ent Try.prog := ⟨31, F, good⟩
end Nat_Bit

/-! sacristy/sacristylaw01.NatBack -/
namespace Sacristylaw01_NatBack
abbrev X : Type := Bool
def res (x : X) : Res := ([.val ⟨.bool, x⟩], [])
def g {Z : Type} (rq : Bool → Z → Z) (rt : X → Z) (a : (List Int)) (b : (List Int)) (c : (List Int)) : Z :=
  lt (Nat_Add.r a b) fun w820 =>
  rq w820.1 <|
  lt (Nat_Add.r b a) fun w821 =>
  rq w821.1 <|
  lt (Nat_Add.r w820.2.1 c) fun w822 =>
  rq w822.1 <|
  lt (Nat_Add.r b c) fun w823 =>
  rq w823.1 <|
  lt (Nat_Add.r a w823.2.1) fun w824 =>
  rq w824.1 <|
  lt (Nat_Sub.r w820.2.1 b) fun w825 =>
  rq w825.1 <|
  lt (Nat_Add.r a a) fun w826 =>
  rq w826.1 <|
  lt ((decide ((w820.2.1.getD 0 0) = (w821.2.1.getD 0 0)) && (decide ((w820.2.1.getD 1 0) = (w821.2.1.getD 1 0)) && (decide ((w820.2.1.getD 2 0) = (w821.2.1.getD 2 0)) && (decide ((w820.2.1.getD 3 0) = (w821.2.1.getD 3 0)) && true))))) fun (v827 : Bool) =>
  bif v827 then
    lt ((w820.2.2 == w821.2.2)) fun (v828 : Bool) =>
    bif v828 then
      lt ((decide ((w822.2.1.getD 0 0) = (w824.2.1.getD 0 0)) && (decide ((w822.2.1.getD 1 0) = (w824.2.1.getD 1 0)) && (decide ((w822.2.1.getD 2 0) = (w824.2.1.getD 2 0)) && (decide ((w822.2.1.getD 3 0) = (w824.2.1.getD 3 0)) && true))))) fun (v829 : Bool) =>
      bif v829 then
        lt ((decide ((w825.2.1.getD 0 0) = (a.getD 0 0)) && (decide ((w825.2.1.getD 1 0) = (a.getD 1 0)) && (decide ((w825.2.1.getD 2 0) = (a.getD 2 0)) && (decide ((w825.2.1.getD 3 0) = (a.getD 3 0)) && true))))) fun (v830 : Bool) =>
        bif v830 then
          lt ((w825.2.2 == w820.2.2)) fun (v831 : Bool) =>
          bif v831 then
            lt (Nat_Up.r a 1) fun w832 =>
            rq w832.1 <|
            lt ((decide ((w826.2.1.getD 0 0) = (w832.2.getD 0 0)) && (decide ((w826.2.1.getD 1 0) = (w832.2.getD 1 0)) && (decide ((w826.2.1.getD 2 0) = (w832.2.getD 2 0)) && (decide ((w826.2.1.getD 3 0) = (w832.2.getD 3 0)) && true))))) fun (v833 : Bool) =>
            bif v833 then
              lt (Nat_Bit.r a 255) fun w842 =>
              rq w842.1 <|
              lt ((w826.2.2 == w842.2)) fun (v843 : Bool) =>
              bif v843 then
                lt (Nat_Cmp.r a b) fun w844 =>
                rq w844.1 <|
                lt (Nat_Cmp.r b a) fun w845 =>
                rq w845.1 <|
                lt (IntKind.i64.wrap (0 - w845.2)) fun (v846 : Int) =>
                lt ((w844.2 == v846)) fun (v847 : Bool) =>
                bif v847 then
                  lt (Nat_Cmp.r a b) fun w848 =>
                  rq w848.1 <|
                  lt ((w848.2 == 0)) fun (v849 : Bool) =>
                  lt ((decide ((a.getD 0 0) = (b.getD 0 0)) && (decide ((a.getD 1 0) = (b.getD 1 0)) && (decide ((a.getD 2 0) = (b.getD 2 0)) && (decide ((a.getD 3 0) = (b.getD 3 0)) && true))))) fun (v850 : Bool) =>
                  lt ((v849 == v850)) fun (v851 : Bool) =>
                  bif v851 then
                    lt (Sacristylaw01_awake.r ) fun w852 =>
                    rq w852.1 <|
                    rt w852.2
                  else
                    rt false
                else
                  rt false
              else
                rt false
            else
              rt false
          else
            rt false
        else
          rt false
      else
        rt false
    else
      rt false
  else
    rt false

def r (a : (List Int)) (b : (List Int)) (c : (List Int)) : Bool × X := g chk (fun x => (true, x)) a b c
noncomputable def D : CallD := Dof (P := Try.prog) [Nat_Add.ent, Nat_Sub.ent, Nat_Up.ent, Nat_Bit.ent, Nat_Cmp.ent, Sacristylaw01_awake.ent]
noncomputable def tab : List (Nat × LE Res) := []
set_option maxRecDepth 100000 in
theorem run (a : (List Int)) (b : (List Int)) (c : (List Int)) : enterK E0 D (loopX E0 D tab 9) Try.f6 (codeOf Try.f6) [.val ⟨.arr 4 (.int .u64), a⟩, .val ⟨.arr 4 (.int .u64), b⟩, .val ⟨.arr 4 (.int .u64), c⟩] [] = g (fun c z => req c z) (fun x => some (res x)) a b c := by kernel_rfl
theorem rel (a : (List Int)) (b : (List Int)) (c : (List Int)) : J (fun w z => z = some (res w)) (r a b c) (g (fun c z => req c z) (fun x => some (res x)) a b c) := by
  unfold r g
  with_reducible repeat (first | (apply J.lt; intro _) | apply J.rq | apply J.bif | exact J.rt rfl)
def F (ar : List AV) (br : List DV) : Option (Bool × Res) := match ar, br with
  | [a0, a1, a2], [] => (match a0.get (.arr 4 (.int .u64)), a1.get (.arr 4 (.int .u64)), a2.get (.arr 4 (.int .u64)) with | some a, some b, some c => some ((r a b c).1, res (r a b c).2) | _, _, _ => none)
  | _, _ => none
theorem ok : fnOK Try.f6 = true := by kernel_rfl
set_option linter.unusedSimpArgs false in
theorem good (ar : List AV) (br : List DV) (q : Res) (h : F ar br = some (true, q)) : Good Try.prog 6 ar br q := by
  unfold F at h
  split at h
  · skip
    split at h
    · rename_i u0 u1 u2 e0 e1 e2
      simp only [Option.some.injEq, Prod.mk.injEq] at h
      obtain ⟨hr, rfl⟩ := h
      have z0 := AV.get_eq e0
      have z1 := AV.get_eq e1
      have z2 := AV.get_eq e2
      subst z0
      subst z1
      subst z2
      exact ent_good (X := X) (res := res) (w := r u0 u1 u2) (z := g (fun c z => req c z) (fun x => some (res x)) u0 u1 u2) hE0 (Dof_sound _) Try.func6 ok tabOK_nil (run u0 u1 u2) (rel u0 u1 u2) hr
    · cases h
  · cases h
noncomputable def ent : Ent Try.prog := ⟨6, F, good⟩
end Sacristylaw01_NatBack

/-! sacristy/nat.Down -/
namespace Nat_Down
abbrev X : Type := (List Int)
def res (x : X) : Res := ([.val ⟨.arr 4 (.int .u64), x⟩], [])
abbrev sh0 : List (Nat × Sh) := [(2, .pb 2 (.arr 4 (.int .u64)) []), (4, .pb 4 (.arr 4 (.int .u64)) []), (5, .pb 5 (.arr 4 (.int .u64)) []), (6, .p (.int .i64)), (7, .p (.int .i64)), (20, .p (.int .i64)), (21, .p (.int .i64))]
abbrev bx0 : List (Nat × Ty) := [(2, .arr 4 (.int .u64)), (4, .arr 4 (.int .u64)), (5, .arr 4 (.int .u64))]
abbrev X0 : Type := Unit × Unit × Unit × Int × Int × Int × Int × Unit
abbrev Y0 : Type := (List Int) × (List Int) × (List Int) × Unit
def g0 {Z : Type} (rq : Bool → Z → Z) (kn : X0 → Y0 → Z) (ke : Nat → X0 → Y0 → Z) (x : X0) (y : Y0) : Z :=
  lt ((decide (x.2.2.2.2.2.2.1 < x.2.2.2.2.2.1))) fun (v868 : Bool) =>
  bif v868 then
    lt (IntKind.i64.wrap (x.2.2.2.2.2.2.1 + x.2.2.2.1)) fun (v869 : Int) =>
    rq (decide ((0 : Int) ≤ v869) && decide (v869 < 4)) <|
    lt ((y.1.getD v869.toNat 0)) fun (v870 : Int) =>
    lt (v870.fdiv (2 ^ (min x.2.2.2.2.1.toNat 64))) fun (v871 : Int) =>
    rq (!decide (x.2.2.2.2.1 < 0)) <|
    rq (decide ((0 : Int) ≤ x.2.2.2.2.2.2.1) && decide (x.2.2.2.2.2.2.1 < 4)) <|
    lt ((y.2.2.1.set x.2.2.2.2.2.2.1.toNat v871)) fun (v872 : (List Int)) =>
    lt (IntKind.i64.wrap (x.2.2.2.2.2.2.1 + x.2.2.2.1)) fun (v873 : Int) =>
    lt (IntKind.i64.wrap (v873 + 1)) fun (v874 : Int) =>
    lt ((decide (v874 < 4))) fun (v875 : Bool) =>
    bif v875 then
      rq (decide ((0 : Int) ≤ x.2.2.2.2.2.2.1) && decide (x.2.2.2.2.2.2.1 < 4)) <|
      lt ((v872.getD x.2.2.2.2.2.2.1.toNat 0)) fun (v876 : Int) =>
      lt (IntKind.i64.wrap (x.2.2.2.2.2.2.1 + x.2.2.2.1)) fun (v877 : Int) =>
      lt (IntKind.i64.wrap (v877 + 1)) fun (v878 : Int) =>
      rq (decide ((0 : Int) ≤ v878) && decide (v878 < 4)) <|
      lt ((y.1.getD v878.toNat 0)) fun (v879 : Int) =>
      lt (IntKind.i64.wrap ((64 : Int) - x.2.2.2.2.1)) fun (v880 : Int) =>
      lt (IntKind.u64.wrap (v879 * 2 ^ (min v880.toNat 64))) fun (v881 : Int) =>
      rq (!decide (v880 < 0)) <|
      lt (ibits .u64 (· ||| ·) v876 v881) fun (v882 : Int) =>
      rq (decide ((0 : Int) ≤ x.2.2.2.2.2.2.1) && decide (x.2.2.2.2.2.2.1 < 4)) <|
      lt ((v872.set x.2.2.2.2.2.2.1.toNat v882)) fun (v883 : (List Int)) =>
      lt (IntKind.i64.wrap (x.2.2.2.2.2.2.1 + 1)) fun (v884 : Int) =>
      kn ((), (), (), x.2.2.2.1, x.2.2.2.2.1, x.2.2.2.2.2.1, v884, ()) (y.1, y.2.1, v883, ())
    else
      lt (IntKind.i64.wrap (x.2.2.2.2.2.2.1 + 1)) fun (v885 : Int) =>
      kn ((), (), (), x.2.2.2.1, x.2.2.2.2.1, x.2.2.2.2.2.1, v885, ()) (y.1, y.2.1, v872, ())
  else
    ke 1 ((), (), (), x.2.2.2.1, x.2.2.2.2.1, x.2.2.2.2.2.1, x.2.2.2.2.2.2.1, ()) (y.1, y.2.1, y.2.2.1, ())

def fu0 (x : X0) (y : Y0) : Nat := (x.2.2.2.2.2.1 - x.2.2.2.2.2.2.1).toNat + 1
def l0 (x : X0) (y : Y0) : Bool × Nat × X0 × Y0 := rounds (fun rq kn ke x y => g0 rq kn ke x y) (fu0 x y) x y
def g {Z : Type} (rq : Bool → Z → Z) (rt : X → Z) (a : (List Int)) (kx : Int) : Z :=
  lt ((decide (kx < 1))) fun (v862 : Bool) =>
  bif v862 then
    rt a
  else
    lt ((decide (kx ≥ 256))) fun (v863 : Bool) =>
    bif v863 then
      rt [0, 0, 0, 0]
    else
      lt (IntKind.i64.wrap (kx.tdiv 64)) fun (v864 : Int) =>
      lt (kx.tmod 64) fun (v865 : Int) =>
      lt (IntKind.i64.wrap ((4 : Int) - v864)) fun (v866 : Int) =>
      lt (Nat_Down.l0 ((), (), (), v864, v865, v866, 0, ()) (a, [0, 0, 0, 0], [0, 0, 0, 0], ())) fun w886 =>
      rq w886.1 <|
      rt w886.2.2.2.2.2.1

def r (a : (List Int)) (kx : Int) : Bool × X := g chk (fun x => (true, x)) a kx
noncomputable def D : CallD := Dof (P := Try.prog) []
noncomputable def tab : List (Nat × LE Res) := [(9, .typed (loopT 54 sh0 bx0 (loopF' [1] (rounds fun rq kn ke x y => g0 rq kn ke x y) fu0)))]
set_option maxRecDepth 100000 in
theorem run (a : (List Int)) (kx : Int) : enterK E0 D (loopX E0 D tab 9) Try.f36 (codeOf Try.f36) [.val ⟨.arr 4 (.int .u64), a⟩, .val ⟨.int .i64, kx⟩] [] = g (fun c z => req c z) (fun x => some (res x)) a kx := by kernel_rfl
theorem rel (a : (List Int)) (kx : Int) : J (fun w z => z = some (res w)) (r a kx) (g (fun c z => req c z) (fun x => some (res x)) a kx) := by
  unfold r g
  with_reducible repeat (first | (apply J.lt; intro _) | apply J.rq | apply J.bif | exact J.rt rfl)
set_option maxRecDepth 100000 in
theorem round0 (x : ShX sh0) (y : BxX bx0) (k : Ex → St → Option Res) : codeK E0 D (loopX E0 D tab 8) (nthLoop (codeOf Try.f36) 0) (inj 54 sh0 bx0 x y) (fun ex st => k ex (st.forget (keysS sh0) (keysB bx0))) = g0 (fun c z => req c z) (fun x y => k .normal (inj 54 sh0 bx0 x y)) (fun e x y => k (exOf e) (inj 54 sh0 bx0 x y)) x y := by kernel_rfl
theorem told0 : Nonempty (Told Try.prog E0 D tab Try.f36.ntmps (nthLoop (codeOf Try.f36) 0) 54 sh0 bx0 (loopF' [1] (rounds fun rq kn ke x y => g0 rq kn ke x y) fu0)) :=
  told_of (sh := sh0) (bx := bx0) 8 (by kernel_rfl) (by kernel_rfl) [1] fu0 (fun rq kn ke x y => g0 rq kn ke x y) (fun rq kn ke x y => g0 rq kn ke x y) round0 (by
    intro φ kn1 kn2 ke1 ke2 h1 h2 x y
    simp only [g0]
    with_reducible repeat (first | (apply J.lt; intro _) | apply J.rq | apply J.bif | exact h1 _ _ | exact h2 _ (by decide) _ _))
theorem tabOK : TabOK Try.prog E0 D tab Try.f36.ntmps (codeOf Try.f36) := tabOK_of (bs := [nthLoop (codeOf Try.f36) 0]) (by kernel_rfl) (allTold_cons (typedAt (by kernel_rfl) told0) allTold_nil)
def F (ar : List AV) (br : List DV) : Option (Bool × Res) := match ar, br with
  | [a0, a1], [] => (match a0.get (.arr 4 (.int .u64)), a1.get (.int .i64) with | some a, some kx => some ((r a kx).1, res (r a kx).2) | _, _ => none)
  | _, _ => none
theorem ok : fnOK Try.f36 = true := by kernel_rfl
set_option linter.unusedSimpArgs false in
theorem good (ar : List AV) (br : List DV) (q : Res) (h : F ar br = some (true, q)) : Good Try.prog 36 ar br q := by
  unfold F at h
  split at h
  · skip
    split at h
    · rename_i u0 u1 e0 e1
      simp only [Option.some.injEq, Prod.mk.injEq] at h
      obtain ⟨hr, rfl⟩ := h
      have z0 := AV.get_eq e0
      have z1 := AV.get_eq e1
      subst z0
      subst z1
      exact ent_good (X := X) (res := res) (w := r u0 u1) (z := g (fun c z => req c z) (fun x => some (res x)) u0 u1) hE0 (Dof_sound _) Try.func36 ok tabOK (run u0 u1) (rel u0 u1) hr
    · cases h
  · cases h
noncomputable def ent : Ent Try.prog := ⟨36, F, good⟩
end Nat_Down

/-! sacristy/sacristyref01.Down -/
namespace Sacristyref01_Down
abbrev X : Type := (List Int)
def res (x : X) : Res := ([.val ⟨.arr 4 (.int .u64), x⟩], [])
abbrev sh0 : List (Nat × Sh) := [(1, .p (.int .i64)), (4, .pb 4 (.arr 4 (.int .u64)) []), (5, .pb 5 (.arr 256 .bool) []), (6, .pb 6 (.arr 256 .bool) []), (7, .p (.int .i64))]
abbrev bx0 : List (Nat × Ty) := [(4, .arr 4 (.int .u64)), (5, .arr 256 .bool), (6, .arr 256 .bool)]
abbrev X0 : Type := Int × Unit × Unit × Unit × Int × Unit
abbrev Y0 : Type := (List Int) × (List Bool) × (List Bool) × Unit
def g0 {Z : Type} (rq : Bool → Z → Z) (kn : X0 → Y0 → Z) (ke : Nat → X0 → Y0 → Z) (x : X0) (y : Y0) : Z :=
  lt ((decide (x.2.2.2.2.1 < 256))) fun (v944 : Bool) =>
  bif v944 then
    lt ((decide (x.1 > 0))) fun (v945 : Bool) =>
    bif v945 then
      lt ((bif decide ((256 : Int) < x.1) then (256 : Int) else x.1)) fun (v946 : Int) =>
      lt (IntKind.i64.wrap (x.2.2.2.2.1 + v946)) fun (v947 : Int) =>
      lt ((decide (v947 < 256))) fun (v948 : Bool) =>
      bif v948 then
        rq (decide ((0 : Int) ≤ v947) && decide (v947 < 256)) <|
        lt ((y.2.1.getD v947.toNat false)) fun (v949 : Bool) =>
        rq (decide ((0 : Int) ≤ x.2.2.2.2.1) && decide (x.2.2.2.2.1 < 256)) <|
        lt ((y.2.2.1.set x.2.2.2.2.1.toNat v949)) fun (v950 : (List Bool)) =>
        lt (IntKind.i64.wrap (x.2.2.2.2.1 + 1)) fun (v951 : Int) =>
        kn (x.1, (), (), (), v951, ()) (y.1, y.2.1, v950, ())
      else
        rq (decide ((0 : Int) ≤ x.2.2.2.2.1) && decide (x.2.2.2.2.1 < 256)) <|
        lt ((y.2.2.1.set x.2.2.2.2.1.toNat false)) fun (v952 : (List Bool)) =>
        lt (IntKind.i64.wrap (x.2.2.2.2.1 + 1)) fun (v953 : Int) =>
        kn (x.1, (), (), (), v953, ()) (y.1, y.2.1, v952, ())
    else
      lt ((decide (x.2.2.2.2.1 < 256))) fun (v954 : Bool) =>
      bif v954 then
        rq (decide ((0 : Int) ≤ x.2.2.2.2.1) && decide (x.2.2.2.2.1 < 256)) <|
        lt ((y.2.1.getD x.2.2.2.2.1.toNat false)) fun (v955 : Bool) =>
        rq (decide ((0 : Int) ≤ x.2.2.2.2.1) && decide (x.2.2.2.2.1 < 256)) <|
        lt ((y.2.2.1.set x.2.2.2.2.1.toNat v955)) fun (v956 : (List Bool)) =>
        lt (IntKind.i64.wrap (x.2.2.2.2.1 + 1)) fun (v957 : Int) =>
        kn (x.1, (), (), (), v957, ()) (y.1, y.2.1, v956, ())
      else
        rq (decide ((0 : Int) ≤ x.2.2.2.2.1) && decide (x.2.2.2.2.1 < 256)) <|
        lt ((y.2.2.1.set x.2.2.2.2.1.toNat false)) fun (v958 : (List Bool)) =>
        lt (IntKind.i64.wrap (x.2.2.2.2.1 + 1)) fun (v959 : Int) =>
        kn (x.1, (), (), (), v959, ()) (y.1, y.2.1, v958, ())
  else
    ke 1 (x.1, (), (), (), x.2.2.2.2.1, ()) (y.1, y.2.1, y.2.2.1, ())

def fu0 (x : X0) (y : Y0) : Nat := ((256 : Int) - x.2.2.2.2.1).toNat + 1
def l0 (x : X0) (y : Y0) : Bool × Nat × X0 × Y0 := rounds (fun rq kn ke x y => g0 rq kn ke x y) (fu0 x y) x y
def g {Z : Type} (rq : Bool → Z → Z) (rt : X → Z) (a : (List Int)) (n : Int) : Z :=
  lt (Sacristyref01_Of.r a) fun w888 =>
  rq w888.1 <|
  lt ((List.replicate 256 false)) fun (v889 : (List Bool)) =>
  lt (Sacristyref01_Down.l0 (n, (), (), (), 0, ()) ([0, 0, 0, 0], w888.2, v889, ())) fun w960 =>
  rq w960.1 <|
  lt (Sacristyref01_Nat.r w960.2.2.2.2.2.1) fun w961 =>
  rq w961.1 <|
  rt w961.2

def r (a : (List Int)) (n : Int) : Bool × X := g chk (fun x => (true, x)) a n
noncomputable def D : CallD := Dof (P := Try.prog) [Sacristyref01_Of.ent, Sacristyref01_Nat.ent]
noncomputable def tab : List (Nat × LE Res) := [(5, .typed (loopT 34 sh0 bx0 (loopF' [1] (rounds fun rq kn ke x y => g0 rq kn ke x y) fu0)))]
set_option maxRecDepth 100000 in
theorem run (a : (List Int)) (n : Int) : enterK E0 D (loopX E0 D tab 9) Try.f37 (codeOf Try.f37) [.val ⟨.arr 4 (.int .u64), a⟩, .val ⟨.int .i64, n⟩] [] = g (fun c z => req c z) (fun x => some (res x)) a n := by kernel_rfl
theorem rel (a : (List Int)) (n : Int) : J (fun w z => z = some (res w)) (r a n) (g (fun c z => req c z) (fun x => some (res x)) a n) := by
  unfold r g
  with_reducible repeat (first | (apply J.lt; intro _) | apply J.rq | apply J.bif | exact J.rt rfl)
set_option maxRecDepth 100000 in
theorem round0 (x : ShX sh0) (y : BxX bx0) (k : Ex → St → Option Res) : codeK E0 D (loopX E0 D tab 8) (nthLoop (codeOf Try.f37) 0) (inj 34 sh0 bx0 x y) (fun ex st => k ex (st.forget (keysS sh0) (keysB bx0))) = g0 (fun c z => req c z) (fun x y => k .normal (inj 34 sh0 bx0 x y)) (fun e x y => k (exOf e) (inj 34 sh0 bx0 x y)) x y := by kernel_rfl
theorem told0 : Nonempty (Told Try.prog E0 D tab Try.f37.ntmps (nthLoop (codeOf Try.f37) 0) 34 sh0 bx0 (loopF' [1] (rounds fun rq kn ke x y => g0 rq kn ke x y) fu0)) :=
  told_of (sh := sh0) (bx := bx0) 8 (by kernel_rfl) (by kernel_rfl) [1] fu0 (fun rq kn ke x y => g0 rq kn ke x y) (fun rq kn ke x y => g0 rq kn ke x y) round0 (by
    intro φ kn1 kn2 ke1 ke2 h1 h2 x y
    simp only [g0]
    with_reducible repeat (first | (apply J.lt; intro _) | apply J.rq | apply J.bif | exact h1 _ _ | exact h2 _ (by decide) _ _))
theorem tabOK : TabOK Try.prog E0 D tab Try.f37.ntmps (codeOf Try.f37) := tabOK_of (bs := [nthLoop (codeOf Try.f37) 0]) (by kernel_rfl) (allTold_cons (typedAt (by kernel_rfl) told0) allTold_nil)
def F (ar : List AV) (br : List DV) : Option (Bool × Res) := match ar, br with
  | [a0, a1], [] => (match a0.get (.arr 4 (.int .u64)), a1.get (.int .i64) with | some a, some n => some ((r a n).1, res (r a n).2) | _, _ => none)
  | _, _ => none
theorem ok : fnOK Try.f37 = true := by kernel_rfl
set_option linter.unusedSimpArgs false in
theorem good (ar : List AV) (br : List DV) (q : Res) (h : F ar br = some (true, q)) : Good Try.prog 37 ar br q := by
  unfold F at h
  split at h
  · skip
    split at h
    · rename_i u0 u1 e0 e1
      simp only [Option.some.injEq, Prod.mk.injEq] at h
      obtain ⟨hr, rfl⟩ := h
      have z0 := AV.get_eq e0
      have z1 := AV.get_eq e1
      subst z0
      subst z1
      exact ent_good (X := X) (res := res) (w := r u0 u1) (z := g (fun c z => req c z) (fun x => some (res x)) u0 u1) hE0 (Dof_sound _) Try.func37 ok tabOK (run u0 u1) (rel u0 u1) hr
    · cases h
  · cases h
noncomputable def ent : Ent Try.prog := ⟨37, F, good⟩
end Sacristyref01_Down

/-! sacristy/sacristylaw01.NatShifts -/
namespace Sacristylaw01_NatShifts
abbrev X : Type := Bool
def res (x : X) : Res := ([.val ⟨.bool, x⟩], [])
def g {Z : Type} (rq : Bool → Z → Z) (rt : X → Z) (a : (List Int)) (kx : Int) : Z :=
  lt (Nat_Len.r a) fun w853 =>
  rq w853.1 <|
  lt (Sacristyref01_Len.r a) fun w854 =>
  rq w854.1 <|
  lt ((w853.2 == w854.2)) fun (v855 : Bool) =>
  bif v855 then
    lt (Nat_Bit.r a kx) fun w856 =>
    rq w856.1 <|
    lt (Sacristyref01_Bit.r a kx) fun w857 =>
    rq w857.1 <|
    lt ((w856.2 == w857.2)) fun (v858 : Bool) =>
    bif v858 then
      lt (Nat_Up.r a kx) fun w859 =>
      rq w859.1 <|
      lt (Sacristyref01_Up.r a kx) fun w860 =>
      rq w860.1 <|
      lt ((decide ((w859.2.getD 0 0) = (w860.2.getD 0 0)) && (decide ((w859.2.getD 1 0) = (w860.2.getD 1 0)) && (decide ((w859.2.getD 2 0) = (w860.2.getD 2 0)) && (decide ((w859.2.getD 3 0) = (w860.2.getD 3 0)) && true))))) fun (v861 : Bool) =>
      bif v861 then
        lt (Nat_Down.r a kx) fun w887 =>
        rq w887.1 <|
        lt (Sacristyref01_Down.r a kx) fun w962 =>
        rq w962.1 <|
        lt ((decide ((w887.2.getD 0 0) = (w962.2.getD 0 0)) && (decide ((w887.2.getD 1 0) = (w962.2.getD 1 0)) && (decide ((w887.2.getD 2 0) = (w962.2.getD 2 0)) && (decide ((w887.2.getD 3 0) = (w962.2.getD 3 0)) && true))))) fun (v963 : Bool) =>
        bif v963 then
          lt (Sacristylaw01_awake.r ) fun w964 =>
          rq w964.1 <|
          rt w964.2
        else
          rt false
      else
        rt false
    else
      rt false
  else
    rt false

def r (a : (List Int)) (kx : Int) : Bool × X := g chk (fun x => (true, x)) a kx
noncomputable def D : CallD := Dof (P := Try.prog) [Nat_Len.ent, Sacristyref01_Len.ent, Nat_Bit.ent, Sacristyref01_Bit.ent, Nat_Up.ent, Sacristyref01_Up.ent, Nat_Down.ent, Sacristyref01_Down.ent, Sacristylaw01_awake.ent]
noncomputable def tab : List (Nat × LE Res) := []
set_option maxRecDepth 100000 in
theorem run (a : (List Int)) (kx : Int) : enterK E0 D (loopX E0 D tab 9) Try.f7 (codeOf Try.f7) [.val ⟨.arr 4 (.int .u64), a⟩, .val ⟨.int .i64, kx⟩] [] = g (fun c z => req c z) (fun x => some (res x)) a kx := by kernel_rfl
theorem rel (a : (List Int)) (kx : Int) : J (fun w z => z = some (res w)) (r a kx) (g (fun c z => req c z) (fun x => some (res x)) a kx) := by
  unfold r g
  with_reducible repeat (first | (apply J.lt; intro _) | apply J.rq | apply J.bif | exact J.rt rfl)
def F (ar : List AV) (br : List DV) : Option (Bool × Res) := match ar, br with
  | [a0, a1], [] => (match a0.get (.arr 4 (.int .u64)), a1.get (.int .i64) with | some a, some kx => some ((r a kx).1, res (r a kx).2) | _, _ => none)
  | _, _ => none
theorem ok : fnOK Try.f7 = true := by kernel_rfl
set_option linter.unusedSimpArgs false in
theorem good (ar : List AV) (br : List DV) (q : Res) (h : F ar br = some (true, q)) : Good Try.prog 7 ar br q := by
  unfold F at h
  split at h
  · skip
    split at h
    · rename_i u0 u1 e0 e1
      simp only [Option.some.injEq, Prod.mk.injEq] at h
      obtain ⟨hr, rfl⟩ := h
      have z0 := AV.get_eq e0
      have z1 := AV.get_eq e1
      subst z0
      subst z1
      exact ent_good (X := X) (res := res) (w := r u0 u1) (z := g (fun c z => req c z) (fun x => some (res x)) u0 u1) hE0 (Dof_sound _) Try.func7 ok tabOK_nil (run u0 u1) (rel u0 u1) hr
    · cases h
  · cases h
noncomputable def ent : Ent Try.prog := ⟨7, F, good⟩
end Sacristylaw01_NatShifts
end Go.Own
