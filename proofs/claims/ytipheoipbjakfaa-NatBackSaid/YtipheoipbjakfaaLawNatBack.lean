/- The given statement of NatBack: what is proved: for every input the call answers true, and each argument reads as it did. Conditions: none. -/
import Derived.Test.YtipheoipbjakfaaPure
set_option linter.unusedVariables false
namespace Go.Own
open Go.Proofs Go.Proofs.Ytipheoipbjakfaa
namespace LawNatBack
abbrev ts : List Ty := [.arr 4 (.int .u64), .arr 4 (.int .u64), .arr 4 (.int .u64)]
theorem good_all (xs : List DV) (h1 : xs.map (·.1) = ts) (h2 : ∀ x ∈ xs, Ty.ok x.1 x.2) : Good Try.prog 6 (xs.map .val) [] ([.val ⟨.bool, true⟩], []) := by
  match xs, h1 with
  | [⟨t0, v0⟩, ⟨t1, v1⟩, ⟨t2, v2⟩], h1 =>
    simp only [ts, List.map_cons, List.map_nil, List.cons.injEq, and_true] at h1
    obtain ⟨rfl, rfl, rfl⟩ := h1
    have hp := Sacristylaw01_NatBack.pure v0 v1 v2 (h2 ⟨_, v0⟩ (by simp)) (h2 ⟨_, v1⟩ (by simp)) (h2 ⟨_, v2⟩ (by simp))
    have := Sacristylaw01_NatBack.good [.val ⟨_, v0⟩, .val ⟨_, v1⟩, .val ⟨_, v2⟩] [] (Sacristylaw01_NatBack.res (Sacristylaw01_NatBack.r v0 v1 v2).2) (by
      have hF : Sacristylaw01_NatBack.F [.val ⟨_, v0⟩, .val ⟨_, v1⟩, .val ⟨_, v2⟩] [] = some ((Sacristylaw01_NatBack.r v0 v1 v2).1, Sacristylaw01_NatBack.res (Sacristylaw01_NatBack.r v0 v1 v2).2) := by simp [Sacristylaw01_NatBack.F, AV.get]
      rw [hF, hp])
    rw [hp] at this
    exact this
theorem own : ownKnob Try.prog.godebug = none := by kernel_rfl
set_option maxRecDepth 100000 in
theorem lift (os : Os) (started : os.Started) (H : Type) (enc : TypeId × Value → H) :
    ReturnsInHanded {} Try.checked os 6 .any (Rows.natBackSpec.pre6 enc Try.prog Try.f6 Rows.natBackRow.domain false) (Rows.natBackSpec.post enc Try.prog Try.f6 false true false false) :=
  lifted (C := Try.checked) (ts := ts) (TB := 4) (E := E0) (c := codeOf Try.f6) rfl own started (by kernel_rfl) Try.func6 (by decide +kernel) (by kernel_rfl)
    (ChangeSpec.witness6 (enc := enc) (C := Try.checked) false ⟨#[], #[.agg #[.int .u64 0, .int .u64 0, .int .u64 0, .int .u64 0], .agg #[.int .u64 0, .int .u64 0, .int .u64 0, .int .u64 0], .agg #[.int .u64 0, .int .u64 0, .int .u64 0, .int .u64 0]], []⟩ 12 (by kernel_rfl) (by kernel_rfl) (by kernel_rfl) (by kernel_rfl))
    rfl hE0 (by kernel_rfl) (by kernel_rfl) (by decide +kernel) (by kernel_rfl) (by kernel_rfl)
    (fun ds hds => by match ds, hds with | [_, _, _], _ => rfl)
    good_all
theorem over : Rows.natBackRow.holds Try.pinned (OpenSpec.ofChange Rows.natBackSpec) :=
  OpenClaim.holds_of_wide 6 Try.f6 rfl rfl rfl rfl rfl rfl rfl ⟨rfl, rfl, rfl, rfl, rfl⟩ rfl rfl rfl rfl rfl (by kernel_rfl) Try.func6 (by kernel_rfl)
    (of_decide_eq_true (by kernel_rfl)) (by unfold Func.isWrapper; first | (rw [if_pos (by decide +kernel)]; kernel_rfl) | (rw [if_neg (by decide +kernel)]; exact ⟨rfl, rfl⟩))
    (fun os started H enc _ => lift os started H enc)
end LawNatBack
end Go.Own
namespace Go.Proofs.Ytipheoipbjakfaa
theorem natBack_holds : Rows.NatBackSaid := Go.Own.LawNatBack.over
#print axioms natBack_holds
end Go.Proofs.Ytipheoipbjakfaa
