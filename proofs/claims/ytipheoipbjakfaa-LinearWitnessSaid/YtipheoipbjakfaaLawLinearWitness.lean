/- The given statement of LinearWitness: what is proved: for every input the call answers true, and each argument reads as it did. Conditions: none. -/
import Derived.Test.YtipheoipbjakfaaPure
set_option linter.unusedVariables false
namespace Go.Own
open Go.Proofs Go.Proofs.Ytipheoipbjakfaa
namespace LawLinearWitness
abbrev ts : List Ty := [.sl (.int .i64)]
theorem good_all (xs : List DV) (h1 : xs.map (·.1) = ts) (h2 : ∀ x ∈ xs, Ty.ok x.1 x.2) : Good Try.prog 14 (xs.map .val) [] ⟨[.val ⟨.bool, true⟩], [], []⟩ := by
  match xs, h1 with
  | [⟨t0, v0⟩], h1 =>
    simp only [ts, List.map_cons, List.map_nil, List.cons.injEq, and_true] at h1
    obtain rfl := h1
    have hp := Sacristylaw29_LinearWitness.pure v0 (h2 ⟨_, v0⟩ (by simp))
    have hF : (Sacristylaw29_LinearWitness.F (v0, ()) ()).res = (true, ⟨[.val ⟨.bool, true⟩], [], []⟩) := by
      show (Sacristylaw29_LinearWitness.brn (Sacristylaw29_LinearWitness.r v0)).res = _
      rw [hp]; rfl
    have := Sacristylaw29_LinearWitness.good (v0, ()) () (by rw [hF])
    rw [hF] at this
    exact this
theorem own : ownKnob Try.prog.godebug = none := by kernel_rfl
set_option maxRecDepth 100000 in
theorem lift (os : Os) (started : os.Started) (H : Type) (enc : TypeId × Value → H) :
    ReturnsInHanded {} Try.checked os 14 .any (Rows.linearWitnessSpec.pre6 enc Try.prog Try.f14 Rows.linearWitnessRow.domain false) (Rows.linearWitnessSpec.post enc Try.prog Try.f14 false true false false) :=
  lifted (C := Try.checked) (ts := ts) (TB := 4) (E := E0) (c := codeOf Try.f14) rfl own started (by kernel_rfl) Try.func14 (by decide +kernel) (by kernel_rfl)
    (ChangeSpec.witness6 (enc := enc) (C := Try.checked) false ⟨#[], #[.slice none 0 0], []⟩ 12 (by kernel_rfl) (by kernel_rfl) (by kernel_rfl) (by kernel_rfl))
    rfl hE0 (by kernel_rfl) (by kernel_rfl) (by decide +kernel) (by kernel_rfl) (by kernel_rfl)
    (fun ds hds => by match ds, hds with | [_], _ => rfl)
    good_all (by decide)
theorem over : Rows.linearWitnessRow.holds Try.pinned (OpenSpec.ofChange Rows.linearWitnessSpec) :=
  OpenClaim.holds_of_wide 14 Try.f14 rfl rfl rfl rfl rfl rfl rfl ⟨rfl, rfl, rfl, rfl, rfl⟩ rfl rfl rfl rfl rfl (by kernel_rfl) Try.func14 (by kernel_rfl)
    (of_decide_eq_true (by kernel_rfl)) (by unfold Func.isWrapper; first | (rw [if_pos (by decide +kernel)]; kernel_rfl) | (rw [if_neg (by decide +kernel)]; exact ⟨rfl, rfl⟩))
    (fun os started H enc _ => lift os started H enc)
end LawLinearWitness
end Go.Own
namespace Go.Proofs.Ytipheoipbjakfaa
theorem linearWitness_holds : Rows.LinearWitnessSaid := Go.Own.LawLinearWitness.over
#print axioms linearWitness_holds
end Go.Proofs.Ytipheoipbjakfaa
