/- The given statement of HistoryStrict: what is proved: for every input the call answers true, and each argument reads as it did. Conditions: none. -/
import Derived.Test.YtipheoipbjakfaaPure
set_option linter.unusedVariables false
namespace Go.Own
open Go.Proofs Go.Proofs.Ytipheoipbjakfaa
namespace LawHistoryStrict
abbrev ts : List Ty := [.sl tApi_Event]
theorem good_all (xs : List DV) (h1 : xs.map (·.1) = ts) (h2 : ∀ x ∈ xs, Ty.ok x.1 x.2) : Good Try.prog 13 (xs.map .val) [] ⟨[.val ⟨.bool, true⟩], [], []⟩ := by
  match xs, h1 with
  | [⟨t0, v0⟩], h1 =>
    simp only [ts, List.map_cons, List.map_nil, List.cons.injEq, and_true] at h1
    obtain rfl := h1
    have hp := Sacristylaw28_HistoryStrict.pure v0 (h2 ⟨_, v0⟩ (by simp))
    have hF : (Sacristylaw28_HistoryStrict.F (v0, ()) ()).res = (true, ⟨[.val ⟨.bool, true⟩], [], []⟩) := by
      show (Sacristylaw28_HistoryStrict.brn (Sacristylaw28_HistoryStrict.r v0)).res = _
      rw [hp]; rfl
    have := Sacristylaw28_HistoryStrict.good (v0, ()) () (by rw [hF])
    rw [hF] at this
    exact this
theorem own : ownKnob Try.prog.godebug = none := by kernel_rfl
set_option maxRecDepth 100000 in
theorem lift (os : Os) (started : os.Started) (H : Type) (enc : TypeId × Value → H) :
    ReturnsInHanded {} Try.checked os 13 .any (Rows.historyStrictSpec.pre6 enc Try.prog Try.f13 Rows.historyStrictRow.domain false) (Rows.historyStrictSpec.post enc Try.prog Try.f13 false true false false) :=
  lifted (C := Try.checked) (ts := ts) (TB := 4) (E := E0) (c := codeOf Try.f13) rfl own started (by kernel_rfl) Try.func13 (by decide +kernel) (by kernel_rfl)
    (ChangeSpec.witness6 (enc := enc) (C := Try.checked) false ⟨#[], #[.slice none 0 0], []⟩ 12 (by kernel_rfl) (by kernel_rfl) (by kernel_rfl) (by kernel_rfl))
    rfl hE0 (by kernel_rfl) (by kernel_rfl) (by decide +kernel) (by kernel_rfl) (by kernel_rfl)
    (fun ds hds => by match ds, hds with | [_], _ => rfl)
    good_all (by decide)
theorem over : Rows.historyStrictRow.holds Try.pinned (OpenSpec.ofChange Rows.historyStrictSpec) :=
  OpenClaim.holds_of_wide 13 Try.f13 rfl rfl rfl rfl rfl rfl rfl ⟨rfl, rfl, rfl, rfl, rfl⟩ rfl rfl rfl rfl rfl (by kernel_rfl) Try.func13 (by kernel_rfl)
    (of_decide_eq_true (by kernel_rfl)) (by unfold Func.isWrapper; first | (rw [if_pos (by decide +kernel)]; kernel_rfl) | (rw [if_neg (by decide +kernel)]; exact ⟨rfl, rfl⟩))
    (fun os started H enc _ => lift os started H enc)
end LawHistoryStrict
end Go.Own
namespace Go.Proofs.Ytipheoipbjakfaa
theorem historyStrict_holds : Rows.HistoryStrictSaid := Go.Own.LawHistoryStrict.over
#print axioms historyStrict_holds
end Go.Proofs.Ytipheoipbjakfaa
