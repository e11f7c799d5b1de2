/- The given statement of HistoryOrders: what is proved: for every input the call answers true, and each argument reads as it did. Conditions: none. -/
import Derived.Test.YtipheoipbjakfaaPure
set_option linter.unusedVariables false
namespace Go.Own
open Go.Proofs Go.Proofs.Ytipheoipbjakfaa
namespace LawHistoryOrders
abbrev ts : List Ty := [tApi_Event, tApi_Event]
theorem good_all (xs : List DV) (h1 : xs.map (·.1) = ts) (h2 : ∀ x ∈ xs, Ty.ok x.1 x.2) : Good Try.prog 12 (xs.map .val) [] ⟨[.val ⟨.bool, true⟩], [], []⟩ := by
  match xs, h1 with
  | [⟨t0, v0⟩, ⟨t1, v1⟩], h1 =>
    simp only [ts, List.map_cons, List.map_nil, List.cons.injEq, and_true] at h1
    obtain ⟨rfl, rfl⟩ := h1
    have hp := Sacristylaw28_HistoryOrders.pure v0 v1 (h2 ⟨_, v0⟩ (by simp)) (h2 ⟨_, v1⟩ (by simp))
    have hF : (Sacristylaw28_HistoryOrders.F (v0, v1, ()) ()).res = (true, ⟨[.val ⟨.bool, true⟩], [], []⟩) := by
      show (Sacristylaw28_HistoryOrders.brn (Sacristylaw28_HistoryOrders.r v0 v1)).res = _
      rw [hp]; rfl
    have := Sacristylaw28_HistoryOrders.good (v0, v1, ()) () (by rw [hF])
    rw [hF] at this
    exact this
theorem own : ownKnob Try.prog.godebug = none := by kernel_rfl
set_option maxRecDepth 100000 in
theorem lift (os : Os) (started : os.Started) (H : Type) (enc : TypeId × Value → H) :
    ReturnsInHanded {} Try.checked os 12 .any (Rows.historyOrdersSpec.pre6 enc Try.prog Try.f12 Rows.historyOrdersRow.domain false) (Rows.historyOrdersSpec.post enc Try.prog Try.f12 false true false false) :=
  lifted (C := Try.checked) (ts := ts) (TB := 4) (E := E0) (c := codeOf Try.f12) rfl own started (by kernel_rfl) Try.func12 (by decide +kernel) (by kernel_rfl)
    (ChangeSpec.witness6 (enc := enc) (C := Try.checked) false ⟨#[], #[.agg #[.int .i64 0, .int .i64 0, .string ByteArray.empty, .string ByteArray.empty, .int .i64 0, .int .i64 0, .int .i64 0, .int .i64 0, .string ByteArray.empty, .bool false, .int .i64 0, .int .i64 0], .agg #[.int .i64 0, .int .i64 0, .string ByteArray.empty, .string ByteArray.empty, .int .i64 0, .int .i64 0, .int .i64 0, .int .i64 0, .string ByteArray.empty, .bool false, .int .i64 0, .int .i64 0]], []⟩ 12 (by kernel_rfl) (by kernel_rfl) (by kernel_rfl) (by kernel_rfl))
    rfl hE0 (by kernel_rfl) (by kernel_rfl) (by decide +kernel) (by kernel_rfl) (by kernel_rfl)
    (fun ds hds => by match ds, hds with | [_, _], _ => rfl)
    good_all (by decide)
theorem over : Rows.historyOrdersRow.holds Try.pinned (OpenSpec.ofChange Rows.historyOrdersSpec) :=
  OpenClaim.holds_of_wide 12 Try.f12 rfl rfl rfl rfl rfl rfl rfl ⟨rfl, rfl, rfl, rfl, rfl⟩ rfl rfl rfl rfl rfl (by kernel_rfl) Try.func12 (by kernel_rfl)
    (of_decide_eq_true (by kernel_rfl)) (by unfold Func.isWrapper; first | (rw [if_pos (by decide +kernel)]; kernel_rfl) | (rw [if_neg (by decide +kernel)]; exact ⟨rfl, rfl⟩))
    (fun os started H enc _ => lift os started H enc)
end LawHistoryOrders
end Go.Own
namespace Go.Proofs.Ytipheoipbjakfaa
theorem historyOrders_holds : Rows.HistoryOrdersSaid := Go.Own.LawHistoryOrders.over
#print axioms historyOrders_holds
end Go.Proofs.Ytipheoipbjakfaa
