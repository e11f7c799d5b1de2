/- The program as data: its types; functions without a text. -/
import Derived.Test.YtipheoipbjakfaaW12
import Derived.Test.YtipheoipbjakfaaRows
import Derived.ProofKit
import Derived.Test.YtipheoipbjakfaaShelf
set_option linter.unusedVariables false
namespace Go.Own
open Go.Proofs Go.Proofs.Ytipheoipbjakfaa
abbrev tSacristyref18_reader : Ty := .pair .str (.pair (.int .i64) (.pair .bool .unit))
abbrev Sacristyref18_reader : Type := (ByteArray × (Int × (Bool × Unit)))
def zSacristyref18_reader : Sacristyref18_reader := ((⟨#[]⟩ : ByteArray), (0, (false, ())))
abbrev tApi_Done : Ty := .pair (.int .i64) (.pair (.int .i64) (.pair .str (.pair .bool (.pair (.pair (.int .i64) (.pair (.int .i64) .unit)) .unit))))
abbrev Api_Done : Type := (Int × (Int × (ByteArray × (Bool × ((Int × (Int × Unit)) × Unit)))))
def zApi_Done : Api_Done := (0, (0, ((⟨#[]⟩ : ByteArray), (false, ((0, (0, ())), ())))))
abbrev tApi_Event : Ty := .pair (.int .i64) (.pair (.int .i64) (.pair .str (.pair .str (.pair (.int .i64) (.pair (.int .i64) (.pair tApi_Done .unit))))))
abbrev Api_Event : Type := (Int × (Int × (ByteArray × (ByteArray × (Int × (Int × (Api_Done × Unit)))))))
def zApi_Event : Api_Event := (0, (0, ((⟨#[]⟩ : ByteArray), ((⟨#[]⟩ : ByteArray), (0, (0, (zApi_Done, ())))))))
abbrev tLinear_search : Ty := .pair (.sl tApi_Event) (.pair (.int .i64) (.pair (.mp 0 (.pair (.int .i64) (.pair (.pair .str (.pair .bool .unit)) .unit)) .bool) .unit))
abbrev Linear_search : Type := ((List Api_Event) × (Int × (Unit × Unit)))
def zLinear_search : Linear_search := ([], (0, ((), ())))
abbrev tRuntime_TypeAssertionError : Ty := .pair .slf (.pair .slf (.pair .slf (.pair .str (.eos 178))))
abbrev Runtime_TypeAssertionError : Type := (Unit × (Unit × (Unit × (ByteArray × Unit))))
def zRuntime_TypeAssertionError : Runtime_TypeAssertionError := ((), ((), ((), ((⟨#[]⟩ : ByteArray), ()))))
def tysT : List (Nat × Ty) := [(3, .int .i64), (4, .bool), (9, .str), (26, .int .i64), (61, .sl tApi_Event), (66, .sl .str), (72, tApi_Done), (74, tApi_Event), (77, .sl (.int .i64)), (120, .mp 0 (.int .i64) tApi_Event), (126, .ref tLinear_search), (127, .mp 0 (.pair (.int .i64) (.pair (.pair .str (.pair .bool .unit)) .unit)) .bool), (129, tLinear_search), (132, .pair .str (.pair .bool .unit)), (134, .pair (.int .i64) (.pair (.pair .str (.pair .bool .unit)) .unit))]
def tysB : List (Nat × Nat) := [(61, 120), (66, 16), (77, 8)]
def ownB : List (Nat × Nat) := [(65, 2), (94, 1), (95, 1), (96, 1), (98, 2), (99, 2), (100, 1), (114, 1), (116, 2), (117, 1), (132, 2)]
def E0 : Env := envTab tysT tysB ownB [] []
set_option maxRecDepth 100000 in
theorem hE0 : EnvOK Try.prog E0 := envTab_ok (n := 16) (by decide) (by kernel_rfl) (by kernel_rfl) (by kernel_rfl) (by kernel_rfl) (by kernel_rfl)
noncomputable def ent_Slices_Sort_string_string : Ent Try.prog := orEnt ⟨94, shF (sortAs .str) (sortBs .str) sortSF, shF_good (sortS_good Try.func94 (by kernel_rfl) (by kernel_rfl) (Any.slices_Sort_string Try.lays190) (Any.slices_Sort_string_none Try.lays190))⟩ ⟨94, shF [.one .nil] [] sortNilF, shF_good (fun _ _ _ => sortNil_good Try.func94 (by kernel_rfl) (by kernel_rfl) (Any.slices_Sort_string_none Try.lays190))⟩ rfl
end Go.Own
