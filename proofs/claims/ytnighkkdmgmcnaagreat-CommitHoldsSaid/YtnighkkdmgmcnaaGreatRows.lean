/-
  No cell of these rows narrows 'for every input' (looked for: loops, veiled, ifaces, maps, wideKeys, modest, calm, conditions, laid).
  DERIVED. THE GIVEN ROWS OF THIS SEAT. 6 by the template 'for every input the law returns true; each argument reads behind the call as it read before'; 0 by the template 'total and deterministic' (their statements: YtnighkkdmgmcnaaGreatTotals.lean).
  GIVEN WITH THE SEED: the statements are not yours to turn. If you find one false, say at which input.
  Laid BY PROGRAM, IN A SANDBOX (cutbox-rows.mjs): the forced cells as the released guide's own fill.sh prints them over the translation 41f39d3f7be248f0… (all of the seat's roots in one cut). By AI agents, Wed Nov 11 2026. No macro, syntax, notation, axiom, sorry.
-/
import Derived.Test.YtnighkkdmgmcnaaGreatChecked
import GoSem.Claim
import GoSem.ClaimJoined
import GoSem.ClaimMapViews
import Derived.JoinedTies
import Derived.KernelRfl
namespace Go.Proofs.YtnighkkdmgmcnaaGreat
/- THE CELL 'sum', in the pinned program and in every row, IS THE sha256 OF THE DUMP (.gsa) THAT YtnighkkdmgmcnaaGreatProg.lean LOADS. Nothing in Lean hashes anything: it is a label: what it is worth is what the hold of that sum in a sandbox is worth. -/
noncomputable def Tryz.pinned : Pinned := { name := "ytnighkkdmgmcnaagreat", sum := "41f39d3f7be248f00337a8da994ed6484a8fbf2773ca022d49f03d87ce42cec6", checked := Tryz.checked }
namespace Rows
def none {H : Type} : Left H := { results := [], args := [] }

/-- 'sacristylaw14.CommitTells': WHATEVER THE INPUT: true; the input reads as it did. -/
def commitTellsSpec : ChangeSpec := { name := "commitTells", fn := fun _ => fun
  | [d1, d2, d3] => { results := [.lit (.bool true)], args := [d1, d2, d3] }
  | _ => none }
def commitTellsRow : OpenClaim := { program := "ytnighkkdmgmcnaagreat", sum := "41f39d3f7be248f00337a8da994ed6484a8fbf2773ca022d49f03d87ce42cec6", func := "sacristy/sacristylaw14.CommitTells", spec := "commitTells", inPlace := ["math/bits.Sub64", "math/bits.Add64"], unfollowed := true, recurses := true, named := ["math/bits.divideError", "math/bits.overflowError"], apart := false }
def CommitTellsSaid : Prop := commitTellsRow.holds Tryz.pinned (OpenSpec.ofChange commitTellsSpec)

/-- ITS FALSE NEIGHBOUR: 'it returns false'. Refute it at one input. -/
def commitTellsWrong : ChangeSpec := { name := "commitTells", fn := fun _ => fun
  | [d1, d2, d3] => { results := [.lit (.bool false)], args := [d1, d2, d3] }
  | _ => none }
def CommitTellsWrongFalsely : Prop := commitTellsRow.holds Tryz.pinned (OpenSpec.ofChange commitTellsWrong)

/-- 'sacristylaw14.CommitHolds': WHATEVER THE INPUT: true; the input reads as it did. -/
def commitHoldsSpec : ChangeSpec := { name := "commitHolds", fn := fun _ => fun
  | [d1, d2, d3] => { results := [.lit (.bool true)], args := [d1, d2, d3] }
  | _ => none }
def commitHoldsRow : OpenClaim := { program := "ytnighkkdmgmcnaagreat", sum := "41f39d3f7be248f00337a8da994ed6484a8fbf2773ca022d49f03d87ce42cec6", func := "sacristy/sacristylaw14.CommitHolds", spec := "commitHolds", inPlace := ["math/bits.Sub64", "math/bits.Add64"], unfollowed := true, recurses := true, named := ["math/bits.divideError", "math/bits.overflowError"], apart := false }
def CommitHoldsSaid : Prop := commitHoldsRow.holds Tryz.pinned (OpenSpec.ofChange commitHoldsSpec)

/-- ITS FALSE NEIGHBOUR: 'it returns false'. Refute it at one input. -/
def commitHoldsWrong : ChangeSpec := { name := "commitHolds", fn := fun _ => fun
  | [d1, d2, d3] => { results := [.lit (.bool false)], args := [d1, d2, d3] }
  | _ => none }
def CommitHoldsWrongFalsely : Prop := commitHoldsRow.holds Tryz.pinned (OpenSpec.ofChange commitHoldsWrong)

/-- 'sacristylaw14.CommitFrom': WHATEVER THE INPUT: true; the input reads as it did. -/
def commitFromSpec : ChangeSpec := { name := "commitFrom", fn := fun _ => fun
  | [d1, d2, d3] => { results := [.lit (.bool true)], args := [d1, d2, d3] }
  | _ => none }
def commitFromRow : OpenClaim := { program := "ytnighkkdmgmcnaagreat", sum := "41f39d3f7be248f00337a8da994ed6484a8fbf2773ca022d49f03d87ce42cec6", func := "sacristy/sacristylaw14.CommitFrom", spec := "commitFrom", inPlace := ["math/bits.Sub64", "math/bits.Add64"], unfollowed := true, recurses := true, named := ["math/bits.divideError", "math/bits.overflowError"], apart := false }
def CommitFromSaid : Prop := commitFromRow.holds Tryz.pinned (OpenSpec.ofChange commitFromSpec)

/-- ITS FALSE NEIGHBOUR: 'it returns false'. Refute it at one input. -/
def commitFromWrong : ChangeSpec := { name := "commitFrom", fn := fun _ => fun
  | [d1, d2, d3] => { results := [.lit (.bool false)], args := [d1, d2, d3] }
  | _ => none }
def CommitFromWrongFalsely : Prop := commitFromRow.holds Tryz.pinned (OpenSpec.ofChange commitFromWrong)

/-- 'sacristylaw14.CommitNobody': WHATEVER THE INPUT: true; the input reads as it did. -/
def commitNobodySpec : ChangeSpec := { name := "commitNobody", fn := fun _ => fun
  | [d] => { results := [.lit (.bool true)], args := [d] }
  | _ => none }
def commitNobodyRow : OpenClaim := { program := "ytnighkkdmgmcnaagreat", sum := "41f39d3f7be248f00337a8da994ed6484a8fbf2773ca022d49f03d87ce42cec6", func := "sacristy/sacristylaw14.CommitNobody", spec := "commitNobody", inPlace := ["math/bits.Sub64", "math/bits.Add64"], unfollowed := true, recurses := true, named := ["math/bits.divideError", "math/bits.overflowError"], apart := false }
def CommitNobodySaid : Prop := commitNobodyRow.holds Tryz.pinned (OpenSpec.ofChange commitNobodySpec)

/-- ITS FALSE NEIGHBOUR: 'it returns false'. Refute it at one input. -/
def commitNobodyWrong : ChangeSpec := { name := "commitNobody", fn := fun _ => fun
  | [d] => { results := [.lit (.bool false)], args := [d] }
  | _ => none }
def CommitNobodyWrongFalsely : Prop := commitNobodyRow.holds Tryz.pinned (OpenSpec.ofChange commitNobodyWrong)

/-- 'sacristylaw14.CommitSound': WHATEVER THE INPUT: true; the input reads as it did. -/
def commitSoundSpec : ChangeSpec := { name := "commitSound", fn := fun _ => fun
  | [d1, d2, d3] => { results := [.lit (.bool true)], args := [d1, d2, d3] }
  | _ => none }
def commitSoundRow : OpenClaim := { program := "ytnighkkdmgmcnaagreat", sum := "41f39d3f7be248f00337a8da994ed6484a8fbf2773ca022d49f03d87ce42cec6", func := "sacristy/sacristylaw14.CommitSound", spec := "commitSound", inPlace := ["math/bits.Sub64", "math/bits.Add64"], unfollowed := true, recurses := true, named := ["math/bits.divideError", "math/bits.overflowError"], apart := false }
def CommitSoundSaid : Prop := commitSoundRow.holds Tryz.pinned (OpenSpec.ofChange commitSoundSpec)

/-- ITS FALSE NEIGHBOUR: 'it returns false'. Refute it at one input. -/
def commitSoundWrong : ChangeSpec := { name := "commitSound", fn := fun _ => fun
  | [d1, d2, d3] => { results := [.lit (.bool false)], args := [d1, d2, d3] }
  | _ => none }
def CommitSoundWrongFalsely : Prop := commitSoundRow.holds Tryz.pinned (OpenSpec.ofChange commitSoundWrong)

/-- 'sacristylaw14.CommitHides': WHATEVER THE INPUT: true; the input reads as it did. -/
def commitHidesSpec : ChangeSpec := { name := "commitHides", fn := fun _ => fun
  | [d1, d2, d3] => { results := [.lit (.bool true)], args := [d1, d2, d3] }
  | _ => none }
def commitHidesRow : OpenClaim := { program := "ytnighkkdmgmcnaagreat", sum := "41f39d3f7be248f00337a8da994ed6484a8fbf2773ca022d49f03d87ce42cec6", func := "sacristy/sacristylaw14.CommitHides", spec := "commitHides", inPlace := ["math/bits.Sub64", "math/bits.Add64"], unfollowed := true, recurses := true, named := ["math/bits.divideError", "math/bits.overflowError"], apart := false }
def CommitHidesSaid : Prop := commitHidesRow.holds Tryz.pinned (OpenSpec.ofChange commitHidesSpec)

/-- ITS FALSE NEIGHBOUR: 'it returns false'. Refute it at one input. -/
def commitHidesWrong : ChangeSpec := { name := "commitHides", fn := fun _ => fun
  | [d1, d2, d3] => { results := [.lit (.bool false)], args := [d1, d2, d3] }
  | _ => none }
def CommitHidesWrongFalsely : Prop := commitHidesRow.holds Tryz.pinned (OpenSpec.ofChange commitHidesWrong)

/- THE SECOND FORM. 'bulk': how many values and letters a reading holds, each counted each time it is reached (what is shared counts as often as it is met; a slice's spare places count too). A statement '..UptoSaid' is the law's where the arguments, and the package variables that the reading takes, are together of bulk at most 1048576: NARROWER than '..Said'. Prove '..Said' where nothing that the law and all that it calls make is longer than what came in: it says more and counts as full. Else prove '..UptoSaid'. A law counts once. -/
mutual
def uptoBulk {H : Type} : DataW H → Nat
  | .lit (.string bytes) => bytes.length + 1
  | .lit _ => 1
  | .nil => 1
  | .ptr d => uptoBulk d + 1
  | .slice elems spare => uptoBulkAll elems + uptoBulkAll spare + 1
  | .agg parts => uptoBulkAll parts + 1
  | .iface _ d => uptoBulk d + 1
  | .map entries => uptoBulkEntries entries + 1
  | .held _ => 1
def uptoBulkAll {H : Type} : List (DataW H) → Nat
  | [] => 0
  | d :: r => uptoBulk d + uptoBulkAll r
def uptoBulkEntries {H : Type} : List (Lit × DataW H) → Nat
  | [] => 0
  | x :: r => uptoBulkEntry x + uptoBulkEntries r
def uptoBulkEntry {H : Type} : Lit × DataW H → Nat
  | (.string bytes, d) => bytes.length + uptoBulk d + 1
  | (_, d) => uptoBulk d + 1
 end
def uptoSmall : (H : Type) → List (DataW H) → Bool := fun _ ds => decide (uptoBulkAll ds ≤ 1048576)
def OpenSpec.upto (s : _root_.Go.ChangeSpec) : _root_.Go.OpenSpec := { _root_.Go.OpenSpec.ofChange s with cond := some uptoSmall }

/-- 'sacristylaw14.CommitTells', WHERE WHAT IT READS IS OF BULK AT MOST 1048576: true; the input reads as it did. -/
def commitTellsUptoRow : OpenClaim := { program := "ytnighkkdmgmcnaagreat", sum := "41f39d3f7be248f00337a8da994ed6484a8fbf2773ca022d49f03d87ce42cec6", func := "sacristy/sacristylaw14.CommitTells", spec := "commitTells", inPlace := ["math/bits.Sub64", "math/bits.Add64"], unfollowed := true, recurses := true, named := ["math/bits.divideError", "math/bits.overflowError"], apart := false, narrowed := true }
def CommitTellsUptoSaid : Prop := commitTellsUptoRow.holds Tryz.pinned (OpenSpec.upto commitTellsSpec)

/-- 'sacristylaw14.CommitHolds', WHERE WHAT IT READS IS OF BULK AT MOST 1048576: true; the input reads as it did. -/
def commitHoldsUptoRow : OpenClaim := { program := "ytnighkkdmgmcnaagreat", sum := "41f39d3f7be248f00337a8da994ed6484a8fbf2773ca022d49f03d87ce42cec6", func := "sacristy/sacristylaw14.CommitHolds", spec := "commitHolds", inPlace := ["math/bits.Sub64", "math/bits.Add64"], unfollowed := true, recurses := true, named := ["math/bits.divideError", "math/bits.overflowError"], apart := false, narrowed := true }
def CommitHoldsUptoSaid : Prop := commitHoldsUptoRow.holds Tryz.pinned (OpenSpec.upto commitHoldsSpec)

/-- 'sacristylaw14.CommitFrom', WHERE WHAT IT READS IS OF BULK AT MOST 1048576: true; the input reads as it did. -/
def commitFromUptoRow : OpenClaim := { program := "ytnighkkdmgmcnaagreat", sum := "41f39d3f7be248f00337a8da994ed6484a8fbf2773ca022d49f03d87ce42cec6", func := "sacristy/sacristylaw14.CommitFrom", spec := "commitFrom", inPlace := ["math/bits.Sub64", "math/bits.Add64"], unfollowed := true, recurses := true, named := ["math/bits.divideError", "math/bits.overflowError"], apart := false, narrowed := true }
def CommitFromUptoSaid : Prop := commitFromUptoRow.holds Tryz.pinned (OpenSpec.upto commitFromSpec)

/-- 'sacristylaw14.CommitNobody', WHERE WHAT IT READS IS OF BULK AT MOST 1048576: true; the input reads as it did. -/
def commitNobodyUptoRow : OpenClaim := { program := "ytnighkkdmgmcnaagreat", sum := "41f39d3f7be248f00337a8da994ed6484a8fbf2773ca022d49f03d87ce42cec6", func := "sacristy/sacristylaw14.CommitNobody", spec := "commitNobody", inPlace := ["math/bits.Sub64", "math/bits.Add64"], unfollowed := true, recurses := true, named := ["math/bits.divideError", "math/bits.overflowError"], apart := false, narrowed := true }
def CommitNobodyUptoSaid : Prop := commitNobodyUptoRow.holds Tryz.pinned (OpenSpec.upto commitNobodySpec)

/-- 'sacristylaw14.CommitSound', WHERE WHAT IT READS IS OF BULK AT MOST 1048576: true; the input reads as it did. -/
def commitSoundUptoRow : OpenClaim := { program := "ytnighkkdmgmcnaagreat", sum := "41f39d3f7be248f00337a8da994ed6484a8fbf2773ca022d49f03d87ce42cec6", func := "sacristy/sacristylaw14.CommitSound", spec := "commitSound", inPlace := ["math/bits.Sub64", "math/bits.Add64"], unfollowed := true, recurses := true, named := ["math/bits.divideError", "math/bits.overflowError"], apart := false, narrowed := true }
def CommitSoundUptoSaid : Prop := commitSoundUptoRow.holds Tryz.pinned (OpenSpec.upto commitSoundSpec)

/-- 'sacristylaw14.CommitHides', WHERE WHAT IT READS IS OF BULK AT MOST 1048576: true; the input reads as it did. -/
def commitHidesUptoRow : OpenClaim := { program := "ytnighkkdmgmcnaagreat", sum := "41f39d3f7be248f00337a8da994ed6484a8fbf2773ca022d49f03d87ce42cec6", func := "sacristy/sacristylaw14.CommitHides", spec := "commitHides", inPlace := ["math/bits.Sub64", "math/bits.Add64"], unfollowed := true, recurses := true, named := ["math/bits.divideError", "math/bits.overflowError"], apart := false, narrowed := true }
def CommitHidesUptoSaid : Prop := commitHidesUptoRow.holds Tryz.pinned (OpenSpec.upto commitHidesSpec)

end Rows
end Go.Proofs.YtnighkkdmgmcnaaGreat
