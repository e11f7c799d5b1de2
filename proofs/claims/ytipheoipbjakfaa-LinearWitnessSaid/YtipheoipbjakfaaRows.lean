/-
  No cell of these rows narrows 'for every input' (looked for: loops, veiled, ifaces, maps, wideKeys, modest, calm, conditions, laid).
  DERIVED. THE GIVEN ROWS OF THIS SEAT. 12 by the template 'for every input the law returns true; each argument reads behind the call as it read before'; 0 by the template 'total and deterministic' (their statements: YtipheoipbjakfaaTotals.lean).
  GIVEN WITH THE SEED: the statements are not yours to turn. If you find one false, say at which input.
  Laid BY PROGRAM, IN A SANDBOX (cutbox-rows.mjs): the forced cells as the released guide's own fill.sh prints them over the translation f2657d99f752ff98… (all of the seat's roots in one cut). By AI agents, Wed Nov 11 2026. No macro, syntax, notation, axiom, sorry.
-/
import Derived.Test.YtipheoipbjakfaaChecked
import GoSem.Claim
import GoSem.ClaimJoined
import GoSem.ClaimMapViews
import Derived.JoinedTies
import Derived.KernelRfl
namespace Go.Proofs.Ytipheoipbjakfaa
/- THE CELL 'sum', in the pinned program and in every row, IS THE sha256 OF THE DUMP (.gsa) THAT YtipheoipbjakfaaProg.lean LOADS. Nothing in Lean hashes anything: it is a label: what it is worth is what the hold of that sum in a sandbox is worth. -/
noncomputable def Try.pinned : Pinned := { name := "ytipheoipbjakfaa", sum := "f2657d99f752ff987261e64052afc37a5d0f1bdb63e5fb2928974d79c869c0b5", checked := Try.checked }
namespace Rows
def none {H : Type} : Left H := { results := [], args := [] }

/-- 'sacristylaw01.NatBytes': WHATEVER THE INPUT: true; the input reads as it did. -/
def natBytesSpec : ChangeSpec := { name := "natBytes", fn := fun _ => fun
  | [d1, d2] => { results := [.lit (.bool true)], args := [d1, d2] }
  | _ => none }
def natBytesRow : OpenClaim := { program := "ytipheoipbjakfaa", sum := "f2657d99f752ff987261e64052afc37a5d0f1bdb63e5fb2928974d79c869c0b5", func := "sacristy/sacristylaw01.NatBytes", spec := "natBytes", inPlace := ["math/bits.Sub64"], plainKeys := false, apart := false }
def NatBytesSaid : Prop := natBytesRow.holds Try.pinned (OpenSpec.ofChange natBytesSpec)

/-- ITS FALSE NEIGHBOUR: 'it returns false'. Refute it at one input. -/
def natBytesWrong : ChangeSpec := { name := "natBytes", fn := fun _ => fun
  | [d1, d2] => { results := [.lit (.bool false)], args := [d1, d2] }
  | _ => none }
def NatBytesWrongFalsely : Prop := natBytesRow.holds Try.pinned (OpenSpec.ofChange natBytesWrong)

/-- 'sacristylaw01.NatInts': WHATEVER THE INPUT: true; the input reads as it did. -/
def natIntsSpec : ChangeSpec := { name := "natInts", fn := fun _ => fun
  | [d1, d2] => { results := [.lit (.bool true)], args := [d1, d2] }
  | _ => none }
def natIntsRow : OpenClaim := { program := "ytipheoipbjakfaa", sum := "f2657d99f752ff987261e64052afc37a5d0f1bdb63e5fb2928974d79c869c0b5", func := "sacristy/sacristylaw01.NatInts", spec := "natInts", inPlace := ["math/bits.Sub64"], plainKeys := false, apart := false }
def NatIntsSaid : Prop := natIntsRow.holds Try.pinned (OpenSpec.ofChange natIntsSpec)

/-- ITS FALSE NEIGHBOUR: 'it returns false'. Refute it at one input. -/
def natIntsWrong : ChangeSpec := { name := "natInts", fn := fun _ => fun
  | [d1, d2] => { results := [.lit (.bool false)], args := [d1, d2] }
  | _ => none }
def NatIntsWrongFalsely : Prop := natIntsRow.holds Try.pinned (OpenSpec.ofChange natIntsWrong)

/-- 'sacristylaw01.NatAdds': WHATEVER THE INPUT: true; the input reads as it did. -/
def natAddsSpec : ChangeSpec := { name := "natAdds", fn := fun _ => fun
  | [d1, d2] => { results := [.lit (.bool true)], args := [d1, d2] }
  | _ => none }
def natAddsRow : OpenClaim := { program := "ytipheoipbjakfaa", sum := "f2657d99f752ff987261e64052afc37a5d0f1bdb63e5fb2928974d79c869c0b5", func := "sacristy/sacristylaw01.NatAdds", spec := "natAdds", inPlace := ["math/bits.Add64", "math/bits.Sub64"], plainKeys := false, apart := false }
def NatAddsSaid : Prop := natAddsRow.holds Try.pinned (OpenSpec.ofChange natAddsSpec)

/-- ITS FALSE NEIGHBOUR: 'it returns false'. Refute it at one input. -/
def natAddsWrong : ChangeSpec := { name := "natAdds", fn := fun _ => fun
  | [d1, d2] => { results := [.lit (.bool false)], args := [d1, d2] }
  | _ => none }
def NatAddsWrongFalsely : Prop := natAddsRow.holds Try.pinned (OpenSpec.ofChange natAddsWrong)

/-- 'sacristylaw01.NatBack': WHATEVER THE INPUT: true; the input reads as it did. -/
def natBackSpec : ChangeSpec := { name := "natBack", fn := fun _ => fun
  | [d1, d2, d3] => { results := [.lit (.bool true)], args := [d1, d2, d3] }
  | _ => none }
def natBackRow : OpenClaim := { program := "ytipheoipbjakfaa", sum := "f2657d99f752ff987261e64052afc37a5d0f1bdb63e5fb2928974d79c869c0b5", func := "sacristy/sacristylaw01.NatBack", spec := "natBack", inPlace := ["math/bits.Add64", "math/bits.Sub64"], plainKeys := false, apart := false }
def NatBackSaid : Prop := natBackRow.holds Try.pinned (OpenSpec.ofChange natBackSpec)

/-- ITS FALSE NEIGHBOUR: 'it returns false'. Refute it at one input. -/
def natBackWrong : ChangeSpec := { name := "natBack", fn := fun _ => fun
  | [d1, d2, d3] => { results := [.lit (.bool false)], args := [d1, d2, d3] }
  | _ => none }
def NatBackWrongFalsely : Prop := natBackRow.holds Try.pinned (OpenSpec.ofChange natBackWrong)

/-- 'sacristylaw01.NatShifts': WHATEVER THE INPUT: true; the input reads as it did. -/
def natShiftsSpec : ChangeSpec := { name := "natShifts", fn := fun _ => fun
  | [d1, d2] => { results := [.lit (.bool true)], args := [d1, d2] }
  | _ => none }
def natShiftsRow : OpenClaim := { program := "ytipheoipbjakfaa", sum := "f2657d99f752ff987261e64052afc37a5d0f1bdb63e5fb2928974d79c869c0b5", func := "sacristy/sacristylaw01.NatShifts", spec := "natShifts", inPlace := ["math/bits.Sub64"], plainKeys := false, apart := false }
def NatShiftsSaid : Prop := natShiftsRow.holds Try.pinned (OpenSpec.ofChange natShiftsSpec)

/-- ITS FALSE NEIGHBOUR: 'it returns false'. Refute it at one input. -/
def natShiftsWrong : ChangeSpec := { name := "natShifts", fn := fun _ => fun
  | [d1, d2] => { results := [.lit (.bool false)], args := [d1, d2] }
  | _ => none }
def NatShiftsWrongFalsely : Prop := natShiftsRow.holds Try.pinned (OpenSpec.ofChange natShiftsWrong)

/-- 'sacristylaw18.WirePuts': WHATEVER THE INPUT: true; the input reads as it did. -/
def wirePutsSpec : ChangeSpec := { name := "wirePuts", fn := fun _ => fun
  | [d1, d2] => { results := [.lit (.bool true)], args := [d1, d2] }
  | _ => none }
def wirePutsRow : OpenClaim := { program := "ytipheoipbjakfaa", sum := "f2657d99f752ff987261e64052afc37a5d0f1bdb63e5fb2928974d79c869c0b5", func := "sacristy/sacristylaw18.WirePuts", spec := "wirePuts", inPlace := ["internal/abi.NoEscape"], unfollowed := true, recurses := true, plainKeys := false, apart := false }
def WirePutsSaid : Prop := wirePutsRow.holds Try.pinned (OpenSpec.ofChange wirePutsSpec)

/-- ITS FALSE NEIGHBOUR: 'it returns false'. Refute it at one input. -/
def wirePutsWrong : ChangeSpec := { name := "wirePuts", fn := fun _ => fun
  | [d1, d2] => { results := [.lit (.bool false)], args := [d1, d2] }
  | _ => none }
def WirePutsWrongFalsely : Prop := wirePutsRow.holds Try.pinned (OpenSpec.ofChange wirePutsWrong)

/-- 'sacristylaw18.WireTakes': WHATEVER THE INPUT: true; the input reads as it did. -/
def wireTakesSpec : ChangeSpec := { name := "wireTakes", fn := fun _ => fun
  | [d] => { results := [.lit (.bool true)], args := [d] }
  | _ => none }
def wireTakesRow : OpenClaim := { program := "ytipheoipbjakfaa", sum := "f2657d99f752ff987261e64052afc37a5d0f1bdb63e5fb2928974d79c869c0b5", func := "sacristy/sacristylaw18.WireTakes", spec := "wireTakes", inPlace := ["internal/abi.NoEscape"], unfollowed := true, recurses := true, plainKeys := false, apart := false }
def WireTakesSaid : Prop := wireTakesRow.holds Try.pinned (OpenSpec.ofChange wireTakesSpec)

/-- ITS FALSE NEIGHBOUR: 'it returns false'. Refute it at one input. -/
def wireTakesWrong : ChangeSpec := { name := "wireTakes", fn := fun _ => fun
  | [d] => { results := [.lit (.bool false)], args := [d] }
  | _ => none }
def WireTakesWrongFalsely : Prop := wireTakesRow.holds Try.pinned (OpenSpec.ofChange wireTakesWrong)

/-- 'sacristylaw18.WireBack': WHATEVER THE INPUT: true; the input reads as it did. -/
def wireBackSpec : ChangeSpec := { name := "wireBack", fn := fun _ => fun
  | [d1, d2, d3] => { results := [.lit (.bool true)], args := [d1, d2, d3] }
  | _ => none }
def wireBackRow : OpenClaim := { program := "ytipheoipbjakfaa", sum := "f2657d99f752ff987261e64052afc37a5d0f1bdb63e5fb2928974d79c869c0b5", func := "sacristy/sacristylaw18.WireBack", spec := "wireBack", inPlace := ["internal/abi.NoEscape"], unfollowed := true, recurses := true, plainKeys := false, apart := false }
def WireBackSaid : Prop := wireBackRow.holds Try.pinned (OpenSpec.ofChange wireBackSpec)

/-- ITS FALSE NEIGHBOUR: 'it returns false'. Refute it at one input. -/
def wireBackWrong : ChangeSpec := { name := "wireBack", fn := fun _ => fun
  | [d1, d2, d3] => { results := [.lit (.bool false)], args := [d1, d2, d3] }
  | _ => none }
def WireBackWrongFalsely : Prop := wireBackRow.holds Try.pinned (OpenSpec.ofChange wireBackWrong)

/-- 'sacristylaw28.HistoryChecks': WHATEVER THE INPUT: true; the input reads as it did. -/
def historyChecksSpec : ChangeSpec := { name := "historyChecks", fn := fun _ => fun
  | [d1, d2] => { results := [.lit (.bool true)], args := [d1, d2] }
  | _ => none }
def historyChecksRow : OpenClaim := { program := "ytipheoipbjakfaa", sum := "f2657d99f752ff987261e64052afc37a5d0f1bdb63e5fb2928974d79c869c0b5", func := "sacristy/sacristylaw28.HistoryChecks", spec := "historyChecks", unfollowed := true, recurses := true, plainKeys := false, apart := false }
def HistoryChecksSaid : Prop := historyChecksRow.holds Try.pinned (OpenSpec.ofChange historyChecksSpec)

/-- ITS FALSE NEIGHBOUR: 'it returns false'. Refute it at one input. -/
def historyChecksWrong : ChangeSpec := { name := "historyChecks", fn := fun _ => fun
  | [d1, d2] => { results := [.lit (.bool false)], args := [d1, d2] }
  | _ => none }
def HistoryChecksWrongFalsely : Prop := historyChecksRow.holds Try.pinned (OpenSpec.ofChange historyChecksWrong)

/-- 'sacristylaw28.HistoryOrders': WHATEVER THE INPUT: true; the input reads as it did. -/
def historyOrdersSpec : ChangeSpec := { name := "historyOrders", fn := fun _ => fun
  | [d1, d2] => { results := [.lit (.bool true)], args := [d1, d2] }
  | _ => none }
def historyOrdersRow : OpenClaim := { program := "ytipheoipbjakfaa", sum := "f2657d99f752ff987261e64052afc37a5d0f1bdb63e5fb2928974d79c869c0b5", func := "sacristy/sacristylaw28.HistoryOrders", spec := "historyOrders", unfollowed := true, recurses := true, plainKeys := false, apart := false }
def HistoryOrdersSaid : Prop := historyOrdersRow.holds Try.pinned (OpenSpec.ofChange historyOrdersSpec)

/-- ITS FALSE NEIGHBOUR: 'it returns false'. Refute it at one input. -/
def historyOrdersWrong : ChangeSpec := { name := "historyOrders", fn := fun _ => fun
  | [d1, d2] => { results := [.lit (.bool false)], args := [d1, d2] }
  | _ => none }
def HistoryOrdersWrongFalsely : Prop := historyOrdersRow.holds Try.pinned (OpenSpec.ofChange historyOrdersWrong)

/-- 'sacristylaw28.HistoryStrict': WHATEVER THE INPUT: true; the input reads as it did. -/
def historyStrictSpec : ChangeSpec := { name := "historyStrict", fn := fun _ => fun
  | [d] => { results := [.lit (.bool true)], args := [d] }
  | _ => none }
def historyStrictRow : OpenClaim := { program := "ytipheoipbjakfaa", sum := "f2657d99f752ff987261e64052afc37a5d0f1bdb63e5fb2928974d79c869c0b5", func := "sacristy/sacristylaw28.HistoryStrict", spec := "historyStrict", unfollowed := true, recurses := true, plainKeys := false, apart := false }
def HistoryStrictSaid : Prop := historyStrictRow.holds Try.pinned (OpenSpec.ofChange historyStrictSpec)

/-- ITS FALSE NEIGHBOUR: 'it returns false'. Refute it at one input. -/
def historyStrictWrong : ChangeSpec := { name := "historyStrict", fn := fun _ => fun
  | [d] => { results := [.lit (.bool false)], args := [d] }
  | _ => none }
def HistoryStrictWrongFalsely : Prop := historyStrictRow.holds Try.pinned (OpenSpec.ofChange historyStrictWrong)

/-- 'sacristylaw29.LinearWitness': WHATEVER THE INPUT: true; the input reads as it did. -/
def linearWitnessSpec : ChangeSpec := { name := "linearWitness", fn := fun _ => fun
  | [d] => { results := [.lit (.bool true)], args := [d] }
  | _ => none }
def linearWitnessRow : OpenClaim := { program := "ytipheoipbjakfaa", sum := "f2657d99f752ff987261e64052afc37a5d0f1bdb63e5fb2928974d79c869c0b5", func := "sacristy/sacristylaw29.LinearWitness", spec := "linearWitness", unfollowed := true, recurses := true, plainKeys := false, apart := false }
def LinearWitnessSaid : Prop := linearWitnessRow.holds Try.pinned (OpenSpec.ofChange linearWitnessSpec)

/-- ITS FALSE NEIGHBOUR: 'it returns false'. Refute it at one input. -/
def linearWitnessWrong : ChangeSpec := { name := "linearWitness", fn := fun _ => fun
  | [d] => { results := [.lit (.bool false)], args := [d] }
  | _ => none }
def LinearWitnessWrongFalsely : Prop := linearWitnessRow.holds Try.pinned (OpenSpec.ofChange linearWitnessWrong)

/- THE SECOND FORM. 'bulk': how many values and letters a reading holds, each counted each time it is reached (what is shared counts as often as it is met; a slice's spare places count too). A statement '..UptoSaid' is the law's where the arguments, and the package variables that the reading takes, are together of bulk at most 1048576: NARROWER than '..Said'. Prove '..Said' where nothing that the law and all that it calls make is longer than what came in: it says more and counts as full. Else prove '..UptoSaid'. A law counts once. -/
mutual
def uptoBulk {H : Type} : DataW H → Nat
  | .lit (.string bytes) => bytes.length + 1
  | .lit _ => 1
  | .nil => 1
  | .ptr d => uptoBulk d + 1
  | .slice elems spare => uptoBulkAll elems + uptoBulkAll spare + 1
  | .agg parts => uptoBulkAll parts + 1
  | .iface _ d => uptoBulk d + 1
  | .map entries => uptoBulkEntries entries + 1
  | .held _ => 1
def uptoBulkAll {H : Type} : List (DataW H) → Nat
  | [] => 0
  | d :: r => uptoBulk d + uptoBulkAll r
def uptoBulkEntries {H : Type} : List (Lit × DataW H) → Nat
  | [] => 0
  | x :: r => uptoBulkEntry x + uptoBulkEntries r
def uptoBulkEntry {H : Type} : Lit × DataW H → Nat
  | (.string bytes, d) => bytes.length + uptoBulk d + 1
  | (_, d) => uptoBulk d + 1
 end
def uptoSmall : (H : Type) → List (DataW H) → Bool := fun _ ds => decide (uptoBulkAll ds ≤ 1048576)
def OpenSpec.upto (s : _root_.Go.ChangeSpec) : _root_.Go.OpenSpec := { _root_.Go.OpenSpec.ofChange s with cond := some uptoSmall }

/-- 'sacristylaw01.NatBytes', WHERE WHAT IT READS IS OF BULK AT MOST 1048576: true; the input reads as it did. -/
def natBytesUptoRow : OpenClaim := { program := "ytipheoipbjakfaa", sum := "f2657d99f752ff987261e64052afc37a5d0f1bdb63e5fb2928974d79c869c0b5", func := "sacristy/sacristylaw01.NatBytes", spec := "natBytes", inPlace := ["math/bits.Sub64"], plainKeys := false, apart := false, narrowed := true }
def NatBytesUptoSaid : Prop := natBytesUptoRow.holds Try.pinned (OpenSpec.upto natBytesSpec)

/-- 'sacristylaw01.NatInts', WHERE WHAT IT READS IS OF BULK AT MOST 1048576: true; the input reads as it did. -/
def natIntsUptoRow : OpenClaim := { program := "ytipheoipbjakfaa", sum := "f2657d99f752ff987261e64052afc37a5d0f1bdb63e5fb2928974d79c869c0b5", func := "sacristy/sacristylaw01.NatInts", spec := "natInts", inPlace := ["math/bits.Sub64"], plainKeys := false, apart := false, narrowed := true }
def NatIntsUptoSaid : Prop := natIntsUptoRow.holds Try.pinned (OpenSpec.upto natIntsSpec)

/-- 'sacristylaw01.NatAdds', WHERE WHAT IT READS IS OF BULK AT MOST 1048576: true; the input reads as it did. -/
def natAddsUptoRow : OpenClaim := { program := "ytipheoipbjakfaa", sum := "f2657d99f752ff987261e64052afc37a5d0f1bdb63e5fb2928974d79c869c0b5", func := "sacristy/sacristylaw01.NatAdds", spec := "natAdds", inPlace := ["math/bits.Add64", "math/bits.Sub64"], plainKeys := false, apart := false, narrowed := true }
def NatAddsUptoSaid : Prop := natAddsUptoRow.holds Try.pinned (OpenSpec.upto natAddsSpec)

/-- 'sacristylaw01.NatBack', WHERE WHAT IT READS IS OF BULK AT MOST 1048576: true; the input reads as it did. -/
def natBackUptoRow : OpenClaim := { program := "ytipheoipbjakfaa", sum := "f2657d99f752ff987261e64052afc37a5d0f1bdb63e5fb2928974d79c869c0b5", func := "sacristy/sacristylaw01.NatBack", spec := "natBack", inPlace := ["math/bits.Add64", "math/bits.Sub64"], plainKeys := false, apart := false, narrowed := true }
def NatBackUptoSaid : Prop := natBackUptoRow.holds Try.pinned (OpenSpec.upto natBackSpec)

/-- 'sacristylaw01.NatShifts', WHERE WHAT IT READS IS OF BULK AT MOST 1048576: true; the input reads as it did. -/
def natShiftsUptoRow : OpenClaim := { program := "ytipheoipbjakfaa", sum := "f2657d99f752ff987261e64052afc37a5d0f1bdb63e5fb2928974d79c869c0b5", func := "sacristy/sacristylaw01.NatShifts", spec := "natShifts", inPlace := ["math/bits.Sub64"], plainKeys := false, apart := false, narrowed := true }
def NatShiftsUptoSaid : Prop := natShiftsUptoRow.holds Try.pinned (OpenSpec.upto natShiftsSpec)

/-- 'sacristylaw18.WirePuts', WHERE WHAT IT READS IS OF BULK AT MOST 1048576: true; the input reads as it did. -/
def wirePutsUptoRow : OpenClaim := { program := "ytipheoipbjakfaa", sum := "f2657d99f752ff987261e64052afc37a5d0f1bdb63e5fb2928974d79c869c0b5", func := "sacristy/sacristylaw18.WirePuts", spec := "wirePuts", inPlace := ["internal/abi.NoEscape"], unfollowed := true, recurses := true, plainKeys := false, apart := false, narrowed := true }
def WirePutsUptoSaid : Prop := wirePutsUptoRow.holds Try.pinned (OpenSpec.upto wirePutsSpec)

/-- 'sacristylaw18.WireTakes', WHERE WHAT IT READS IS OF BULK AT MOST 1048576: true; the input reads as it did. -/
def wireTakesUptoRow : OpenClaim := { program := "ytipheoipbjakfaa", sum := "f2657d99f752ff987261e64052afc37a5d0f1bdb63e5fb2928974d79c869c0b5", func := "sacristy/sacristylaw18.WireTakes", spec := "wireTakes", inPlace := ["internal/abi.NoEscape"], unfollowed := true, recurses := true, plainKeys := false, apart := false, narrowed := true }
def WireTakesUptoSaid : Prop := wireTakesUptoRow.holds Try.pinned (OpenSpec.upto wireTakesSpec)

/-- 'sacristylaw18.WireBack', WHERE WHAT IT READS IS OF BULK AT MOST 1048576: true; the input reads as it did. -/
def wireBackUptoRow : OpenClaim := { program := "ytipheoipbjakfaa", sum := "f2657d99f752ff987261e64052afc37a5d0f1bdb63e5fb2928974d79c869c0b5", func := "sacristy/sacristylaw18.WireBack", spec := "wireBack", inPlace := ["internal/abi.NoEscape"], unfollowed := true, recurses := true, plainKeys := false, apart := false, narrowed := true }
def WireBackUptoSaid : Prop := wireBackUptoRow.holds Try.pinned (OpenSpec.upto wireBackSpec)

/-- 'sacristylaw28.HistoryChecks', WHERE WHAT IT READS IS OF BULK AT MOST 1048576: true; the input reads as it did. -/
def historyChecksUptoRow : OpenClaim := { program := "ytipheoipbjakfaa", sum := "f2657d99f752ff987261e64052afc37a5d0f1bdb63e5fb2928974d79c869c0b5", func := "sacristy/sacristylaw28.HistoryChecks", spec := "historyChecks", unfollowed := true, recurses := true, plainKeys := false, apart := false, narrowed := true }
def HistoryChecksUptoSaid : Prop := historyChecksUptoRow.holds Try.pinned (OpenSpec.upto historyChecksSpec)

/-- 'sacristylaw28.HistoryOrders', WHERE WHAT IT READS IS OF BULK AT MOST 1048576: true; the input reads as it did. -/
def historyOrdersUptoRow : OpenClaim := { program := "ytipheoipbjakfaa", sum := "f2657d99f752ff987261e64052afc37a5d0f1bdb63e5fb2928974d79c869c0b5", func := "sacristy/sacristylaw28.HistoryOrders", spec := "historyOrders", unfollowed := true, recurses := true, plainKeys := false, apart := false, narrowed := true }
def HistoryOrdersUptoSaid : Prop := historyOrdersUptoRow.holds Try.pinned (OpenSpec.upto historyOrdersSpec)

/-- 'sacristylaw28.HistoryStrict', WHERE WHAT IT READS IS OF BULK AT MOST 1048576: true; the input reads as it did. -/
def historyStrictUptoRow : OpenClaim := { program := "ytipheoipbjakfaa", sum := "f2657d99f752ff987261e64052afc37a5d0f1bdb63e5fb2928974d79c869c0b5", func := "sacristy/sacristylaw28.HistoryStrict", spec := "historyStrict", unfollowed := true, recurses := true, plainKeys := false, apart := false, narrowed := true }
def HistoryStrictUptoSaid : Prop := historyStrictUptoRow.holds Try.pinned (OpenSpec.upto historyStrictSpec)

/-- 'sacristylaw29.LinearWitness', WHERE WHAT IT READS IS OF BULK AT MOST 1048576: true; the input reads as it did. -/
def linearWitnessUptoRow : OpenClaim := { program := "ytipheoipbjakfaa", sum := "f2657d99f752ff987261e64052afc37a5d0f1bdb63e5fb2928974d79c869c0b5", func := "sacristy/sacristylaw29.LinearWitness", spec := "linearWitness", unfollowed := true, recurses := true, plainKeys := false, apart := false, narrowed := true }
def LinearWitnessUptoSaid : Prop := linearWitnessUptoRow.holds Try.pinned (OpenSpec.upto linearWitnessSpec)

end Rows
end Go.Proofs.Ytipheoipbjakfaa
