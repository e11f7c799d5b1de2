/- The program as data: its types; functions without a text. -/
import Derived.Test.YtapkilfcibkphaaGreatW14
import Derived.Test.YtapkilfcibkphaaGreatRows
import Derived.ProofKit
import Derived.Test.YtapkilfcibkphaaGreatShelf
set_option linter.unusedVariables false
set_option maxRecDepth 100000
noncomputable section
namespace Go.Own
open Go.Proofs Go.Proofs.YtapkilfcibkphaaGreat
abbrev dS:Ty:= .pair (.arr 4 (.int .u64)) (.pair (.int .u64) (.pair (.arr 4 (.int .u64)) (.pair (.arr 4 (.int .u64)) .unit)))
abbrev aG:Type:=((List Int)×(Int×((List Int)×((List Int)×Unit))))
def dB:aG:=([0,0,0,0],(0,([0,0,0,0],([0,0,0,0],()))))
abbrev uI:Ty:= .pair (.ref dS) (.pair (.ref dS) .unit)
abbrev Gh:Type:=((Option aG)×((Option aG)×Unit))
abbrev au:Ty:= .pair uI (.pair (.arr 4 (.int .u64)) .unit)
abbrev ai:Type:=(Gh×((List Int)×Unit))
abbrev jQ:Ty:= .pair (.arr 4 (.int .u64)) (.pair (.int .i64) .unit)
abbrev gV:Type:=((List Int)×(Int×Unit))
abbrev mG:Ty:= .pair (.sl jQ) (.pair (.arr 4 (.int .u64)) .unit)
abbrev jO:Type:=((List gV)×((List Int)×Unit))
abbrev eU:Ty:= .pair (.int .i64) (.pair (.arr 4 (.int .u64)) .unit)
abbrev bJ:Type:=(Int×((List Int)×Unit))
def RY:List (Nat×Ty):= [(3,.int .i64),(4,.bool),(5,.int .u8),(9,.str),(22,.sl (.arr 4 (.int .u64))),(23,.int .u64),(25,.arr 4 (.int .u64)),(27,.ref au),(30,.sl eU),(31,.int .i64),(34,.sl (.int .i64)),(39,eU),(40,.sl (.sl (.arr 4 (.int .u64)))),(49,.ref dS),(51,uI),(53,au),(54,.sl (.ref au)),(61,.sl jQ),(63,mG),(74,.arr 256 .bool),(85,jQ),(113,dS),(125,.int .u64),(137,.sl (.arr 16 (.arr 4 (.int .u64)))),(138,.arr 16 (.arr 4 (.int .u64))),(154,.arr 8 (.int .u64)),(156,.sl (.int .u64)),(158,.arr 6 (.int .u64))]
def RZ:List (Nat×Nat):= [(22,32),(30,40),(34,8),(40,24),(54,8),(61,40),(137,512),(156,8)]
def ownB:List (Nat×Nat):= [(54,2),(56,1),(57,1),(89,14),(91,30),(93,14),(122,62)]
def E0:Env:=Dq RY RZ ownB [] []
theorem hE0:dK Tryz.prog E0:=KF (n:=16) (by decide) (by kernel_rfl) (by kernel_rfl) (by kernel_rfl) (by kernel_rfl) (by kernel_rfl)
def yJ:ByteArray:=⟨#[0,1,2,2,3,3,3,3,4,4,4,4,4,4,4,4,5,5,5,5,5,5,5,5,5,5,5,5,5,5,5,5,6,6,6,6,6,6,6,6,6,6,6,6,6,6,6,6,6,6,6,6,6,6,6,6,6,6,6,6,6,6,6,6,7,7,7,7,7,7,7,7,7,7,7,7,7,7,7,7,7,7,7,7,7,7,7,7,7,7,7,7,7,7,7,7,7,7,7,7,7,7,7,7,7,7,7,7,7,7,7,7,7,7,7,7,7,7,7,7,7,7,7,7,7,7,7,7,8,8,8,8,8,8,8,8,8,8,8,8,8,8,8,8,8,8,8,8,8,8,8,8,8,8,8,8,8,8,8,8,8,8,8,8,8,8,8,8,8,8,8,8,8,8,8,8,8,8,8,8,8,8,8,8,8,8,8,8,8,8,8,8,8,8,8,8,8,8,8,8,8,8,8,8,8,8,8,8,8,8,8,8,8,8,8,8,8,8,8,8,8,8,8,8,8,8,8,8,8,8,8,8,8,8,8,8,8,8,8,8,8,8,8,8,8,8,8,8,8,8,8,8,8,8,8,8]⟩
def zS:Ent Tryz.prog:=⟨121,Gs,fun a b q h hc=>Gr (fn:=Tryz.f121) Tryz.func121 (by kernel_rfl) (by kernel_rfl) (by kernel_rfl) (by kernel_rfl) a b q h hc⟩
def oq:Ent Tryz.prog:=⟨123,Iw,fun a b q h hc=>Iu (fn:=Tryz.f123) Tryz.func123 (by kernel_rfl) (by kernel_rfl) (by kernel_rfl) (by kernel_rfl) a b q h hc⟩
def qh:Ent Tryz.prog:=L6 (L6 ⟨56,shF (Gy (.int .i64)) (Gx (.int .i64)) Gw,bW (Gv Tryz.func56 (by kernel_rfl) (by kernel_rfl) (Any.slices_Sort_int Tryz.xW) (Any.slices_Sort_int_none Tryz.xW))⟩ ⟨56,shF [.one .nil] [] Le,bW (fun _ _ _=>Cr Tryz.func56 (by kernel_rfl) (by kernel_rfl) (Any.slices_Sort_int_none Tryz.xW))⟩ rfl) ⟨56,shF [.one (.val (.sl (.int .i64)))] [] (tV (t:=(.int .i64))),bW (Ar (yL Tryz.func56 (by kernel_rfl) (by kernel_rfl) (Any.slices_Sort_int_none Tryz.xW)))⟩ rfl
end Go.Own
