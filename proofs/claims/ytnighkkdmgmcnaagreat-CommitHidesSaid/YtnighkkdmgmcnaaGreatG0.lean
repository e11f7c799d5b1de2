/- The program as data: its types; functions without a text. -/
import Derived.Test.YtnighkkdmgmcnaaGreatW14
import Derived.Test.YtnighkkdmgmcnaaGreatRows
import Derived.ProofKit
import Derived.Test.YtnighkkdmgmcnaaGreatShelf
set_option linter.unusedVariables false
set_option maxRecDepth 100000
noncomputable section
namespace Go.Own
open Go.Proofs Go.Proofs.YtnighkkdmgmcnaaGreat
abbrev dP:Ty:= .pair (.arr 4 (.int .u64)) (.pair (.int .u64) (.pair (.arr 4 (.int .u64)) (.pair (.arr 4 (.int .u64)) .unit)))
abbrev aJ:Type:=((List Int)×(Int×((List Int)×((List Int)×Unit))))
def dG:aJ:=([0,0,0,0],(0,([0,0,0,0],([0,0,0,0],()))))
abbrev iG:Ty:= .pair (.int .i64) (.pair (.int .i64) (.pair (.int .i64) .unit))
abbrev dh:Type:=(Int×(Int×(Int×Unit)))
abbrev vN:Ty:= .pair (.ref dP) (.pair (.ref dP) .unit)
abbrev Gz:Type:=((Option aJ)×((Option aJ)×Unit))
abbrev aj:Ty:= .pair vN (.pair (.arr 4 (.int .u64)) .unit)
abbrev af:Type:=(Gz×((List Int)×Unit))
abbrev jw:Ty:= .pair (.arr 4 (.int .u64)) (.pair (.int .i64) .unit)
abbrev gI:Type:=((List Int)×(Int×Unit))
abbrev jC:Ty:= .pair (.sl jw) (.pair (.arr 4 (.int .u64)) .unit)
abbrev iA:Type:=((List gI)×((List Int)×Unit))
abbrev fM:Ty:= .pair (.int .i64) (.pair (.arr 4 (.int .u64)) .unit)
abbrev dU:Type:=(Int×((List Int)×Unit))
def SK:List (Nat×Ty):= [(3,.int .i64),(4,.bool),(5,.int .u8),(9,.str),(22,.sl (.arr 4 (.int .u64))),(25,.ref aj),(27,iG),(30,.sl (.int .i64)),(33,.int .i64),(38,.int .u64),(40,.arr 4 (.int .u64)),(48,fM),(52,.sl fM),(58,.ref dP),(60,vN),(62,aj),(67,.sl jw),(69,jC),(71,.sl jC),(91,.sl (.sl (.arr 4 (.int .u64)))),(103,jw),(114,.arr 256 .bool),(125,dP),(138,.sl (.arr 16 (.arr 4 (.int .u64)))),(139,.arr 16 (.arr 4 (.int .u64))),(156,.int .u64),(162,.arr 6 (.int .u64)),(164,.sl (.int .u64)),(174,.arr 8 (.int .u64))]
def SL:List (Nat×Nat):= [(22,32),(30,8),(52,40),(67,40),(71,56),(91,24),(138,512),(164,8)]
def ownB:List (Nat×Nat):= [(40,2),(108,2),(110,1),(111,1),(138,14),(140,30),(142,14),(145,62)]
def E0:Env:=DN SK SL ownB [] []
theorem hE0:dO Tryz.prog E0:=K6 (n:=16) (by decide) (by kernel_rfl) (by kernel_rfl) (by kernel_rfl) (by kernel_rfl) (by kernel_rfl)
def zh:ByteArray:=⟨#[0,1,2,2,3,3,3,3,4,4,4,4,4,4,4,4,5,5,5,5,5,5,5,5,5,5,5,5,5,5,5,5,6,6,6,6,6,6,6,6,6,6,6,6,6,6,6,6,6,6,6,6,6,6,6,6,6,6,6,6,6,6,6,6,7,7,7,7,7,7,7,7,7,7,7,7,7,7,7,7,7,7,7,7,7,7,7,7,7,7,7,7,7,7,7,7,7,7,7,7,7,7,7,7,7,7,7,7,7,7,7,7,7,7,7,7,7,7,7,7,7,7,7,7,7,7,7,7,8,8,8,8,8,8,8,8,8,8,8,8,8,8,8,8,8,8,8,8,8,8,8,8,8,8,8,8,8,8,8,8,8,8,8,8,8,8,8,8,8,8,8,8,8,8,8,8,8,8,8,8,8,8,8,8,8,8,8,8,8,8,8,8,8,8,8,8,8,8,8,8,8,8,8,8,8,8,8,8,8,8,8,8,8,8,8,8,8,8,8,8,8,8,8,8,8,8,8,8,8,8,8,8,8,8,8,8,8,8,8,8,8,8,8,8,8,8,8,8,8,8,8,8,8,8,8,8]⟩
def Ap:Ent Tryz.prog:=⟨144,GQ,fun a b q h hc=>GN (fn:=Tryz.f144) Tryz.func144 (by kernel_rfl) (by kernel_rfl) (by kernel_rfl) (by kernel_rfl) a b q h hc⟩
def pQ:Ent Tryz.prog:=⟨146,I7,fun a b q h hc=>I6 (fn:=Tryz.f146) Tryz.func146 (by kernel_rfl) (by kernel_rfl) (by kernel_rfl) (by kernel_rfl) a b q h hc⟩
def rA:Ent Tryz.prog:=MG (MG ⟨110,shF (GZ (.int .i64)) (GY (.int .i64)) GX,bC (GV Tryz.func110 (by kernel_rfl) (by kernel_rfl) (Any.slices_Sort_int Tryz.yM) (Any.slices_Sort_int_none Tryz.yM))⟩ ⟨110,shF [.one .nil] [] LK,bC (fun _ _ _=>CY Tryz.func110 (by kernel_rfl) (by kernel_rfl) (Any.slices_Sort_int_none Tryz.yM))⟩ rfl) ⟨110,shF [.one (.val (.sl (.int .i64)))] [] (u6 (t:=(.int .i64))),bC (Bd (zk Tryz.func110 (by kernel_rfl) (by kernel_rfl) (Any.slices_Sort_int_none Tryz.yM)))⟩ rfl
end Go.Own
