/- The program as data: its types; functions without a text. -/
import Derived.Test.YtnighkkdmgmcnaaGreatW14
import Derived.Test.YtnighkkdmgmcnaaGreatRows
import Derived.ProofKit
import Derived.Test.YtnighkkdmgmcnaaGreatShelf
set_option linter.unusedVariables false
set_option maxRecDepth 100000
noncomputable section
namespace Go.Own
open Go.Proofs Go.Proofs.YtnighkkdmgmcnaaGreat
abbrev eF:Ty:= .pair (.arr 4 (.int .u64)) (.pair (.int .u64) (.pair (.arr 4 (.int .u64)) (.pair (.arr 4 (.int .u64)) .unit)))
abbrev aJ:Type:=((List Int)×(Int×((List Int)×((List Int)×Unit))))
def dV:aJ:=([0,0,0,0],(0,([0,0,0,0],([0,0,0,0],()))))
abbrev bB:Ty:= .pair (.int .i64) (.pair (.int .i64) (.pair (.int .i64) .unit))
abbrev aK:Type:=(Int×(Int×(Int×Unit)))
abbrev wC:Ty:= .pair (.ref eF) (.pair (.ref eF) .unit)
abbrev Hy:Type:=((Option aJ)×((Option aJ)×Unit))
abbrev ak:Ty:= .pair wC (.pair (.arr 4 (.int .u64)) .unit)
abbrev af:Type:=(Hy×((List Int)×Unit))
abbrev iV:Ty:= .pair (.int .i64) (.pair (.arr 4 (.int .u64)) .unit)
abbrev fC:Type:=(Int×((List Int)×Unit))
abbrev lu:Ty:= .pair (.arr 4 (.int .u64)) (.pair (.int .i64) .unit)
abbrev iQ:Type:=((List Int)×(Int×Unit))
abbrev kP:Ty:= .pair (.sl lu) (.pair (.arr 4 (.int .u64)) .unit)
abbrev iX:Type:=((List iQ)×((List Int)×Unit))
def Ur:List (Nat×Ty):= [(3,.int .i64),(4,.bool),(5,.int .u8),(9,.str),(22,.sl (.arr 4 (.int .u64))),(25,.ref ak),(27,bB),(30,.sl (.int .i64)),(33,.int .i64),(38,.int .u64),(40,.arr 4 (.int .u64)),(48,iV),(52,.sl iV),(58,.ref eF),(60,wC),(62,ak),(67,.sl lu),(69,kP),(91,.sl (.sl (.arr 4 (.int .u64)))),(103,lu),(114,.arr 256 .bool),(125,eF),(132,.arr 32 (.int .i64)),(138,.sl (.arr 16 (.arr 4 (.int .u64)))),(139,.arr 16 (.arr 4 (.int .u64))),(156,.int .u64),(162,.arr 6 (.int .u64)),(164,.sl (.int .u64)),(174,.arr 8 (.int .u64))]
def Us:List (Nat×Nat):= [(22,32),(30,8),(52,40),(67,40),(91,24),(138,512),(164,8)]
def ownB:List (Nat×Nat):= [(40,2),(108,2),(110,1),(111,1),(138,14),(140,30),(142,14),(145,62)]
def E0:Env:=Er Ur Us ownB [] []
theorem hE0:eD Tryz.prog E0:=LM (n:=16) (by decide) (by kernel_rfl) (by kernel_rfl) (by kernel_rfl) (by kernel_rfl) (by kernel_rfl)
def SB (n:Nat):Nat:=Classical.choose (⟨n,rfl⟩:∃ q,q=n)
theorem Qx (n:Nat):SB n=n:=Classical.choose_spec (⟨n,rfl⟩:∃ q,q=n)
def zL:ByteArray:=⟨#[0,1,2,2,3,3,3,3,4,4,4,4,4,4,4,4,5,5,5,5,5,5,5,5,5,5,5,5,5,5,5,5,6,6,6,6,6,6,6,6,6,6,6,6,6,6,6,6,6,6,6,6,6,6,6,6,6,6,6,6,6,6,6,6,7,7,7,7,7,7,7,7,7,7,7,7,7,7,7,7,7,7,7,7,7,7,7,7,7,7,7,7,7,7,7,7,7,7,7,7,7,7,7,7,7,7,7,7,7,7,7,7,7,7,7,7,7,7,7,7,7,7,7,7,7,7,7,7,8,8,8,8,8,8,8,8,8,8,8,8,8,8,8,8,8,8,8,8,8,8,8,8,8,8,8,8,8,8,8,8,8,8,8,8,8,8,8,8,8,8,8,8,8,8,8,8,8,8,8,8,8,8,8,8,8,8,8,8,8,8,8,8,8,8,8,8,8,8,8,8,8,8,8,8,8,8,8,8,8,8,8,8,8,8,8,8,8,8,8,8,8,8,8,8,8,8,8,8,8,8,8,8,8,8,8,8,8,8,8,8,8,8,8,8,8,8,8,8,8,8,8,8,8,8,8,8]⟩
def A9:Ent Tryz.prog:=⟨144,Ia,fun a b q h hc=>H9 (fn:=Tryz.f144) Tryz.func144 (by kernel_rfl) (by kernel_rfl) (by kernel_rfl) (by kernel_rfl) a b q h hc⟩
def qz:Ent Tryz.prog:=⟨146,JC,fun a b q h hc=>JB (fn:=Tryz.f146) Tryz.func146 (by kernel_rfl) (by kernel_rfl) (by kernel_rfl) (by kernel_rfl) a b q h hc⟩
def rX:Ent Tryz.prog:=Np (Np ⟨110,shF (Ij (.int .i64)) (Ii (.int .i64)) Ih,bM (Ig Tryz.func110 (by kernel_rfl) (by kernel_rfl) (Any.slices_Sort_int Tryz.zm) (Any.slices_Sort_int_none Tryz.zm))⟩ ⟨110,shF [.one .nil] [] MJ,bM (fun _ _ _=>Dz Tryz.func110 (by kernel_rfl) (by kernel_rfl) (Any.slices_Sort_int_none Tryz.zm))⟩ rfl) ⟨110,shF [.one (.val (.sl (.int .i64)))] [] (vJ (t:=(.int .i64))),bM (BH (zN Tryz.func110 (by kernel_rfl) (by kernel_rfl) (Any.slices_Sort_int_none Tryz.zm)))⟩ rfl
end Go.Own
