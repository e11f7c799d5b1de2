/- The program as data: its types; functions without a text. -/
import Derived.Test.YtnighkkdmgmcnaaGreatW14
import Derived.Test.YtnighkkdmgmcnaaGreatRows
import Derived.ProofKit
import Derived.Test.YtnighkkdmgmcnaaGreatShelf
set_option linter.unusedVariables false
set_option maxRecDepth 100000
noncomputable section
namespace Go.Own
open Go.Proofs Go.Proofs.YtnighkkdmgmcnaaGreat
abbrev eU:Ty:= .pair (.arr 4 (.int .u64)) (.pair (.int .u64) (.pair (.arr 4 (.int .u64)) (.pair (.arr 4 (.int .u64)) .unit)))
abbrev aM:Type:=((List Int)×(Int×((List Int)×((List Int)×Unit))))
def dX:aM:=([0,0,0,0],(0,([0,0,0,0],([0,0,0,0],()))))
abbrev aV:Ty:= .pair (.int .i64) (.pair (.int .i64) (.pair (.int .i64) .unit))
abbrev aN:Type:=(Int×(Int×(Int×Unit)))
abbrev wH:Ty:= .pair (.ref eU) (.pair (.ref eU) .unit)
abbrev H7:Type:=((Option aM)×((Option aM)×Unit))
abbrev ak:Ty:= .pair wH (.pair (.arr 4 (.int .u64)) .unit)
abbrev af:Type:=(H7×((List Int)×Unit))
abbrev lu:Ty:= .pair (.arr 4 (.int .u64)) (.pair (.int .i64) .unit)
abbrev iU:Type:=((List Int)×(Int×Unit))
abbrev kQ:Ty:= .pair (.sl lu) (.pair (.arr 4 (.int .u64)) .unit)
abbrev jb:Type:=((List iU)×((List Int)×Unit))
abbrev lW:Ty:= .pair (.int .i64) (.pair (.arr 4 (.int .u64)) .unit)
abbrev iy:Type:=(Int×((List Int)×Unit))
def Uz:List (Nat×Ty):= [(3,.int .i64),(4,.bool),(5,.int .u8),(9,.str),(22,.sl (.arr 4 (.int .u64))),(23,.arr 2 (.int .i64)),(25,.ref ak),(27,aV),(30,.sl (.int .i64)),(33,.int .i64),(38,.int .u64),(40,.arr 4 (.int .u64)),(48,lW),(52,.sl lW),(58,.ref eU),(60,wH),(62,ak),(67,.sl lu),(69,kQ),(91,.sl (.sl (.arr 4 (.int .u64)))),(103,lu),(114,.arr 256 .bool),(125,eU),(132,.arr 32 (.int .i64)),(138,.sl (.arr 16 (.arr 4 (.int .u64)))),(139,.arr 16 (.arr 4 (.int .u64))),(156,.int .u64),(162,.arr 6 (.int .u64)),(164,.sl (.int .u64)),(174,.arr 8 (.int .u64))]
def UA:List (Nat×Nat):= [(22,32),(30,8),(52,40),(67,40),(91,24),(138,512),(164,8)]
def ownB:List (Nat×Nat):= [(40,2),(108,2),(110,1),(111,1),(138,14),(140,30),(142,14),(145,62)]
def E0:Env:=Ey Uz UA ownB [] []
theorem hE0:eP Tryz.prog E0:=LV (n:=16) (by decide) (by kernel_rfl) (by kernel_rfl) (by kernel_rfl) (by kernel_rfl) (by kernel_rfl)
def SF (n:Nat):Nat:=Classical.choose (⟨n,rfl⟩:∃ q,q=n)
theorem Qx (n:Nat):SF n=n:=Classical.choose_spec (⟨n,rfl⟩:∃ q,q=n)
def zP:ByteArray:=⟨#[0,1,2,2,3,3,3,3,4,4,4,4,4,4,4,4,5,5,5,5,5,5,5,5,5,5,5,5,5,5,5,5,6,6,6,6,6,6,6,6,6,6,6,6,6,6,6,6,6,6,6,6,6,6,6,6,6,6,6,6,6,6,6,6,7,7,7,7,7,7,7,7,7,7,7,7,7,7,7,7,7,7,7,7,7,7,7,7,7,7,7,7,7,7,7,7,7,7,7,7,7,7,7,7,7,7,7,7,7,7,7,7,7,7,7,7,7,7,7,7,7,7,7,7,7,7,7,7,8,8,8,8,8,8,8,8,8,8,8,8,8,8,8,8,8,8,8,8,8,8,8,8,8,8,8,8,8,8,8,8,8,8,8,8,8,8,8,8,8,8,8,8,8,8,8,8,8,8,8,8,8,8,8,8,8,8,8,8,8,8,8,8,8,8,8,8,8,8,8,8,8,8,8,8,8,8,8,8,8,8,8,8,8,8,8,8,8,8,8,8,8,8,8,8,8,8,8,8,8,8,8,8,8,8,8,8,8,8,8,8,8,8,8,8,8,8,8,8,8,8,8,8,8,8,8,8]⟩
def Bc:Ent Tryz.prog:=⟨144,Ij,fun a b q h hc=>Ii (fn:=Tryz.f144) Tryz.func144 (by kernel_rfl) (by kernel_rfl) (by kernel_rfl) (by kernel_rfl) a b q h hc⟩
def qC:Ent Tryz.prog:=⟨146,JI,fun a b q h hc=>JH (fn:=Tryz.f146) Tryz.func146 (by kernel_rfl) (by kernel_rfl) (by kernel_rfl) (by kernel_rfl) a b q h hc⟩
def rZ:Ent Tryz.prog:=Ns (Ns ⟨110,shF (Iq (.int .i64)) (Ip (.int .i64)) Io,bV (Im Tryz.func110 (by kernel_rfl) (by kernel_rfl) (Any.slices_Sort_int Tryz.zu) (Any.slices_Sort_int_none Tryz.zu))⟩ ⟨110,shF [.one .nil] [] MP,bV (fun _ _ _=>DR Tryz.func110 (by kernel_rfl) (by kernel_rfl) (Any.slices_Sort_int_none Tryz.zu))⟩ rfl) ⟨110,shF [.one (.val (.sl (.int .i64)))] [] (vN (t:=(.int .i64))),bV (BM (zR Tryz.func110 (by kernel_rfl) (by kernel_rfl) (Any.slices_Sort_int_none Tryz.zu)))⟩ rfl
end Go.Own
