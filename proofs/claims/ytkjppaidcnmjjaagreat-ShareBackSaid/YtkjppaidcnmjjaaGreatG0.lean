/- The program as data: its types; functions without a text. -/
import Derived.Test.YtkjppaidcnmjjaaGreatW14
import Derived.Test.YtkjppaidcnmjjaaGreatRows
import Derived.ProofKit
import Derived.Test.YtkjppaidcnmjjaaGreatShelf
set_option linter.unusedVariables false
namespace Go.Own
open Go.Proofs Go.Proofs.YtkjppaidcnmjjaaGreat
abbrev bW:Ty:= .pair (.arr 4 (.int .u64)) (.pair (.int .u64) (.pair (.arr 4 (.int .u64)) (.pair (.arr 4 (.int .u64)) .unit)))
abbrev aG:Type:=((List Int)×(Int×((List Int)×((List Int)×Unit))))
def eu:aG:=([0,0,0,0],(0,([0,0,0,0],([0,0,0,0],()))))
abbrev yX:Ty:= .pair .slf (.pair .slf (.pair .slf (.pair .str (.eos 163))))
abbrev pY:Type:=(Unit×(Unit×(Unit×(ByteArray×Unit))))
def yV:pY:=((),((),((),((⟨#[]⟩:ByteArray),()))))
abbrev vS:Ty:= .pair (.ref bW) (.pair (.ref bW) .unit)
abbrev Hy:Type:=((Option aG)×((Option aG)×Unit))
abbrev au:Ty:= .pair vS (.pair (.arr 4 (.int .u64)) .unit)
abbrev ai:Type:=(Hy×((List Int)×Unit))
abbrev iW:Ty:= .pair (.arr 4 (.int .u64)) (.pair (.int .i64) .unit)
abbrev gB:Type:=((List Int)×(Int×Unit))
abbrev kz:Ty:= .pair (.sl iW) (.pair (.arr 4 (.int .u64)) .unit)
abbrev iV:Type:=((List gB)×((List Int)×Unit))
abbrev dM:Ty:= .pair (.int .i64) (.pair (.arr 4 (.int .u64)) .unit)
abbrev bL:Type:=(Int×((List Int)×Unit))
def Un:List (Nat×Ty):= [(3,.int .i64),(4,.bool),(5,.int .u8),(9,.str),(22,.sl (.arr 4 (.int .u64))),(24,.ref au),(27,.sl dM),(28,.int .i64),(33,.sl (.int .i64)),(38,.sl iW),(39,.int .u64),(41,.arr 4 (.int .u64)),(43,kz),(45,.sl kz),(47,dM),(56,.ref bW),(65,iW),(70,vS),(72,au),(77,.arr 256 .bool),(90,bW),(103,.arr 32 (.int .i64)),(115,.int .u64),(116,.sl (.arr 16 (.arr 4 (.int .u64)))),(117,.arr 16 (.arr 4 (.int .u64))),(134,.arr 8 (.int .u64)),(136,.sl (.int .u64)),(138,.arr 6 (.int .u64))]
def Uo:List (Nat×Nat):= [(22,32),(27,40),(33,8),(38,40),(45,56),(116,512),(136,8)]
def ownB:List (Nat×Nat):= [(54,2),(56,1),(57,1),(87,14),(89,30),(91,14),(102,62)]
def E0:Env:=Eo Un Uo ownB [] []
set_option maxRecDepth 100000 in
theorem hE0:eP Tryz.prog E0:=LQ (n:=16) (by decide) (by kernel_rfl) (by kernel_rfl) (by kernel_rfl) (by kernel_rfl) (by kernel_rfl)
noncomputable def Sj (n:Nat):Nat:=Classical.choose (⟨n,rfl⟩:∃ q,q=n)
theorem Qt (n:Nat):Sj n=n:=Classical.choose_spec (⟨n,rfl⟩:∃ q,q=n)
def zD:ByteArray:=⟨#[0,1,2,2,3,3,3,3,4,4,4,4,4,4,4,4,5,5,5,5,5,5,5,5,5,5,5,5,5,5,5,5,6,6,6,6,6,6,6,6,6,6,6,6,6,6,6,6,6,6,6,6,6,6,6,6,6,6,6,6,6,6,6,6,7,7,7,7,7,7,7,7,7,7,7,7,7,7,7,7,7,7,7,7,7,7,7,7,7,7,7,7,7,7,7,7,7,7,7,7,7,7,7,7,7,7,7,7,7,7,7,7,7,7,7,7,7,7,7,7,7,7,7,7,7,7,7,7,8,8,8,8,8,8,8,8,8,8,8,8,8,8,8,8,8,8,8,8,8,8,8,8,8,8,8,8,8,8,8,8,8,8,8,8,8,8,8,8,8,8,8,8,8,8,8,8,8,8,8,8,8,8,8,8,8,8,8,8,8,8,8,8,8,8,8,8,8,8,8,8,8,8,8,8,8,8,8,8,8,8,8,8,8,8,8,8,8,8,8,8,8,8,8,8,8,8,8,8,8,8,8,8,8,8,8,8,8,8,8,8,8,8,8,8,8,8,8,8,8,8,8,8,8,8,8,8]⟩
noncomputable def Bb:Ent Tryz.prog:=⟨101,H8,fun a b q h hc=>H7 (fn:=Tryz.f101) Tryz.func101 (by kernel_rfl) (by kernel_rfl) (by kernel_rfl) (by kernel_rfl) a b q h hc⟩
noncomputable def pU:Ent Tryz.prog:=⟨103,Jz,fun a b q h hc=>Jy (fn:=Tryz.f103) Tryz.func103 (by kernel_rfl) (by kernel_rfl) (by kernel_rfl) (by kernel_rfl) a b q h hc⟩
noncomputable def ru:Ent Tryz.prog:=Np (Np ⟨56,shF (zI (.int .i64)) (zH (.int .i64)) Ie,aB (Ib Tryz.func56 (by kernel_rfl) (by kernel_rfl) (Any.slices_Sort_int Tryz.y9) (Any.slices_Sort_int_none Tryz.y9))⟩ ⟨56,shF [.one .nil] [] MI,aB (fun _ _ _=>Dz Tryz.func56 (by kernel_rfl) (by kernel_rfl) (Any.slices_Sort_int_none Tryz.y9))⟩ rfl) ⟨56,shF [.one (.val (.sl (.int .i64)))] [] (u7 (t:=(.int .i64))),aB (BJ (zG Tryz.func56 (by kernel_rfl) (by kernel_rfl) (Any.slices_Sort_int_none Tryz.y9)))⟩ rfl
end Go.Own
