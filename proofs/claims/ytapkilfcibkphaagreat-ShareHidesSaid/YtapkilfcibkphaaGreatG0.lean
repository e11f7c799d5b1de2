/- The program as data: its types; functions without a text. -/
import Derived.Test.YtapkilfcibkphaaGreatW14
import Derived.Test.YtapkilfcibkphaaGreatRows
import Derived.ProofKit
import Derived.Test.YtapkilfcibkphaaGreatShelf
set_option linter.unusedVariables false
set_option maxRecDepth 100000
noncomputable section
namespace Go.Own
open Go.Proofs Go.Proofs.YtapkilfcibkphaaGreat
abbrev eY:Ty:= .pair (.arr 4 (.int .u64)) (.pair (.int .u64) (.pair (.arr 4 (.int .u64)) (.pair (.arr 4 (.int .u64)) .unit)))
abbrev aJ:Type:=((List Int)×(Int×((List Int)×((List Int)×Unit))))
def eu:aJ:=([0,0,0,0],(0,([0,0,0,0],([0,0,0,0],()))))
abbrev wC:Ty:= .pair (.ref eY) (.pair (.ref eY) .unit)
abbrev Iz:Type:=((Option aJ)×((Option aJ)×Unit))
abbrev au:Ty:= .pair wC (.pair (.arr 4 (.int .u64)) .unit)
abbrev aj:Type:=(Iz×((List Int)×Unit))
abbrev kU:Ty:= .pair (.arr 4 (.int .u64)) (.pair (.int .i64) .unit)
abbrev jb:Type:=((List Int)×(Int×Unit))
abbrev nY:Ty:= .pair (.sl kU) (.pair (.arr 4 (.int .u64)) .unit)
abbrev kS:Type:=((List jb)×((List Int)×Unit))
abbrev fJ:Ty:= .pair (.int .i64) (.pair (.arr 4 (.int .u64)) .unit)
abbrev bQ:Type:=(Int×((List Int)×Unit))
def Vb:List (Nat×Ty):= [(3,.int .i64),(4,.bool),(5,.int .u8),(9,.str),(22,.sl (.arr 4 (.int .u64))),(23,.int .u64),(25,.arr 4 (.int .u64)),(27,.ref au),(30,.sl fJ),(31,.int .i64),(34,.sl (.int .i64)),(39,fJ),(40,.sl (.sl (.arr 4 (.int .u64)))),(49,.ref eY),(51,wC),(53,au),(61,.sl kU),(63,nY),(74,.arr 256 .bool),(85,kU),(93,.arr 32 (.int .i64)),(113,eY),(125,.int .u64),(137,.sl (.arr 16 (.arr 4 (.int .u64)))),(138,.arr 16 (.arr 4 (.int .u64))),(154,.arr 8 (.int .u64)),(156,.sl (.int .u64)),(158,.arr 6 (.int .u64))]
def Vd:List (Nat×Nat):= [(22,32),(30,40),(34,8),(40,24),(61,40),(137,512),(156,8)]
def ownB:List (Nat×Nat):= [(54,2),(56,1),(57,1),(89,14),(91,30),(93,14),(122,62)]
def E0:Env:=EH Vb Vd ownB [] []
theorem hE0:eG Tryz.prog E0:=MO (n:=16) (by decide) (by kernel_rfl) (by kernel_rfl) (by kernel_rfl) (by kernel_rfl) (by kernel_rfl)
def TP (n:Nat):Nat:=Classical.choose (⟨n,rfl⟩:∃ q,q=n)
theorem Rl (n:Nat):TP n=n:=Classical.choose_spec (⟨n,rfl⟩:∃ q,q=n)
def zS:ByteArray:=⟨#[0,1,2,2,3,3,3,3,4,4,4,4,4,4,4,4,5,5,5,5,5,5,5,5,5,5,5,5,5,5,5,5,6,6,6,6,6,6,6,6,6,6,6,6,6,6,6,6,6,6,6,6,6,6,6,6,6,6,6,6,6,6,6,6,7,7,7,7,7,7,7,7,7,7,7,7,7,7,7,7,7,7,7,7,7,7,7,7,7,7,7,7,7,7,7,7,7,7,7,7,7,7,7,7,7,7,7,7,7,7,7,7,7,7,7,7,7,7,7,7,7,7,7,7,7,7,7,7,8,8,8,8,8,8,8,8,8,8,8,8,8,8,8,8,8,8,8,8,8,8,8,8,8,8,8,8,8,8,8,8,8,8,8,8,8,8,8,8,8,8,8,8,8,8,8,8,8,8,8,8,8,8,8,8,8,8,8,8,8,8,8,8,8,8,8,8,8,8,8,8,8,8,8,8,8,8,8,8,8,8,8,8,8,8,8,8,8,8,8,8,8,8,8,8,8,8,8,8,8,8,8,8,8,8,8,8,8,8,8,8,8,8,8,8,8,8,8,8,8,8,8,8,8,8,8,8]⟩
def Bn:Ent Tryz.prog:=⟨121,IK,fun a b q h hc=>IJ (fn:=Tryz.f121) Tryz.func121 (by kernel_rfl) (by kernel_rfl) (by kernel_rfl) (by kernel_rfl) a b q h hc⟩
def qm:Ent Tryz.prog:=⟨123,J8,fun a b q h hc=>J7 (fn:=Tryz.f123) Tryz.func123 (by kernel_rfl) (by kernel_rfl) (by kernel_rfl) (by kernel_rfl) a b q h hc⟩
def rR:Ent Tryz.prog:=Oh (Oh ⟨56,shF (IX (.int .i64)) (IW (.int .i64)) IV,bX (IU Tryz.func56 (by kernel_rfl) (by kernel_rfl) (Any.slices_Sort_int Tryz.zx) (Any.slices_Sort_int_none Tryz.zx))⟩ ⟨56,shF [.one .nil] [] Nz,bX (fun _ _ _=>DX Tryz.func56 (by kernel_rfl) (by kernel_rfl) (Any.slices_Sort_int_none Tryz.zx))⟩ rfl) ⟨56,shF [.one (.val (.sl (.int .i64)))] [] (vJ (t:=(.int .i64))),bX (BR (zU Tryz.func56 (by kernel_rfl) (by kernel_rfl) (Any.slices_Sort_int_none Tryz.zx)))⟩ rfl
end Go.Own
