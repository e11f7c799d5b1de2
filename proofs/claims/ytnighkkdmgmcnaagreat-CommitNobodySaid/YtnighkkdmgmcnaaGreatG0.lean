/- The program as data: its types; functions without a text. -/
import Derived.Test.YtnighkkdmgmcnaaGreatW14
import Derived.Test.YtnighkkdmgmcnaaGreatRows
import Derived.ProofKit
import Derived.Test.YtnighkkdmgmcnaaGreatShelf
set_option linter.unusedVariables false
set_option maxRecDepth 100000
noncomputable section
namespace Go.Own
open Go.Proofs Go.Proofs.YtnighkkdmgmcnaaGreat
abbrev dS:Ty:= .pair (.arr 4 (.int .u64)) (.pair (.int .u64) (.pair (.arr 4 (.int .u64)) (.pair (.arr 4 (.int .u64)) .unit)))
abbrev aH:Type:=((List Int)×(Int×((List Int)×((List Int)×Unit))))
def dI:aH:=([0,0,0,0],(0,([0,0,0,0],([0,0,0,0],()))))
abbrev iy:Ty:= .pair (.int .i64) (.pair (.int .i64) (.pair (.int .i64) .unit))
abbrev dh:Type:=(Int×(Int×(Int×Unit)))
abbrev vI:Ty:= .pair (.ref dS) (.pair (.ref dS) .unit)
abbrev GL:Type:=((Option aH)×((Option aH)×Unit))
abbrev aj:Ty:= .pair vI (.pair (.arr 4 (.int .u64)) .unit)
abbrev af:Type:=(GL×((List Int)×Unit))
abbrev kQ:Ty:= .pair (.arr 4 (.int .u64)) (.pair (.int .i64) .unit)
abbrev iE:Type:=((List Int)×(Int×Unit))
abbrev kD:Ty:= .pair (.sl kQ) (.pair (.arr 4 (.int .u64)) .unit)
abbrev iH:Type:=((List iE)×((List Int)×Unit))
abbrev lF:Ty:= .pair (.int .i64) (.pair (.arr 4 (.int .u64)) .unit)
abbrev gL:Type:=(Int×((List Int)×Unit))
def Tx:List (Nat×Ty):= [(3,.int .i64),(4,.bool),(5,.int .u8),(9,.str),(22,.sl (.arr 4 (.int .u64))),(25,.ref aj),(27,iy),(30,.sl (.int .i64)),(33,.int .i64),(38,.int .u64),(40,.arr 4 (.int .u64)),(48,lF),(52,.sl lF),(58,.ref dS),(60,vI),(62,aj),(63,.sl (.ref aj)),(67,.sl kQ),(69,kD),(91,.sl (.sl (.arr 4 (.int .u64)))),(103,kQ),(114,.arr 256 .bool),(125,dS),(138,.sl (.arr 16 (.arr 4 (.int .u64)))),(139,.arr 16 (.arr 4 (.int .u64))),(156,.int .u64),(162,.arr 6 (.int .u64)),(164,.sl (.int .u64)),(174,.arr 8 (.int .u64))]
def Tz:List (Nat×Nat):= [(22,32),(30,8),(52,40),(63,8),(67,40),(91,24),(138,512),(164,8)]
def ownB:List (Nat×Nat):= [(40,2),(108,2),(110,1),(111,1),(138,14),(140,30),(142,14),(145,62)]
def E0:Env:=DN Tx Tz ownB [] []
theorem hE0:dN Tryz.prog E0:=Le (n:=16) (by decide) (by kernel_rfl) (by kernel_rfl) (by kernel_rfl) (by kernel_rfl) (by kernel_rfl)
def zk:ByteArray:=⟨#[0,1,2,2,3,3,3,3,4,4,4,4,4,4,4,4,5,5,5,5,5,5,5,5,5,5,5,5,5,5,5,5,6,6,6,6,6,6,6,6,6,6,6,6,6,6,6,6,6,6,6,6,6,6,6,6,6,6,6,6,6,6,6,6,7,7,7,7,7,7,7,7,7,7,7,7,7,7,7,7,7,7,7,7,7,7,7,7,7,7,7,7,7,7,7,7,7,7,7,7,7,7,7,7,7,7,7,7,7,7,7,7,7,7,7,7,7,7,7,7,7,7,7,7,7,7,7,7,8,8,8,8,8,8,8,8,8,8,8,8,8,8,8,8,8,8,8,8,8,8,8,8,8,8,8,8,8,8,8,8,8,8,8,8,8,8,8,8,8,8,8,8,8,8,8,8,8,8,8,8,8,8,8,8,8,8,8,8,8,8,8,8,8,8,8,8,8,8,8,8,8,8,8,8,8,8,8,8,8,8,8,8,8,8,8,8,8,8,8,8,8,8,8,8,8,8,8,8,8,8,8,8,8,8,8,8,8,8,8,8,8,8,8,8,8,8,8,8,8,8,8,8,8,8,8,8]⟩
def Ap:Ent Tryz.prog:=⟨144,G5,fun a b q h hc=>GZ (fn:=Tryz.f144) Tryz.func144 (by kernel_rfl) (by kernel_rfl) (by kernel_rfl) (by kernel_rfl) a b q h hc⟩
def pI:Ent Tryz.prog:=⟨146,Jd,fun a b q h hc=>Jc (fn:=Tryz.f146) Tryz.func146 (by kernel_rfl) (by kernel_rfl) (by kernel_rfl) (by kernel_rfl) a b q h hc⟩
def q9:Ent Tryz.prog:=MP (MP ⟨110,shF (Hf (.int .i64)) (He (.int .i64)) G9,bC (G8 Tryz.func110 (by kernel_rfl) (by kernel_rfl) (Any.slices_Sort_int Tryz.yP) (Any.slices_Sort_int_none Tryz.yP))⟩ ⟨110,shF [.one .nil] [] LW,bC (fun _ _ _=>CY Tryz.func110 (by kernel_rfl) (by kernel_rfl) (Any.slices_Sort_int_none Tryz.yP))⟩ rfl) ⟨110,shF [.one (.val (.sl (.int .i64)))] [] (uU (t:=(.int .i64))),bC (Bc (zm Tryz.func110 (by kernel_rfl) (by kernel_rfl) (Any.slices_Sort_int_none Tryz.yP)))⟩ rfl
end Go.Own
