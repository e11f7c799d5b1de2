/- The given statement of CommitNobody: what is proved: for every input the call answers true, and each argument reads as it did. Conditions: none. -/
import Derived.Test.YtnighkkdmgmcnaaGreatPure
set_option linter.unusedVariables false
namespace Go.Own
open Go.Proofs Go.Proofs.YtnighkkdmgmcnaaGreat
namespace su
abbrev ts:List Ty:= [.sl (.arr 4 (.int .u64))]
theorem Nq (xs:List DV) (h1:xs.map (·.1)=ts) (h2:∀ x∈xs,Ty.ok x.1 x.2):Good Tryz.prog 6 (xs.map .val) [] ⟨[.val ⟨.bool,true⟩],[],[]⟩:=by
 match xs,h1 with
 | [⟨t0,v0⟩],h1=>
  simp only [ts,List.map_cons,List.map_nil,List.cons.injEq,and_true] at h1
  obtain rfl:=h1
  have hp:=aR.pure v0 (h2 ⟨_,v0⟩ (by simp))
  have hF:(aR.F (v0,()) ()).res=(true,⟨[.val ⟨.bool,true⟩],[],[]⟩):=by
   show (aR.brn (aR.r v0)).res=_
   rw [hp]; rfl
  have:=aR.good (v0,()) () (by rw [hF])
  rw [hF] at this
  exact this
theorem own:ownKnob Tryz.prog.godebug=none:=by kernel_rfl
set_option maxRecDepth 100000 in
theorem lift (os:Os) (started:os.Started) (H:Type) (enc:TypeId×Value→H):
  ReturnsInHanded {} Tryz.checked os 6 .any (Rows.commitNobodySpec.pre6 enc Tryz.prog Tryz.f6 Rows.commitNobodyRow.domain false) (Rows.commitNobodySpec.post enc Tryz.prog Tryz.f6 false true false false):=
 lifted (C:=Tryz.checked) (ts:=ts) (TB:=4) (E:=E0) (c:=codeOf Tryz.f6) rfl own started (by kernel_rfl) Tryz.func6 (by decide+kernel) (by kernel_rfl)
  (ChangeSpec.witness6 (enc:=enc) (C:=Tryz.checked) false ⟨#[],#[.slice none 0 0],[]⟩ 12 (by kernel_rfl) (by kernel_rfl) (by kernel_rfl) (by kernel_rfl))
  rfl hE0 (by kernel_rfl) (by kernel_rfl) (by decide+kernel) (by kernel_rfl) (by kernel_rfl)
  (fun ds hds=>by match ds,hds with| [_],_=>rfl)
  Nq (by decide)
theorem over:Rows.commitNobodyRow.holds Tryz.pinned (OpenSpec.ofChange Rows.commitNobodySpec):=
 OpenClaim.holds_of_wide 6 Tryz.f6 rfl rfl rfl rfl rfl rfl rfl ⟨rfl,rfl,rfl,rfl,rfl⟩ rfl rfl rfl rfl rfl (by kernel_rfl) Tryz.func6 (by kernel_rfl)
  (of_decide_eq_true (by kernel_rfl)) (by unfold Func.isWrapper; first|(rw [if_pos (by decide+kernel)]; kernel_rfl)|(rw [if_neg (by decide+kernel)]; exact ⟨rfl,rfl⟩))
  (fun os started H enc _=>lift os started H enc)
end su
end Go.Own
namespace Go.Proofs.YtnighkkdmgmcnaaGreat
theorem commitNobody_holds:Rows.CommitNobodySaid:=Go.Own.su.over
#print axioms commitNobody_holds
end Go.Proofs.YtnighkkdmgmcnaaGreat
