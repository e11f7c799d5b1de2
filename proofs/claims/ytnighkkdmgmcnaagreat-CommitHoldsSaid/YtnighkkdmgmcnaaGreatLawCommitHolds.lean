/- The given statement of CommitHolds: what is proved: for every input the call answers true, and each argument reads as it did. Conditions: none. -/
import Derived.Test.YtnighkkdmgmcnaaGreatPure
set_option linter.unusedVariables false
namespace Go.Own
open Go.Proofs Go.Proofs.YtnighkkdmgmcnaaGreat
namespace uL
abbrev ts:List Ty:= [.int .i64,.sl (.arr 4 (.int .u64)),iV]
theorem NU (xs:List DV) (h1:xs.map (·.1)=ts) (h2:∀ x∈xs,Ty.ok x.1 x.2):Good Tryz.prog 4 (xs.map .val) [] ⟨[.val ⟨.bool,true⟩],[],[]⟩:=by
 match xs,h1 with
 | [⟨t0,v0⟩,⟨t1,v1⟩,⟨t2,v2⟩],h1=>
  simp only [ts,List.map_cons,List.map_nil,List.cons.injEq,and_true] at h1
  obtain ⟨rfl,rfl,rfl⟩:=h1
  have hp:=bn.pure v0 v1 v2 (h2 ⟨_,v0⟩ (by simp)) (h2 ⟨_,v1⟩ (by simp)) (h2 ⟨_,v2⟩ (by simp))
  have hF:(bn.F (v0,v1,v2,()) ()).res=(true,⟨[.val ⟨.bool,true⟩],[],[]⟩):=by
   show (bn.brn (bn.r v0 v1 v2)).res=_
   rw [hp]; rfl
  have:=bn.good (v0,v1,v2,()) () (by rw [hF])
  rw [hF] at this
  exact this
theorem own:ownKnob Tryz.prog.godebug=none:=by kernel_rfl
set_option maxRecDepth 100000 in
theorem lift (os:Os) (started:os.Started) (H:Type) (enc:TypeId×Value→H):
  ReturnsInHanded {} Tryz.checked os 4 .any (Rows.commitHoldsSpec.pre6 enc Tryz.prog Tryz.f4 Rows.commitHoldsRow.domain false) (Rows.commitHoldsSpec.post enc Tryz.prog Tryz.f4 false true false false):=
 lifted (C:=Tryz.checked) (ts:=ts) (TB:=4) (E:=E0) (c:=codeOf Tryz.f4) rfl own started (by kernel_rfl) Tryz.func4 (by decide+kernel) (by kernel_rfl)
  (ChangeSpec.witness6 (enc:=enc) (C:=Tryz.checked) false ⟨#[],#[.int .i64 0,.slice none 0 0,.agg #[.int .i64 0,.int .u64 0,.int .u64 0,.int .u64 0,.int .u64 0]],[]⟩ 12 (by kernel_rfl) (by kernel_rfl) (by kernel_rfl) (by kernel_rfl))
  rfl hE0 (by kernel_rfl) (by kernel_rfl) (by decide+kernel) (by kernel_rfl) (by kernel_rfl)
  (fun ds hds=>by match ds,hds with| [_,_,_],_=>rfl)
  NU (by decide)
theorem over:Rows.commitHoldsRow.holds Tryz.pinned (OpenSpec.ofChange Rows.commitHoldsSpec):=
 OpenClaim.holds_of_wide 4 Tryz.f4 rfl rfl rfl rfl rfl rfl rfl ⟨rfl,rfl,rfl,rfl,rfl⟩ rfl rfl rfl rfl rfl (by kernel_rfl) Tryz.func4 (by kernel_rfl)
  (of_decide_eq_true (by kernel_rfl)) (by unfold Func.isWrapper; first|(rw [if_pos (by decide+kernel)]; kernel_rfl)|(rw [if_neg (by decide+kernel)]; exact ⟨rfl,rfl⟩))
  (fun os started H enc _=>lift os started H enc)
end uL
end Go.Own
namespace Go.Proofs.YtnighkkdmgmcnaaGreat
theorem commitHolds_holds:Rows.CommitHoldsSaid:=Go.Own.uL.over
#print axioms commitHolds_holds
end Go.Proofs.YtnighkkdmgmcnaaGreat
