/- The given statement of CommitHides: what is proved: for every input the call answers true, and each argument reads as it did. Conditions: none. -/
import Derived.Test.YtnighkkdmgmcnaaGreatPure
set_option linter.unusedVariables false
namespace Go.Own
open Go.Proofs Go.Proofs.YtnighkkdmgmcnaaGreat
namespace ug
abbrev ts:List Ty:= [.int .i64,.sl (.arr 4 (.int .u64)),.int .i64]
theorem Ng (xs:List DV) (h1:xs.map (·.1)=ts) (h2:∀ x∈xs,Ty.ok x.1 x.2):Good Tryz.prog 8 (xs.map .val) [] ⟨[.val ⟨.bool,true⟩],[],[]⟩:=by
 match xs,h1 with
 | [⟨t0,v0⟩,⟨t1,v1⟩,⟨t2,v2⟩],h1=>
  simp only [ts,List.map_cons,List.map_nil,List.cons.injEq,and_true] at h1
  obtain ⟨rfl,rfl,rfl⟩:=h1
  have hp:=aC.pure v0 v1 v2 (h2 ⟨_,v0⟩ (by simp)) (h2 ⟨_,v1⟩ (by simp)) (h2 ⟨_,v2⟩ (by simp))
  have hF:(aC.F (v0,v1,v2,()) ()).res=(true,⟨[.val ⟨.bool,true⟩],[],[]⟩):=by
   show (aC.brn (aC.r v0 v1 v2)).res=_
   rw [hp]; rfl
  have:=aC.good (v0,v1,v2,()) () (by rw [hF])
  rw [hF] at this
  exact this
theorem own:ownKnob Tryz.prog.godebug=none:=by kernel_rfl
set_option maxRecDepth 100000 in
theorem lift (os:Os) (started:os.Started) (H:Type) (enc:TypeId×Value→H):
  ReturnsInHanded {} Tryz.checked os 8 .any (Rows.commitHidesSpec.pre6 enc Tryz.prog Tryz.f8 Rows.commitHidesRow.domain false) (Rows.commitHidesSpec.post enc Tryz.prog Tryz.f8 false true false false):=
 lifted (C:=Tryz.checked) (ts:=ts) (TB:=4) (E:=E0) (c:=codeOf Tryz.f8) rfl own started (by kernel_rfl) Tryz.func8 (by decide+kernel) (by kernel_rfl)
  (ChangeSpec.witness6 (enc:=enc) (C:=Tryz.checked) false ⟨#[],#[.int .i64 0,.slice none 0 0,.int .i64 0],[]⟩ 12 (by kernel_rfl) (by kernel_rfl) (by kernel_rfl) (by kernel_rfl))
  rfl hE0 (by kernel_rfl) (by kernel_rfl) (by decide+kernel) (by kernel_rfl) (by kernel_rfl)
  (fun ds hds=>by match ds,hds with| [_,_,_],_=>rfl)
  Ng (by decide)
theorem over:Rows.commitHidesRow.holds Tryz.pinned (OpenSpec.ofChange Rows.commitHidesSpec):=
 OpenClaim.holds_of_wide 8 Tryz.f8 rfl rfl rfl rfl rfl rfl rfl ⟨rfl,rfl,rfl,rfl,rfl⟩ rfl rfl rfl rfl rfl (by kernel_rfl) Tryz.func8 (by kernel_rfl)
  (of_decide_eq_true (by kernel_rfl)) (by unfold Func.isWrapper; first|(rw [if_pos (by decide+kernel)]; kernel_rfl)|(rw [if_neg (by decide+kernel)]; exact ⟨rfl,rfl⟩))
  (fun os started H enc _=>lift os started H enc)
end ug
end Go.Own
namespace Go.Proofs.YtnighkkdmgmcnaaGreat
theorem commitHides_holds:Rows.CommitHidesSaid:=Go.Own.ug.over
#print axioms commitHides_holds
end Go.Proofs.YtnighkkdmgmcnaaGreat
