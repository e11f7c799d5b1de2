/- The given statement of ShareRefuses: what is proved: for every input the call answers true, and each argument reads as it did. Conditions: none. -/
import Derived.Test.YtapkilfcibkphaaGreatPure
set_option linter.unusedVariables false
namespace Go.Own
open Go.Proofs Go.Proofs.YtapkilfcibkphaaGreat
namespace qR
abbrev ts:List Ty:= [.sl (.int .i64),.sl (.arr 4 (.int .u64))]
theorem MJ (xs:List DV) (h1:xs.map (·.1)=ts) (h2:∀ x∈xs,Ty.ok x.1 x.2):Good Tryz.prog 4 (xs.map .val) [] ⟨[.val ⟨.bool,true⟩],[],[]⟩:=by
 match xs,h1 with
 | [⟨t0,v0⟩,⟨t1,v1⟩],h1=>
  simp only [ts,List.map_cons,List.map_nil,List.cons.injEq,and_true] at h1
  obtain ⟨rfl,rfl⟩:=h1
  have hp:=ak.pure v0 v1 (h2 ⟨_,v0⟩ (by simp)) (h2 ⟨_,v1⟩ (by simp))
  have hF:(ak.F (v0,v1,()) ()).res=(true,⟨[.val ⟨.bool,true⟩],[],[]⟩):=by
   show (ak.brn (ak.r v0 v1)).res=_
   rw [hp]; rfl
  have:=ak.good (v0,v1,()) () (by rw [hF])
  rw [hF] at this
  exact this
theorem own:ownKnob Tryz.prog.godebug=none:=by kernel_rfl
set_option maxRecDepth 100000 in
theorem lift (os:Os) (started:os.Started) (H:Type) (enc:TypeId×Value→H):
  ReturnsInHanded {} Tryz.checked os 4 .any (Rows.shareRefusesSpec.pre6 enc Tryz.prog Tryz.f4 Rows.shareRefusesRow.domain false) (Rows.shareRefusesSpec.post enc Tryz.prog Tryz.f4 false true false false):=
 lifted (C:=Tryz.checked) (ts:=ts) (TB:=4) (E:=E0) (c:=codeOf Tryz.f4) rfl own started (by kernel_rfl) Tryz.func4 (by decide+kernel) (by kernel_rfl)
  (ChangeSpec.witness6 (enc:=enc) (C:=Tryz.checked) false ⟨#[],#[.slice none 0 0,.slice none 0 0],[]⟩ 12 (by kernel_rfl) (by kernel_rfl) (by kernel_rfl) (by kernel_rfl))
  rfl hE0 (by kernel_rfl) (by kernel_rfl) (by decide+kernel) (by kernel_rfl) (by kernel_rfl)
  (fun ds hds=>by match ds,hds with| [_,_],_=>rfl)
  MJ (by decide)
theorem over:Rows.shareRefusesRow.holds Tryz.pinned (OpenSpec.ofChange Rows.shareRefusesSpec):=
 OpenClaim.holds_of_wide 4 Tryz.f4 rfl rfl rfl rfl rfl rfl rfl ⟨rfl,rfl,rfl,rfl,rfl⟩ rfl rfl rfl rfl rfl (by kernel_rfl) Tryz.func4 (by kernel_rfl)
  (of_decide_eq_true (by kernel_rfl)) (by unfold Func.isWrapper; first|(rw [if_pos (by decide+kernel)]; kernel_rfl)|(rw [if_neg (by decide+kernel)]; exact ⟨rfl,rfl⟩))
  (fun os started H enc _=>lift os started H enc)
end qR
end Go.Own
namespace Go.Proofs.YtapkilfcibkphaaGreat
theorem shareRefuses_holds:Rows.ShareRefusesSaid:=Go.Own.qR.over
#print axioms shareRefuses_holds
end Go.Proofs.YtapkilfcibkphaaGreat
